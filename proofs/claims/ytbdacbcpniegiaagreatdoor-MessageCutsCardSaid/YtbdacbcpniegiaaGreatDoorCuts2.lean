/- Own work: a part of the symbolic executor and of the walks of the functions that the claim reaches. -/
import Derived.Test.YtbdacbcpniegiaaGreatDoorCuts1
import Derived.Test.YtbdacbcpniegiaaGreatDoorRows
import Derived.LaidLaws
set_option maxRecDepth 100000
set_option maxHeartbeats 64000000
set_option linter.unusedSimpArgs false
set_option linter.unusedVariables false
namespace Go.Proofs.YtbdacbcpniegiaaGreatDoor.Q
open Go Go.RowKit Go.Proofs Go.Sx
theorem resB_le {r : Rs} (h : rightB r = true) : (resB r r.t.toNat).length ≤ 2000 := by
  obtain ⟨h1,h2,h3,h4,h5,h6⟩ := right_type h
  have e1 := numB_len 1 r.t.toNat (by decide) (by omega)
  have e2 := textB_le 2 r.s (by decide) (by omega)
  have e3 := numB_len 3 r.q (by decide) (by omega)
  have e4 := numB_len 4 1 (by decide) (by decide)
  have e5 := textB_le 5 r.b (by decide) (by omega)
  unfold resB
  split <;> split <;> simp only [List.length_append,List.length_nil] <;> omega
theorem rsB_le : ∀ rs : List Rs,(∀ r ∈ rs,rightB r = true) → (rsB rs).length ≤ rs.length * 2020
  | [],_ => by simp [rsB]
  | r :: rs,h => by
    have h1 := resB_le (h r (by simp))
    have h2 := textB_le 5 (resB r r.t.toNat) (by decide) (by omega)
    have h3 := rsB_le rs (fun x hx => h x (by simp [hx]))
    have e : rsB (r :: rs) = textB 5 (resB r r.t.toNat) ++ rsB rs := rfl
    rw [e,List.length_append,List.length_cons];omega
theorem respB_spec {t : Int} {dl mo : Bool} {q : Nat} {rs : List Rs} {rm : List (List UInt8)} (h : respB t dl mo q rs rm = true) :
    1 ≤ t ∧ t ≤ 5 ∧ 0 < q ∧ rs.length ≤ 64 ∧ (∀ r ∈ rs,rightB r = true ∧ r.t = t ∧ r.g = false) ∧ rm.length ≤ 64 ∧ (∀ s ∈ rm,s.length ≤ 64) := by
  simp only [respB,Bool.and_eq_true,decide_eq_true_eq,List.all_eq_true,Bool.not_eq_true'] at h
  obtain ⟨⟨h1,h2⟩,h3,h4,h5,⟨h6,h7⟩,_⟩ := h
  refine ⟨h1,h2,by omega,by omega,fun r hr => ?_,by omega,fun s hs => nameB_len (h7 s hs)⟩
  have hw : wrongB t r = false := by
    cases hw : wrongB t r with
    | false => rfl
    | true =>
      have := idxI_some hr hw
      rw [decide_eq_true this] at h5;cases h5
  simp only [wrongB,Bool.or_eq_false_iff,Bool.not_eq_false',bne_eq_false_iff_eq] at hw
  exact ⟨hw.1,hw.2.1,hw.2.2⟩
theorem putResp_ctr (t : Int) (dl mo : Bool) (q v : Nat) (rs : List Rs) (rm : List (List UInt8)) (hq : q < 18446744073709551616) (hv : v < 18446744073709551616) (hms : rs.length ≤ 1099511627776) (hs : ∀ r ∈ rs,r.s.length ≤ 9223372036854775807) (h2 : rm.length ≤ 1099511627776) (b2 : ∀ s ∈ rm,s.length ≤ 9223372036854775807) :
    Ctr Tryz.prog [] 31 [mrow rs,srow rm] [.one (.agg [.v (.int .i64 t),.v (.bool dl),.v (.bool mo),.v (.int .u64 q),.v (.int .u64 v),.row 0,.row 1])]
      (fun os u => os = [mrow rs,srow rm] ∧ u = .tup [.c (.v (.string (B (if respB t dl mo q rs rm then respBytes t.toNat dl mo q v rs rm else [])))),.c (.v (.bool (respB t dl mo q rs rm)))]) := by
  cases h : respB t dl mo q rs rm with
  | false => exact putResp_no t dl mo q v rs rm hms hs h2 b2 h
  | true =>
    obtain ⟨g1,g2,g3,g4,g5,g6,g7⟩ := respB_spec h
    obtain ⟨n,rfl⟩ : ∃ n : Nat,t = n := ⟨t.toNat,by omega⟩
    have c1 := rsB_le rs (fun r hr => (g5 r hr).1)
    have c2 := textsB_le 6 (by decide) rm g7
    exact putResp_yes n dl mo q v rs rm (by omega) hq hv hms h2 (fun r hr => (g5 r hr).1) (fun r hr => (right_type (g5 r hr).1).2.2.1) (fun r hr => resB_le (g5 r hr).1) (fun s hs => by have := g7 s hs;omega) (by omega) (by omega) h
def rF (rs : List Rs) : List NW.Fld := rs.map fun r => ⟨5,2,0,resB r r.t.toNat⟩
theorem encs_rF : ∀ rs : List Rs,NW.encs (rF rs) = rsB rs
  | [] => rfl
  | r :: rs => by
    have e : NW.encs (rF (r :: rs)) = (⟨5,2,0,resB r r.t.toNat⟩ : NW.Fld).enc ++ NW.encs (rF rs) := rfl
    have e2 : rsB (r :: rs) = textB 5 (resB r r.t.toNat) ++ rsB rs := rfl
    rw [e,e2,encs_rF rs];simp [NW.Fld.enc,textB]
theorem rF_ok {rs : List Rs} (hs : ∀ r ∈ rs,rightB r = true) : ∀ f ∈ rF rs,f.Ok := by
  intro f hf
  obtain ⟨r,h,rfl⟩ := List.mem_map.1 hf
  have := resB_le (hs r h)
  exact ⟨by show 1 ≤ 5;decide,by show 5 < _;decide,.inr (.inr (.inl ⟨rfl,by show (resB r r.t.toNat).length < _;omega,rfl⟩))⟩
theorem takeP5 : ∀ (rs : List Rs) (m : RpS),(∀ r ∈ rs,rightB r = true) → takeX stepP (rF rs) m = ({ m with rs := m.rs ++ rs },true)
  | [],m,_ => by simp [rF,takeX]
  | r :: rs,m,h => by
    have hb := resR_put (h r (by simp))
    have e1 : stepP ⟨5,2,0,resB r r.t.toNat⟩ m = ({ m with rs := m.rs ++ [r] },true) := by
      show ({ m with rs := m.rs ++ [(resR (resB r r.t.toNat)).getD z0] },(resR (resB r r.t.toNat)).isSome) = _
      rw [hb];rfl
    have e : takeX stepP (rF (r :: rs)) m = if (stepP ⟨5,2,0,resB r r.t.toNat⟩ m).2 = true then takeX stepP (rF rs) (stepP ⟨5,2,0,resB r r.t.toNat⟩ m).1 else ((stepP ⟨5,2,0,resB r r.t.toNat⟩ m).1,false) := rfl
    rw [e,e1,if_pos rfl,takeP5 rs _ (fun y hy => h y (by simp [hy]))];simp
theorem takeP6 : ∀ (xs : List (List UInt8)) (m : RpS),takeX stepP (lF 6 xs) m = ({ m with rm := m.rm ++ xs },true)
  | [],m => by simp [lF,takeX]
  | s :: xs,m => by
    have e : takeX stepP (lF 6 (s :: xs)) m = takeX stepP (lF 6 xs) { m with rm := m.rm ++ [s] } := rfl
    rw [e,takeP6 xs];simp
theorem takePExt : ∀ (l : List NW.Fld) (m : RpS),(∀ f ∈ l,8 ≤ f.num) → takeX stepP l m = (m,true)
  | [],m,_ => rfl
  | f :: l,m,h => by
    have h8 := h f (by simp)
    have e1 : stepP f m = (m,true) := by
      unfold stepP
      rw [if_neg (by omega),if_neg (by omega),if_neg (by omega),if_neg (by omega),if_neg (by omega),if_neg (by omega),if_neg (by omega)]
    rw [takeX,e1,if_pos rfl];exact takePExt l m (fun g hg => h g (by simp [hg]))
def respFlds (t : Nat) (dl mo : Bool) (q v : Nat) (rs : List Rs) (rm : List (List UInt8)) : List NW.Fld :=
  nF 1 t ++ (bF 2 dl ++ (nF 3 q ++ (nF 4 v ++ (rF rs ++ (lF 6 rm ++ bF 7 mo)))))
theorem respBytes_encs (t : Nat) (dl mo : Bool) (q v : Nat) (rs : List Rs) (rm : List (List UInt8)) : respBytes t dl mo q v rs rm = 2 :: NW.encs (respFlds t dl mo q v rs rm) := by
  simp only [respBytes,respHead,respFlds,encs_app,encs_nF,encs_bF,encs_lF,encs_rF,List.cons_append,List.append_assoc]
theorem respFlds_ok {t : Nat} {dl mo : Bool} {q v : Nat} {rs : List Rs} {rm : List (List UInt8)} (hq : q < 18446744073709551616) (hv : v < 18446744073709551616) (h : respB (t : Int) dl mo q rs rm = true) : ∀ f ∈ respFlds t dl mo q v rs rm,f.Ok := by
  obtain ⟨g1,g2,g3,g4,g5,g6,g7⟩ := respB_spec h
  intro f hf
  simp only [respFlds,List.mem_append] at hf
  rcases hf with hf | hf | hf | hf | hf | hf | hf
  · exact nF_ok (by decide) (by decide) (by omega) f hf
  · exact bF_ok (by decide) (by decide) f hf
  · exact nF_ok (by decide) (by decide) hq f hf
  · exact nF_ok (by decide) (by decide) hv f hf
  · exact rF_ok (fun r hr => (g5 r hr).1) f hf
  · exact lF_ok (by decide) (by decide) (fun s hs => by have := g7 s hs;omega) f hf
  · exact bF_ok (by decide) (by decide) f hf
theorem respR_more {t : Nat} {dl mo : Bool} {q v : Nat} {rs : List Rs} {rm : List (List UInt8)} (hq : q < 18446744073709551616) (hv : v < 18446744073709551616) (h : respB (t : Int) dl mo q rs rm = true)
    (ext : List NW.Fld) (hx : ∀ f ∈ ext,f.Ok ∧ 8 ≤ f.num) : respR (respBytes t dl mo q v rs rm ++ NW.encs ext) = some ⟨t,if dl then 1 else 0,if mo then 1 else 0,q,v,rs,rm⟩ := by
  obtain ⟨g1,g2,g3,g4,g5,g6,g7⟩ := respB_spec h
  have e : respBytes t dl mo q v rs rm ++ NW.encs ext = 2 :: NW.encs (respFlds t dl mo q v rs rm ++ ext) := by
    rw [respBytes_encs,encs_app,List.cons_append]
  have hk : kindL (2 :: NW.encs (respFlds t dl mo q v rs rm ++ ext)) = 2 := rfl
  have hok : ∀ f ∈ respFlds t dl mo q v rs rm ++ ext,f.Ok := by
    intro f hf
    rcases List.mem_append.1 hf with hf | hf
    · exact respFlds_ok hq hv h f hf
    · exact (hx f hf).1
  have s1 : takeX stepP (nF 1 t) .zero = (⟨t,0,0,0,0,[],[]⟩,true) := by rw [nF,if_neg (by omega)];rfl
  have s2 : takeX stepP (bF 2 dl) ⟨t,0,0,0,0,[],[]⟩ = (⟨t,if dl then 1 else 0,0,0,0,[],[]⟩,true) := by cases dl <;> rfl
  have s3 : takeX stepP (nF 3 q) ⟨t,if dl then 1 else 0,0,0,0,[],[]⟩ = (⟨t,if dl then 1 else 0,0,q,0,[],[]⟩,true) := by
    unfold nF;split
    · subst q;rfl
    · rfl
  have s4 : takeX stepP (nF 4 v) ⟨t,if dl then 1 else 0,0,q,0,[],[]⟩ = (⟨t,if dl then 1 else 0,0,q,v,[],[]⟩,true) := by
    unfold nF;split
    · subst v;rfl
    · rfl
  have s7 : takeX stepP (bF 7 mo) ⟨t,if dl then 1 else 0,0,q,v,rs,rm⟩ = (⟨t,if dl then 1 else 0,if mo then 1 else 0,q,v,rs,rm⟩,true) := by cases mo <;> rfl
  have hp : takeXB stepP ((2 :: NW.encs (respFlds t dl mo q v rs rm ++ ext)).drop 1) .zero = (⟨t,if dl then 1 else 0,if mo then 1 else 0,q,v,rs,rm⟩,true) := by
    rw [List.drop_succ_cons,List.drop_zero,takeXB,NW.parse_encs' _ hok]
    show takeX stepP (respFlds t dl mo q v rs rm ++ ext) .zero = _
    simp only [respFlds,List.append_assoc]
    rw [takeX_app _ s1,takeX_app _ s2,takeX_app _ s3,takeX_app _ s4,takeX_app _ (takeP5 rs _ (fun r hr => (g5 r hr).1)),takeX_app _ (takeP6 rm _)]
    simp only [List.nil_append]
    rw [takeX_app _ s7,takePExt ext _ (fun f hf => (hx f hf).2)]
  have hm : ((min t 6 : Nat) : Int) = (t : Int) := by omega
  have hdl : (((if dl then 1 else 0 : Nat) : Int) == 1) = dl := by cases dl <;> rfl
  have hmo : (((if mo then 1 else 0 : Nat) : Int) == 1) = mo := by cases mo <;> rfl
  rw [e,respR,if_pos hk,hp]
  simp only [okP,hm,hdl,hmo,h,Bool.and_true]
  rw [if_pos]
  exact ⟨trivial,by cases dl <;> cases mo <;> rfl⟩
theorem name_any (n : Nat) (hn : n < 256) (w : World) : Calls Tryz.prog 21 #[.int .u8 n] w fun x w' => x = .returned (.string (B (nameL n))) ∧ Below w.heap.size w w' := by
  refine (ctr_calls (name_ctr n hn) w (fun p hp => by cases hp) (vals := [.int .u8 n]) ⟨rfl,trivial⟩).mono ?_
  rintro x w' ⟨v,os',s,σ',rfl,⟨rfl,rfl⟩,hd,hb⟩
  have hd : v = .string (B (nameL n)) := hd
  subst hd
  exact ⟨rfl,hb⟩
structure FarLM (X : Ctx) (qL : Option Addr) (L : List UInt8) (qM : Option Addr) (M : List UInt8) : Prop where
  l : FarU X qL L
  m : FarU X qM M
theorem FarLM.under {X X' : Ctx} {qL qM : Option Addr} {L M : List UInt8} (h : FarLM X qL L qM M) (hU : Under X X') : FarLM X' qL L qM M := ⟨h.l.under hU,h.m.under hU⟩
def askC (t : Int) (dl : Bool) (q : Nat) (d : List UInt8) (a0 : Option Addr) (n0 c0 : Nat) (a1 : Option Addr) (n1 c1 : Nat) (a2 : Option Addr) (n2 c2 : Nat) (qL : Option Addr) (L : List UInt8) (cL : Nat) (qM : Option Addr) (MM : List UInt8) (cM : Nat) (u m tn q6 : Int) (M : Nat → Bool) : Cfg :=
  ⟨[(3,bif M 18 then .one (.c (.loc 3 0)) else ddd),(27,bif M 17 then .one (.agg [.v (.int .i64 tn),.v (.bool dl),.v (.int .u64 q6),.row 2,.v (.slice none 0 0),.v (.slice none 0 0),.v (.string (B []))]) else ddd),(26,bif M 16 then .one (.c (.row 2)) else ddd),(25,bif M 15 then vv (.slice qL L.length cL) else ddd),(24,bif M 14 then .one (.c (.loc 0 8)) else ddd),(23,bif M 13 then vv (.int .u64 q6) else ddd),(22,bif M 12 then vv (.int .u64 q) else ddd),(21,bif M 11 then .one (.c (.loc 0 2)) else ddd),(20,bif M 10 then .one (.c (.loc 0 0)) else ddd),(19,bif M 9 then vv (.bool dl) else ddd),(18,bif M 8 then .one (.c (.loc 0 1)) else ddd),(17,bif M 7 then .one (.c (.loc 0 0)) else ddd),(16,bif M 6 then vv (.int .i64 tn) else ddd),(15,bif M 5 then vv (.int .i64 m) else ddd),(14,bif M 4 then vv (.int .u64 m) else ddd),(13,bif M 3 then vv (.int .u64 u) else ddd),(12,bif M 2 then vv (.int .i64 t) else ddd),(11,bif M 1 then .one (.c (.loc 0 0)) else ddd),(10,bif M 0 then .one (.c (.loc 0 0)) else ddd),(1,.one (.c (.loc 0 0))),(2,.one (.c (.loc 1 0)))],
   [.cells [.v (.int .i64 t),.v (.bool dl),.v (.int .u64 q),.v (.slice a0 n0 c0),.v (.slice a1 n1 c1),.v (.slice a2 n2 c2),.v (.string (B d)),.v (.bool true),.v (.slice qL L.length cL),.v (.slice qM MM.length cM)] 29,.cells [.v (.int .i64 0),.v (.bool false),.v (.int .u64 0),.v (.slice none 0 0),.v (.slice none 0 0),.v (.slice none 0 0),.v (.string (B []))] 26,bif M 16 then srow (askSb L) else .gone,bif M 18 then .cells [.v (.int .i64 0),.v (.bool false),.v (.int .u64 0),.v (.slice none 0 0),.v (.slice none 0 0),.v (.slice none 0 0),.v (.string (B []))] 26 else .gone]⟩
theorem ask_ctr (t : Int) (dl : Bool) (q : Nat) (hq : q < 18446744073709551616) (d : List UInt8) (hd : d.length ≤ 9223372036854775807) (a0 : Option Addr) (n0 c0 : Nat) (a1 : Option Addr) (n1 c1 : Nat) (a2 : Option Addr) (n2 c2 : Nat) (qL : Option Addr) (L : List UInt8) (cL : Nat) (qM : Option Addr) (M : List UInt8) (cM : Nat) :
    CtrF Tryz.prog (fun X => FarLM X qL L qM M) 9 [] [.one (.agg [.v (.int .i64 t),.v (.bool dl),.v (.int .u64 q),.v (.slice a0 n0 c0),.v (.slice a1 n1 c1),.v (.slice a2 n2 c2),.v (.string (B d)),.v (.bool true),.v (.slice qL L.length cL),.v (.slice qM M.length cM)])]
      (fun os v => os = [srow (askSb L),srow (askUn dl M),hrow (askHv dl M)] ∧ v = .one (.agg [.v (.int .i64 (tN t)),.v (.bool dl),.v (.int .u64 (q % 6 : Nat)),.row 0,.row 1,.row 2,.v (.string (B (askDet q d)))])) := by
  have hn : ∀ i,∀ w,Calls Tryz.prog 21 #[.int .u8 (M.getD i 0).toNat] w _ := fun i w => name_any (M.getD i 0).toNat (M.getD i 0).toNat_lt w
  obtain ⟨u,hu⟩ : ∃ u : Int,IntKind.u64.wrap t = u := ⟨_,rfl⟩
  have hu2 : u = t % 18446744073709551616 := by rw [← hu,IntKind.wrap_u64]
  have m0 : 0 ≤ u := by rw [hu2];omega
  obtain ⟨m,hm⟩ : ∃ m : Int,u.tmod 5 = m := ⟨_,rfl⟩
  have hm2 : m = u % 5 := by rw [← hm,Int.tmod_eq_emod_of_nonneg m0]
  have hm5 : IntKind.i64.wrap m = m := wI64 (by omega) (by omega)
  obtain ⟨tn,htn0⟩ : ∃ tn : Int,(tN t : Int) = tn := ⟨_,rfl⟩
  have htn : IntKind.i64.wrap (1 + m) = tn := by rw [wI64 (by omega) (by omega),← htn0,tN,hm2,hu2];omega
  obtain ⟨q6,hq60⟩ : ∃ q6 : Int,((q % 6 : Nat) : Int) = q6 := ⟨_,rfl⟩
  have hq6 : (q : Int).tmod 6 = q6 := by rw [Int.tmod_eq_emod_of_nonneg (by omega),← hq60];omega
  rw [htn0,hq60]
  have hNL : CtrF Tryz.prog (fun X => FarU X qL L) 41 [] [vv (.slice qL L.length cL),vv (.int .i64 12)] (fun os v => os = [srow (askSb L)] ∧ v = .one (.c (.row 0))) := nameList_ctr L qL cL 12 (by decide)
  have hNM : CtrF Tryz.prog (fun X => FarU X qM M) 41 [] [vv (.slice qM M.length cM),vv (.int .i64 6)] (fun os v => os = [srow (askUn true M)] ∧ v = .one (.c (.row 0))) := nameList_ctr M qM cM 6 (by decide)
  have h16 : ∀ i,((((M.getD i 0).toNat : Int).tmod 16 != 15) = nmK (M.getD i 0)) := fun i => by
    rw [Int.tmod_eq_emod_of_nonneg (by omega),nmK]
    generalize (M.getD i 0).toNat = x
    by_cases h : x % 16 = 15
    · have : (x : Int) % 16 = 15 := by omega
      simp only [h,this];rfl
    · have : ¬ (x : Int) % 16 = 15 := by omega
      simp only [h,decide_false,Bool.not_false,bne_iff_ne,ne_eq,this,not_false_iff]
  have h4 : ∀ i,IntKind.u8.wrap (((M.getD i 0).toNat : Int).tdiv 4) = (((M.getD i 0).toNat / 4 : Nat) : Int) := fun i => by
    have := (M.getD i 0).toNat_lt
    rw [Int.tdiv_eq_ediv_of_nonneg (by omega),wB8 (by omega) (by omega)];omega
  have h64 : ∀ i,IntKind.u64.wrap (((M.getD i 0).toNat / 4 : Nat) : Int) = (((M.getD i 0).toNat / 4 : Nat) : Int) := fun i => by
    have := (M.getD i 0).toNat_lt
    exact wU64 (by omega) (by omega)
  have ed : 0 < q6 → askDet q d = d.take ((if 40 < (d.length : Int) then 40 else (d.length : Int)).toNat - 0) := fun h => by
    rw [askDet,if_pos (by omega),Nat.sub_zero]
    split
    · rfl
    · rw [List.take_of_length_le (by omega),List.take_of_length_le (by omega)]
  have ed0 : q6 ≤ 0 → askDet q d = [] := fun h => by rw [askDet,if_neg (by omega)]
  have ehv : ∀ i,(i = 4 ∨ M.length ≤ i) ∧ i ≤ 4 → askHv true M = ((M.take i).filter nmK).map hvN := fun i h => by
    rw [askHv,if_pos rfl]
    rcases h with ⟨rfl | h,h2⟩
    · rfl
    · rw [List.take_of_length_le (i := 4) (by omega),List.take_of_length_le h]
  have hfl : ∀ i,i ≤ 4 → (((M.take i).filter nmK).map hvN).length ≤ 4 := fun i h => by
    rw [List.length_map]
    have := filter_le nmK (M.take i)
    rw [List.length_take] at this
    omega
  have hs1 : ∀ i,i < M.length → nmK (M.getD i 0) = true → hrow (((M.take i).filter nmK).map hvN ++ [hvN (M.getD i 0)]) = hrow (((M.take (i + 1)).filter nmK).map hvN) := fun i hi h => by
    rw [List.take_add_one,List.getElem?_eq_getElem hi,List.filter_append,List.map_append]
    rw [List.getD_eq_getElem?_getD,List.getElem?_eq_getElem hi] at h ⊢
    simp only [Option.getD_some] at h
    simp only [Option.toList_some,List.filter_cons,h,if_true,List.filter_nil,List.map_cons,List.map_nil,Option.getD_some]
  have hs0 : ∀ i,i < M.length → nmK (M.getD i 0) = false → (M.take i).filter nmK = (M.take (i + 1)).filter nmK := fun i hi h => by
    rw [List.take_add_one,List.getElem?_eq_getElem hi,List.filter_append]
    rw [List.getD_eq_getElem?_getD,List.getElem?_eq_getElem hi] at h
    simp only [Option.getD_some] at h
    simp [h]
  refine CtrF.less ?_
  intro X0 hP0 hG0 N0 hN0
  refine CallVC.inline (f := 9) (by rw [hP0];exact Tryz.func9) rfl Tryz.ntmps9 rfl (by simp) ?_
  intro X K hU hnt hbl hK
  have hP : X.P = Tryz.prog := hU.P.trans hP0
  have hG := hG0.under hU
  have hT := Ty.T9 hP
  simp only [GA,↓GB,GX,simprocAttr] at hbl ⊢
  have hGL := hG.l
  have hGM := hG.m
  repeat' (first|(refine SX.seqK ?_;intro N hN)|((first | (refine SX.ops ?_));simp only [GA,↓GB,GX,simprocAttr,hnt,hT])|((first | refine SX.skip ?_ | refine SX.exit ?_ | refine SX.label ?_ | refine SX.ret ?_);try simp only [GA,↓GB,GX,simprocAttr])|(refine hN _ ?_;clear hN N)|((first | refine hK _ _ (FinI.ret3 ?_) | refine hK _ _ (FinI.nrm3 ?_));simp only [GA,↓GB,GX,simprocAttr,finP_s,hnt,hT];refine Done.out ?_)|(clear hN N;first | (refine hN _ ?_;clear hN N) | (clear hN N;refine hN _ ?_;clear hN N))|((first | refine SX.cond rfl (fun hb => ?_) (fun hb => ?_) | (refine bif2.mk (fun hb => ?_) (fun hb => ?_) <;> (try simp only [hb,GA,↓GB,GX,simprocAttr,hnt,hT]))) <;> ((first | cases hb | (simp only [HBs] at hb) | skip) <;> (first | (exfalso;omega) | skip)))|(refine SX.block ?_)|(refine and_mk ?_ ?_;(focus first | decide | omega | rfl | assumption | (simp only [LBs];omega) | (simp;done)))|(refine And.intro ?_ ?_))
  all_goals (try refine Done.mk ?_)
  refine SX.dia (id := 3) [0,1,2,3,4,5,6,7,8,9,10,11,12,13,14,15,16,17,18] (askC t dl q d a0 n0 c0 a1 n1 c1 a2 n2 c2 qL L cL qM M cM u m tn q6) [.s 19] (askC t dl q d a0 n0 c0 a1 n1 c1 a2 n2 c2 qL L cL qM M cM u m tn q6 (fun _ => true)) ?_ ?_ ?_ ?_ rfl ?_
  · rw [hP];kernel_rfl
  · kernel_rfl
  · refine Imp.trans (Imp.le [0,1] (d := ⟨[(1,.one (.c (.loc 0 0))),(2,.one (.c (.loc 1 0)))],[.cells [.v (.int .i64 t),.v (.bool dl),.v (.int .u64 q),.v (.slice a0 n0 c0),.v (.slice a1 n1 c1),.v (.slice a2 n2 c2),.v (.string (B d)),.v (.bool true),.v (.slice qL L.length cL),.v (.slice qM M.length cM)] 29,.cells [.v (.int .i64 0),.v (.bool false),.v (.int .u64 0),.v (.slice none 0 0),.v (.slice none 0 0),.v (.slice none 0 0),.v (.string (B []))] 26]⟩) (by (refine LeR.of ?_ ?_ ?_ ?_ ?_ ?_ ?_ <;> first | (rw [hbl];decide) | decide | (simp only [GA,↓GB,GX,simprocAttr,GDs];done) | (simp only [GA,↓GB,GX,simprocAttr,GDs];rfl;done)))) ?_
    refine Imp.trans (Imp.deads [10,11,12,13,14,15,16,17,18,19,20,21,22,23,24,25,26,27,3] (by rw [hnt];decide)) ?_
    refine Imp.trans Imp.gone ?_
    refine Imp.trans Imp.gone ?_
    exact Imp.refl
  · rintro M i hi hd
    simp only [List.mem_cons,List.not_mem_nil,or_false] at hi
    rcases hi with rfl | rfl | rfl | rfl | rfl | rfl | rfl | rfl | rfl | rfl | rfl | rfl | rfl | rfl | rfl | rfl | rfl | rfl | rfl
    · have n1 : M 1 = false := dN hd rfl 0 rfl rfl hd.un
      have n2 : M 2 = false := dN hd rfl 0 rfl rfl n1
      have n3 : M 3 = false := dN hd rfl 0 rfl rfl n2
      have n4 : M 4 = false := dN hd rfl 0 rfl rfl n3
      have n5 : M 5 = false := dN hd rfl 0 rfl rfl n4
      have n6 : M 6 = false := dN hd rfl 0 rfl rfl n5
      have n17 : M 17 = false := dN hd rfl 0 rfl rfl n6
      have hun := hd.un
      refine ⟨_,rfl,rfl,?_⟩
      simp only [askC,upd,↓reduceIte,Nat.reduceEqDiff,reduceCtorEq,hun,n1,n2,n3,n4,n5,n6,n17,CSs,List.nil_append,List.cons_append,simprocAttr]
      refine vcOp_sound ?_
      simp only [GA,↓GB,GX,simprocAttr,hnt,hT,hu,hm,hm5,htn,hq6]
      repeat' (refine and_mk ?_ ?_;(focus first | decide | omega | rfl | assumption))
      all_goals (refine Imp.le [0,1,2,3] ?_;(refine LeR.of ?_ ?_ ?_ ?_ ?_ ?_ ?_ <;> first | (rw [hbl];decide) | decide | (simp only [GA,↓GB,GX,simprocAttr,GDs,CSs];done)))
    · have m0 : M 0 = true := dD hd rfl 0 rfl rfl
      have n2 : M 2 = false := dN hd rfl 0 rfl rfl hd.un
      have n3 : M 3 = false := dN hd rfl 0 rfl rfl n2
      have n4 : M 4 = false := dN hd rfl 0 rfl rfl n3
      have n5 : M 5 = false := dN hd rfl 0 rfl rfl n4
      have n6 : M 6 = false := dN hd rfl 0 rfl rfl n5
      have n17 : M 17 = false := dN hd rfl 0 rfl rfl n6
      have hun := hd.un
      refine ⟨_,rfl,rfl,?_⟩
      simp only [askC,upd,↓reduceIte,Nat.reduceEqDiff,reduceCtorEq,hun,m0,n2,n3,n4,n5,n6,n17,CSs,List.nil_append,List.cons_append,simprocAttr]
      refine vcOp_sound ?_
      simp only [GA,↓GB,GX,simprocAttr,hnt,hT,hu,hm,hm5,htn,hq6]
      repeat' (refine and_mk ?_ ?_;(focus first | decide | omega | rfl | assumption))
      all_goals (refine Imp.le [0,1,2,3] ?_;(refine LeR.of ?_ ?_ ?_ ?_ ?_ ?_ ?_ <;> first | (rw [hbl];decide) | decide | (simp only [GA,↓GB,GX,simprocAttr,GDs,CSs];done)))
    · have m1 : M 1 = true := dD hd rfl 0 rfl rfl
      have m0 : M 0 = true := dC hd rfl m1 0 rfl rfl
      have n3 : M 3 = false := dN hd rfl 0 rfl rfl hd.un
      have n4 : M 4 = false := dN hd rfl 0 rfl rfl n3
      have n5 : M 5 = false := dN hd rfl 0 rfl rfl n4
      have n6 : M 6 = false := dN hd rfl 0 rfl rfl n5
      have n17 : M 17 = false := dN hd rfl 0 rfl rfl n6
      have hun := hd.un
      refine ⟨_,rfl,rfl,?_⟩
      simp only [askC,upd,↓reduceIte,Nat.reduceEqDiff,reduceCtorEq,hun,m1,m0,n3,n4,n5,n6,n17,CSs,List.nil_append,List.cons_append,simprocAttr]
      refine vcOp_sound ?_
      simp only [GA,↓GB,GX,simprocAttr,hnt,hT,hu,hm,hm5,htn,hq6]
      repeat' (refine and_mk ?_ ?_;(focus first | decide | omega | rfl | assumption))
      all_goals (refine Imp.le [0,1,2,3] ?_;(refine LeR.of ?_ ?_ ?_ ?_ ?_ ?_ ?_ <;> first | (rw [hbl];decide) | decide | (simp only [GA,↓GB,GX,simprocAttr,GDs,CSs];done)))
    · have m2 : M 2 = true := dD hd rfl 0 rfl rfl
      have m1 : M 1 = true := dC hd rfl m2 0 rfl rfl
      have m0 : M 0 = true := dC hd rfl m1 0 rfl rfl
      have n4 : M 4 = false := dN hd rfl 0 rfl rfl hd.un
      have n5 : M 5 = false := dN hd rfl 0 rfl rfl n4
      have n6 : M 6 = false := dN hd rfl 0 rfl rfl n5
      have n17 : M 17 = false := dN hd rfl 0 rfl rfl n6
      have hun := hd.un
      refine ⟨_,rfl,rfl,?_⟩
      simp only [askC,upd,↓reduceIte,Nat.reduceEqDiff,reduceCtorEq,hun,m2,m1,m0,n4,n5,n6,n17,CSs,List.nil_append,List.cons_append,simprocAttr]
      refine vcOp_sound ?_
      simp only [GA,↓GB,GX,simprocAttr,hnt,hT,hu,hm,hm5,htn,hq6]
      repeat' (refine and_mk ?_ ?_;(focus first | decide | omega | rfl | assumption))
      all_goals (refine Imp.le [0,1,2,3] ?_;(refine LeR.of ?_ ?_ ?_ ?_ ?_ ?_ ?_ <;> first | (rw [hbl];decide) | decide | (simp only [GA,↓GB,GX,simprocAttr,GDs,CSs];done)))
    · have m3 : M 3 = true := dD hd rfl 0 rfl rfl
      have m2 : M 2 = true := dC hd rfl m3 0 rfl rfl
      have m1 : M 1 = true := dC hd rfl m2 0 rfl rfl
      have m0 : M 0 = true := dC hd rfl m1 0 rfl rfl
      have n5 : M 5 = false := dN hd rfl 0 rfl rfl hd.un
      have n6 : M 6 = false := dN hd rfl 0 rfl rfl n5
      have n17 : M 17 = false := dN hd rfl 0 rfl rfl n6
      have hun := hd.un
      refine ⟨_,rfl,rfl,?_⟩
      simp only [askC,upd,↓reduceIte,Nat.reduceEqDiff,reduceCtorEq,hun,m3,m2,m1,m0,n5,n6,n17,CSs,List.nil_append,List.cons_append,simprocAttr]
      refine vcOp_sound ?_
      simp only [GA,↓GB,GX,simprocAttr,hnt,hT,hu,hm,hm5,htn,hq6]
      repeat' (refine and_mk ?_ ?_;(focus first | decide | omega | rfl | assumption))
      all_goals (refine Imp.le [0,1,2,3] ?_;(refine LeR.of ?_ ?_ ?_ ?_ ?_ ?_ ?_ <;> first | (rw [hbl];decide) | decide | (simp only [GA,↓GB,GX,simprocAttr,GDs,CSs];done)))
    · have m4 : M 4 = true := dD hd rfl 0 rfl rfl
      have m3 : M 3 = true := dC hd rfl m4 0 rfl rfl
      have m2 : M 2 = true := dC hd rfl m3 0 rfl rfl
      have m1 : M 1 = true := dC hd rfl m2 0 rfl rfl
      have m0 : M 0 = true := dC hd rfl m1 0 rfl rfl
      have n6 : M 6 = false := dN hd rfl 0 rfl rfl hd.un
      have n17 : M 17 = false := dN hd rfl 0 rfl rfl n6
      have hun := hd.un
      refine ⟨_,rfl,rfl,?_⟩
      simp only [askC,upd,↓reduceIte,Nat.reduceEqDiff,reduceCtorEq,hun,m4,m3,m2,m1,m0,n6,n17,CSs,List.nil_append,List.cons_append,simprocAttr]
      refine vcOp_sound ?_
      simp only [GA,↓GB,GX,simprocAttr,hnt,hT,hu,hm,hm5,htn,hq6]
      repeat' (refine and_mk ?_ ?_;(focus first | decide | omega | rfl | assumption))
      all_goals (refine Imp.le [0,1,2,3] ?_;(refine LeR.of ?_ ?_ ?_ ?_ ?_ ?_ ?_ <;> first | (rw [hbl];decide) | decide | (simp only [GA,↓GB,GX,simprocAttr,GDs,CSs];done)))
    · have m5 : M 5 = true := dD hd rfl 0 rfl rfl
      have m4 : M 4 = true := dC hd rfl m5 0 rfl rfl
      have m3 : M 3 = true := dC hd rfl m4 0 rfl rfl
      have m2 : M 2 = true := dC hd rfl m3 0 rfl rfl
      have m1 : M 1 = true := dC hd rfl m2 0 rfl rfl
      have m0 : M 0 = true := dC hd rfl m1 0 rfl rfl
      have n17 : M 17 = false := dN hd rfl 0 rfl rfl hd.un
      have hun := hd.un
      refine ⟨_,rfl,rfl,?_⟩
      simp only [askC,upd,↓reduceIte,Nat.reduceEqDiff,reduceCtorEq,hun,m5,m4,m3,m2,m1,m0,n17,CSs,List.nil_append,List.cons_append,simprocAttr]
      refine vcOp_sound ?_
      simp only [GA,↓GB,GX,simprocAttr,hnt,hT,hu,hm,hm5,htn,hq6]
      repeat' (refine and_mk ?_ ?_;(focus first | decide | omega | rfl | assumption))
      all_goals (refine Imp.le [0,1,2,3] ?_;(refine LeR.of ?_ ?_ ?_ ?_ ?_ ?_ ?_ <;> first | (rw [hbl];decide) | decide | (simp only [GA,↓GB,GX,simprocAttr,GDs,CSs];done)))
    · have n8 : M 8 = false := dN hd rfl 0 rfl rfl hd.un
      have n9 : M 9 = false := dN hd rfl 0 rfl rfl n8
      have n17 : M 17 = false := dN hd rfl 1 rfl rfl n9
      have hun := hd.un
      refine ⟨_,rfl,rfl,?_⟩
      simp only [askC,upd,↓reduceIte,Nat.reduceEqDiff,reduceCtorEq,hun,n8,n9,n17,CSs,List.nil_append,List.cons_append,simprocAttr]
      refine vcOp_sound ?_
      simp only [GA,↓GB,GX,simprocAttr,hnt,hT,hu,hm,hm5,htn,hq6]
      repeat' (refine and_mk ?_ ?_;(focus first | decide | omega | rfl | assumption))
      all_goals (refine Imp.le [0,1,2,3] ?_;(refine LeR.of ?_ ?_ ?_ ?_ ?_ ?_ ?_ <;> first | (rw [hbl];decide) | decide | (simp only [GA,↓GB,GX,simprocAttr,GDs,CSs];done)))
    · have m7 : M 7 = true := dD hd rfl 0 rfl rfl
      have n9 : M 9 = false := dN hd rfl 0 rfl rfl hd.un
      have n17 : M 17 = false := dN hd rfl 1 rfl rfl n9
      have hun := hd.un
      refine ⟨_,rfl,rfl,?_⟩
      simp only [askC,upd,↓reduceIte,Nat.reduceEqDiff,reduceCtorEq,hun,m7,n9,n17,CSs,List.nil_append,List.cons_append,simprocAttr]
      refine vcOp_sound ?_
      simp only [GA,↓GB,GX,simprocAttr,hnt,hT,hu,hm,hm5,htn,hq6]
      repeat' (refine and_mk ?_ ?_;(focus first | decide | omega | rfl | assumption))
      all_goals (refine Imp.le [0,1,2,3] ?_;(refine LeR.of ?_ ?_ ?_ ?_ ?_ ?_ ?_ <;> first | (rw [hbl];decide) | decide | (simp only [GA,↓GB,GX,simprocAttr,GDs,CSs];done)))
    · have m8 : M 8 = true := dD hd rfl 0 rfl rfl
      have m7 : M 7 = true := dC hd rfl m8 0 rfl rfl
      have n17 : M 17 = false := dN hd rfl 1 rfl rfl hd.un
      have hun := hd.un
      refine ⟨_,rfl,rfl,?_⟩
      simp only [askC,upd,↓reduceIte,Nat.reduceEqDiff,reduceCtorEq,hun,m8,m7,n17,CSs,List.nil_append,List.cons_append,simprocAttr]
      refine vcOp_sound ?_
      simp only [GA,↓GB,GX,simprocAttr,hnt,hT,hu,hm,hm5,htn,hq6]
      repeat' (refine and_mk ?_ ?_;(focus first | decide | omega | rfl | assumption))
      all_goals (refine Imp.le [0,1,2,3] ?_;(refine LeR.of ?_ ?_ ?_ ?_ ?_ ?_ ?_ <;> first | (rw [hbl];decide) | decide | (simp only [GA,↓GB,GX,simprocAttr,GDs,CSs];done)))
    · have n11 : M 11 = false := dN hd rfl 0 rfl rfl hd.un
      have n12 : M 12 = false := dN hd rfl 0 rfl rfl n11
      have n13 : M 13 = false := dN hd rfl 0 rfl rfl n12
      have n17 : M 17 = false := dN hd rfl 2 rfl rfl n13
      have hun := hd.un
      refine ⟨_,rfl,rfl,?_⟩
      simp only [askC,upd,↓reduceIte,Nat.reduceEqDiff,reduceCtorEq,hun,n11,n12,n13,n17,CSs,List.nil_append,List.cons_append,simprocAttr]
      refine vcOp_sound ?_
      simp only [GA,↓GB,GX,simprocAttr,hnt,hT,hu,hm,hm5,htn,hq6]
      repeat' (refine and_mk ?_ ?_;(focus first | decide | omega | rfl | assumption))
      all_goals (refine Imp.le [0,1,2,3] ?_;(refine LeR.of ?_ ?_ ?_ ?_ ?_ ?_ ?_ <;> first | (rw [hbl];decide) | decide | (simp only [GA,↓GB,GX,simprocAttr,GDs,CSs];done)))
    · have m10 : M 10 = true := dD hd rfl 0 rfl rfl
      have n12 : M 12 = false := dN hd rfl 0 rfl rfl hd.un
      have n13 : M 13 = false := dN hd rfl 0 rfl rfl n12
      have n17 : M 17 = false := dN hd rfl 2 rfl rfl n13
      have hun := hd.un
      refine ⟨_,rfl,rfl,?_⟩
      simp only [askC,upd,↓reduceIte,Nat.reduceEqDiff,reduceCtorEq,hun,m10,n12,n13,n17,CSs,List.nil_append,List.cons_append,simprocAttr]
      refine vcOp_sound ?_
      simp only [GA,↓GB,GX,simprocAttr,hnt,hT,hu,hm,hm5,htn,hq6]
      repeat' (refine and_mk ?_ ?_;(focus first | decide | omega | rfl | assumption))
      all_goals (refine Imp.le [0,1,2,3] ?_;(refine LeR.of ?_ ?_ ?_ ?_ ?_ ?_ ?_ <;> first | (rw [hbl];decide) | decide | (simp only [GA,↓GB,GX,simprocAttr,GDs,CSs];done)))
    · have m11 : M 11 = true := dD hd rfl 0 rfl rfl
      have m10 : M 10 = true := dC hd rfl m11 0 rfl rfl
      have n13 : M 13 = false := dN hd rfl 0 rfl rfl hd.un
      have n17 : M 17 = false := dN hd rfl 2 rfl rfl n13
      have hun := hd.un
      refine ⟨_,rfl,rfl,?_⟩
      simp only [askC,upd,↓reduceIte,Nat.reduceEqDiff,reduceCtorEq,hun,m11,m10,n13,n17,CSs,List.nil_append,List.cons_append,simprocAttr]
      refine vcOp_sound ?_
      simp only [GA,↓GB,GX,simprocAttr,hnt,hT,hu,hm,hm5,htn,hq6]
      repeat' (refine and_mk ?_ ?_;(focus first | decide | omega | rfl | assumption))
      all_goals (refine Imp.le [0,1,2,3] ?_;(refine LeR.of ?_ ?_ ?_ ?_ ?_ ?_ ?_ <;> first | (rw [hbl];decide) | decide | (simp only [GA,↓GB,GX,simprocAttr,GDs,CSs];done)))
    · have m12 : M 12 = true := dD hd rfl 0 rfl rfl
      have m11 : M 11 = true := dC hd rfl m12 0 rfl rfl
      have m10 : M 10 = true := dC hd rfl m11 0 rfl rfl
      have n17 : M 17 = false := dN hd rfl 2 rfl rfl hd.un
      have hun := hd.un
      refine ⟨_,rfl,rfl,?_⟩
      simp only [askC,upd,↓reduceIte,Nat.reduceEqDiff,reduceCtorEq,hun,m12,m11,m10,n17,CSs,List.nil_append,List.cons_append,simprocAttr]
      refine vcOp_sound ?_
      simp only [GA,↓GB,GX,simprocAttr,hnt,hT,hu,hm,hm5,htn,hq6]
      repeat' (refine and_mk ?_ ?_;(focus first | decide | omega | rfl | assumption))
      all_goals (refine Imp.le [0,1,2,3] ?_;(refine LeR.of ?_ ?_ ?_ ?_ ?_ ?_ ?_ <;> first | (rw [hbl];decide) | decide | (simp only [GA,↓GB,GX,simprocAttr,GDs,CSs];done)))
    · have n15 : M 15 = false := dN hd rfl 0 rfl rfl hd.un
      have n16 : M 16 = false := dN hd rfl 0 rfl rfl n15
      have n17 : M 17 = false := dN hd rfl 3 rfl rfl n16
      have hun := hd.un
      refine ⟨_,rfl,rfl,?_⟩
      simp only [askC,upd,↓reduceIte,Nat.reduceEqDiff,reduceCtorEq,hun,n15,n16,n17,CSs,List.nil_append,List.cons_append,simprocAttr]
      refine vcOp_sound ?_
      simp only [GA,↓GB,GX,simprocAttr,hnt,hT,hu,hm,hm5,htn,hq6]
      repeat' (refine and_mk ?_ ?_;(focus first | decide | omega | rfl | assumption))
      all_goals (refine Imp.le [0,1,2,3] ?_;(refine LeR.of ?_ ?_ ?_ ?_ ?_ ?_ ?_ <;> first | (rw [hbl];decide) | decide | (simp only [GA,↓GB,GX,simprocAttr,GDs,CSs];done)))
    · have m14 : M 14 = true := dD hd rfl 0 rfl rfl
      have n16 : M 16 = false := dN hd rfl 0 rfl rfl hd.un
      have n17 : M 17 = false := dN hd rfl 3 rfl rfl n16
      have hun := hd.un
      refine ⟨_,rfl,rfl,?_⟩
      simp only [askC,upd,↓reduceIte,Nat.reduceEqDiff,reduceCtorEq,hun,m14,n16,n17,CSs,List.nil_append,List.cons_append,simprocAttr]
      refine vcOp_sound ?_
      simp only [GA,↓GB,GX,simprocAttr,hnt,hT,hu,hm,hm5,htn,hq6]
      repeat' (refine and_mk ?_ ?_;(focus first | decide | omega | rfl | assumption))
      all_goals (refine Imp.le [0,1,2,3] ?_;(refine LeR.of ?_ ?_ ?_ ?_ ?_ ?_ ?_ <;> first | (rw [hbl];decide) | decide | (simp only [GA,↓GB,GX,simprocAttr,GDs,CSs];done)))
    · have m15 : M 15 = true := dD hd rfl 0 rfl rfl
      have m14 : M 14 = true := dC hd rfl m15 0 rfl rfl
      have n17 : M 17 = false := dN hd rfl 3 rfl rfl hd.un
      have hun := hd.un
      refine ⟨_,rfl,rfl,?_⟩
      simp only [askC,upd,↓reduceIte,Nat.reduceEqDiff,reduceCtorEq,hun,m15,m14,n17,CSs,List.nil_append,List.cons_append,simprocAttr]
      refine vcOp_sound ?_
      simp only [GA,↓GB,GX,simprocAttr,hnt,hT,hu,hm,hm5,htn,hq6]
      repeat' (first|(refine SX.seqK ?_;intro N hN)|((first | (refine SX.ops ?_));simp only [GA,↓GB,GX,simprocAttr,hnt,hT,hu,hm,hm5,htn,hq6])|((first | refine SX.skip ?_ | refine SX.exit ?_ | refine SX.label ?_ | refine SX.ret ?_);try simp only [GA,↓GB,GX,simprocAttr])|(refine hN _ ?_;clear hN N)|((first | refine hK _ _ (FinI.ret3 ?_) | refine hK _ _ (FinI.nrm3 ?_));simp only [GA,↓GB,GX,simprocAttr,finP_s,hnt,hT,hu,hm,hm5,htn,hq6];refine Done.out ?_)|(clear hN N;first | (refine hN _ ?_;clear hN N) | (clear hN N;refine hN _ ?_;clear hN N))|((first | refine SX.cond rfl (fun hb => ?_) (fun hb => ?_) | (refine bif2.mk (fun hb => ?_) (fun hb => ?_) <;> (try simp only [hb,GA,↓GB,GX,simprocAttr,hnt,hT,hu,hm,hm5,htn,hq6]))) <;> ((first | cases hb | (simp only [HBs] at hb) | skip) <;> (first | (exfalso;omega) | skip)))|((first | (refine CtrF.use (hNL) hP (fun X' hU => hGL.under hU) [] ?_ rfl rfl ?_;(focus (refine LeR.of rfl trivial ?_ ?_ ?_ ?_ ?_ <;> first | decide | (simp only [GA,↓GB,GX,simprocAttr,GDs];done)));intro os' s hR;obtain ⟨rfl,rfl⟩ := hR));simp only [GA,↓GB,GX,simprocAttr,hnt,hT,hu,hm,hm5,htn,hq6])|(refine SX.block ?_)|(refine and_mk ?_ ?_;(focus first | decide | omega | rfl | assumption | (simp only [LBs];omega) | (simp;done)))|(refine And.intro ?_ ?_))
      all_goals (try refine Done.mk ?_)
      all_goals (refine Imp.le [0,1,4,3] ?_;(refine LeR.of ?_ ?_ ?_ ?_ ?_ ?_ ?_ <;> first | (rw [hbl];decide) | decide | (simp only [GA,↓GB,GX,simprocAttr,GDs,CSs];done)))
    · have m6 : M 6 = true := dD hd rfl 0 rfl rfl
      have m9 : M 9 = true := dD hd rfl 1 rfl rfl
      have m13 : M 13 = true := dD hd rfl 2 rfl rfl
      have m16 : M 16 = true := dD hd rfl 3 rfl rfl
      have m5 : M 5 = true := dC hd rfl m6 0 rfl rfl
      have m8 : M 8 = true := dC hd rfl m9 0 rfl rfl
      have m12 : M 12 = true := dC hd rfl m13 0 rfl rfl
      have m15 : M 15 = true := dC hd rfl m16 0 rfl rfl
      have m4 : M 4 = true := dC hd rfl m5 0 rfl rfl
      have m7 : M 7 = true := dC hd rfl m8 0 rfl rfl
      have m11 : M 11 = true := dC hd rfl m12 0 rfl rfl
      have m14 : M 14 = true := dC hd rfl m15 0 rfl rfl
      have m3 : M 3 = true := dC hd rfl m4 0 rfl rfl
      have m10 : M 10 = true := dC hd rfl m11 0 rfl rfl
      have m2 : M 2 = true := dC hd rfl m3 0 rfl rfl
      have m1 : M 1 = true := dC hd rfl m2 0 rfl rfl
      have m0 : M 0 = true := dC hd rfl m1 0 rfl rfl
      have hun := hd.un
      refine ⟨_,rfl,rfl,?_⟩
      simp only [askC,upd,↓reduceIte,Nat.reduceEqDiff,reduceCtorEq,hun,m6,m9,m13,m16,m5,m8,m12,m15,m4,m7,m11,m14,m3,m10,m2,m1,m0,CSs,List.nil_append,List.cons_append,simprocAttr]
      refine vcOp_sound ?_
      simp only [GA,↓GB,GX,simprocAttr,hnt,hT,hu,hm,hm5,htn,hq6]
      repeat' (refine and_mk ?_ ?_;(focus first | decide | omega | rfl | assumption))
      all_goals (refine Imp.le [0,1,2,3] ?_;(refine LeR.of ?_ ?_ ?_ ?_ ?_ ?_ ?_ <;> first | (rw [hbl];decide) | decide | (simp only [GA,↓GB,GX,simprocAttr,GDs,CSs];done)))
    · skip
      have hun := hd.un
      refine ⟨_,rfl,rfl,?_⟩
      simp only [askC,upd,↓reduceIte,Nat.reduceEqDiff,reduceCtorEq,hun,CSs,List.nil_append,List.cons_append,simprocAttr]
      refine vcOp_sound ?_
      simp only [GA,↓GB,GX,simprocAttr,hnt,hT,hu,hm,hm5,htn,hq6]
      repeat' (refine and_mk ?_ ?_;(focus first | decide | omega | rfl | assumption))
      all_goals (refine Imp.le [0,1,2,4] ?_;(refine LeR.of ?_ ?_ ?_ ?_ ?_ ?_ ?_ <;> first | (rw [hbl];decide) | decide | (simp only [GA,↓GB,GX,simprocAttr,GDs,CSs];done)))
  simp only [askC,cond_true,GA,↓GB,GX,simprocAttr,hnt,hT]
  repeat' (first|(refine SX.nilAt (j := 3) (k := 4) 9 1 rfl rfl ?_)|(refine SX.nilAt (j := 3) (k := 5) 91 2 rfl rfl ?_)|(refine uBlk (id := 1) (i := i) hGM (by omega) (fun ad hE D => ?_) <;> subst hE)|(refine SX.seqK ?_;intro N hN)|((first | (refine SX.ops ?_) | (refine SX.planT (id := 10) [.q [(0,[3]),(1,[52]),(2,[1]),(3,[54]),(4,[4]),(5,[55,56]),(6,[57]),(7,[58]),(8,[1]),(9,[60]),(10,[4]),(11,[61,62]),(12,[63]),(13,[64]),(14,[65]),(15,[59,66])] (some (16,[67])),.s 17,.s 18,.s 19] ?_ ?_ ?_;(focus first | (rw [hP];kernel_rfl) | (rw [hU1P,hP];kernel_rfl));(focus kernel_rfl)));simp only [GA,↓GB,GX,simprocAttr,hnt,hT,h16,h4,h64])|((first | refine SX.skip ?_ | refine SX.exit ?_ | refine SX.label ?_ | refine SX.ret ?_);try simp only [GA,↓GB,GX,simprocAttr])|(refine hN _ ?_;clear hN N)|((first | refine hK _ _ (FinI.ret3 ?_) | refine hK _ _ (FinI.nrm3 ?_));simp only [GA,↓GB,GX,simprocAttr,finP_s,hnt,hT,h16,h4,h64];refine Done.out ?_)|(clear hN N;first | (refine hN _ ?_;clear hN N) | (clear hN N;refine hN _ ?_;clear hN N))|((first | refine SX.cond rfl (fun hb => ?_) (fun hb => ?_) | (refine bif2.mk (fun hb => ?_) (fun hb => ?_) <;> (try simp only [hb,GA,↓GB,GX,simprocAttr,hnt,hT,h16,h4,h64]))) <;> ((first | cases hb | (simp only [HBs] at hb) | skip) <;> (first | (exfalso;omega) | skip)))|((first | (refine CtrF.use (hNM) hP (fun X' hU => hGM.under hU) [] ?_ rfl rfl ?_;(focus (refine LeR.of rfl trivial ?_ ?_ ?_ ?_ ?_ <;> first | decide | (simp only [GA,↓GB,GX,simprocAttr,GDs];done)));intro os' s hR;obtain ⟨rfl,rfl⟩ := hR) | (refine CallVC.pv hP (hn i) rfl ?_) | (refine CallQ.pv hP (hn i) rfl ?_));simp only [GA,↓GB,GX,simprocAttr,hnt,hT,h16,h4,h64])|(refine ⟨_,D.cell,?_⟩ <;> (try simp only [GA,↓GB,GX,simprocAttr,hnt,hT]))|(rw [add_block] <;> exact D.own)|(refine SX.loop (ι := { i : Nat // i ≤ M.length ∧ i ≤ 4 }) (fun i => ⟨[(1,.one (.c (.loc 0 0))),(2,.one (.c (.loc 1 0))),(3,.one (.c (.loc 3 0))),(4,vv (.int .i64 i.1))],[.cells [.v (.int .i64 t),.v (.bool true),.v (.int .u64 q),.v (.slice a0 n0 c0),.v (.slice a1 n1 c1),.v (.slice a2 n2 c2),.v (.string (B d)),.v (.bool true),.v (.slice qL L.length cL),.v (.slice qM M.length cM)] 29,.cells [.v (.int .i64 0),.v (.bool false),.v (.int .u64 0),.v (.slice none 0 0),.v (.slice none 0 0),.v (.slice none 0 0),.v (.string (B []))] 26,srow (askSb L),.cells [.v (.int .i64 tn),.v (.bool true),.v (.int .u64 q6),.row 2,.row 4,.row 5,.v (.string (B []))] 26,srow (askUn true M),hrow (((M.take i.1).filter nmK).map hvN)]⟩) (fun i => M.length - i.1) ⟨0,Nat.zero_le _,Nat.zero_le _⟩ ⟨[0,1,2,3,6,5],by (refine LeR.of ?_ ?_ ?_ ?_ ?_ ?_ ?_ <;> first | (rw [hbl];decide) | decide | (simp only [GA,↓GB,GX,simprocAttr,GDs];done) | (simp only [GA,↓GB,GX,simprocAttr,GDs];rfl;done))⟩ ?_ <;> rintro ⟨i,hi,hi2⟩ <;> simp only [] at hi hi2 ⊢)|(refine SX.block ?_)|(refine and_mk ?_ ?_;(focus first | decide | omega | rfl | assumption | (simp only [LBs];omega) | (simp;done)))|(refine And.intro ?_ ?_))
  all_goals (try refine Done.mk ?_)
  · have := hfl i (by omega)
    omega
  · have hn2 : nmK (M.getD i 0) = true := by rw [← h16 i];simpa using hb
    have e := hrow_snoc (((M.take i).filter nmK).map hvN) (hvN (M.getD i 0))
    rw [hs1 i (by omega) hn2] at e
    exact ⟨⟨i + 1,by omega,by omega⟩,[0,1,2,3,4,7],by (refine LeR.of ?_ ?_ ?_ ?_ ?_ ?_ ?_ <;> first | (rw [hbl];decide) | decide | (simp only [GA,↓GB,GX,simprocAttr,GDs];done) | (simp only [GA,↓GB,GX,simprocAttr,GDs];first | (rw [wI64 (by omega) (by omega)];rfl) | exact e | (refine ⟨e,?_⟩;rfl) | rfl;done)),by show M.length - (i + 1) < M.length - i;omega⟩
  · have hn2 : nmK (M.getD i 0) = false := by rw [← h16 i];exact hb
    have e := hs0 i (by omega) hn2
    exact ⟨⟨i + 1,by omega,by omega⟩,[0,1,2,3,4,5],by (refine LeR.of ?_ ?_ ?_ ?_ ?_ ?_ ?_ <;> first | (rw [hbl];decide) | decide | (simp only [GA,↓GB,GX,simprocAttr,GDs];done) | (simp only [GA,↓GB,GX,simprocAttr,GDs];first | (rw [wI64 (by omega) (by omega)];rfl) | (rw [e];done) | (rw [← e];rfl) | rfl;done)),by show M.length - (i + 1) < M.length - i;omega⟩
  all_goals
    first
      | rw [ed hb] at hN0
      | rw [ed0 hb] at hN0
    first|(rw [ehv i (by omega)] at hN0;(refine hN0 _ _ ⟨[2,4,5],_,_,?_,?_,?_,⟨rfl,rfl⟩⟩;(focus exact LeR.of rfl trivial (by simp only [GA,↓GB,GX,simprocAttr,GDs]) (by decide) rfl rfl rfl);rotate_left;(focus rfl));rfl)|(rw [show askUn false M = [] from rfl,show askHv false M = [] from rfl,show hrow [] = LO.row 91 2 0 [] from rfl] at hN0;(refine hN0 _ _ ⟨[2,4,5],_,_,?_,?_,?_,⟨rfl,rfl⟩⟩;(focus exact LeR.of rfl trivial (by simp only [GA,↓GB,GX,simprocAttr,GDs]) (by decide) rfl rfl rfl);rotate_left;(focus rfl));rfl)
theorem tell_t (t : Int) (dl : Bool) (q v : Nat) (hq : q < 18446744073709551616) (a0 : Option Addr) (n0 c0 : Nat) (a1 : Option Addr) (n1 c1 : Nat) (qL : Option Addr) (L : List UInt8) (cL : Nat) (qM : Option Addr) (M : List UInt8) (cM : Nat) :
    CtrF Tryz.prog (fun X => FarLM X qL L qM M) 30 [] [.one (.agg [.v (.int .i64 t),.v (.bool dl),.v (.bool true),.v (.int .u64 q),.v (.int .u64 v),.v (.slice a0 n0 c0),.v (.slice a1 n1 c1),.v (.bool true),.v (.slice qL L.length cL),.v (.slice qM M.length cM)])]
      (fun os u => os = [mrow (tellRs (tN t) L),srow (tellRm dl M)] ∧ u = .one (.agg [.v (.int .i64 (tN t)),.v (.bool dl),.v (.bool dl),.v (.int .u64 (1 + q % 6 : Nat)),.v (.int .u64 v),.row 0,.row 1])) := by
  have hn1 : ∀ i,∀ w,Calls Tryz.prog 21 #[.int .u8 (L.getD i 0).toNat] w _ := fun i w => name_any (L.getD i 0).toNat (L.getD i 0).toNat_lt w
  have hn : ∀ i,∀ w,Calls Tryz.prog 21 #[.int .u8 (M.getD i 0).toNat] w _ := fun i w => name_any (M.getD i 0).toNat (M.getD i 0).toNat_lt w
  obtain ⟨u,hu⟩ : ∃ u : Int,IntKind.u64.wrap t = u := ⟨_,rfl⟩
  have hu2 : u = t % 18446744073709551616 := by rw [← hu,IntKind.wrap_u64]
  have m0 : 0 ≤ u := by rw [hu2];omega
  obtain ⟨m,hm⟩ : ∃ m : Int,u.tmod 5 = m := ⟨_,rfl⟩
  have hm2 : m = u % 5 := by rw [← hm,Int.tmod_eq_emod_of_nonneg m0]
  have hm5 : IntKind.i64.wrap m = m := wI64 (by omega) (by omega)
  obtain ⟨tn,htn0⟩ : ∃ tn : Int,(tN t : Int) = tn := ⟨_,rfl⟩
  have htn : IntKind.i64.wrap (1 + m) = tn := by rw [wI64 (by omega) (by omega),← htn0,tN,hm2,hu2];omega
  obtain ⟨q7,hq70⟩ : ∃ q7 : Int,((1 + q % 6 : Nat) : Int) = q7 := ⟨_,rfl⟩
  have hq6 : (q : Int).tmod 6 = ((q % 6 : Nat) : Int) := by rw [Int.tmod_eq_emod_of_nonneg (by omega)];omega
  have hq7 : IntKind.u64.wrap (1 + ((q % 6 : Nat) : Int)) = q7 := by rw [wU64 (by omega) (by omega),← hq70];omega
  rw [htn0,hq70]
  have k16 : ∀ x : UInt8,(((x.toNat : Int).tmod 16 != 15) = nmK x) := fun x => by
    rw [Int.tmod_eq_emod_of_nonneg (by omega),nmK]
    generalize x.toNat = x
    by_cases h : x % 16 = 15
    · have : (x : Int) % 16 = 15 := by omega
      simp only [h,this];rfl
    · have : ¬ (x : Int) % 16 = 15 := by omega
      simp only [h,decide_false,Bool.not_false,bne_iff_ne,ne_eq,this,not_false_iff]
  have hL16 : ∀ i,(((L.getD i 0).toNat : Int).tmod 16 != 15) = nmK (L.getD i 0) := fun i => k16 _
  have h16 : ∀ i,(((M.getD i 0).toNat : Int).tmod 16 != 15) = nmK (M.getD i 0) := fun i => k16 _
  have h8 : ∀ i,IntKind.u8.wrap (((L.getD i 0).toNat : Int).tdiv 8) = (((L.getD i 0).toNat / 8 : Nat) : Int) := fun i => by
    have := (L.getD i 0).toNat_lt
    rw [Int.tdiv_eq_ediv_of_nonneg (by omega),wB8 (by omega) (by omega)];omega
  have h64 : ∀ i,IntKind.u64.wrap (((L.getD i 0).toNat / 8 : Nat) : Int) = (((L.getD i 0).toNat / 8 : Nat) : Int) := fun i => by
    have := (L.getD i 0).toNat_lt
    exact wU64 (by omega) (by omega)
  have h65 : ∀ i,IntKind.u64.wrap (1 + (((L.getD i 0).toNat / 8 : Nat) : Int)) = ((1 + (L.getD i 0).toNat / 8 : Nat) : Int) := fun i => by
    have := (L.getD i 0).toNat_lt
    rw [wU64 (by omega) (by omega)];omega
  have tk : ∀ (M : List UInt8) i,i < M.length → nmK (M.getD i 0) = true → (M.take (i + 1)).filter nmK = (M.take i).filter nmK ++ [M.getD i 0] := fun M i hi h => by
    rw [List.take_add_one,List.getElem?_eq_getElem hi,List.filter_append]
    rw [List.getD_eq_getElem?_getD,List.getElem?_eq_getElem hi] at h ⊢
    simp only [Option.getD_some] at h
    simp only [Option.toList_some,List.filter_cons,h,if_true,List.filter_nil,Option.getD_some]
  have tk0 : ∀ (M : List UInt8) i,i < M.length → nmK (M.getD i 0) = false → (M.take i).filter nmK = (M.take (i + 1)).filter nmK := fun M i hi h => by
    rw [List.take_add_one,List.getElem?_eq_getElem hi,List.filter_append]
    rw [List.getD_eq_getElem?_getD,List.getElem?_eq_getElem hi] at h
    simp only [Option.getD_some] at h
    simp [h]
  have hfl : ∀ (M : List UInt8) i k,i ≤ k → ((M.take i).filter nmK).length ≤ k := fun M i k h => by
    have := filter_le nmK (M.take i)
    rw [List.length_take] at this
    omega
  have ers : ∀ i,(i = 12 ∨ L.length ≤ i) ∧ i ≤ 12 → tellRs tn L = ((L.take i).filter nmK).map (rsN tn) := fun i h => by
    rw [tellRs]
    rcases h with ⟨rfl | h,h2⟩
    · rfl
    · rw [List.take_of_length_le (i := 12) (by omega),List.take_of_length_le h]
  have erm : ∀ i,(dl = false → i = 0) → (dl = false ∨ i = 6 ∨ M.length ≤ i) → i ≤ 6 → tellRm dl M = ((M.take i).filter nmK).map nmV := fun i h0 h h2 => by
    cases dl with
    | false => rw [h0 rfl];rfl
    | true =>
      rcases h with h | rfl | h
      · cases h
      · rfl
      · rw [tellRm,if_pos rfl,List.take_of_length_le (i := 6) (by omega),List.take_of_length_le h]
  refine CtrF.less ?_
  intro X0 hP0 hG0 N0 hN0
  refine CallVC.inline (f := 30) (by rw [hP0];exact Tryz.func30) rfl Tryz.ntmps30 rfl (by simp) ?_
  intro X K hU hnt hbl hK
  have hP : X.P = Tryz.prog := hU.P.trans hP0
  have hG := hG0.under hU
  have hT := Ty.T30 hP
  simp only [GA,↓GB,GX,simprocAttr] at hbl ⊢
  have hGL := hG.l
  have hGM := hG.m
  have hk3 := True.intro
  repeat' (first|(refine SX.nilAt (j := 2) (k := 5) 139 5 rfl rfl ?_)|(refine SX.nilAt (j := 2) (k := 6) 9 1 rfl rfl ?_)|(refine uBlk (id := 1) (i := i) hGL (by omega) (fun ad hE D => ?_) <;> subst hE)|(refine uBlk (id := 3) (i := j) hGM (by omega) (fun ad hE D => ?_) <;> subst hE)|(refine SX.seqK ?_;intro N hN)|((first | (refine SX.ops ?_) | (refine SX.planT (id := 8) [.q [(0,[3]),(1,[56]),(2,[3]),(3,[58]),(4,[1]),(5,[60]),(6,[4]),(7,[61,62]),(8,[63]),(9,[64]),(10,[59,65]),(11,[1]),(12,[67]),(13,[4]),(14,[68,69]),(15,[70]),(16,[71]),(17,[72]),(18,[73]),(19,[66,74])] (some (20,[75])),.s 21,.s 22,.s 23] ?_ ?_ ?_;(focus first | (rw [hP];kernel_rfl) | (rw [hU1P,hP];kernel_rfl));(focus kernel_rfl)) | (refine SX.planT (id := 13) [.q [(0,[3]),(1,[101]),(2,[1]),(3,[103]),(4,[5]),(5,[104,105]),(6,[106]),(7,[107])] (some (8,[108])),.s 9,.s 10,.s 11] ?_ ?_ ?_;(focus first | (rw [hP];kernel_rfl) | (rw [hU1P,hP];kernel_rfl));(focus kernel_rfl)));simp only [GA,↓GB,GX,simprocAttr,hnt,hT,hu,hm,hm5,htn,hq6,hq7,hL16,h16,h8,h64,h65])|((first | refine SX.skip ?_ | refine SX.exit ?_ | refine SX.label ?_ | refine SX.ret ?_);try simp only [GA,↓GB,GX,simprocAttr])|(refine hN _ ?_;clear hN N)|((first | refine hK _ _ (FinI.ret3 ?_) | refine hK _ _ (FinI.nrm3 ?_));simp only [GA,↓GB,GX,simprocAttr,finP_s,hnt,hT,hu,hm,hm5,htn,hq6,hq7,hL16,h16,h8,h64,h65];refine Done.out ?_)|(clear hN N;first | (refine hN _ ?_;clear hN N) | (clear hN N;refine hN _ ?_;clear hN N))|((first | refine SX.cond rfl (fun hb => ?_) (fun hb => ?_) | (refine bif2.mk (fun hb => ?_) (fun hb => ?_) <;> (try simp only [hb,GA,↓GB,GX,simprocAttr,hnt,hT,hu,hm,hm5,htn,hq6,hq7,hL16,h16,h8,h64,h65]))) <;> ((first | cases hb | (simp only [HBs] at hb) | skip) <;> (first | (exfalso;omega) | skip)))|((first | (refine CallVC.pv hP (hn1 i) rfl ?_) | (refine CallQ.pv hP (hn1 i) rfl ?_) | (refine CallVC.pv hP (hn j) rfl ?_) | (refine CallQ.pv hP (hn j) rfl ?_));simp only [GA,↓GB,GX,simprocAttr,hnt,hT,hu,hm,hm5,htn,hq6,hq7,hL16,h16,h8,h64,h65])|(refine ⟨_,D.cell,?_⟩ <;> (try simp only [GA,↓GB,GX,simprocAttr,hnt,hT]))|(rw [add_block] <;> exact D.own)|(have hers := ers i (by omega) <;> refine SX.loop (ι := { i : Nat // (i ≤ M.length ∧ i ≤ 6) ∧ (dl = false → i = 0) }) (fun i => ⟨[(1,.one (.c (.loc 0 0))),(2,.one (.c (.loc 1 0))),(3,.one (.c (.loc 2 0))),(5,vv (.int .i64 i.1))],[.cells [.v (.int .i64 t),.v (.bool dl),.v (.bool true),.v (.int .u64 q),.v (.int .u64 v),.v (.slice a0 n0 c0),.v (.slice a1 n1 c1),.v (.bool true),.v (.slice qL L.length cL),.v (.slice qM M.length cM)] 70,.cells [.v (.int .i64 0),.v (.bool false),.v (.bool false),.v (.int .u64 0),.v (.int .u64 0),.v (.slice none 0 0),.v (.slice none 0 0)] 68,.cells [.v (.int .i64 tn),.v (.bool dl),.v (.bool dl),.v (.int .u64 q7),.v (.int .u64 v),.row 3,.row 4] 68,mrow (tellRs tn L),srow (((M.take i.1).filter nmK).map nmV)]⟩) (fun i => M.length - i.1) ⟨0,⟨Nat.zero_le _,Nat.zero_le _⟩,fun _ => rfl⟩ ⟨[0,1,2,3,4],by (refine LeR.of ?_ ?_ ?_ ?_ ?_ ?_ ?_ <;> first | (rw [hbl];decide) | decide | (simp only [GA,↓GB,GX,simprocAttr,GDs];done) | (simp only [GA,↓GB,GX,simprocAttr,GDs];first | (rw [hers];exact ⟨rfl,rfl⟩) | (rw [hers];rfl) | rfl;done))⟩ ?_ <;> rintro ⟨j,⟨hi,hi2⟩,hj⟩ <;> simp only [] at hi hi2 hj ⊢)|(refine SX.loop (ι := { i : Nat // i ≤ L.length ∧ i ≤ 12 }) (fun i => ⟨[(1,.one (.c (.loc 0 0))),(2,.one (.c (.loc 1 0))),(3,.one (.c (.loc 2 0))),(4,vv (.int .i64 i.1))],[.cells [.v (.int .i64 t),.v (.bool dl),.v (.bool true),.v (.int .u64 q),.v (.int .u64 v),.v (.slice a0 n0 c0),.v (.slice a1 n1 c1),.v (.bool true),.v (.slice qL L.length cL),.v (.slice qM M.length cM)] 70,.cells [.v (.int .i64 0),.v (.bool false),.v (.bool false),.v (.int .u64 0),.v (.int .u64 0),.v (.slice none 0 0),.v (.slice none 0 0)] 68,.cells [.v (.int .i64 tn),.v (.bool dl),.v (.bool dl),.v (.int .u64 q7),.v (.int .u64 v),.row 3,.row 4] 68,mrow (((L.take i.1).filter nmK).map (rsN tn)),.row 9 1 0 []]⟩) (fun i => L.length - i.1) ⟨0,Nat.zero_le _,Nat.zero_le _⟩ ⟨[0,1,2,3,4],by (refine LeR.of ?_ ?_ ?_ ?_ ?_ ?_ ?_ <;> first | (rw [hbl];decide) | decide | (simp only [GA,↓GB,GX,simprocAttr,GDs];done) | (simp only [GA,↓GB,GX,simprocAttr,GDs];rfl;done))⟩ ?_ <;> rintro ⟨i,hi,hi2⟩ <;> simp only [] at hi hi2 ⊢)|(refine SX.block ?_)|(refine and_mk ?_ ?_;(focus first | decide | omega | rfl | assumption | (simp only [LBs];omega) | (simp;done)))|(refine And.intro ?_ ?_))
  all_goals (try refine Done.mk ?_)
  · have := hfl L i 12 (by omega)
    rw [List.length_map]
    omega
  · have hn2 : nmK (L.getD i 0) = true := by rw [← hL16 i];simpa using hb
    have e := mrow_snoc (((L.take i).filter nmK).map (rsN tn)) (rsN tn (L.getD i 0))
    have e2 : ((L.take i).filter nmK).map (rsN tn) ++ [rsN tn (L.getD i 0)] = ((L.take (i + 1)).filter nmK).map (rsN tn) := by rw [tk L i (by omega) hn2,List.map_append];rfl
    rw [e2] at e
    exact ⟨⟨i + 1,by omega,by omega⟩,[0,1,2,6,4],by (refine LeR.of ?_ ?_ ?_ ?_ ?_ ?_ ?_ <;> first | (rw [hbl];decide) | decide | (simp only [GA,↓GB,GX,simprocAttr,GDs];done) | (simp only [GA,↓GB,GX,simprocAttr,GDs];first | (rw [wI64 (by omega) (by omega)];rfl) | exact e | exact ⟨e,rfl⟩ | rfl;done)),by show L.length - (i + 1) < L.length - i;omega⟩
  · have hn2 : nmK (L.getD i 0) = false := by rw [← hL16 i];exact hb
    have e := tk0 L i (by omega) hn2
    exact ⟨⟨i + 1,by omega,by omega⟩,[0,1,2,3,4],by (refine LeR.of ?_ ?_ ?_ ?_ ?_ ?_ ?_ <;> first | (rw [hbl];decide) | decide | (simp only [GA,↓GB,GX,simprocAttr,GDs];done) | (simp only [GA,↓GB,GX,simprocAttr,GDs];first | (rw [wI64 (by omega) (by omega)];rfl) | (rw [e];done) | (rw [← e];exact ⟨rfl,rfl⟩) | (rw [← e];rfl) | rfl;done)),by show L.length - (i + 1) < L.length - i;omega⟩
  · have := hfl M j 6 (by omega)
    rw [List.length_map]
    omega
  · have hn2 : nmK (M.getD j 0) = true := by rw [← h16 j];simpa using hb
    have e := srow_snoc (((M.take j).filter nmK).map nmV) (nmV (M.getD j 0))
    have e2 : ((M.take j).filter nmK).map nmV ++ [nmV (M.getD j 0)] = ((M.take (j + 1)).filter nmK).map nmV := by rw [tk M j (by omega) hn2,List.map_append];rfl
    rw [e2] at e
    exact ⟨⟨j + 1,⟨by omega,by omega⟩,fun h => by cases h⟩,[0,1,2,3,6],by (refine LeR.of ?_ ?_ ?_ ?_ ?_ ?_ ?_ <;> first | (rw [hbl];decide) | decide | (simp only [GA,↓GB,GX,simprocAttr,GDs];done) | (simp only [GA,↓GB,GX,simprocAttr,GDs];first | (rw [wI64 (by omega) (by omega)];rfl) | exact e | exact ⟨e,rfl⟩ | exact ⟨rfl,e⟩ | rfl;done)),by show M.length - (j + 1) < M.length - j;omega⟩
  · have hn2 : nmK (M.getD j 0) = false := by rw [← h16 j];exact hb
    have e := tk0 M j (by omega) hn2
    exact ⟨⟨j + 1,⟨by omega,by omega⟩,fun h => by cases h⟩,[0,1,2,3,4],by (refine LeR.of ?_ ?_ ?_ ?_ ?_ ?_ ?_ <;> first | (rw [hbl];decide) | decide | (simp only [GA,↓GB,GX,simprocAttr,GDs];done) | (simp only [GA,↓GB,GX,simprocAttr,GDs];first | (rw [wI64 (by omega) (by omega)];rfl) | (rw [e];done) | (rw [← e];exact ⟨rfl,rfl⟩) | (rw [← e];rfl) | rfl;done)),by show M.length - (j + 1) < M.length - j;omega⟩
  · rw [erm j hj (by first | exact .inl rfl | exact .inr (by omega)) (by omega)] at hN0
    (refine hN0 _ _ ⟨[3,4],_,_,?_,?_,?_,⟨rfl,rfl⟩⟩;(focus exact LeR.of rfl trivial (by simp only [GA,↓GB,GX,simprocAttr,GDs]) (by decide) rfl rfl rfl);rotate_left;(focus rfl))
    rfl
  · rw [erm j hj (by first | exact .inl rfl | exact .inr (by omega)) (by omega)] at hN0
    (refine hN0 _ _ ⟨[3,4],_,_,?_,?_,?_,⟨rfl,rfl⟩⟩;(focus exact LeR.of rfl trivial (by simp only [GA,↓GB,GX,simprocAttr,GDs]) (by decide) rfl rfl rfl);rotate_left;(focus rfl))
    rfl
  · rw [erm j hj (by first | exact .inl rfl | exact .inr (by omega)) (by omega)] at hN0
    (refine hN0 _ _ ⟨[3,4],_,_,?_,?_,?_,⟨rfl,rfl⟩⟩;(focus exact LeR.of rfl trivial (by simp only [GA,↓GB,GX,simprocAttr,GDs]) (by decide) rfl rfl rfl);rotate_left;(focus rfl))
    rfl
  · have := hfl M j 6 (by omega)
    rw [List.length_map]
    omega
  · have hn2 : nmK (M.getD j 0) = true := by rw [← h16 j];simpa using hb
    have e := srow_snoc (((M.take j).filter nmK).map nmV) (nmV (M.getD j 0))
    have e2 : ((M.take j).filter nmK).map nmV ++ [nmV (M.getD j 0)] = ((M.take (j + 1)).filter nmK).map nmV := by rw [tk M j (by omega) hn2,List.map_append];rfl
    rw [e2] at e
    exact ⟨⟨j + 1,⟨by omega,by omega⟩,fun h => by cases h⟩,[0,1,2,3,6],by (refine LeR.of ?_ ?_ ?_ ?_ ?_ ?_ ?_ <;> first | (rw [hbl];decide) | decide | (simp only [GA,↓GB,GX,simprocAttr,GDs];done) | (simp only [GA,↓GB,GX,simprocAttr,GDs];first | (rw [wI64 (by omega) (by omega)];rfl) | exact e | exact ⟨e,rfl⟩ | exact ⟨rfl,e⟩ | rfl;done)),by show M.length - (j + 1) < M.length - j;omega⟩
  · have hn2 : nmK (M.getD j 0) = false := by rw [← h16 j];exact hb
    have e := tk0 M j (by omega) hn2
    exact ⟨⟨j + 1,⟨by omega,by omega⟩,fun h => by cases h⟩,[0,1,2,3,4],by (refine LeR.of ?_ ?_ ?_ ?_ ?_ ?_ ?_ <;> first | (rw [hbl];decide) | decide | (simp only [GA,↓GB,GX,simprocAttr,GDs];done) | (simp only [GA,↓GB,GX,simprocAttr,GDs];first | (rw [wI64 (by omega) (by omega)];rfl) | (rw [e];done) | (rw [← e];exact ⟨rfl,rfl⟩) | (rw [← e];rfl) | rfl;done)),by show M.length - (j + 1) < M.length - j;omega⟩
  · rw [erm j hj (by first | exact .inl rfl | exact .inr (by omega)) (by omega)] at hN0
    (refine hN0 _ _ ⟨[3,4],_,_,?_,?_,?_,⟨rfl,rfl⟩⟩;(focus exact LeR.of rfl trivial (by simp only [GA,↓GB,GX,simprocAttr,GDs]) (by decide) rfl rfl rfl);rotate_left;(focus rfl))
    rfl
  · rw [erm j hj (by first | exact .inl rfl | exact .inr (by omega)) (by omega)] at hN0
    (refine hN0 _ _ ⟨[3,4],_,_,?_,?_,?_,⟨rfl,rfl⟩⟩;(focus exact LeR.of rfl trivial (by simp only [GA,↓GB,GX,simprocAttr,GDs]) (by decide) rfl rfl rfl);rotate_left;(focus rfl))
    rfl
  · rw [erm j hj (by first | exact .inl rfl | exact .inr (by omega)) (by omega)] at hN0
    (refine hN0 _ _ ⟨[3,4],_,_,?_,?_,?_,⟨rfl,rfl⟩⟩;(focus exact LeR.of rfl trivial (by simp only [GA,↓GB,GX,simprocAttr,GDs]) (by decide) rfl rfl rfl);rotate_left;(focus rfl))
    rfl
theorem tell_f (t : Int) (dl : Bool) (q v : Nat) (hq : q < 18446744073709551616) (a0 : Option Addr) (n0 c0 : Nat) (a1 : Option Addr) (n1 c1 : Nat) (qL : Option Addr) (L : List UInt8) (cL : Nat) (qM : Option Addr) (M : List UInt8) (cM : Nat) :
    CtrF Tryz.prog (fun X => FarLM X qL L qM M) 30 [] [.one (.agg [.v (.int .i64 t),.v (.bool dl),.v (.bool false),.v (.int .u64 q),.v (.int .u64 v),.v (.slice a0 n0 c0),.v (.slice a1 n1 c1),.v (.bool true),.v (.slice qL L.length cL),.v (.slice qM M.length cM)])]
      (fun os u => os = [mrow (tellRs (tN t) L),srow (tellRm dl M)] ∧ u = .one (.agg [.v (.int .i64 (tN t)),.v (.bool dl),.v (.bool false),.v (.int .u64 (1 + q % 6 : Nat)),.v (.int .u64 v),.row 0,.row 1])) := by
  have hn1 : ∀ i,∀ w,Calls Tryz.prog 21 #[.int .u8 (L.getD i 0).toNat] w _ := fun i w => name_any (L.getD i 0).toNat (L.getD i 0).toNat_lt w
  have hn : ∀ i,∀ w,Calls Tryz.prog 21 #[.int .u8 (M.getD i 0).toNat] w _ := fun i w => name_any (M.getD i 0).toNat (M.getD i 0).toNat_lt w
  obtain ⟨u,hu⟩ : ∃ u : Int,IntKind.u64.wrap t = u := ⟨_,rfl⟩
  have hu2 : u = t % 18446744073709551616 := by rw [← hu,IntKind.wrap_u64]
  have m0 : 0 ≤ u := by rw [hu2];omega
  obtain ⟨m,hm⟩ : ∃ m : Int,u.tmod 5 = m := ⟨_,rfl⟩
  have hm2 : m = u % 5 := by rw [← hm,Int.tmod_eq_emod_of_nonneg m0]
  have hm5 : IntKind.i64.wrap m = m := wI64 (by omega) (by omega)
  obtain ⟨tn,htn0⟩ : ∃ tn : Int,(tN t : Int) = tn := ⟨_,rfl⟩
  have htn : IntKind.i64.wrap (1 + m) = tn := by rw [wI64 (by omega) (by omega),← htn0,tN,hm2,hu2];omega
  obtain ⟨q7,hq70⟩ : ∃ q7 : Int,((1 + q % 6 : Nat) : Int) = q7 := ⟨_,rfl⟩
  have hq6 : (q : Int).tmod 6 = ((q % 6 : Nat) : Int) := by rw [Int.tmod_eq_emod_of_nonneg (by omega)];omega
  have hq7 : IntKind.u64.wrap (1 + ((q % 6 : Nat) : Int)) = q7 := by rw [wU64 (by omega) (by omega),← hq70];omega
  rw [htn0,hq70]
  have k16 : ∀ x : UInt8,(((x.toNat : Int).tmod 16 != 15) = nmK x) := fun x => by
    rw [Int.tmod_eq_emod_of_nonneg (by omega),nmK]
    generalize x.toNat = x
    by_cases h : x % 16 = 15
    · have : (x : Int) % 16 = 15 := by omega
      simp only [h,this];rfl
    · have : ¬ (x : Int) % 16 = 15 := by omega
      simp only [h,decide_false,Bool.not_false,bne_iff_ne,ne_eq,this,not_false_iff]
  have hL16 : ∀ i,(((L.getD i 0).toNat : Int).tmod 16 != 15) = nmK (L.getD i 0) := fun i => k16 _
  have h16 : ∀ i,(((M.getD i 0).toNat : Int).tmod 16 != 15) = nmK (M.getD i 0) := fun i => k16 _
  have h8 : ∀ i,IntKind.u8.wrap (((L.getD i 0).toNat : Int).tdiv 8) = (((L.getD i 0).toNat / 8 : Nat) : Int) := fun i => by
    have := (L.getD i 0).toNat_lt
    rw [Int.tdiv_eq_ediv_of_nonneg (by omega),wB8 (by omega) (by omega)];omega
  have h64 : ∀ i,IntKind.u64.wrap (((L.getD i 0).toNat / 8 : Nat) : Int) = (((L.getD i 0).toNat / 8 : Nat) : Int) := fun i => by
    have := (L.getD i 0).toNat_lt
    exact wU64 (by omega) (by omega)
  have h65 : ∀ i,IntKind.u64.wrap (1 + (((L.getD i 0).toNat / 8 : Nat) : Int)) = ((1 + (L.getD i 0).toNat / 8 : Nat) : Int) := fun i => by
    have := (L.getD i 0).toNat_lt
    rw [wU64 (by omega) (by omega)];omega
  have tk : ∀ (M : List UInt8) i,i < M.length → nmK (M.getD i 0) = true → (M.take (i + 1)).filter nmK = (M.take i).filter nmK ++ [M.getD i 0] := fun M i hi h => by
    rw [List.take_add_one,List.getElem?_eq_getElem hi,List.filter_append]
    rw [List.getD_eq_getElem?_getD,List.getElem?_eq_getElem hi] at h ⊢
    simp only [Option.getD_some] at h
    simp only [Option.toList_some,List.filter_cons,h,if_true,List.filter_nil,Option.getD_some]
  have tk0 : ∀ (M : List UInt8) i,i < M.length → nmK (M.getD i 0) = false → (M.take i).filter nmK = (M.take (i + 1)).filter nmK := fun M i hi h => by
    rw [List.take_add_one,List.getElem?_eq_getElem hi,List.filter_append]
    rw [List.getD_eq_getElem?_getD,List.getElem?_eq_getElem hi] at h
    simp only [Option.getD_some] at h
    simp [h]
  have hfl : ∀ (M : List UInt8) i k,i ≤ k → ((M.take i).filter nmK).length ≤ k := fun M i k h => by
    have := filter_le nmK (M.take i)
    rw [List.length_take] at this
    omega
  have ers : ∀ i,(i = 12 ∨ L.length ≤ i) ∧ i ≤ 12 → tellRs tn L = ((L.take i).filter nmK).map (rsN tn) := fun i h => by
    rw [tellRs]
    rcases h with ⟨rfl | h,h2⟩
    · rfl
    · rw [List.take_of_length_le (i := 12) (by omega),List.take_of_length_le h]
  have erm : ∀ i,(dl = false → i = 0) → (dl = false ∨ i = 6 ∨ M.length ≤ i) → i ≤ 6 → tellRm dl M = ((M.take i).filter nmK).map nmV := fun i h0 h h2 => by
    cases dl with
    | false => rw [h0 rfl];rfl
    | true =>
      rcases h with h | rfl | h
      · cases h
      · rfl
      · rw [tellRm,if_pos rfl,List.take_of_length_le (i := 6) (by omega),List.take_of_length_le h]
  refine CtrF.less ?_
  intro X0 hP0 hG0 N0 hN0
  refine CallVC.inline (f := 30) (by rw [hP0];exact Tryz.func30) rfl Tryz.ntmps30 rfl (by simp) ?_
  intro X K hU hnt hbl hK
  have hP : X.P = Tryz.prog := hU.P.trans hP0
  have hG := hG0.under hU
  have hT := Ty.T30 hP
  simp only [GA,↓GB,GX,simprocAttr] at hbl ⊢
  have hGL := hG.l
  have hGM := hG.m
  have hk3 := True.intro
  repeat' (first|(refine SX.nilAt (j := 2) (k := 5) 139 5 rfl rfl ?_)|(refine SX.nilAt (j := 2) (k := 6) 9 1 rfl rfl ?_)|(refine uBlk (id := 1) (i := i) hGL (by omega) (fun ad hE D => ?_) <;> subst hE)|(refine uBlk (id := 3) (i := j) hGM (by omega) (fun ad hE D => ?_) <;> subst hE)|(refine SX.seqK ?_;intro N hN)|((first | (refine SX.ops ?_) | (refine SX.planT (id := 8) [.q [(0,[3]),(1,[56]),(2,[3]),(3,[58]),(4,[1]),(5,[60]),(6,[4]),(7,[61,62]),(8,[63]),(9,[64]),(10,[59,65]),(11,[1]),(12,[67]),(13,[4]),(14,[68,69]),(15,[70]),(16,[71]),(17,[72]),(18,[73]),(19,[66,74])] (some (20,[75])),.s 21,.s 22,.s 23] ?_ ?_ ?_;(focus first | (rw [hP];kernel_rfl) | (rw [hU1P,hP];kernel_rfl));(focus kernel_rfl)) | (refine SX.planT (id := 13) [.q [(0,[3]),(1,[101]),(2,[1]),(3,[103]),(4,[5]),(5,[104,105]),(6,[106]),(7,[107])] (some (8,[108])),.s 9,.s 10,.s 11] ?_ ?_ ?_;(focus first | (rw [hP];kernel_rfl) | (rw [hU1P,hP];kernel_rfl));(focus kernel_rfl)));simp only [GA,↓GB,GX,simprocAttr,hnt,hT,hu,hm,hm5,htn,hq6,hq7,hL16,h16,h8,h64,h65])|((first | refine SX.skip ?_ | refine SX.exit ?_ | refine SX.label ?_ | refine SX.ret ?_);try simp only [GA,↓GB,GX,simprocAttr])|(refine hN _ ?_;clear hN N)|((first | refine hK _ _ (FinI.ret3 ?_) | refine hK _ _ (FinI.nrm3 ?_));simp only [GA,↓GB,GX,simprocAttr,finP_s,hnt,hT,hu,hm,hm5,htn,hq6,hq7,hL16,h16,h8,h64,h65];refine Done.out ?_)|(clear hN N;first | (refine hN _ ?_;clear hN N) | (clear hN N;refine hN _ ?_;clear hN N))|((first | refine SX.cond rfl (fun hb => ?_) (fun hb => ?_) | (refine bif2.mk (fun hb => ?_) (fun hb => ?_) <;> (try simp only [hb,GA,↓GB,GX,simprocAttr,hnt,hT,hu,hm,hm5,htn,hq6,hq7,hL16,h16,h8,h64,h65]))) <;> ((first | cases hb | (simp only [HBs] at hb) | skip) <;> (first | (exfalso;omega) | skip)))|((first | (refine CallVC.pv hP (hn1 i) rfl ?_) | (refine CallQ.pv hP (hn1 i) rfl ?_) | (refine CallVC.pv hP (hn j) rfl ?_) | (refine CallQ.pv hP (hn j) rfl ?_));simp only [GA,↓GB,GX,simprocAttr,hnt,hT,hu,hm,hm5,htn,hq6,hq7,hL16,h16,h8,h64,h65])|(refine ⟨_,D.cell,?_⟩ <;> (try simp only [GA,↓GB,GX,simprocAttr,hnt,hT]))|(rw [add_block] <;> exact D.own)|(have hers := ers i (by omega) <;> refine SX.loop (ι := { i : Nat // (i ≤ M.length ∧ i ≤ 6) ∧ (dl = false → i = 0) }) (fun i => ⟨[(1,.one (.c (.loc 0 0))),(2,.one (.c (.loc 1 0))),(3,.one (.c (.loc 2 0))),(5,vv (.int .i64 i.1))],[.cells [.v (.int .i64 t),.v (.bool dl),.v (.bool false),.v (.int .u64 q),.v (.int .u64 v),.v (.slice a0 n0 c0),.v (.slice a1 n1 c1),.v (.bool true),.v (.slice qL L.length cL),.v (.slice qM M.length cM)] 70,.cells [.v (.int .i64 0),.v (.bool false),.v (.bool false),.v (.int .u64 0),.v (.int .u64 0),.v (.slice none 0 0),.v (.slice none 0 0)] 68,.cells [.v (.int .i64 tn),.v (.bool dl),.v (.bool false),.v (.int .u64 q7),.v (.int .u64 v),.row 3,.row 4] 68,mrow (tellRs tn L),srow (((M.take i.1).filter nmK).map nmV)]⟩) (fun i => M.length - i.1) ⟨0,⟨Nat.zero_le _,Nat.zero_le _⟩,fun _ => rfl⟩ ⟨[0,1,2,3,4],by (refine LeR.of ?_ ?_ ?_ ?_ ?_ ?_ ?_ <;> first | (rw [hbl];decide) | decide | (simp only [GA,↓GB,GX,simprocAttr,GDs];done) | (simp only [GA,↓GB,GX,simprocAttr,GDs];first | (rw [hers];exact ⟨rfl,rfl⟩) | (rw [hers];rfl) | rfl;done))⟩ ?_ <;> rintro ⟨j,⟨hi,hi2⟩,hj⟩ <;> simp only [] at hi hi2 hj ⊢)|(refine SX.loop (ι := { i : Nat // i ≤ L.length ∧ i ≤ 12 }) (fun i => ⟨[(1,.one (.c (.loc 0 0))),(2,.one (.c (.loc 1 0))),(3,.one (.c (.loc 2 0))),(4,vv (.int .i64 i.1))],[.cells [.v (.int .i64 t),.v (.bool dl),.v (.bool false),.v (.int .u64 q),.v (.int .u64 v),.v (.slice a0 n0 c0),.v (.slice a1 n1 c1),.v (.bool true),.v (.slice qL L.length cL),.v (.slice qM M.length cM)] 70,.cells [.v (.int .i64 0),.v (.bool false),.v (.bool false),.v (.int .u64 0),.v (.int .u64 0),.v (.slice none 0 0),.v (.slice none 0 0)] 68,.cells [.v (.int .i64 tn),.v (.bool dl),.v (.bool false),.v (.int .u64 q7),.v (.int .u64 v),.row 3,.row 4] 68,mrow (((L.take i.1).filter nmK).map (rsN tn)),.row 9 1 0 []]⟩) (fun i => L.length - i.1) ⟨0,Nat.zero_le _,Nat.zero_le _⟩ ⟨[0,1,2,3,4],by (refine LeR.of ?_ ?_ ?_ ?_ ?_ ?_ ?_ <;> first | (rw [hbl];decide) | decide | (simp only [GA,↓GB,GX,simprocAttr,GDs];done) | (simp only [GA,↓GB,GX,simprocAttr,GDs];rfl;done))⟩ ?_ <;> rintro ⟨i,hi,hi2⟩ <;> simp only [] at hi hi2 ⊢)|(refine SX.block ?_)|(refine and_mk ?_ ?_;(focus first | decide | omega | rfl | assumption | (simp only [LBs];omega) | (simp;done)))|(refine And.intro ?_ ?_))
  all_goals (try refine Done.mk ?_)
  · have := hfl L i 12 (by omega)
    rw [List.length_map]
    omega
  · have hn2 : nmK (L.getD i 0) = true := by rw [← hL16 i];simpa using hb
    have e := mrow_snoc (((L.take i).filter nmK).map (rsN tn)) (rsN tn (L.getD i 0))
    have e2 : ((L.take i).filter nmK).map (rsN tn) ++ [rsN tn (L.getD i 0)] = ((L.take (i + 1)).filter nmK).map (rsN tn) := by rw [tk L i (by omega) hn2,List.map_append];rfl
    rw [e2] at e
    exact ⟨⟨i + 1,by omega,by omega⟩,[0,1,2,6,4],by (refine LeR.of ?_ ?_ ?_ ?_ ?_ ?_ ?_ <;> first | (rw [hbl];decide) | decide | (simp only [GA,↓GB,GX,simprocAttr,GDs];done) | (simp only [GA,↓GB,GX,simprocAttr,GDs];first | (rw [wI64 (by omega) (by omega)];rfl) | exact e | exact ⟨e,rfl⟩ | rfl;done)),by show L.length - (i + 1) < L.length - i;omega⟩
  · have hn2 : nmK (L.getD i 0) = false := by rw [← hL16 i];exact hb
    have e := tk0 L i (by omega) hn2
    exact ⟨⟨i + 1,by omega,by omega⟩,[0,1,2,3,4],by (refine LeR.of ?_ ?_ ?_ ?_ ?_ ?_ ?_ <;> first | (rw [hbl];decide) | decide | (simp only [GA,↓GB,GX,simprocAttr,GDs];done) | (simp only [GA,↓GB,GX,simprocAttr,GDs];first | (rw [wI64 (by omega) (by omega)];rfl) | (rw [e];done) | (rw [← e];exact ⟨rfl,rfl⟩) | (rw [← e];rfl) | rfl;done)),by show L.length - (i + 1) < L.length - i;omega⟩
  · have := hfl M j 6 (by omega)
    rw [List.length_map]
    omega
  · have hn2 : nmK (M.getD j 0) = true := by rw [← h16 j];simpa using hb
    have e := srow_snoc (((M.take j).filter nmK).map nmV) (nmV (M.getD j 0))
    have e2 : ((M.take j).filter nmK).map nmV ++ [nmV (M.getD j 0)] = ((M.take (j + 1)).filter nmK).map nmV := by rw [tk M j (by omega) hn2,List.map_append];rfl
    rw [e2] at e
    exact ⟨⟨j + 1,⟨by omega,by omega⟩,fun h => by cases h⟩,[0,1,2,3,6],by (refine LeR.of ?_ ?_ ?_ ?_ ?_ ?_ ?_ <;> first | (rw [hbl];decide) | decide | (simp only [GA,↓GB,GX,simprocAttr,GDs];done) | (simp only [GA,↓GB,GX,simprocAttr,GDs];first | (rw [wI64 (by omega) (by omega)];rfl) | exact e | exact ⟨e,rfl⟩ | exact ⟨rfl,e⟩ | rfl;done)),by show M.length - (j + 1) < M.length - j;omega⟩
  · have hn2 : nmK (M.getD j 0) = false := by rw [← h16 j];exact hb
    have e := tk0 M j (by omega) hn2
    exact ⟨⟨j + 1,⟨by omega,by omega⟩,fun h => by cases h⟩,[0,1,2,3,4],by (refine LeR.of ?_ ?_ ?_ ?_ ?_ ?_ ?_ <;> first | (rw [hbl];decide) | decide | (simp only [GA,↓GB,GX,simprocAttr,GDs];done) | (simp only [GA,↓GB,GX,simprocAttr,GDs];first | (rw [wI64 (by omega) (by omega)];rfl) | (rw [e];done) | (rw [← e];exact ⟨rfl,rfl⟩) | (rw [← e];rfl) | rfl;done)),by show M.length - (j + 1) < M.length - j;omega⟩
  · rw [erm j hj (by first | exact .inl rfl | exact .inr (by omega)) (by omega)] at hN0
    (refine hN0 _ _ ⟨[3,4],_,_,?_,?_,?_,⟨rfl,rfl⟩⟩;(focus exact LeR.of rfl trivial (by simp only [GA,↓GB,GX,simprocAttr,GDs]) (by decide) rfl rfl rfl);rotate_left;(focus rfl))
    rfl
  · rw [erm j hj (by first | exact .inl rfl | exact .inr (by omega)) (by omega)] at hN0
    (refine hN0 _ _ ⟨[3,4],_,_,?_,?_,?_,⟨rfl,rfl⟩⟩;(focus exact LeR.of rfl trivial (by simp only [GA,↓GB,GX,simprocAttr,GDs]) (by decide) rfl rfl rfl);rotate_left;(focus rfl))
    rfl
  · rw [erm j hj (by first | exact .inl rfl | exact .inr (by omega)) (by omega)] at hN0
    (refine hN0 _ _ ⟨[3,4],_,_,?_,?_,?_,⟨rfl,rfl⟩⟩;(focus exact LeR.of rfl trivial (by simp only [GA,↓GB,GX,simprocAttr,GDs]) (by decide) rfl rfl rfl);rotate_left;(focus rfl))
    rfl
  · have := hfl M j 6 (by omega)
    rw [List.length_map]
    omega
  · have hn2 : nmK (M.getD j 0) = true := by rw [← h16 j];simpa using hb
    have e := srow_snoc (((M.take j).filter nmK).map nmV) (nmV (M.getD j 0))
    have e2 : ((M.take j).filter nmK).map nmV ++ [nmV (M.getD j 0)] = ((M.take (j + 1)).filter nmK).map nmV := by rw [tk M j (by omega) hn2,List.map_append];rfl
    rw [e2] at e
    exact ⟨⟨j + 1,⟨by omega,by omega⟩,fun h => by cases h⟩,[0,1,2,3,6],by (refine LeR.of ?_ ?_ ?_ ?_ ?_ ?_ ?_ <;> first | (rw [hbl];decide) | decide | (simp only [GA,↓GB,GX,simprocAttr,GDs];done) | (simp only [GA,↓GB,GX,simprocAttr,GDs];first | (rw [wI64 (by omega) (by omega)];rfl) | exact e | exact ⟨e,rfl⟩ | exact ⟨rfl,e⟩ | rfl;done)),by show M.length - (j + 1) < M.length - j;omega⟩
  · have hn2 : nmK (M.getD j 0) = false := by rw [← h16 j];exact hb
    have e := tk0 M j (by omega) hn2
    exact ⟨⟨j + 1,⟨by omega,by omega⟩,fun h => by cases h⟩,[0,1,2,3,4],by (refine LeR.of ?_ ?_ ?_ ?_ ?_ ?_ ?_ <;> first | (rw [hbl];decide) | decide | (simp only [GA,↓GB,GX,simprocAttr,GDs];done) | (simp only [GA,↓GB,GX,simprocAttr,GDs];first | (rw [wI64 (by omega) (by omega)];rfl) | (rw [e];done) | (rw [← e];exact ⟨rfl,rfl⟩) | (rw [← e];rfl) | rfl;done)),by show M.length - (j + 1) < M.length - j;omega⟩
  · rw [erm j hj (by first | exact .inl rfl | exact .inr (by omega)) (by omega)] at hN0
    (refine hN0 _ _ ⟨[3,4],_,_,?_,?_,?_,⟨rfl,rfl⟩⟩;(focus exact LeR.of rfl trivial (by simp only [GA,↓GB,GX,simprocAttr,GDs]) (by decide) rfl rfl rfl);rotate_left;(focus rfl))
    rfl
  · rw [erm j hj (by first | exact .inl rfl | exact .inr (by omega)) (by omega)] at hN0
    (refine hN0 _ _ ⟨[3,4],_,_,?_,?_,?_,⟨rfl,rfl⟩⟩;(focus exact LeR.of rfl trivial (by simp only [GA,↓GB,GX,simprocAttr,GDs]) (by decide) rfl rfl rfl);rotate_left;(focus rfl))
    rfl
  · rw [erm j hj (by first | exact .inl rfl | exact .inr (by omega)) (by omega)] at hN0
    (refine hN0 _ _ ⟨[3,4],_,_,?_,?_,?_,⟨rfl,rfl⟩⟩;(focus exact LeR.of rfl trivial (by simp only [GA,↓GB,GX,simprocAttr,GDs]) (by decide) rfl rfl rfl);rotate_left;(focus rfl))
    rfl
theorem tell_ctr (t : Int) (dl mo : Bool) (q v : Nat) (hq : q < 18446744073709551616) (a0 : Option Addr) (n0 c0 : Nat) (a1 : Option Addr) (n1 c1 : Nat) (qL : Option Addr) (L : List UInt8) (cL : Nat) (qM : Option Addr) (M : List UInt8) (cM : Nat) :
    CtrF Tryz.prog (fun X => FarLM X qL L qM M) 30 [] [.one (.agg [.v (.int .i64 t),.v (.bool dl),.v (.bool mo),.v (.int .u64 q),.v (.int .u64 v),.v (.slice a0 n0 c0),.v (.slice a1 n1 c1),.v (.bool true),.v (.slice qL L.length cL),.v (.slice qM M.length cM)])]
      (fun os u => os = [mrow (tellRs (tN t) L),srow (tellRm dl M)] ∧ u = .one (.agg [.v (.int .i64 (tN t)),.v (.bool dl),.v (.bool (mo && dl)),.v (.int .u64 (1 + q % 6 : Nat)),.v (.int .u64 v),.row 0,.row 1])) := by
  cases mo with
  | true => exact tell_t t dl q v hq a0 n0 c0 a1 n1 c1 qL L cL qM M cM
  | false => exact tell_f t dl q v hq a0 n0 c0 a1 n1 c1 qL L cL qM M cM
end Go.Proofs.YtbdacbcpniegiaaGreatDoor.Q
namespace Go.Proofs.YtbdacbcpniegiaaGreatDoor.Q
open Go Go.RowKit Go.Proofs Go.Sx Go.ChangeShapes
theorem nKind : Tryz.prog.globalNamed "noria/message.errKind" = some 1 := by kernel_rfl
theorem nForm : Tryz.prog.globalNamed "noria/message.errForm" = some 0 := by kernel_rfl
theorem tKind : (Tryz.prog.globals[1]?).map (·.type) = some 98 := by kernel_rfl
theorem tForm : (Tryz.prog.globals[0]?).map (·.type) = some 98 := by kernel_rfl
theorem ge_of_laid {W : World} {n0 n3 : String} {d0 d3 : DataW Unit} (h : laidMet Tryz.prog [(n0,d0),("noria/wire.errShort",Rows.laid_noria_wire_errShort),("noria/wire.errWrong",Rows.laid_noria_wire_errWrong),("noria/message.errKind",Rows.laid_noria_message_errKind),("noria/message.errForm",Rows.laid_noria_message_errForm),(n3,d3)] W) :
    ∃ e : EA,e.Ok ∧ ∀ p ∈ GE e,W.cell? p.1 = some p.2 ∧ loneStr W p := by
  obtain ⟨ps,⟨gx,tx,csx,fx,px,qx,hgx,htx,hvx,hdx,⟨gz,tz,csz,fz,pz,qz,hgz,htz,hvz,hdz,⟨gw,tw,csw,fw,pw,qw,hgw,htw,hvw,hdw,⟨gk,tk,csk,fk,pk,qk,hgk,htk,hvk,hdk,⟨gf,tf,csf,ff,pf,qf,hgf,htf,hvf,hdf,hq9,ef⟩,ek⟩,ew⟩,ez⟩,ex⟩,hnd,hrows⟩ := h
  obtain rfl := Option.some.inj (nShort.symm.trans hgz)
  obtain rfl := Option.some.inj (tShort.symm.trans htz)
  obtain rfl := Option.some.inj (nWrong.symm.trans hgw)
  obtain rfl := Option.some.inj (tWrong.symm.trans htw)
  obtain rfl := Option.some.inj (nKind.symm.trans hgk)
  obtain rfl := Option.some.inj (tKind.symm.trans htk)
  obtain rfl := Option.some.inj (nForm.symm.trans hgf)
  obtain rfl := Option.some.inj (tForm.symm.trans htf)
  subst ef
  subst ek
  subst ew
  subst ez
  subst ex
  obtain ⟨lz⟩ := csz
  obtain ⟨lw⟩ := csw
  obtain ⟨lk⟩ := csk
  obtain ⟨lf⟩ := csf
  have okz : ∀ u v,lz = [.iface u v] → Value.okWide Tryz.prog W .any 0 u v := fun u v e => by
    subst e
    exact (hrows 2 0 (by simp [MemPlace.row])).2 u v (by simpa using World.var?_cell hgz hvz 0)
  have okw : ∀ u v,lw = [.iface u v] → Value.okWide Tryz.prog W .any 0 u v := fun u v e => by
    subst e
    exact (hrows 3 0 (by simp [MemPlace.row])).2 u v (by simpa using World.var?_cell hgw hvw 0)
  have okk : ∀ u v,lk = [.iface u v] → Value.okWide Tryz.prog W .any 0 u v := fun u v e => by
    subst e
    exact (hrows 1 0 (by simp [MemPlace.row])).2 u v (by simpa using World.var?_cell hgk hvk 0)
  have okf : ∀ u v,lf = [.iface u v] → Value.okWide Tryz.prog W .any 0 u v := fun u v e => by
    subst e
    exact (hrows 0 0 (by simp [MemPlace.row])).2 u v (by simpa using World.var?_cell hgf hvf 0)
  obtain ⟨az,sz,rfl,hcz,hsz,hzz,rfl⟩ := errorString_of_trod Tryz.underlying98 row253 Tryz.underlying211 Tryz.underlying235 rfl rfl Tryz.underlying9 c277 c9 hdz okz
  obtain ⟨aw,sw,rfl,hcw,hsw,hzw,rfl⟩ := errorString_of_trod Tryz.underlying98 row253 Tryz.underlying211 Tryz.underlying235 rfl rfl Tryz.underlying9 c277 c9 hdw okw
  obtain ⟨ak,sk,rfl,hck,hsk,hzk,rfl⟩ := errorString_of_trod Tryz.underlying98 row253 Tryz.underlying211 Tryz.underlying235 rfl rfl Tryz.underlying9 c277 c9 hdk okk
  obtain ⟨af,sf,rfl,hcf,hsf,hzf,rfl⟩ := errorString_of_trod Tryz.underlying98 row253 Tryz.underlying211 Tryz.underlying235 rfl rfl Tryz.underlying9 c277 c9 hdf okf
  obtain ⟨bz,uz,hbz⟩ := (hrows az.block az.off (by simp [MemPlace.row])).1
  have hxz : W.cell? ⟨2,0,none⟩ = some (errV az) := by simpa using World.var?_cell hgz hvz 0
  obtain ⟨bw,uw,hbw⟩ := (hrows aw.block aw.off (by simp [MemPlace.row])).1
  have hxw : W.cell? ⟨3,0,none⟩ = some (errV aw) := by simpa using World.var?_cell hgw hvw 0
  obtain ⟨bk,uk,hbk⟩ := (hrows ak.block ak.off (by simp [MemPlace.row])).1
  have hxk : W.cell? ⟨1,0,none⟩ = some (errV ak) := by simpa using World.var?_cell hgk hvk 0
  obtain ⟨bf,uf,hbf⟩ := (hrows af.block af.off (by simp [MemPlace.row])).1
  have hxf : W.cell? ⟨0,0,none⟩ = some (errV af) := by simpa using World.var?_cell hgf hvf 0
  have key : ∀ (s : ByteArray) (l : List UInt8),s.data.toList = l → s = B l := fun s l h => by
    obtain ⟨⟨x⟩⟩ := s
    have h : x = l := h
    rw [h];rfl
  have esz : sz = B tS := key _ _ hsz
  rw [esz] at hcz
  have esw : sw = B tW := key _ _ hsw
  rw [esw] at hcw
  have esk : sk = B tK := key _ _ hsk
  rw [esk] at hck
  have esf : sf = B tF := key _ _ hsf
  rw [esf] at hcf
  refine ⟨⟨ak,af,az,aw⟩,?_,?_⟩
  · have h2 := hnd
    simp [MemPlace.row,List.nodup_append] at h2
    constructor <;> simp only [ne_eq] <;> rintro rfl <;> simp at h2
  · intro p hp
    simp only [GE,List.mem_cons,List.not_mem_nil,or_false] at hp
    rcases hp with rfl | rfl | rfl | rfl | rfl | rfl | rfl | rfl
    · exact ⟨hxk,trivial⟩
    · exact ⟨hxf,trivial⟩
    · exact ⟨hxz,trivial⟩
    · exact ⟨hxw,trivial⟩
    · exact ⟨hck,_,_,hbk⟩
    · exact ⟨hcf,_,_,hbf⟩
    · exact ⟨hcz,_,_,hbz⟩
    · exact ⟨hcw,_,_,hbw⟩
structure BackF (X : Ctx) (e : EA) (qL : Option Addr) (L : List UInt8) (qM : Option Addr) (M : List UInt8) (qL' : Option Addr) (L' : List UInt8) (qM' : Option Addr) (M' : List UInt8) : Prop where
  k : Known X (GE e)
  a : FarLM X qL L qM M
  b : FarLM X qL' L' qM' M'
theorem BackF.under {X X' : Ctx} {e : EA} {qL qM qL' qM' : Option Addr} {L M L' M' : List UInt8} (h : BackF X e qL L qM M qL' L' qM' M') (hU : Under X X') : BackF X' e qL L qM M qL' L' qM' M' := ⟨h.k.under hU,h.a.under hU,h.b.under hU⟩
theorem askHv_q (dl : Bool) (M : List UInt8) : ∀ x ∈ askHv dl M,x.2 < 18446744073709551616 := by
  cases dl
  · intro s hs;cases hs
  · simp only [askHv,if_true,List.mem_map];rintro s ⟨x,_,rfl⟩
    have := x.toNat_lt
    show x.toNat / 4 < _;omega
theorem ask_put {t : Int} {dl : Bool} {q : Nat} (hq : q < 18446744073709551616) (d l m : List UInt8) :
    Ctr Tryz.prog [] 10 [srow (askSb l),srow (askUn dl m),hrow (askHv dl m)] [.one (.agg [.v (.int .i64 (tN t)),.v (.bool dl),.v (.int .u64 (q % 6 : Nat)),.row 0,.row 1,.row 2,.v (.string (B (askDet q d)))])]
      (fun os v => os = [srow (askSb l),srow (askUn dl m),hrow (askHv dl m)] ∧ v = .tup [.c (.v (.string (B (reqBytes (tN t) dl (q % 6) (askSb l) (askUn dl m) (askHv dl m) (askDet q d))))),.c (.v (.bool true))]) := by
  have hr := ask_right t dl q d l m
  obtain ⟨g1,g2,g3,g4,g5,g6,g7,g8,g9⟩ := reqB_spec hr
  have h := putReq_ctr (tN t) dl (q % 6) (askSb l) (askUn dl m) (askHv dl m) (askDet q d) (by omega) (by omega) (by omega) (by omega) (fun s hs => by have := g4 s hs;omega) (fun s hs => by have := g6 s hs;omega) (fun x hx => ⟨by have := g8 x hx;omega,askHv_q dl m x hx⟩)
  rw [hr] at h
  exact h
theorem tell_put {t : Int} {dl mo : Bool} {q v : Nat} (hq : q < 18446744073709551616) (hv : v < 18446744073709551616) (l m : List UInt8) :
    Ctr Tryz.prog [] 31 [mrow (tellRs (tN t) l),srow (tellRm dl m)] [.one (.agg [.v (.int .i64 (tN t)),.v (.bool dl),.v (.bool (mo && dl)),.v (.int .u64 (1 + q % 6 : Nat)),.v (.int .u64 v),.row 0,.row 1])]
      (fun os u => os = [mrow (tellRs (tN t) l),srow (tellRm dl m)] ∧ u = .tup [.c (.v (.string (B (respBytes (tN t) dl (mo && dl) (1 + q % 6) v (tellRs (tN t) l) (tellRm dl m))))),.c (.v (.bool true))]) := by
  have hr := tell_right t dl mo q l m
  obtain ⟨g1,g2,g3,g4,g5,g6,g7⟩ := respB_spec hr
  have h := putResp_ctr (tN t) dl (mo && dl) (1 + q % 6) v (tellRs (tN t) l) (tellRm dl m) (by omega) hv (by omega) (fun r hr => by have := (right_type (g5 r hr).1).2.2.1;omega) (by omega) (fun s hs => by have := g7 s hs;omega)
  rw [hr] at h
  exact h
theorem reqBytes_len {t : Nat} {dl : Bool} {q : Nat} {sb un : List (List UInt8)} {hv : List HvS} {d : List UInt8} (hq : q < 18446744073709551616) (b3 : ∀ x ∈ hv,x.2 < 18446744073709551616) (h : reqB (t : Int) dl q sb un hv d = true) : (reqBytes t dl q sb un hv d).length ≤ 1000000 := by
  obtain ⟨g1,g2,g3,g4,g5,g6,g7,g8,g9⟩ := reqB_spec h
  have c1 := textsB_le 4 (by decide) sb g4
  have c2 := textsB_le 5 (by decide) un g6
  have c3 := havesB_le hv (fun x hx => ⟨g8 x hx,b3 x hx⟩)
  have e1 := numZ_len 1 t (by decide) (by omega)
  have e2 := flagZ_len 2 dl (by decide)
  have e3 := numZ_len 3 q (by decide) hq
  have e4 := textB_le 7 d (by decide) (by omega)
  simp only [reqBytes,reqHead,List.length_append,List.length_cons]
  split <;> (try simp only [List.length_nil]) <;> omega
theorem respBytes_len {t : Nat} {dl mo : Bool} {q v : Nat} {rs : List Rs} {rm : List (List UInt8)} (hq : q < 18446744073709551616) (hv : v < 18446744073709551616) (h : respB (t : Int) dl mo q rs rm = true) : (respBytes t dl mo q v rs rm).length ≤ 1000000 := by
  obtain ⟨g1,g2,g3,g4,g5,g6,g7⟩ := respB_spec h
  have c1 := rsB_le rs (fun r hr => (g5 r hr).1)
  have c2 := textsB_le 6 (by decide) rm g7
  have e1 := numZ_len 1 t (by decide) (by omega)
  have e2 := flagZ_len 2 dl (by decide)
  have e3 := numZ_len 3 q (by decide) hq
  have e4 := numZ_len 4 v (by decide) hv
  have e7 := flagZ_len 7 mo (by decide)
  simp only [respBytes,respHead,List.length_append,List.length_cons]
  omega
theorem cut_take {S : Type} {step : NW.Fld → S → S × Bool} {l : List NW.Fld} (hok : ∀ f ∈ l,f.Ok) {p q : List UInt8} (e : NW.encs l = p ++ q) {s s' m : S}
    (hl : takeXB step (NW.encs l) s = (s',true)) (hp : takeXB step p s = (m,true)) : ∃ hs,takeX step hs m = (s',true) := by
  rw [takeXB,NW.parse_encs' l hok] at hl
  rw [takeXB] at hp
  cases h : NW.parse p with
  | none => rw [h] at hp;cases hp
  | some gs =>
    rw [h] at hp
    obtain ⟨hs,rfl⟩ := NW.parse_prefix hok e h
    exact ⟨hs,by rw [← takeX_app hs hp];exact hl⟩
theorem stepQ_sb (f : NW.Fld) (m : RqS) : m.sb.length ≤ (stepQ f m).1.sb.length := by
  unfold stepQ
  repeat' split
  all_goals simp only [List.length_append,List.length_cons,List.length_nil] <;> omega
theorem takeX_sb : ∀ (l : List NW.Fld) (m : RqS),m.sb.length ≤ (takeX stepQ l m).1.sb.length
  | [],m => Nat.le_refl _
  | f :: l,m => by
    have h1 := stepQ_sb f m
    rw [takeX]
    split
    · exact Nat.le_trans h1 (takeX_sb l _)
    · exact h1
theorem stepP_rs (f : NW.Fld) (m : RpS) : m.rs.length ≤ (stepP f m).1.rs.length := by
  unfold stepP
  repeat' split
  all_goals simp only [List.length_append,List.length_cons,List.length_nil] <;> omega
theorem takeX_rs : ∀ (l : List NW.Fld) (m : RpS),m.rs.length ≤ (takeX stepP l m).1.rs.length
  | [],m => Nat.le_refl _
  | f :: l,m => by
    have h1 := stepP_rs f m
    rw [takeX]
    split
    · exact Nat.le_trans h1 (takeX_rs l _)
    · exact h1
theorem reqFlds_ok {t : Nat} {dl : Bool} {q : Nat} {sb un : List (List UInt8)} {hv : List HvS} {d : List UInt8} (hq : q < 18446744073709551616) (b3 : ∀ x ∈ hv,x.2 < 18446744073709551616) (h : reqB (t : Int) dl q sb un hv d = true) : ∀ f ∈ reqFlds t dl q sb un hv d,f.Ok := by
  obtain ⟨g1,g2,g3,g4,g5,g6,g7,g8,g9⟩ := reqB_spec h
  have g8' : ∀ x ∈ hv,x.1.length ≤ 64 ∧ x.2 < 18446744073709551616 := fun x hx => ⟨g8 x hx,b3 x hx⟩
  intro f hf
  simp only [reqFlds,List.mem_append] at hf
  rcases hf with hf | hf | hf | hf | hf | hf | hf
  · exact nF_ok (by decide) (by decide) (by omega) f hf
  · exact bF_ok (by decide) (by decide) f hf
  · exact nF_ok (by decide) (by decide) hq f hf
  · exact lF_ok (by decide) (by decide) (fun s hs => by have := g4 s hs;omega) f hf
  · exact lF_ok (by decide) (by decide) (fun s hs => by have := g6 s hs;omega) f hf
  · exact hF_ok g8' f hf
  · exact dF_ok g9 f hf
theorem reqR_some {s : List UInt8} {m : RqS} (h : reqR s = some m) : kindL s = 1 ∧ takeXB stepQ (s.drop 1) .zero = (m,true) ∧ okQ m = true := by
  unfold reqR at h
  split at h
  · rename_i hk
    split at h
    · rename_i h2
      cases h
      exact ⟨hk,Prod.ext rfl h2.1,h2.2⟩
    · cases h
  · cases h
theorem respR_some {s : List UInt8} {m : RpS} (h : respR s = some m) : kindL s = 2 ∧ takeXB stepP (s.drop 1) .zero = (m,true) ∧ okP m = true := by
  unfold respR at h
  split at h
  · rename_i hk
    split at h
    · rename_i h2
      cases h
      exact ⟨hk,Prod.ext rfl h2.1,h2.2⟩
    · cases h
  · cases h
theorem cons_take {k : Nat} {c : UInt8} {l : List UInt8} (h : (c :: l).take k ≠ []) : ((c :: l).take k).drop 1 ++ l.drop (k - 1) = l := by
  cases k with
  | zero => exact absurd rfl h
  | succ k => simp
theorem reqR_cut {t : Nat} {dl : Bool} {q : Nat} {sb un : List (List UInt8)} {hv : List HvS} {d : List UInt8} (hq : q < 18446744073709551616) (b3 : ∀ x ∈ hv,x.2 < 18446744073709551616) (h : reqB (t : Int) dl q sb un hv d = true)
    (k : Nat) {m : RqS} (hm : reqR ((reqBytes t dl q sb un hv d).take k) = some m) : okQ m = true ∧ m.sb.length ≤ sb.length := by
  obtain ⟨h1,h2,h3⟩ := reqR_some hm
  have hfull := reqR_more hq b3 h [] (fun f hf => by cases hf)
  rw [show NW.encs [] = [] from rfl,List.append_nil] at hfull
  obtain ⟨_,g2,_⟩ := reqR_some hfull
  have hok := reqFlds_ok hq b3 h
  rw [reqBytes_encs] at h1 h2 g2
  have hne : (1 :: NW.encs (reqFlds t dl q sb un hv d)).take k ≠ [] := by
    intro e;rw [e] at h1;simp [kindL] at h1
  obtain ⟨hs,hh⟩ := cut_take hok (cons_take hne).symm (by simpa using g2) h2
  refine ⟨h3,?_⟩
  have := takeX_sb hs m
  rw [hh] at this
  exact this
theorem respR_cut {t : Nat} {dl mo : Bool} {q v : Nat} {rs : List Rs} {rm : List (List UInt8)} (hq : q < 18446744073709551616) (hv : v < 18446744073709551616) (h : respB (t : Int) dl mo q rs rm = true)
    (k : Nat) {m : RpS} (hm : respR ((respBytes t dl mo q v rs rm).take k) = some m) : okP m = true ∧ m.rs.length ≤ rs.length := by
  obtain ⟨h1,h2,h3⟩ := respR_some hm
  have hfull := respR_more hq hv h [] (fun f hf => by cases hf)
  rw [show NW.encs [] = [] from rfl,List.append_nil] at hfull
  obtain ⟨_,g2,_⟩ := respR_some hfull
  have hok := respFlds_ok hq hv h
  rw [respBytes_encs] at h1 h2 g2
  have hne : (2 :: NW.encs (respFlds t dl mo q v rs rm)).take k ≠ [] := by
    intro e;rw [e] at h1;simp [kindL] at h1
  obtain ⟨hs,hh⟩ := cut_take hok (cons_take hne).symm (by simpa using g2) h2
  refine ⟨h3,?_⟩
  have := takeX_rs hs m
  rw [hh] at this
  exact this
end Go.Proofs.YtbdacbcpniegiaaGreatDoor.Q
namespace Go.Sx
open Go Go.RowKit
theorem Oper.wp_tmps {P : Program} {o : Oper} {a : Act} {w : World} {K : Act → World → Prop} {Q : Exit → Act → World → Prop} (h : o.wp P a w K Q) :
    o.wp P a w (fun a' w' => K a' w' ∧ ∀ t,o.dst ≠ some t → a'.tmps[t]? = a.tmps[t]?) Q := by
  unfold Oper.wp at *
  unfold Oper.upon at *
  split at h
  · exact ⟨h,fun t ht => put_other ht⟩
  · exact ⟨h,fun t ht => put_other ht⟩
  · exact ⟨h,fun t ht => put_other ht⟩
  · refine h.mono ?_
    intro e w' hr
    cases e with
    | returned v => exact ⟨hr,fun t ht => put_other ht⟩
    | panicked ch => exact hr
    | outgrown => exact hr
  · exact h.mono (fun v w' hr => ⟨hr,fun t ht => put_other ht⟩)
  · exact h
  · exact h.elim
theorem wpOp_list_keep {P : Program} {ops : Array Oper} {A : Act → World → Prop} {i : Nat} {o : Oper} (ho : ops[i]? = some o) {K : Act → World → Prop} {a : Act} {w : World}
    (h : wpList P ops (QN K) [o] a w) : wpOp P ops (QN A) i (fun a' w' => K a' w' ∧ ∀ t,o.dst ≠ some t → a'.tmps[t]? = a.tmps[t]?) a w := by
  unfold wpOp
  simp only [ho]
  unfold wpList at h
  split
  · rename_i hw
    rw [if_pos hw] at h
    rcases h with h1 | ⟨_,a0,w0,h1⟩
    · exact .inl (Oper.wp_mono3 (fun a w h => ⟨h.1.2,h.2⟩) (fun e a w he h => absurd h.1 he) (Oper.wp_tmps h1))
    · exact absurd h1.1 (by simp)
  · rename_i hw
    rw [if_neg hw] at h
    exact ⟨h.2,fun t ht => put_other ht⟩
theorem wpOp_next {P : Program} {ops : Array Oper} {Q : Exit → Act → World → Prop} {i : Nat} {K K' : Act → World → Prop} {a : Act} {w : World} (hK : ∀ a w,K a w → K' a w) (h : wpOp P ops Q i K a w) : wpOp P ops Q i K' a w := by
  unfold wpOp at *
  split
  · rename_i hn;simp only [hn] at h;exact hK _ _ h
  · rename_i o ho
    simp only [ho] at h
    split
    · rename_i hw
      rw [if_pos hw] at h
      rcases h with h | h
      · exact .inl (Oper.wp_mono3 hK (fun _ _ _ _ h => h) h)
      · exact .inr h
    · rename_i hw
      rw [if_neg hw] at h
      exact hK _ _ h
def killL : List Tmp → Cfg → Cfg
  | [],c => c
  | t :: ts,c => (killL ts c).put (some t) (.one (.c .dead))
theorem killL_loc : ∀ (ts : List Tmp) (c : Cfg),(killL ts c).loc = c.loc
  | [],c => rfl
  | t :: ts,c => by rw [killL,put_loc,killL_loc ts c]
theorem kill_lookup {c : Cfg} {t : Tmp} {u : SV} : ∀ {ts : List Tmp},(killL ts c).env.lookup t = some u → (t ∈ ts ∧ u = .one (.c .dead)) ∨ (t ∉ ts ∧ c.env.lookup t = some u)
  | [],h => .inr ⟨by simp,h⟩
  | x :: ts,h => by
    rw [killL] at h
    rcases put_lookup h with ⟨e,h1⟩ | ⟨e,h1⟩
    · cases e;exact .inl ⟨by simp,h1⟩
    · rcases kill_lookup h1 with ⟨h2,h3⟩ | ⟨h2,h3⟩
      · exact .inl ⟨by simp [h2],h3⟩
      · exact .inr ⟨by simp only [List.mem_cons,not_or];exact ⟨fun hx => e (by rw [hx]),h2⟩,h3⟩
def outH (ops : Array Oper) (L : Array Bool) (is : List Nat) (h : Nat) : Bool :=
  (List.range ops.size).all fun t => L.getD t true || (is ++ [h]).contains t || ((List.range ops.size).any fun u => !(L.getD u true) && !(is ++ [h]).contains u && Region.waitsFor .any ops t u) || Region.waitsFor .any ops t h
section
variable {X : Ctx} {ops : Array Oper}
theorem hold_pre {A : Act → World → Prop} {is : List Nat} {h : Nat} {oh : Oper} {L : Array Bool} {c c1 : Cfg} {ss : List SV} {ks : List Tmp} {ρ : List (List Nat)} {σ : List Value} {f : Nat} {M : Cfg → Prop}
    (hQF : QF X ops is c ss c1) (hoh : ops[h]? = some oh) (hvc : vc X ops [oh] (killL ks c1) M) (hksn : ∀ t ∈ ks,t < X.nt)
    (hks : ∀ i ∈ is,∀ d,dstOf ops i = some d → d ∈ ks ∨ Region.waitsFor .any ops h i = true)
    (hL : L.size = ops.size) (hin : inOK ops L [] (is ++ [h]) = true) (hdata : dataOK ops (is ++ [h]) = true) (hout : outH ops L is h = true)
    (hpost : ∀ (listed : Array Bool) (a : Act) (w : World) (c2 : Cfg) (ρ2 : List (List Nat)) (σ2 : List Value),listed.getD h false = true → listed.size = ops.size → (∀ j,j ∉ is ++ [h] → ∀ d,listed.getD j d = L.getD j d) →
      (∀ j oj,ops[j]? = some oj → listed.getD j false = true → ∀ e ∈ oj.after,Region.binds .any e = true → listed.getD e.on false = true) → (∀ j,L.getD j false = true → listed.getD j false = true) →
      M c2 → Rel X c2 ρ2 σ2 a w → (∀ (k i : Nat) (u : SV),is[k]? = some i → ss[k]? = some u → listed.getD i false = true → ∀ t,dstOf ops i = some t → ∃ v,a.tmps[t]? = some v ∧ DV σ u v) →
      wpAny X.P .any ops (QN A) (cntU listed is + f) listed a w) :
    ∀ (n : Nat) (listed : Array Bool) (a : Act) (w : World),cntU listed is = n → listed.getD h false = false → listed.size = ops.size → (∀ j,j ∉ is ++ [h] → ∀ d,listed.getD j d = L.getD j d) →
      (∀ j oj,ops[j]? = some oj → listed.getD j false = true → ∀ e ∈ oj.after,Region.binds .any e = true → listed.getD e.on false = true) → (∀ j,L.getD j false = true → listed.getD j false = true) →
      Rel X ⟨[],c.loc⟩ ρ σ a w →
      (∀ (k i : Nat) (u : SV),is[k]? = some i → ss[k]? = some u → listed.getD i false = true → ∀ t,dstOf ops i = some t → ∃ v,a.tmps[t]? = some v ∧ DV σ u v) →
      (∀ t u,(∀ i ∈ is,dstOf ops i ≠ some t) → c.env.lookup t = some u → ∃ v,a.tmps[t]? = some v ∧ DV σ u v) →
      wpAny X.P .any ops (QN A) (n + 1 + f) listed a w := by
  have hnd := inOK_nodup hin
  have hdataS : ∀ i ∈ is ++ [h],∀ j ∈ is ++ [h],∀ d,dstOf ops j = some d → (i = j ∨ dstOf ops i ≠ some d) ∧ (d ∈ looksOf ops i → Region.waitsFor .any ops i j = true) := fun i hi j hj d hd => by
    have h1 := List.all_eq_true.1 (List.all_eq_true.1 hdata i hi) j hj
    rw [hd] at h1
    simp only [Bool.and_eq_true,Bool.or_eq_true,beq_iff_eq,bne_iff_ne,Bool.not_eq_true',List.contains_eq_mem,decide_eq_false_iff_not] at h1
    exact ⟨h1.1,fun hm => h1.2.resolve_left (fun h => h hm)⟩
  have hLun : ∀ i ∈ is ++ [h],L.getD i true = false := fun i hi => by
    obtain ⟨k,hk⟩ := List.mem_iff_getElem?.1 hi
    exact (inOK_spec hin hk).1
  have hop : ∀ i ∈ is ++ [h],∃ o,ops[i]? = some o := fun i hi => by
    obtain ⟨k,hk⟩ := List.mem_iff_getElem?.1 hi
    obtain ⟨_,_,_,o,h1,_⟩ := inOK_spec hin hk
    exact ⟨o,h1⟩
  have hhm : h ∈ is ++ [h] := by simp
  have hkh : (is ++ [h])[is.length]? = some h := by rw [List.getElem?_append_right (Nat.le_refl _)];simp
  have hhis : h ∉ is := fun hm => by
    obtain ⟨k,hk⟩ := List.mem_iff_getElem?.1 hm
    have hk' : (is ++ [h])[k]? = some h := by rw [List.getElem?_append_left (List.getElem?_eq_some_iff.1 hk).1];exact hk
    exact (inOK_spec hin hkh).2.2.1 k (List.getElem?_eq_some_iff.1 hk).1 hk'
  have hndis : is.Nodup := (List.nodup_append.1 hnd).1
  intro n
  induction n using Nat.strongRecOn with
  | ind n ih =>
    intro listed a w hc hhun hsz hoth hcl hmono hR hv hb
    have hlt : ∀ i ∈ is ++ [h],i < listed.size := fun i hi => by
      obtain ⟨o,ho⟩ := hop i hi
      rw [hsz];exact (Array.getElem?_eq_some_iff.1 ho).1
    have hcA : cntU listed (is ++ [h]) ≠ 0 := fun e => by
      have := cntU_zero e h hhm
      rw [hhun] at this;cases this
    rw [show n + 1 + f = (n + f) + 1 by omega]
    refine ⟨fun hnil => ?_,fun i hi => ?_⟩
    ·
      obtain ⟨k,i,h1,h2,h3⟩ := cntU_first (listed := listed) (is := is ++ [h]) hcA
      obtain ⟨g1,g2,g3,o,g4,g5⟩ := inOK_spec hin h1
      have hmem : i ∈ is ++ [h] := List.mem_of_getElem? h1
      have : i ∈ Region.ready .any ops listed := by
        refine mem_ready.2 ⟨getD_in (hlt i hmem) h2,o,g4,fun e he hbd => ?_⟩
        rcases g5 e he hbd with h5 | h5 | ⟨k',h6,h7⟩
        · exact hmono _ h5
        · simp at h5
        · exact h3 k' _ h6 h7
      rw [hnil] at this
      cases this
    · obtain ⟨hun,o,ho,hready⟩ := mem_ready.1 hi
      have hilt : i < ops.size := (Array.getElem?_eq_some_iff.1 ho).1
      have hmem : i ∈ is ++ [h] := by
        refine Classical.byContradiction (fun hnm => ?_)
        have h1 := List.all_eq_true.1 hout i (List.mem_range.2 hilt)
        have hLi : L.getD i true = false := by rw [← hoth i hnm];exact hun
        simp only [hLi,Bool.false_or,Bool.or_eq_true] at h1
        rcases h1 with (h1 | h1) | h1
        · exact hnm (by simpa using h1)
        · obtain ⟨u,hu,hu2⟩ := List.any_eq_true.1 h1
          simp only [Bool.and_eq_true,Bool.not_eq_true',List.contains_eq_mem,decide_eq_false_iff_not] at hu2
          obtain ⟨ou,hou,e,he,hbd,hon⟩ := Region.waitsFor_spec hu2.2
          rw [ho] at hou;cases hou
          have h2 := hready e he hbd
          rw [hon,hoth u hu2.1.2,getD_both hu2.1.1] at h2
          cases h2
        · obtain ⟨ou,hou,e,he,hbd,hon⟩ := Region.waitsFor_spec h1
          rw [ho] at hou;cases hou
          have h7 := hready e he hbd
          rw [hon,hhun] at h7
          cases h7
      have hunf := getD_both hun
      have hset : ∀ j,j ≠ i → (listed.setIfInBounds i true).getD j false = listed.getD j false := fun j hj => getD_set_ne false (fun e => hj e.symm)
      have hseti : (listed.setIfInBounds i true).getD i false = true := by simp [hlt i hmem]
      have hoth' : ∀ j,j ∉ is ++ [h] → ∀ d,(listed.setIfInBounds i true).getD j d = L.getD j d := fun j hj d => by
        rw [getD_set_ne d (show i ≠ j from fun e => hj (by rw [← e];exact hmem))];exact hoth j hj d
      have hcl' : ∀ j oj,ops[j]? = some oj → (listed.setIfInBounds i true).getD j false = true → ∀ e ∈ oj.after,Region.binds .any e = true → (listed.setIfInBounds i true).getD e.on false = true := fun j oj hj hl e he hbd => by
        by_cases hji : j = i
        · subst hji
          rw [ho] at hj;cases hj
          exact getD_set_true (hready e he hbd)
        · rw [hset j hji] at hl
          exact getD_set_true (hcl j oj hj hl e he hbd)
      have hmono' : ∀ j,L.getD j false = true → (listed.setIfInBounds i true).getD j false = true := fun j hj => getD_set_true (hmono j hj)
      have hdo : dstOf ops i = o.dst := by simp [dstOf,ho]
      have hlk : looksOf ops i = o.looksAt ops := by simp [looksOf,ho]
      by_cases hih : i = h
      ·
        subst hih
        rw [hoh] at ho;cases ho
        have hRo : Rel X (killL ks c1) ρ σ a w := by
          refine Rel.act (c := killL ks c1) (by rw [killL_loc,hQF.loc];exact hR) rfl rfl (fun t' u hu => ?_)
          rcases kill_lookup hu with ⟨h1,rfl⟩ | ⟨h1,h2⟩
          · have : t' < a.tmps.size := by rw [hR.size];exact hksn t' h1
            exact ⟨a.tmps[t'],by simp [this],trivial⟩
          · rcases hQF.last h2 with ⟨k,j,q1,q2,q3⟩ | ⟨q1,q2⟩
            · have hjm := List.mem_of_getElem? q1
              have hw := (hks j hjm t' q3).resolve_left h1
              obtain ⟨ou,hou,e,he,hbd,hon⟩ := Region.waitsFor_spec hw
              rw [hoh] at hou;cases hou
              have hl := hready e he hbd
              rw [hon] at hl
              exact hv k j u q1 q2 hl t' q3
            · exact hb t' u q1 q2
        refine wpOp_next ?_ (wpOp_list_keep (A := A) hoh (vc_sound hvc (QN fun a' w' => ∃ c2 ρ2 σ2,Rel X c2 ρ2 σ2 a' w' ∧ M c2) (fun c3 ρ3 σ3 a3 w3 hr3 hk => ⟨rfl,c3,ρ3,σ3,hr3,hk⟩) ρ σ a w hRo))
        rintro a' w' ⟨⟨c2,ρ2,σ2,hr2,hM⟩,hkeep⟩
        have hcnt : cntU (listed.setIfInBounds i true) is = n := by
          rw [← hc]
          unfold cntU
          congr 1
          refine List.filter_congr (fun j hj => ?_)
          rw [hset j (fun e => hhis (by rw [← e];exact hj))]
        rw [← hcnt]
        refine hpost _ a' w' c2 ρ2 σ2 hseti (by simp [hsz]) hoth' hcl' hmono' hM hr2 ?_
        intro k j u h1 h2 h3 t' h4
        have hjm := List.mem_of_getElem? h1
        have hji : j ≠ i := fun e => hhis (by rw [← e];exact hjm)
        rw [hset j hji] at h3
        have hne : oh.dst ≠ some t' := by
          rcases (hdataS i hhm j (List.mem_append_left _ hjm) t' h4).1 with h | h
          · exact absurd h.symm hji
          · rw [← hdo];exact h
        rw [hkeep t' hne]
        exact hv k j u h1 h2 h3 t' h4
      · have him : i ∈ is := by
          rcases List.mem_append.1 hmem with h | h
          · exact h
          · exact absurd (by simpa using h) hih
        have hcnt : cntU (listed.setIfInBounds i true) is + 1 = n := by
          have := cntU_set (hlt i hmem) hunf hndis him
          omega
        have hhi' : (listed.setIfInBounds i true).getD h false = false := by rw [hset h (fun e => hih e.symm)];exact hhun
        have henv : ∀ (ck : Cfg),ck.loc = c.loc → (∀ {t : Tmp} {u : SV},ck.env.lookup t = some u → (∃ (k2 j : Nat),is[k2]? = some j ∧ ss[k2]? = some u ∧ dstOf ops j = some t) ∨ ((∀ j ∈ is,Region.waitsFor .any ops i j = true → dstOf ops j ≠ some t) ∧ c.env.lookup t = some u)) →
            Rel X (ck.only (o.looksAt ops)) ρ σ a w := fun ck hloc hck => by
          refine Rel.act (c := ck.only (o.looksAt ops)) (by simp only [Cfg.only];rw [hloc];exact hR) rfl rfl (fun t' u hu => ?_)
          obtain ⟨h1,h2⟩ := only_lookup _ _ _ hu
          rcases hck h2 with ⟨k2,j,h5,h6,h7⟩ | ⟨h3,h4⟩
          · have hw := (hdataS i hmem j (List.mem_append_left _ (List.mem_of_getElem? h5)) t' h7).2 (by rw [hlk];exact h1)
            obtain ⟨ou,hou,e,he,hbd,hon⟩ := Region.waitsFor_spec hw
            rw [ho] at hou;cases hou
            have hl := hready e he hbd
            rw [hon] at hl
            exact hv k2 j u h5 h6 hl t' h7
          · refine hb t' u (fun j hj e => ?_) h4
            exact h3 j hj ((hdataS i hmem j (List.mem_append_left _ hj) t' e).2 (by rw [hlk];exact h1)) e
        obtain ⟨k,hk⟩ := List.mem_iff_getElem?.1 him
        obtain ⟨o',u,ck,g1,g2,g3,g4,g5,g6⟩ := hQF.at hk
        rw [ho] at g1;cases g1
        have hk' : (is ++ [h])[k]? = some i := by rw [List.getElem?_append_left (List.getElem?_eq_some_iff.1 hk).1];exact hk
        have hwaitpos : ∀ j ∈ is ++ [h],Region.waitsFor .any ops i j = true → ∃ (k' : Nat),k' < k ∧ (is ++ [h])[k']? = some j := fun j hj hw => by
          obtain ⟨_,_,_,o',h4,h5⟩ := inOK_spec hin hk'
          rw [ho] at h4;cases h4
          obtain ⟨ou,hou,e,he,hbd,hon⟩ := Region.waitsFor_spec hw
          rw [ho] at hou;cases hou
          rcases h5 e he hbd with h6 | h6 | h6
          · rw [hon] at h6
            have := hLun j hj
            rw [getD_both this] at h6
            cases h6
          · simp at h6
          · rw [hon] at h6;exact h6
        have hRo := henv ck g5 (fun {t' u'} hu => by
          rcases g6 hu with ⟨k',j,q1,q2,q3,q4⟩ | ⟨q1,q2⟩
          · exact .inl ⟨k',j,q2,q3,q4⟩
          · refine .inr ⟨fun j hj hw e => ?_,q2⟩
            obtain ⟨k',h1,h2⟩ := hwaitpos j (List.mem_append_left _ hj) hw
            have hlt' : k' < is.length := Nat.lt_trans h1 (List.getElem?_eq_some_iff.1 hk).1
            rw [List.getElem?_append_left hlt'] at h2
            exact q1 k' j h1 h2 e)
        unfold wpOp
        simp only [ho]
        refine g4 ρ σ a w hRo _ _ (fun v w' hbl hdv => ?_)
        have hfin := ih (n - 1) (by omega) (listed.setIfInBounds i true) (a.put o.dst v) w' (by omega) hhi' (by simp [hsz]) hoth' hcl' hmono' ?_ ?_ ?_
        · rw [show n - 1 + 1 + f = n + f by omega] at hfin
          exact hfin
        · exact Rel.act (c := ⟨[],c.loc⟩) (hR.below hbl) (put_size _ _ _) (put_defers' _ _ _) (fun t' u' h => by simp at h)
        · intro k2 j u2 h1 h2 h3 t' h4
          by_cases hji : j = i
          · subst hji
            have hkk : k2 = k := by
              have a1 : (is ++ [h])[k2]? = some j := by rw [List.getElem?_append_left (List.getElem?_eq_some_iff.1 h1).1];exact h1
              rcases Nat.lt_trichotomy k2 k with h | h | h
              · exact absurd a1 ((inOK_spec hin hk').2.2.1 k2 h)
              · exact h
              · exact absurd hk' ((inOK_spec hin a1).2.2.1 k h)
            subst hkk
            rw [g3] at h2;cases h2
            rw [hdo] at h4
            rw [h4]
            refine ⟨v,put_self ?_,hdv⟩
            rw [h4] at g2
            rw [hR.size]
            simpa [dOk] using g2
          · rw [hset j hji] at h3
            have hjm : j ∈ is ++ [h] := List.mem_append_left _ (List.mem_of_getElem? h1)
            have hne : o.dst ≠ some t' := by
              rcases (hdataS i hmem j hjm t' h4).1 with h | h
              · exact absurd h.symm hji
              · rw [← hdo];exact h
            rw [put_other hne]
            exact hv k2 j u2 h1 h2 h3 t' h4
        · intro t' u' h1 h2
          rw [put_other (by rw [← hdo];exact h1 i him)]
          exact hb t' u' h1 h2
def closedC : List SC → Bool
  | [] => true
  | .v _ :: l => closedC l
  | _ :: _ => false
def closedS : SV → Bool
  | .one (.c (.v _)) => true
  | .one (.agg l) => closedC l
  | _ => false
theorem closedC_mono {σ σ2 : List Value} : ∀ {l : List SC} {cs : List Value},closedC l = true → All2 (DC σ) l cs → All2 (DC σ2) l cs
  | [],[],_,_ => trivial
  | .v _ :: l,_ :: cs,h,ha => ⟨ha.1,closedC_mono (l := l) h ha.2⟩
  | .v _ :: _,[],_,ha => ha.elim
  | [],_ :: _,_,ha => ha.elim
theorem closedS_mono {σ σ2 : List Value} {s : SV} {v : Value} (h : closedS s = true) (hd : DV σ s v) : DV σ2 s v := by
  unfold closedS at h
  split at h
  · exact hd
  · obtain ⟨cs,e,ha⟩ := hd
    exact ⟨cs,e,closedC_mono h ha⟩
  · cases h
def agT : Option SV → Option SV → Prop
  | some s,some s' => s = s' ∧ closedS s = true
  | _,_ => False
def agL : List Tmp → Cfg → Cfg → Prop
  | [],_,_ => True
  | t :: ts,c1,c2 => agT (c1.env.lookup t) (c2.env.lookup t) ∧ agL ts c1 c2
theorem agL_spec {c1 c2 : Cfg} {t : Tmp} : ∀ {ts : List Tmp},agL ts c1 c2 → t ∈ ts → ∃ s,c1.env.lookup t = some s ∧ c2.env.lookup t = some s ∧ closedS s = true
  | x :: ts,h,hm => by
    rcases List.mem_cons.1 hm with rfl | hm
    · have h1 := h.1
      unfold agT at h1
      split at h1
      · rename_i s s' e1 e2
        exact ⟨s,e1,by rw [e2,h1.1],h1.2⟩
      · exact h1.elim
    · exact agL_spec h.2 hm
def vfs (X : Ctx) (ops : Array Oper) : List Nat → Cfg → (Cfg → Prop) → Prop
  | [],c,N => N c
  | i :: is,c,N => vf1 X (ops[i]?) c (fun c' => vfs X ops is c' N)
def vHold (X : Ctx) (ops : Array Oper) (fs : List Nat) (is : List (Nat × List Tmp)) (h : Nat) (ks ds : List Tmp) (is2 : List (Nat × List Tmp)) (pl : List PlT) (c : Cfg) (N : Cfg → Prop) : Prop :=
  vfs X ops fs c (fun c0 => vqL X ops is c0 (fun c1 => vs1 X ops (ops[h]?) (killL ks c1) (fun c2 => vqL X ops (is ++ is2) c2 (fun c2' => agL ds c1 c2' ∧ vplT X ops pl c2' N))))
def ksOK (ops : Array Oper) (nt : Nat) (is : List Nat) (h : Nat) (ks ds : List Tmp) : Bool :=
  (is.all fun i => match dstOf ops i with
    | none => true
    | some d => ds.contains d && (ks.contains d || Region.waitsFor .any ops h i)) && ks.all fun t => decide (t < nt)
def holdAll (ops : Array Oper) (nt : Nat) (is : List Nat) (h : Nat) (ks ds : List Tmp) (is2 : List Nat) (pl : List Pl) (L : Array Bool) : Bool :=
  (listedOK ops L && inOK ops L [] (is ++ [h]) && dataOK ops (is ++ [h]) && outH ops L is h) && (inOK ops (L.setIfInBounds h true) [] (is ++ is2) && dataOK ops (is ++ is2) && outOK ops (L.setIfInBounds h true) (is ++ is2)) && ksOK ops nt is h ks ds && planOK ops pl (setL (L.setIfInBounds h true) (is ++ is2))
def fsOK (ops : Array Oper) : List Nat → Array Bool → Bool
  | [],_ => true
  | i :: r,L => (Region.ready .any ops L).contains i && Region.free .any ops L i && fsOK ops r (L.setIfInBounds i true)
theorem fs_sound {A : Act → World → Prop} (hsel : Region.noSelect ops = true) {F : Nat} : ∀ (fs : List Nat) (c : Cfg) (N : Cfg → Prop) (L : Array Bool),vfs X ops fs c N → fsOK ops fs L = true → L.size = ops.size →
    (∀ c' ρ' σ' a' w',Rel X c' ρ' σ' a' w' → N c' → wpAny X.P .any ops (QN A) F (setL L fs) a' w') → ∀ ρ σ a w,Rel X c ρ σ a w → wpAny X.P .any ops (QN A) (fs.length + F) L a w
  | [],c,N,L,h,hp,hL,hA,ρ,σ,a,w,hr => by simpa [setL] using hA _ _ _ _ _ hr h
  | i :: r,c,N,L,h,hp,hL,hA,ρ,σ,a,w,hr => by
    simp only [fsOK,Bool.and_eq_true] at hp
    simp only [vfs] at h
    unfold vf1 at h
    split at h
    · rename_i o ho
      obtain ⟨hg,h⟩ := h
      obtain ⟨s,hv,hd,hN⟩ := vcV_sound h
      have hg : o.guard = none := by cases hq : o.guard <;> simp_all
      rw [show (i :: r).length + F = (r.length + F) + 1 by simp only [List.length_cons];omega]
      obtain ⟨v,h1,h2⟩ := hv ρ σ a w hr
      exact wpAny_take ho hsel hp.1.2 hp.1.1 (fun _ _ _ h => absurd h.1 (by simp)) (.inl ⟨by simp [Region.wanted,hg],h1⟩)
        (fs_sound hsel r _ N _ hN hp.2 (by simp [hL]) hA ρ σ _ w (hr.put hd h2))
    · exact h.elim
theorem QF.of_agree {is : List Nat} {c c1 : Cfg} {ss : List SV} (h : QF X ops is c ss c1) (hnd : is.Nodup) (hdd : ∀ i ∈ is,∀ j ∈ is,∀ d,dstOf ops j = some d → i = j ∨ dstOf ops i ≠ some d) {k i : Nat} {t : Tmp} {s : SV} (hk : is[k]? = some i) (ht : dstOf ops i = some t) (hs : c1.env.lookup t = some s) : ss[k]? = some s := by
  rcases h.last hs with ⟨k',j,q1,q2,q3⟩ | ⟨q1,_⟩
  · have hij : i = j := by
      rcases hdd i (List.mem_of_getElem? hk) j (List.mem_of_getElem? q1) t q3 with e | e
      · exact e
      · exact absurd ht e
    subst hij
    have : k = k' := by
      exact (List.getElem?_inj (List.getElem?_eq_some_iff.1 hk).1 hnd).1 (by rw [hk,q1])
    rw [this];exact q2
  · exact absurd ht (q1 i (List.mem_of_getElem? hk))
theorem hold_sound {A : Act → World → Prop} (hsel : Region.noSelect ops = true) {is is2 : List Nat} {h : Nat} {ks ds : List Tmp} {pl : List Pl} {c : Cfg} {N : Cfg → Prop} {L : Array Bool} {nt : Nat} (hnt : X.nt = nt)
    (hv : vq X ops is c (fun c1 => vs1 X ops (ops[h]?) (killL ks c1) (fun c2 => vq X ops (is ++ is2) c2 (fun c2' => agL ds c1 c2' ∧ vplan X ops pl c2' N)))) (hp : holdAll ops nt is h ks ds is2 pl L = true) (hL : L.size = ops.size)
    (hA : ∀ c' ρ' σ' a' w',Rel X c' ρ' σ' a' w' → N c' → A a' w') : ∀ ρ σ a w,Rel X c ρ σ a w → wpAny X.P .any ops (QN A) (is.length + 1 + (is2.length + (cntP pl + 0))) L a w := by
  intro ρ σ a w hr
  simp only [holdAll,Bool.and_eq_true] at hp
  obtain ⟨⟨⟨hq1,hq2⟩,hks⟩,hpl⟩ := hp
  obtain ⟨ss,c1,hQF,hv⟩ := vq_QF hv
  obtain ⟨oh,hoh,hv⟩ : ∃ oh,ops[h]? = some oh ∧ vc X ops [oh] (killL ks c1) (fun c2 => vq X ops (is ++ is2) c2 (fun c2' => agL ds c1 c2' ∧ vplan X ops pl c2' N)) := by
    unfold vs1 at hv
    split at hv
    · rename_i oh hoh;exact ⟨oh,hoh,hv⟩
    · exact hv.elim
  obtain ⟨⟨⟨hlo,hin⟩,hdata⟩,hout⟩ := hq1
  have hq2' := hq2
  obtain ⟨⟨hin2,hdata2⟩,_⟩ := hq2'
  have hnd2 := inOK_nodup hin2
  have hdd2 : ∀ i ∈ is ++ is2,∀ j ∈ is ++ is2,∀ d,dstOf ops j = some d → i = j ∨ dstOf ops i ≠ some d := fun i hi j hj d hd => by
    have h1 := List.all_eq_true.1 (List.all_eq_true.1 hdata2 i hi) j hj
    rw [hd] at h1
    simp only [Bool.and_eq_true,Bool.or_eq_true,beq_iff_eq,bne_iff_ne] at h1
    exact h1.1
  have hun2 : ∀ i ∈ is2,i ≠ h ∧ L.getD i true = false := fun i hi => by
    obtain ⟨k,hk⟩ := List.mem_iff_getElem?.1 (List.mem_append_right is hi)
    have h1 := (inOK_spec hin2 hk).1
    obtain ⟨o,ho⟩ : ∃ o,ops[i]? = some o := by obtain ⟨_,_,_,o,h1,_⟩ := inOK_spec hin2 hk;exact ⟨o,h1⟩
    have hlt : i < L.size := by rw [hL];exact (Array.getElem?_eq_some_iff.1 ho).1
    have hne : i ≠ h := fun e => by
      subst e
      simp [Array.getD_eq_getD_getElem?,hlt] at h1
    rw [getD_set_ne true (fun e => hne e.symm)] at h1
    exact ⟨hne,h1⟩
  have hnd := inOK_nodup hin
  have hndis : is.Nodup := (List.nodup_append.1 hnd).1
  have hLun : ∀ i ∈ is ++ [h],L.getD i true = false := fun i hi => by
    obtain ⟨k,hk⟩ := List.mem_iff_getElem?.1 hi
    exact (inOK_spec hin hk).1
  have hdd : ∀ i ∈ is,∀ j ∈ is,∀ d,dstOf ops j = some d → i = j ∨ dstOf ops i ≠ some d := fun i hi j hj d hd => by
    have h1 := List.all_eq_true.1 (List.all_eq_true.1 hdata i (List.mem_append_left _ hi)) j (List.mem_append_left _ hj)
    rw [hd] at h1
    simp only [Bool.and_eq_true,Bool.or_eq_true,beq_iff_eq,bne_iff_ne] at h1
    exact h1.1
  have hcl : ∀ j oj,ops[j]? = some oj → L.getD j false = true → ∀ e ∈ oj.after,Region.binds .any e = true → L.getD e.on false = true := fun j oj hj hl e he hbd => by
    have h1 := List.all_eq_true.1 hlo j (List.mem_range.2 (Array.getElem?_eq_some_iff.1 hj).1)
    simp only [hl,Bool.not_true,Bool.false_or,hj] at h1
    have h2 := Array.all_eq_true_iff_forall_mem.1 h1 e he
    simpa [hbd] using h2
  simp only [ksOK,Bool.and_eq_true,List.all_eq_true,decide_eq_true_eq] at hks
  obtain ⟨hk1,hk2⟩ := hks
  have hkd : ∀ i ∈ is,∀ d,dstOf ops i = some d → d ∈ ds ∧ (d ∈ ks ∨ Region.waitsFor .any ops h i = true) := fun i hi d hd => by
    have := hk1 i hi
    rw [hd] at this
    simpa using this
  have hhL : h < L.size := by
    rw [hL];exact (Array.getElem?_eq_some_iff.1 hoh).1
  have hLh : (L.setIfInBounds h true).getD h false = true := by simp [hhL]
  have hR0 : Rel X ⟨[],c.loc⟩ ρ σ a w := ⟨fun t s he => by simp at he,hr.len,hr.lenS,hr.loc,hr.inj,hr.lt,hr.fresh,hr.low,hr.defers,hr.size,hr.one,hr.pin⟩
  refine hold_pre (f := is2.length + (cntP pl + 0)) hQF hoh hv (fun t ht => by rw [hnt];exact hk2 t ht) (fun i hi d hd => (hkd i hi d hd).2) hL hin hdata hout ?_ is.length L a w ?_ (getD_both (hLun h (by simp))) hL (fun _ _ _ => rfl) hcl (fun _ h => h) hR0 ?_ ?_
  ·
    intro listed a2 w2 c2 ρ2 σ2 hlh hsz hoth hcl2 hmono hM hr2 hv2
    obtain ⟨ss2,c3,hQF2,hag,hpl2⟩ := vq_QF hM
    have hR2 : Rel X ⟨[],c2.loc⟩ ρ2 σ2 a2 w2 := ⟨fun t s he => by simp at he,hr2.len,hr2.lenS,hr2.loc,hr2.inj,hr2.lt,hr2.fresh,hr2.low,hr2.defers,hr2.size,hr2.one,hr2.pin⟩
    have hall : (is ++ is2) ++ alL none = is ++ is2 := by simp [alL]
    have hun2' : ∀ i ∈ is2,listed.getD i false = false := fun i hi => by
      by_cases him : i ∈ is
      · have := (List.nodup_append.1 hnd2).2.2 i him i hi
        exact absurd rfl this
      · rw [hoth i (by simp only [List.mem_append,List.mem_singleton,not_or];exact ⟨him,(hun2 i hi).1⟩)]
        exact getD_both (hun2 i hi).2
    have hcnt2 : cntU listed (is ++ is2) = cntU listed is + is2.length := by
      have : cntU listed is2 = is2.length := cntU_all hun2'
      unfold cntU at this ⊢
      rw [List.filter_append,List.length_append,this]
    have := set_sound (A := A) (X := X) (al := none) (l := []) (t := 0) (s := vv undef) (f := cntP pl + 0) (L := L.setIfInBounds h true) hQF2 ⟨fun k hk => by cases hk⟩ (by simp [hL]) (by rw [hall];simp only [Bool.and_eq_true];exact hq2)
      (fun ρ' σ' a' w' hr' => by rw [hall];exact plan_sound hsel pl c3 N _ 0 hpl2 hpl (by rw [setL_size];simp [hL]) hA ρ' σ' a' w' hr')
      (cntU listed ((is ++ is2) ++ alL none)) listed a2 w2 rfl hsz (fun j hj d => by
        rw [hall] at hj
        by_cases hjh : j = h
        · subst hjh
          have hlt : j < listed.size := by rw [hsz];exact (Array.getElem?_eq_some_iff.1 hoh).1
          simp only [Array.getD_eq_getD_getElem?,Array.getElem?_eq_getElem hlt,Option.getD_some] at hlh ⊢
          simp [hhL,hlh]
        · rw [getD_set_ne d (fun e => hjh e.symm)]
          exact hoth j (by simp only [List.mem_append,List.mem_singleton,not_or];exact ⟨fun hm => hj (List.mem_append_left _ hm),hjh⟩) d) hcl2 (fun j hj => by
        by_cases hjh : j = h
        · subst hjh;exact hlh
        · rw [getD_set_ne false (fun e => hjh e.symm)] at hj;exact hmono j hj) hR2
      (fun k i u q1 q2 q3 t q4 => by
        have him : i ∈ is := by
          rcases List.mem_append.1 (List.mem_of_getElem? q1) with hm | hm
          · exact hm
          · rw [hun2' i hm] at q3;cases q3
        obtain ⟨k1,hk1'⟩ := List.mem_iff_getElem?.1 him
        obtain ⟨s,e1,e2,e3⟩ := agL_spec hag (hkd i him t q4).1
        have a1 := hQF.of_agree hndis hdd hk1' q4 e1
        have a2' := hQF2.of_agree hnd2 hdd2 q1 q4 e2
        rw [q2] at a2';cases a2'
        obtain ⟨v,b1,b2⟩ := hv2 k1 i u hk1' a1 q3 t q4
        exact ⟨v,b1,closedS_mono e3 b2⟩)
      (fun t u _ hu => hr2.env t u hu) (fun k hk => by cases hk)
    rw [hall,hcnt2] at this
    rw [show cntU listed is + (is2.length + (cntP pl + 0)) = cntU listed is + is2.length + (cntP pl + 0) by omega]
    exact this
  · exact cntU_all (fun i hi => getD_both (hLun i (List.mem_append_left _ hi)))
  · intro k i u q1 _ q3
    rw [getD_both (hLun i (List.mem_append_left _ (List.mem_of_getElem? q1)))] at q3;cases q3
  · exact fun t u _ hu => hr.env t u hu
def holdB (l : List Oper) (nt : Nat) (fs : List Nat) (is : List (Nat × List Tmp)) (h : Nat) (ks ds : List Tmp) (is2 : List (Nat × List Tmp)) (pl : List PlT) : Bool :=
  Region.noSelect l.toArray && decide (fs.length + (is.length + 1 + (is2.length + cntP (pl.map PlT.pl))) = l.length) && fsOK l.toArray fs (Array.replicate l.length false) &&
    holdAll l.toArray nt (is.map (·.1)) h ks ds (is2.map (·.1)) (pl.map PlT.pl) (setL (Array.replicate l.length false) fs) && (is ++ is2).all (lkOK l.toArray) && pl.all (PlT.lk l.toArray)
theorem SX.hold {c : Cfg} {id : Nat} {l : List Oper} {K : Exit → Cfg → Prop} (nt : Nat) (fs : List Nat) (is : List (Nat × List Tmp)) (h : Nat) (ks ds : List Tmp) (is2 : List (Nat × List Tmp)) (pl : List PlT) (hm : X.P.follows .mixedOrders = true) (hnt : X.nt = nt)
    (hB : holdB l nt fs is h ks ds is2 pl = true) (hv : vHold X l.toArray fs is h ks ds is2 pl c (K .normal)) : SX X (.region id l.toArray true) c K := fun ρ σ a w hr => by
  simp only [holdB,Bool.and_eq_true,decide_eq_true_eq] at hB
  obtain ⟨⟨⟨⟨⟨b1,b2⟩,b3⟩,b4⟩,b5⟩,b6⟩ := hB
  have hr' : Rel X c ρ σ a { w with drawn := w.drawn + 1 } := hr.below ⟨rfl,rfl,rfl,Nat.le_refl _,fun _ _ => rfl⟩
  have h1 := fs_sound (A := fun a w => Post X K .normal a w) (F := (is.map (·.1)).length + 1 + ((is2.map (·.1)).length + (cntP (pl.map PlT.pl) + 0))) b1 fs c _ (Array.replicate l.length false) hv b3 (by simp) (fun c0 ρ0 σ0 a0 w0 hr0 hv0 => by
    have b5' : is.all (lkOK l.toArray) = true := by rw [List.all_append,Bool.and_eq_true] at b5;exact b5.1
    rw [vqL_eq b5'] at hv0
    have hv1 : vq X l.toArray (is.map (·.1)) c0 (fun c1 => vs1 X l.toArray (l.toArray[h]?) (killL ks c1) (fun c2 => vq X l.toArray (is.map (·.1) ++ is2.map (·.1)) c2 (fun c2' => agL ds c1 c2' ∧ vplan X l.toArray (pl.map PlT.pl) c2' (K .normal)))) := by
      have e : (fun c1 => vs1 X l.toArray (l.toArray[h]?) (killL ks c1) (fun c2 => vqL X l.toArray (is ++ is2) c2 (fun c2' => agL ds c1 c2' ∧ vplT X l.toArray pl c2' (K .normal)))) = (fun c1 => vs1 X l.toArray (l.toArray[h]?) (killL ks c1) (fun c2 => vq X l.toArray (is.map (·.1) ++ is2.map (·.1)) c2 (fun c2' => agL ds c1 c2' ∧ vplan X l.toArray (pl.map PlT.pl) c2' (K .normal)))) := by
        funext c1
        congr 1
        funext c2
        rw [vqL_eq b5,List.map_append]
        congr 1
        funext c3
        rw [vplT_eq b6]
      rw [← e];exact hv0
    exact hold_sound (A := fun a w => Post X K .normal a w) b1 hnt hv1 b4 (by rw [setL_size];simp) (fun c3 ρ3 σ3 a3 w3 hr3 hk => ⟨c3,ρ3,σ3,hr3,hk⟩) ρ0 σ0 a0 w0 hr0) ρ σ a _ hr'
  have hlen : fs.length + ((is.map (·.1)).length + 1 + ((is2.map (·.1)).length + (cntP (pl.map PlT.pl) + 0))) = l.length := by rw [List.length_map,List.length_map];omega
  rw [hlen] at h1
  have h2 : (Code.region id l.toArray true).wp X.P (QN fun a w => Post X K .normal a w) a w := wp_region_any hm (by simpa using h1)
  exact Go.wp_mono h2 (fun e a w h => by obtain ⟨rfl,h⟩ := h;exact h)
end
def cpN (n : Nat) : SP → Bool
  | .v _ => true
  | .loc i _ => decide (i < n)
  | .row i => decide (i < n)
def ccN (n : Nat) : SC → Bool
  | .v _ => true
  | .loc i _ => decide (i < n)
  | .sl i _ _ _ => decide (i < n)
  | .row i => decide (i < n)
  | .ri i _ => decide (i < n)
  | .clo _ fst cap => fst.all (cpN n) && cap.all (cpN n)
  | .dead => true
def c1N (n : Nat) : S1 → Bool
  | .c x => ccN n x
  | .agg l => l.all (ccN n)
def csN (n : Nat) : SV → Bool
  | .one x => c1N n x
  | .tup l => l.all (c1N n)
section
variable {X : Ctx} {n : Nat} {σ σ2 : List Value}
theorem pin_get (hn : n ≤ X.base.length) (h1 : ∀ (i : Nat) (v : Value),X.base[i]? = some v → σ[i]? = some v) (h2 : ∀ (i : Nat) (v : Value),X.base[i]? = some v → σ2[i]? = some v) {i : Nat} (hi : i < n) {v : Value} (h : σ[i]? = some v) : σ2[i]? = some v := by
  have hi' : i < X.base.length := Nat.lt_of_lt_of_le hi hn
  have e := List.getElem?_eq_getElem hi'
  have := h1 i _ e
  rw [h] at this;cases this
  exact h2 i _ e
theorem all2_all {α β : Type} {p : α → Bool} {R S : α → β → Prop} (hRS : ∀ a b,p a = true → R a b → S a b) : ∀ {l : List α} {m : List β},l.all p = true → All2 R l m → All2 S l m
  | [],[],_,_ => trivial
  | a :: l,b :: m,hp,h => by
    simp only [List.all_cons,Bool.and_eq_true] at hp
    exact ⟨hRS _ _ hp.1 h.1,all2_all hRS hp.2 h.2⟩
  | [],_ :: _,_,h => h.elim
  | _ :: _,[],_,h => h.elim
theorem DP.pin (hg : ∀ (i : Nat),i < n → ∀ v,σ[i]? = some v → σ2[i]? = some v) {s : SP} {v : Value} (hc : cpN n s = true) (h : DP σ s v) : DP σ2 s v := by
  cases s with
  | v x => exact h
  | loc i off => obtain ⟨b,hb,e⟩ := h;exact ⟨b,hg i (by simpa [cpN] using hc) _ hb,e⟩
  | row i => exact hg i (by simpa [cpN] using hc) _ h
theorem DC.pin (hg : ∀ (i : Nat),i < n → ∀ v,σ[i]? = some v → σ2[i]? = some v) {s : SC} {v : Value} (hc : ccN n s = true) (h : DC σ s v) : DC σ2 s v := by
  cases s with
  | v x => exact h
  | loc i off => obtain ⟨b,hb,e⟩ := h;exact ⟨b,hg i (by simpa [ccN] using hc) _ hb,e⟩
  | sl i off n k => obtain ⟨b,hb,e⟩ := h;exact ⟨b,hg i (by simpa [ccN] using hc) _ hb,e⟩
  | row i => exact hg i (by simpa [ccN] using hc) _ h
  | ri i k => obtain ⟨a,n,m,e,e2⟩ := h;exact ⟨a,n,m,hg i (by simpa [ccN] using hc) _ e,e2⟩
  | clo f fst cap =>
    simp only [ccN,Bool.and_eq_true] at hc
    obtain ⟨us,vs,e,hu,hv⟩ := h
    exact ⟨us,vs,e,all2_all (p := cpN n) (S := DP σ2) (fun a b hp h => DP.pin hg hp h) hc.1 hu,all2_all (p := cpN n) (S := DP σ2) (fun a b hp h => DP.pin hg hp h) hc.2 hv⟩
  | dead => trivial
theorem D1.pin (hg : ∀ (i : Nat),i < n → ∀ v,σ[i]? = some v → σ2[i]? = some v) {s : S1} {v : Value} (hc : c1N n s = true) (h : D1 σ s v) : D1 σ2 s v := by
  cases s with
  | c x => exact DC.pin hg hc h
  | agg l => obtain ⟨cs,e,ha⟩ := h;exact ⟨cs,e,all2_all (p := ccN n) (S := DC σ2) (fun a b hp h => DC.pin hg hp h) hc ha⟩
theorem closedN_mono (hn : n ≤ X.base.length) (h1 : ∀ (i : Nat) (v : Value),X.base[i]? = some v → σ[i]? = some v) (h2 : ∀ (i : Nat) (v : Value),X.base[i]? = some v → σ2[i]? = some v) {s : SV} {v : Value} (hc : csN n s = true) (h : DV σ s v) : DV σ2 s v := by
  have hg : ∀ (i : Nat),i < n → ∀ v,σ[i]? = some v → σ2[i]? = some v := fun i hi v h => pin_get hn h1 h2 hi h
  cases s with
  | one x => exact D1.pin hg hc h
  | tup l => obtain ⟨vs,e,ha⟩ := h;exact ⟨vs,e,all2_all (p := c1N n) (S := D1 σ2) (fun a b hp h => D1.pin hg hp h) hc ha⟩
end
def agP (n : Nat) : Option SV → Option SV → Prop
  | some s,some s' => s = s' ∧ csN n s = true
  | _,_ => False
def agN (n : Nat) : List Tmp → Cfg → Cfg → Prop
  | [],_,_ => True
  | t :: ts,c1,c2 => agP n (c1.env.lookup t) (c2.env.lookup t) ∧ agN n ts c1 c2
theorem agN_spec {n : Nat} {c1 c2 : Cfg} {t : Tmp} : ∀ {ts : List Tmp},agN n ts c1 c2 → t ∈ ts → ∃ s,c1.env.lookup t = some s ∧ c2.env.lookup t = some s ∧ csN n s = true
  | x :: ts,h,hm => by
    rcases List.mem_cons.1 hm with rfl | hm
    · have h1 := h.1
      unfold agP at h1
      split at h1
      · rename_i s s' e1 e2
        exact ⟨s,e1,by rw [e2,h1.1],h1.2⟩
      · exact h1.elim
    · exact agN_spec h.2 hm
def holdOK (ops : Array Oper) (nt : Nat) (is : List Nat) (h : Nat) (ks ds : List Tmp) (is2 : List Nat) (L : Array Bool) : Bool :=
  (listedOK ops L && inOK ops L [] (is ++ [h]) && dataOK ops (is ++ [h]) && outH ops L is h) && (inOK ops (L.setIfInBounds h true) [] (is ++ is2) && dataOK ops (is ++ is2) && outOK ops (L.setIfInBounds h true) (is ++ is2)) && ksOK ops nt is h ks ds
section
variable {X : Ctx} {ops : Array Oper}
theorem holdC_sound {A : Act → World → Prop} {is is2 : List Nat} {h : Nat} {ks ds : List Tmp} {c : Cfg} {N : Cfg → Prop} {L : Array Bool} {nt nb F : Nat} (hnt : X.nt = nt) (hnb : nb ≤ X.base.length)
    (hv : vq X ops is c (fun c1 => vs1 X ops (ops[h]?) (killL ks c1) (fun c2 => vq X ops (is ++ is2) c2 (fun c2' => agN nb ds c1 c2' ∧ N c2')))) (hp : holdOK ops nt is h ks ds is2 L = true) (hL : L.size = ops.size)
    (hA : ∀ c' ρ' σ' a' w',Rel X c' ρ' σ' a' w' → N c' → wpAny X.P .any ops (QN A) F (setL (L.setIfInBounds h true) (is ++ is2)) a' w') : ∀ ρ σ a w,Rel X c ρ σ a w → wpAny X.P .any ops (QN A) (is.length + 1 + (is2.length + F)) L a w := by
  intro ρ σ a w hr
  simp only [holdOK,Bool.and_eq_true] at hp
  obtain ⟨⟨hq1,hq2⟩,hks⟩ := hp
  obtain ⟨ss,c1,hQF,hv⟩ := vq_QF hv
  obtain ⟨oh,hoh,hv⟩ : ∃ oh,ops[h]? = some oh ∧ vc X ops [oh] (killL ks c1) (fun c2 => vq X ops (is ++ is2) c2 (fun c2' => agN nb ds c1 c2' ∧ N c2')) := by
    unfold vs1 at hv
    split at hv
    · rename_i oh hoh;exact ⟨oh,hoh,hv⟩
    · exact hv.elim
  obtain ⟨⟨⟨hlo,hin⟩,hdata⟩,hout⟩ := hq1
  have hq2' := hq2
  obtain ⟨⟨hin2,hdata2⟩,_⟩ := hq2'
  have hnd2 := inOK_nodup hin2
  have hdd2 : ∀ i ∈ is ++ is2,∀ j ∈ is ++ is2,∀ d,dstOf ops j = some d → i = j ∨ dstOf ops i ≠ some d := fun i hi j hj d hd => by
    have h1 := List.all_eq_true.1 (List.all_eq_true.1 hdata2 i hi) j hj
    rw [hd] at h1
    simp only [Bool.and_eq_true,Bool.or_eq_true,beq_iff_eq,bne_iff_ne] at h1
    exact h1.1
  have hun2 : ∀ i ∈ is2,i ≠ h ∧ L.getD i true = false := fun i hi => by
    obtain ⟨k,hk⟩ := List.mem_iff_getElem?.1 (List.mem_append_right is hi)
    have h1 := (inOK_spec hin2 hk).1
    obtain ⟨o,ho⟩ : ∃ o,ops[i]? = some o := by obtain ⟨_,_,_,o,h1,_⟩ := inOK_spec hin2 hk;exact ⟨o,h1⟩
    have hlt : i < L.size := by rw [hL];exact (Array.getElem?_eq_some_iff.1 ho).1
    have hne : i ≠ h := fun e => by
      subst e
      simp [Array.getD_eq_getD_getElem?,hlt] at h1
    rw [getD_set_ne true (fun e => hne e.symm)] at h1
    exact ⟨hne,h1⟩
  have hnd := inOK_nodup hin
  have hndis : is.Nodup := (List.nodup_append.1 hnd).1
  have hLun : ∀ i ∈ is ++ [h],L.getD i true = false := fun i hi => by
    obtain ⟨k,hk⟩ := List.mem_iff_getElem?.1 hi
    exact (inOK_spec hin hk).1
  have hdd : ∀ i ∈ is,∀ j ∈ is,∀ d,dstOf ops j = some d → i = j ∨ dstOf ops i ≠ some d := fun i hi j hj d hd => by
    have h1 := List.all_eq_true.1 (List.all_eq_true.1 hdata i (List.mem_append_left _ hi)) j (List.mem_append_left _ hj)
    rw [hd] at h1
    simp only [Bool.and_eq_true,Bool.or_eq_true,beq_iff_eq,bne_iff_ne] at h1
    exact h1.1
  have hcl : ∀ j oj,ops[j]? = some oj → L.getD j false = true → ∀ e ∈ oj.after,Region.binds .any e = true → L.getD e.on false = true := fun j oj hj hl e he hbd => by
    have h1 := List.all_eq_true.1 hlo j (List.mem_range.2 (Array.getElem?_eq_some_iff.1 hj).1)
    simp only [hl,Bool.not_true,Bool.false_or,hj] at h1
    have h2 := Array.all_eq_true_iff_forall_mem.1 h1 e he
    simpa [hbd] using h2
  simp only [ksOK,Bool.and_eq_true,List.all_eq_true,decide_eq_true_eq] at hks
  obtain ⟨hk1,hk2⟩ := hks
  have hkd : ∀ i ∈ is,∀ d,dstOf ops i = some d → d ∈ ds ∧ (d ∈ ks ∨ Region.waitsFor .any ops h i = true) := fun i hi d hd => by
    have := hk1 i hi
    rw [hd] at this
    simpa using this
  have hhL : h < L.size := by
    rw [hL];exact (Array.getElem?_eq_some_iff.1 hoh).1
  have hLh : (L.setIfInBounds h true).getD h false = true := by simp [hhL]
  have hR0 : Rel X ⟨[],c.loc⟩ ρ σ a w := ⟨fun t s he => by simp at he,hr.len,hr.lenS,hr.loc,hr.inj,hr.lt,hr.fresh,hr.low,hr.defers,hr.size,hr.one,hr.pin⟩
  refine hold_pre (f := is2.length + F) hQF hoh hv (fun t ht => by rw [hnt];exact hk2 t ht) (fun i hi d hd => (hkd i hi d hd).2) hL hin hdata hout ?_ is.length L a w ?_ (getD_both (hLun h (by simp))) hL (fun _ _ _ => rfl) hcl (fun _ h => h) hR0 ?_ ?_
  ·
    intro listed a2 w2 c2 ρ2 σ2 hlh hsz hoth hcl2 hmono hM hr2 hv2
    obtain ⟨ss2,c3,hQF2,hag,hpl2⟩ := vq_QF hM
    have hR2 : Rel X ⟨[],c2.loc⟩ ρ2 σ2 a2 w2 := ⟨fun t s he => by simp at he,hr2.len,hr2.lenS,hr2.loc,hr2.inj,hr2.lt,hr2.fresh,hr2.low,hr2.defers,hr2.size,hr2.one,hr2.pin⟩
    have hall : (is ++ is2) ++ alL none = is ++ is2 := by simp [alL]
    have hun2' : ∀ i ∈ is2,listed.getD i false = false := fun i hi => by
      by_cases him : i ∈ is
      · have := (List.nodup_append.1 hnd2).2.2 i him i hi
        exact absurd rfl this
      · rw [hoth i (by simp only [List.mem_append,List.mem_singleton,not_or];exact ⟨him,(hun2 i hi).1⟩)]
        exact getD_both (hun2 i hi).2
    have hcnt2 : cntU listed (is ++ is2) = cntU listed is + is2.length := by
      have : cntU listed is2 = is2.length := cntU_all hun2'
      unfold cntU at this ⊢
      rw [List.filter_append,List.length_append,this]
    have := set_sound (A := A) (X := X) (al := none) (l := []) (t := 0) (s := vv undef) (f := F) (L := L.setIfInBounds h true) hQF2 ⟨fun k hk => by cases hk⟩ (by simp [hL]) (by rw [hall];simp only [Bool.and_eq_true];exact hq2)
      (fun ρ' σ' a' w' hr' => by rw [hall];exact hA c3 ρ' σ' a' w' hr' hpl2)
      (cntU listed ((is ++ is2) ++ alL none)) listed a2 w2 rfl hsz (fun j hj d => by
        rw [hall] at hj
        by_cases hjh : j = h
        · subst hjh
          have hlt : j < listed.size := by rw [hsz];exact (Array.getElem?_eq_some_iff.1 hoh).1
          simp only [Array.getD_eq_getD_getElem?,Array.getElem?_eq_getElem hlt,Option.getD_some] at hlh ⊢
          simp [hhL,hlh]
        · rw [getD_set_ne d (fun e => hjh e.symm)]
          exact hoth j (by simp only [List.mem_append,List.mem_singleton,not_or];exact ⟨fun hm => hj (List.mem_append_left _ hm),hjh⟩) d) hcl2 (fun j hj => by
        by_cases hjh : j = h
        · subst hjh;exact hlh
        · rw [getD_set_ne false (fun e => hjh e.symm)] at hj;exact hmono j hj) hR2
      (fun k i u q1 q2 q3 t q4 => by
        have him : i ∈ is := by
          rcases List.mem_append.1 (List.mem_of_getElem? q1) with hm | hm
          · exact hm
          · rw [hun2' i hm] at q3;cases q3
        obtain ⟨k1,hk1'⟩ := List.mem_iff_getElem?.1 him
        obtain ⟨s,e1,e2,e3⟩ := agN_spec hag (hkd i him t q4).1
        have a1 := hQF.of_agree hndis hdd hk1' q4 e1
        have a2' := hQF2.of_agree hnd2 hdd2 q1 q4 e2
        rw [q2] at a2';cases a2'
        obtain ⟨v,b1,b2⟩ := hv2 k1 i u hk1' a1 q3 t q4
        exact ⟨v,b1,closedN_mono hnb hr.pin hr2.pin e3 b2⟩)
      (fun t u _ hu => hr2.env t u hu) (fun k hk => by cases hk)
    rw [hall,hcnt2] at this
    rw [show cntU listed is + (is2.length + F) = cntU listed is + is2.length + F by omega]
    exact this
  · exact cntU_all (fun i hi => getD_both (hLun i (List.mem_append_left _ hi)))
  · intro k i u q1 _ q3
    rw [getD_both (hLun i (List.mem_append_left _ (List.mem_of_getElem? q1)))] at q3;cases q3
  · exact fun t u _ hu => hr.env t u hu
def itemOK (ops : Array Oper) : Pl → Array Bool → Bool
  | .s i,L => decide (Region.ready .any ops L = [i])
  | .b _ _,_ => false
  | .f i,L => (Region.ready .any ops L).contains i && Region.free .any ops L i
  | .q is al,L => qOK ops L (is ++ alL al)
def itemL : Pl → Array Bool → Array Bool
  | .s i,L => L.setIfInBounds i true
  | .b _ _,L => L
  | .f i,L => L.setIfInBounds i true
  | .q is al,L => setL L (is ++ alL al)
theorem itemL_size (x : Pl) (L : Array Bool) : (itemL x L).size = L.size := by cases x <;> simp [itemL,setL_size]
theorem item_sound {A : Act → World → Prop} (hsel : Region.noSelect ops = true) : ∀ (x : Pl) (c : Cfg) (N : Cfg → Prop) (L : Array Bool) (f : Nat),vplan X ops [x] c N → itemOK ops x L = true → L.size = ops.size →
    (∀ c' ρ' σ' a' w',Rel X c' ρ' σ' a' w' → N c' → wpAny X.P .any ops (QN A) f (itemL x L) a' w') → ∀ ρ σ a w,Rel X c ρ σ a w → wpAny X.P .any ops (QN A) (cntP [x] + f) L a w
  | .s i,c,N,L,f,h,hp,hL,hA,ρ,σ,a,w,hr => by
    simp only [itemOK,decide_eq_true_eq] at hp
    simp only [vplan] at h
    unfold vs1 at h
    split at h
    · rename_i o ho
      rw [show cntP [.s i] + f = f + 1 by simp only [cntP];omega]
      refine wpAny_all hp (by simp) (fun j hj => ?_)
      have : j = i := by simpa using hj
      subst this
      refine wpOp_list ho ?_
      exact vc_sound h _ (fun c3 ρ3 σ3 a3 w3 hr3 hk => ⟨rfl,hA _ _ _ _ _ hr3 hk⟩) ρ σ a w hr
    · exact h.elim
  | .b i j,c,N,L,f,h,hp,hL,hA,ρ,σ,a,w,hr => by cases hp
  | .f i,c,N,L,f,h,hp,hL,hA,ρ,σ,a,w,hr => by
    simp only [itemOK,Bool.and_eq_true] at hp
    simp only [vplan] at h
    unfold vf1 at h
    split at h
    · rename_i o ho
      obtain ⟨hg,h⟩ := h
      obtain ⟨s,hv,hd,hN⟩ := vcV_sound h
      have hg : o.guard = none := by cases hq : o.guard <;> simp_all
      rw [show cntP [.f i] + f = f + 1 by simp only [cntP];omega]
      obtain ⟨v,h1,h2⟩ := hv ρ σ a w hr
      exact wpAny_take ho hsel hp.2 hp.1 (fun _ _ _ h => absurd h.1 (by simp)) (.inl ⟨by simp [Region.wanted,hg],h1⟩)
        (hA _ _ _ _ _ (hr.put hd h2) hN)
    · exact h.elim
  | .q is al,c,N,L,f,h,hp,hL,hA,ρ,σ,a,w,hr => by
    simp only [itemOK] at hp
    simp only [vplan] at h
    obtain ⟨ss,c1,hQF,h⟩ := vq_QF h
    have hq := hp
    simp only [qOK,Bool.and_eq_true] at hq
    obtain ⟨⟨⟨hlo,hin⟩,hq1⟩,hq2⟩ := hq
    have hq0 : (inOK ops L [] (is ++ alL al) && dataOK ops (is ++ alL al) && outOK ops L (is ++ alL al)) = true := by rw [hin,hq1,hq2];rfl
    have hLun : ∀ i ∈ is ++ alL al,L.getD i true = false := fun i hi => by
      obtain ⟨k,hk⟩ := List.mem_iff_getElem?.1 hi
      exact (inOK_spec hin hk).1
    have hcl : ∀ j oj,ops[j]? = some oj → L.getD j false = true → ∀ e ∈ oj.after,Region.binds .any e = true → L.getD e.on false = true := fun j oj hj hl e he hbd => by
      have h1 := List.all_eq_true.1 hlo j (List.mem_range.2 (Array.getElem?_eq_some_iff.1 hj).1)
      simp only [hl,Bool.not_true,Bool.false_or,hj] at h1
      have h2 := Array.all_eq_true_iff_forall_mem.1 h1 e he
      simpa [hbd] using h2
    rw [show cntP [.q is al] + f = (is ++ alL al).length + f by simp only [cntP];omega]
    have hR0 : Rel X ⟨[],c.loc⟩ ρ σ a w := ⟨fun t s he => by simp at he,hr.len,hr.lenS,hr.loc,hr.inj,hr.lt,hr.fresh,hr.low,hr.defers,hr.size,hr.one,hr.pin⟩
    have fin : ∀ (l : List SC) (t : TypeId) (s : SV),AlF X ops al c1 l t s → (∀ ρ' σ' a' w',Rel X (match al with | none => c1 | some k => (({ c1 with loc := c1.loc ++ [.cells l t] } : Cfg).put (dstOf ops k) s)) ρ' σ' a' w' → wpAny X.P .any ops (QN A) f (setL L (is ++ alL al)) a' w') →
        wpAny X.P .any ops (QN A) ((is ++ alL al).length + f) L a w := fun l t s hAl hnext =>
      set_sound hQF hAl hL hq0 hnext _ L a w (cntU_all (fun i hi => getD_both (hLun i hi))) hL (fun _ _ _ => rfl) hcl (fun _ h => h) hR0
        (fun k i u h1 _ h3 => by rw [getD_both (hLun i (List.mem_append_left _ (List.mem_of_getElem? h1)))] at h3;cases h3)
        (fun t' u _ hu => hr.env t' u hu)
        (fun k e h3 => by rw [getD_both (hLun k (List.mem_append_right _ (by rw [e];simp [alL])))] at h3;cases h3)
    cases al with
    | none =>
      simp only [vaO] at h
      exact fin [] 0 (vv undef) ⟨fun k hk => by cases hk⟩ (fun ρ' σ' a' w' hr' => hA _ _ _ _ _ hr' h)
    | some k =>
      simp only [vaO] at h
      unfold va1 at h
      split at h
      · rename_i o ho
        obtain ⟨hg,h⟩ := h
        have hg : o.guard = none := by cases hq : o.guard <;> simp_all
        obtain ⟨l,t,s,hQA,hd,hN⟩ := vcA_sound h
        refine fin l t s ⟨fun k' hk' => ?_⟩ (fun ρ' σ' a' w' hr' => ?_)
        · cases hk';exact ⟨o,ho,hg,hd,hQA⟩
        · have hdo : dstOf ops k = o.dst := by simp [dstOf,ho]
          simp only [hdo] at hr'
          exact hA _ _ _ _ _ hr' hN
      · exact h.elim
inductive PlM where
  | p (x : PlT)
  | h (is : List (Nat × List Tmp)) (h : Nat) (ks ds : List Tmp) (is2 : List (Nat × List Tmp))
def vM (X : Ctx) (ops : Array Oper) (n : Nat) : List PlM → Cfg → (Cfg → Prop) → Prop
  | [],c,N => N c
  | .p x :: r,c,N => vplT X ops [x] c (fun c' => vM X ops n r c' N)
  | .h is h ks ds is2 :: r,c,N => vqL X ops is c (fun c1 => vs1 X ops (ops[h]?) (killL ks c1) (fun c2 => vqL X ops (is ++ is2) c2 (fun c2' => agN n ds c1 c2' ∧ vM X ops n r c2' N)))
def mixOK (ops : Array Oper) (nt : Nat) : List PlM → Array Bool → Bool
  | [],L => (Region.ready .any ops L).isEmpty
  | .p x :: r,L => itemOK ops x.pl L && x.lk ops && mixOK ops nt r (itemL x.pl L)
  | .h is h ks ds is2 :: r,L => holdOK ops nt (is.map (·.1)) h ks ds (is2.map (·.1)) L && (is ++ is2).all (lkOK ops) && mixOK ops nt r (setL (L.setIfInBounds h true) (is.map (·.1) ++ is2.map (·.1)))
def cntM : List PlM → Nat
  | [] => 0
  | .p x :: r => cntP [x.pl] + cntM r
  | .h is _ _ _ is2 :: r => is.length + 1 + (is2.length + cntM r)
theorem mix_sound {A : Act → World → Prop} (hsel : Region.noSelect ops = true) {nt n : Nat} (hnt : X.nt = nt) (hn : n ≤ X.base.length) : ∀ (pl : List PlM) (c : Cfg) (N : Cfg → Prop) (L : Array Bool),vM X ops n pl c N → mixOK ops nt pl L = true → L.size = ops.size →
    (∀ c' ρ' σ' a' w',Rel X c' ρ' σ' a' w' → N c' → A a' w') → ∀ ρ σ a w,Rel X c ρ σ a w → wpAny X.P .any ops (QN A) (cntM pl) L a w
  | [],c,N,L,h,hp,hL,hA,ρ,σ,a,w,hr => by
    simp only [mixOK,List.isEmpty_iff] at hp
    exact wpAny_done hp ⟨rfl,hA _ _ _ _ _ hr h⟩ _
  | .p x :: r,c,N,L,h,hp,hL,hA,ρ,σ,a,w,hr => by
    simp only [mixOK,Bool.and_eq_true] at hp
    obtain ⟨⟨h1,h2⟩,h3⟩ := hp
    simp only [vM] at h
    rw [vplT_eq (by simp [h2])] at h
    exact item_sound hsel x.pl c _ L (cntM r) h h1 hL (fun c' ρ' σ' a' w' hr' hN' => mix_sound hsel hnt hn r c' N _ hN' h3 (by rw [itemL_size,hL]) hA ρ' σ' a' w' hr') ρ σ a w hr
  | .h is h ks ds is2 :: r,c,N,L,hv,hp,hL,hA,ρ,σ,a,w,hr => by
    simp only [mixOK,Bool.and_eq_true] at hp
    obtain ⟨⟨h1,h2⟩,h3⟩ := hp
    simp only [vM] at hv
    have h2' : is.all (lkOK ops) = true := by rw [List.all_append,Bool.and_eq_true] at h2;exact h2.1
    rw [vqL_eq h2'] at hv
    have e : (fun c1 => vs1 X ops (ops[h]?) (killL ks c1) (fun c2 => vqL X ops (is ++ is2) c2 (fun c2' => agN n ds c1 c2' ∧ vM X ops n r c2' N))) = (fun c1 => vs1 X ops (ops[h]?) (killL ks c1) (fun c2 => vq X ops (is.map (·.1) ++ is2.map (·.1)) c2 (fun c2' => agN n ds c1 c2' ∧ vM X ops n r c2' N))) := by
      funext c1
      congr 1
      funext c2
      rw [vqL_eq h2,List.map_append]
    rw [e] at hv
    have := holdC_sound (A := A) (F := cntM r) hnt hn hv h1 hL (fun c' ρ' σ' a' w' hr' hN' => mix_sound hsel hnt hn r c' N _ hN' h3 (by rw [setL_size];simp [hL]) hA ρ' σ' a' w' hr') ρ σ a w hr
    simpa [cntM] using this
def mixB (l : List Oper) (nt : Nat) (pl : List PlM) : Bool := Region.noSelect l.toArray && decide (cntM pl = l.length) && mixOK l.toArray nt pl (Array.replicate l.length false)
theorem SX.mix {c : Cfg} {id : Nat} {l : List Oper} {K : Exit → Cfg → Prop} (nt : Nat) (pl : List PlM) {n : Nat} (hm : X.P.follows .mixedOrders = true) (hnt : X.nt = nt) (hn : n ≤ X.base.length) (hB : mixB l nt pl = true)
    (h : vM X l.toArray n pl c (K .normal)) : SX X (.region id l.toArray true) c K := fun ρ σ a w hr => by
  simp only [mixB,Bool.and_eq_true,decide_eq_true_eq] at hB
  have hr' : Rel X c ρ σ a { w with drawn := w.drawn + 1 } := hr.below ⟨rfl,rfl,rfl,Nat.le_refl _,fun _ _ => rfl⟩
  have h1 := mix_sound (A := fun a w => Post X K .normal a w) hB.1.1 hnt hn pl c (K .normal) (Array.replicate l.length false) h hB.2 (by simp) (fun c3 ρ3 σ3 a3 w3 hr3 hk => ⟨c3,ρ3,σ3,hr3,hk⟩) ρ σ a _ hr'
  rw [hB.1.2] at h1
  have h2 : (Code.region id l.toArray true).wp X.P (QN fun a w => Post X K .normal a w) a w := wp_region_any hm (by simpa using h1)
  exact Go.wp_mono h2 (fun e a w h => by obtain ⟨rfl,h⟩ := h;exact h)
theorem SX.pin {code : Code} {c : Cfg} {K : Exit → Cfg → Prop} (h : ∀ X' : Ctx,Under X X' → X'.wi = X.wi → X'.own = X.own → X'.nt = X.nt → X'.base.length = c.loc.length → SX X' code c K) : SX X code c K := fun ρ σ a w hr => by
  have h1 := h { X with base := σ } ⟨rfl,fun k _ ho => ⟨rfl,ho⟩⟩ rfl rfl rfl hr.lenS ρ σ a w ⟨hr.env,hr.len,hr.lenS,hr.loc,hr.inj,hr.lt,hr.fresh,hr.low,hr.defers,hr.size,hr.one,fun i v hv => hv⟩
  refine Go.wp_mono h1 (fun e a w h => ?_)
  obtain ⟨c',ρ',σ',hr',hk⟩ := h
  refine ⟨c',ρ',σ',⟨hr'.env,hr'.len,hr'.lenS,hr'.loc,hr'.inj,hr'.lt,hr'.fresh,hr'.low,hr'.defers,hr'.size,hr'.one,fun i v hv => hr'.pin i v (hr.pin i v hv)⟩,hk⟩
theorem SX.mixP {c : Cfg} {id : Nat} {l : List Oper} {K : Exit → Cfg → Prop} (nt : Nat) (pl : List PlM) (hm : X.P.follows .mixedOrders = true) (hnt : X.nt = nt) (hB : mixB l nt pl = true)
    (h : ∀ X' : Ctx,Under X X' → X'.wi = X.wi → X'.own = X.own → X'.nt = X.nt → X'.base.length = c.loc.length → vM X' l.toArray c.loc.length pl c (K .normal)) : SX X (.region id l.toArray true) c K :=
  SX.pin fun X' hU hw ho hn hb => SX.mix nt pl (by rw [hU.P];exact hm) (by rw [hn];exact hnt) (Nat.le_of_eq hb.symm) hB (h X' hU hw ho hn hb)
end
def NU (n g : Nat) (a b : SC) : Prop := a = b ∨ (a = .v (.slice none 0 0) ∧ ∃ i,n ≤ i ∧ i < n + g ∧ b = .row i)
theorem NU.same {n g : Nat} (a : SC) : NU n g a a := .inl rfl
theorem NU.nil {n g i : Nat} (h1 : n ≤ i) (h2 : i < n + g) : NU n g (.v (.slice none 0 0)) (.row i) := .inr ⟨rfl,i,h1,h2,rfl⟩
section
variable {X : Ctx} {c : Cfg}
theorem Rel.nilRows {σ : List Value} {a : Act} {w : World} : ∀ (gs : List (TypeId × Nat)) {c : Cfg} {ρ : List (List Nat)} {σ : List Value},Rel X c ρ σ a w → ∃ ρ',Rel X { c with loc := c.loc ++ gs.map fun p => .row p.1 p.2 0 [] } ρ' (σ ++ List.replicate gs.length (Value.slice none 0 0)) a w
  | [],c,ρ,σ,h => ⟨ρ,by simpa using h⟩
  | p :: gs,c,ρ,σ,h => by
    obtain ⟨ρ',h2⟩ := Rel.nilRows (σ := σ) gs (h.nilRow p.1 p.2)
    refine ⟨ρ',?_⟩
    simpa [List.replicate_succ,List.append_assoc] using h2
theorem All2.trans1 {α β γ : Type} {R : α → γ → Prop} {S : α → β → Prop} {T : β → γ → Prop} (h : ∀ a b c,S a b → R a c → T b c) : ∀ {l : List α} {m : List β} {q : List γ},All2 S l m → All2 R l q → All2 T m q
  | [],[],[],_,_ => trivial
  | a :: l,b :: m,c :: q,h1,h2 => ⟨h a b c h1.1 h2.1,All2.trans1 h h1.2 h2.2⟩
  | [],[],_ :: _,_,h2 => h2.elim
  | [],_ :: _,_,h1,_ => h1.elim
  | _ :: _,[],_,h1,_ => h1.elim
  | _ :: _,_ :: _,[],_,h2 => h2.elim
theorem Ctr.nils {P : Program} {G : List (Addr × Value)} {f : FuncId} {os : List LO} {args : List SV} {R : List LO → SV → Prop} (gs : List (TypeId × Nat))
    (h : Ctr P G f os args (fun os' r => ∃ l l' bs,r = .tup (.agg l :: bs) ∧ All2 (NU os'.length gs.length) l l' ∧ R (os' ++ gs.map fun p => .row p.1 p.2 0 []) (.tup (.agg l' :: bs)))) : Ctr P G f os args R := by
  intro X hP hG N hN ρ σ a w hr vals ha
  refine (h X hP hG (fun c s => ∃ os',c = ⟨[],os'⟩ ∧ ∃ l l' bs,s = .tup (.agg l :: bs) ∧ All2 (NU os'.length gs.length) l l' ∧ R (os' ++ gs.map fun p => .row p.1 p.2 0 []) (.tup (.agg l' :: bs))) (fun os' s hR => ⟨os',rfl,hR⟩) ρ σ a w hr vals ha).mono ?_
  rintro ev w' ⟨v,c',ρ',σ',s,rfl,hr',hd,os',rfl,l,l',bs,rfl,hl,hR⟩
  obtain ⟨ρ2,hr2⟩ := Rel.nilRows (σ := []) gs hr'
  refine ⟨v,_,ρ2,_,_,rfl,hr2,?_,hN _ _ hR⟩
  have hup : Up σ' (σ' ++ List.replicate gs.length (Value.slice none 0 0)) := Up.append _ _
  obtain ⟨vs,e,ha⟩ := hd
  cases vs with
  | nil => exact ha.elim
  | cons u vs =>
    obtain ⟨⟨cs,e1,h1⟩,h2⟩ := ha
    refine ⟨u :: vs,e,⟨cs,e1,?_⟩,h2.mono (fun a b h => D1.mono hup _ _ h)⟩
    refine All2.trans1 (fun a b c hab hac => ?_) hl h1
    rcases hab with rfl | ⟨rfl,i,hi,hi2,rfl⟩
    · exact DC.mono hup _ _ hac
    · have hac : c = .slice none 0 0 := hac
      subst hac
      show (σ' ++ List.replicate gs.length (Value.slice none 0 0))[i]? = some (.slice none 0 0)
      have hls : σ'.length = os'.length := hr'.lenS
      rw [List.getElem?_append_right (by omega),List.getElem?_replicate,if_pos (by omega)]
end
end Go.Sx
namespace Go.Proofs.YtbdacbcpniegiaaGreatDoor.Q
open Go Go.RowKit Go.Proofs Go.Sx
def gq (s : List UInt8) : RqS := (reqR s).getD .zero
def gp (s : List UInt8) : RpS := (respR s).getD .zero
theorem getReq_all {e : EA} (he : e.Ok) (s : List UInt8) (hs : s.length ≤ 1048576) : Ctr Tryz.prog (GE e) 14 [] [vv (.string (B s))] (fun os v => os = [srow (gq s).sb,srow (gq s).un,hrow (gq s).hv] ∧
    v = .tup [.agg [.v (.int .i64 ((min (gq s).kind 6 : Nat) : Int)),.v (.bool (((gq s).delta : Int) == 1)),.v (.int .u64 (gq s).nonce),.row 0,.row 1,.row 2,.v (.string (B (gq s).det))],.c (.v (.bool (reqR s).isSome))]) := by
  have h := getReq_ctr he s hs
  unfold gq
  cases hr : reqR s with
  | some m => rw [hr] at h;exact h
  | none =>
    rw [hr] at h
    refine Ctr.nils [(9,1),(9,1),(91,2)] (h.mono ?_)
    rintro os v ⟨rfl,rfl⟩
    exact ⟨_,[.v (.int .i64 0),.v (.bool false),.v (.int .u64 0),.row 0,.row 1,.row 2,.v (.string (B []))],_,rfl,⟨.same _,.same _,.same _,.nil (by decide) (by decide),.nil (by decide) (by decide),.nil (by decide) (by decide),.same _,trivial⟩,rfl,rfl⟩
theorem getResp_all {e : EA} (he : e.Ok) (s : List UInt8) (hs : s.length ≤ 1099511627776) : Ctr Tryz.prog (GE e) 34 [] [vv (.string (B s))] (fun os v => os = [mrow (gp s).rs,srow (gp s).rm] ∧
    v = .tup [.agg [.v (.int .i64 ((min (gp s).kind 6 : Nat) : Int)),.v (.bool (((gp s).delta : Int) == 1)),.v (.bool (((gp s).more : Int) == 1)),.v (.int .u64 (gp s).nonce),.v (.int .u64 (gp s).ver),.row 0,.row 1],.c (.v (.bool (respR s).isSome))]) := by
  have h := getResp_ctr he s hs
  unfold gp
  cases hr : respR s with
  | some m => rw [hr] at h;exact h
  | none =>
    rw [hr] at h
    refine Ctr.nils [(139,5),(9,1)] (h.mono ?_)
    rintro os v ⟨rfl,rfl⟩
    exact ⟨_,[.v (.int .i64 0),.v (.bool false),.v (.bool false),.v (.int .u64 0),.v (.int .u64 0),.row 0,.row 1],_,rfl,⟨.same _,.same _,.same _,.same _,.same _,.nil (by decide) (by decide),.nil (by decide) (by decide),trivial⟩,rfl,rfl⟩
theorem body_n {k : Nat} {p : List UInt8} {n z : Nat} {r : List UInt8} (h : NW.body k p = some (n,z,r)) : n < 18446744073709551616 := by
  simp only [NW.body] at h
  split at h
  · cases hr : NW.readVar p with
    | none => simp [hr] at h
    | some x =>
      have h2 := NW.readVar_lt hr
      simp [hr] at h
      obtain ⟨rfl,_,_⟩ := h
      omega
  · split at h
    · simp at h;omega
    · split at h
      · cases hr : NW.readVar p with
        | none => simp [hr] at h
        | some x => simp [hr] at h;omega
      · split at h
        · simp at h;omega
        · simp at h
theorem takeF_n {p : List UInt8} {f : NW.Fld} {r : List UInt8} (h : NW.takeF p = some (f,r)) : f.n < 18446744073709551616 := by
  simp only [NW.takeF] at h
  cases hr : NW.readVar p with
  | none => simp [hr] at h
  | some x =>
    obtain ⟨tag,z⟩ := x
    simp only [hr] at h
    split at h
    · simp at h
    · cases hb : NW.body (tag % 8) (p.drop z) with
      | none => simp [hb] at h
      | some y =>
        obtain ⟨n,size,s1⟩ := y
        have := body_n hb
        simp only [hb] at h
        split at h
        · simp at h
          obtain ⟨rfl,_⟩ := h
          exact this
        · simp at h
theorem parse_n {s : List UInt8} {l : List NW.Fld} (h : NW.parse s = some l) : ∀ f ∈ l,f.n < 18446744073709551616 :=
  parse_all_aux (fun _ f => f.n < 18446744073709551616) (fun p f r h => takeF_n h) (fun a b f hab h => h) _ s l (Nat.le_refl _) h
theorem takeH_n (s : List UInt8) (m : HvS) (hm : m.2 < 18446744073709551616) : (takeB stepH s m).1.2 < 18446744073709551616 := by
  unfold takeB
  cases hp : NW.parse s with
  | none => exact hm
  | some l =>
    refine takeG_inv (fun m => m.2 < 18446744073709551616) l m hm fun f hf m m' h1 h2 => ?_
    have hn := parse_n hp f hf
    unfold stepH at h2
    repeat' split at h2
    all_goals first|(cases h2;done)|(cases h2;exact h1)|(cases h2;exact hn)
structure RqN (m : RqS) : Prop where
  q : m.nonce < 18446744073709551616
  hv : ∀ x ∈ m.hv,x.2 < 18446744073709551616
structure RpN (m : RpS) : Prop where
  q : m.nonce < 18446744073709551616
  v : m.ver < 18446744073709551616
theorem stepQ_n {f : NW.Fld} {m : RqS} (hf : f.n < 18446744073709551616) (h : RqN m) : RqN (stepQ f m).1 := by
  have hh := takeH_n f.s ([],0) (by decide)
  unfold stepQ
  repeat' split
  all_goals first
    | exact h
    | exact ⟨h.q,h.hv⟩
    | exact ⟨hf,h.hv⟩
    | (refine ⟨h.q,fun x hx => ?_⟩
       rcases List.mem_append.1 hx with hx | hx
       · exact h.hv x hx
       · simp at hx;rw [hx];exact hh)
theorem takeQ_n : ∀ {l : List NW.Fld} {m : RqS},(∀ f ∈ l,f.n < 18446744073709551616) → RqN m → RqN (takeX stepQ l m).1
  | [],m,_,h => h
  | f :: l,m,hf,h => by
    have h1 := stepQ_n (hf f List.mem_cons_self) h
    rw [takeX]
    split
    · exact takeQ_n (fun g hg => hf g (List.mem_cons_of_mem _ hg)) h1
    · exact h1
theorem takeXB_n (s : List UInt8) : RqN (takeXB stepQ s .zero).1 := by
  unfold takeXB
  cases hp : NW.parse s with
  | none => exact ⟨by decide,fun x hx => by cases hx⟩
  | some l => exact takeQ_n (parse_n hp) ⟨by decide,fun x hx => by cases hx⟩
theorem stepP_n {f : NW.Fld} {m : RpS} (hf : f.n < 18446744073709551616) (h : RpN m) : RpN (stepP f m).1 := by
  unfold stepP
  repeat' split
  all_goals first
    | exact h
    | exact ⟨h.q,h.v⟩
    | exact ⟨hf,h.v⟩
    | exact ⟨h.q,hf⟩
theorem takeP_n : ∀ {l : List NW.Fld} {m : RpS},(∀ f ∈ l,f.n < 18446744073709551616) → RpN m → RpN (takeX stepP l m).1
  | [],m,_,h => h
  | f :: l,m,hf,h => by
    have h1 := stepP_n (hf f List.mem_cons_self) h
    rw [takeX]
    split
    · exact takeP_n (fun g hg => hf g (List.mem_cons_of_mem _ hg)) h1
    · exact h1
theorem takePB_n (s : List UInt8) : RpN (takeXB stepP s .zero).1 := by
  unfold takeXB
  cases hp : NW.parse s with
  | none => exact ⟨by decide,by decide⟩
  | some l => exact takeP_n (parse_n hp) ⟨by decide,by decide⟩
theorem putGot (s : List UInt8) (hs : s.length ≤ 1048576) : ∃ o : List UInt8,Ctr Tryz.prog [] 10 [srow (gq s).sb,srow (gq s).un,hrow (gq s).hv] [.one (.agg [.v (.int .i64 ((min (gq s).kind 6 : Nat) : Int)),.v (.bool (((gq s).delta : Int) == 1)),.v (.int .u64 (gq s).nonce),.row 0,.row 1,.row 2,.v (.string (B (gq s).det))])]
    (fun os v => os = [srow (gq s).sb,srow (gq s).un,hrow (gq s).hv] ∧ v = .tup [.c (.v (.string (B o))),.c (.v (.bool (reqR s).isSome))]) := by
  unfold gq
  cases hr : reqR s with
  | none =>
    have h := putReq_ctr 0 false 0 [] [] [] [] (by decide) (by decide) (by decide) (by decide) (fun s hs => by cases hs) (fun s hs => by cases hs) (fun s hs => by cases hs)
    rw [show reqB 0 false 0 [] [] [] [] = false from rfl] at h
    exact ⟨_,h⟩
  | some m =>
    obtain ⟨h1,h2,h3⟩ := reqR_some hr
    have hB := takeXB_b (s.drop 1)
    have hn := takeXB_n (s.drop 1)
    rw [h2] at hB hn
    have hd : (s.drop 1).length ≤ 1048576 := by rw [List.length_drop];omega
    obtain ⟨hb,hl1,hl2,hl3⟩ := hB
    dsimp only at hl1 hl2 hl3
    have hbq := hb.hv
    dsimp only at hbq
    have hq : reqB ((min m.kind 6 : Nat) : Int) ((m.delta : Int) == 1) m.nonce m.sb m.un m.hv m.det = true := by
      simp only [okQ,Bool.and_eq_true] at h3;exact h3.2
    have h := putReq_ctr ((min m.kind 6 : Nat) : Int) ((m.delta : Int) == 1) m.nonce m.sb m.un m.hv m.det hn.q (by omega) (by omega) (by omega) (fun x hx => by have := hb.sb x hx;omega) (fun x hx => by have := hb.un x hx;omega) (fun x hx => ⟨by have := hbq x hx;omega,hn.hv x hx⟩)
    rw [hq] at h
    exact ⟨_,h⟩
theorem putGotP (s : List UInt8) (hs : s.length ≤ 1048576) : ∃ o : List UInt8,Ctr Tryz.prog [] 31 [mrow (gp s).rs,srow (gp s).rm] [.one (.agg [.v (.int .i64 ((min (gp s).kind 6 : Nat) : Int)),.v (.bool (((gp s).delta : Int) == 1)),.v (.bool (((gp s).more : Int) == 1)),.v (.int .u64 (gp s).nonce),.v (.int .u64 (gp s).ver),.row 0,.row 1])]
    (fun os v => os = [mrow (gp s).rs,srow (gp s).rm] ∧ v = .tup [.c (.v (.string (B o))),.c (.v (.bool (respR s).isSome))]) := by
  unfold gp
  cases hr : respR s with
  | none =>
    have h := putResp_ctr 0 false false 0 0 [] [] (by decide) (by decide) (by decide) (fun s hs => by cases hs) (by decide) (fun s hs => by cases hs)
    rw [show respB 0 false false 0 [] [] = false from rfl] at h
    exact ⟨_,h⟩
  | some m =>
    obtain ⟨h1,h2,h3⟩ := respR_some hr
    have hB := takePB_b (s.drop 1)
    have hn := takePB_n (s.drop 1)
    rw [h2] at hB hn
    have hd : (s.drop 1).length ≤ 1048576 := by rw [List.length_drop];omega
    obtain ⟨hb,hl1,hl2⟩ := hB
    dsimp only at hl1 hl2
    have hq : respB ((min m.kind 6 : Nat) : Int) ((m.delta : Int) == 1) ((m.more : Int) == 1) m.nonce m.rs m.rm = true := by
      simp only [okP,Bool.and_eq_true] at h3;exact h3.2.2
    have h := putResp_ctr ((min m.kind 6 : Nat) : Int) ((m.delta : Int) == 1) ((m.more : Int) == 1) m.nonce m.ver m.rs m.rm hn.q hn.v (by omega) (fun x hx => by have := hb.rs x hx;omega) (by omega) (fun x hx => by have := hb.rm x hx;omega)
    rw [hq] at h
    exact ⟨_,h⟩
theorem gq_cut {t : Nat} {dl : Bool} {q : Nat} {sb un : List (List UInt8)} {hv : List HvS} {d : List UInt8} (hq : q < 18446744073709551616) (b3 : ∀ x ∈ hv,x.2 < 18446744073709551616) (h : reqB (t : Int) dl q sb un hv d = true) (k : Nat)
    (hs : (reqR ((reqBytes t dl q sb un hv d).take k)).isSome = true) : (gq ((reqBytes t dl q sb un hv d).take k)).sb.length ≤ sb.length := by
  obtain ⟨m,hm⟩ := Option.isSome_iff_exists.1 hs
  unfold gq
  rw [hm]
  exact (reqR_cut hq b3 h k hm).2
theorem gp_cut {t : Nat} {dl mo : Bool} {q v : Nat} {rs : List Rs} {rm : List (List UInt8)} (hq : q < 18446744073709551616) (hv : v < 18446744073709551616) (h : respB (t : Int) dl mo q rs rm = true) (k : Nat)
    (hs : (respR ((respBytes t dl mo q v rs rm).take k)).isSome = true) : (gp ((respBytes t dl mo q v rs rm).take k)).rs.length ≤ rs.length := by
  obtain ⟨m,hm⟩ := Option.isSome_iff_exists.1 hs
  unfold gp
  rw [hm]
  exact (respR_cut hq hv h k hm).2
theorem cuts_ctr {e : EA} (he : e.Ok) (t : Int) (dl : Bool) (q : Nat) (hq : q < 18446744073709551616) (d : List UInt8) (hd : d.length ≤ 9223372036854775807) (a0 : Option Addr) (n0 c0 : Nat) (a1 : Option Addr) (n1 c1 : Nat) (a2 : Option Addr) (n2 c2 : Nat) (o1 : Bool) (qL : Option Addr) (L : List UInt8) (cL : Nat) (qM : Option Addr) (M : List UInt8) (cM : Nat)
    (t' : Int) (dl' mo' : Bool) (q' v' : Nat) (hq' : q' < 18446744073709551616) (hv' : v' < 18446744073709551616) (a0' : Option Addr) (n0' c0' : Nat) (a1' : Option Addr) (n1' c1' : Nat) (o2 : Bool) (qL' : Option Addr) (L' : List UInt8) (cL' : Nat) (qM' : Option Addr) (M' : List UInt8) (cM' : Nat)
    (nu : Nat) (hnu : nu < 65536) :
    CtrF Tryz.prog (fun X => BackF X e qL L qM M qL' L' qM' M') 6 [] [.one (.agg [.v (.int .i64 t),.v (.bool dl),.v (.int .u64 q),.v (.slice a0 n0 c0),.v (.slice a1 n1 c1),.v (.slice a2 n2 c2),.v (.string (B d)),.v (.bool o1),.v (.slice qL L.length cL),.v (.slice qM M.length cM)]),.one (.agg [.v (.int .i64 t'),.v (.bool dl'),.v (.bool mo'),.v (.int .u64 q'),.v (.int .u64 v'),.v (.slice a0' n0' c0'),.v (.slice a1' n1' c1'),.v (.bool o2),.v (.slice qL' L'.length cL'),.v (.slice qM' M'.length cM')]),vv (.int .u16 nu)] (fun os u => os = [] ∧ u = vv (.bool true)) := by
  have hask := ask_ctr t dl q hq d hd a0 n0 c0 a1 n1 c1 a2 n2 c2 qL L cL qM M cM
  have htell := tell_ctr t' dl' mo' q' v' hq' a0' n0' c0' a1' n1' c1' qL' L' cL' qM' M' cM'
  have hex := ex05_ctr he
  have hw1 : IntKind.i64.wrap (nu : Int) = nu := wI64 (by omega) (by omega)
  have hpt := ask_put (t := t) (dl := dl) hq d L M
  have hpr := tell_put (t := t') (dl := dl') (mo := mo') hq' hv' L' M'
  have hrt := ask_right t dl q d L M
  have hrr := tell_right t' dl' mo' q' L' M'
  have b1 := reqBytes_len (by omega) (askHv_q dl M) hrt
  have b2 := respBytes_len (v := v') (by omega) hv' hrr
  have hc1 := gq_cut (by omega) (askHv_q dl M) hrt (nu % (reqBytes (tN t) dl (q % 6) (askSb L) (askUn dl M) (askHv dl M) (askDet q d)).length)
  have hc2 := gp_cut (v := v') (by omega) hv' hrr (nu % (respBytes (tN t') dl' (mo' && dl') (1 + q' % 6) v' (tellRs (tN t') L') (tellRm dl' M')).length)
  have z1 : (reqBytes (tN t) dl (q % 6) (askSb L) (askUn dl M) (askHv dl M) (askDet q d) == []) = false := rfl
  have z2 : (respBytes (tN t') dl' (mo' && dl') (1 + q' % 6) v' (tellRs (tN t') L') (tellRm dl' M') == []) = false := rfl
  have y1 : 0 < (reqBytes (tN t) dl (q % 6) (askSb L) (askUn dl M) (askHv dl M) (askDet q d)).length := Nat.succ_pos _
  have y2 : 0 < (respBytes (tN t') dl' (mo' && dl') (1 + q' % 6) v' (tellRs (tN t') L') (tellRm dl' M')).length := Nat.succ_pos _
  clear hrt hrr
  generalize reqBytes (tN t) dl (q % 6) (askSb L) (askUn dl M) (askHv dl M) (askDet q d) = st at *
  generalize respBytes (tN t') dl' (mo' && dl') (1 + q' % 6) v' (tellRs (tN t') L') (tellRm dl' M') = rt at *
  have m1 := Nat.mod_lt nu y1
  have m2 := Nat.mod_lt nu y2
  have r1 : ((nu : Int)).tmod (st.length : Int) = ((nu % st.length : Nat) : Int) := rfl
  have r2 : ((nu : Int)).tmod (rt.length : Int) = ((nu % rt.length : Nat) : Int) := rfl
  generalize hk1 : nu % st.length = k1 at *
  generalize hk2 : nu % rt.length = k2 at *
  have l1 : (st.take k1).length ≤ 1048576 := by rw [List.length_take];omega
  have l2 : (rt.take k2).length ≤ 1048576 := by rw [List.length_take];omega
  have hg1 := getReq_all he (st.take k1) l1
  have hg2 := getResp_all he (rt.take k2) (by omega)
  obtain ⟨o1',hpx⟩ := putGot (st.take k1) l1
  obtain ⟨o2',hpy⟩ := putGotP (rt.take k2) l2
  generalize (reqR (st.take k1)).isSome = f1 at *
  generalize (respR (rt.take k2)).isSome = f2 at *
  generalize gq (st.take k1) = x at *
  generalize gp (rt.take k2) = y at *
  have hap1 : ∀ (a : Oper) (l m : List Oper),List.append (a :: l) m = a :: List.append l m := fun _ _ _ => rfl
  have hap0 : ∀ m : List Oper,List.append [] m = m := fun _ => rfl
  refine CtrF.less ?_
  intro X0 hP0 hG0 N0 hN0
  refine CallVC.inline (f := 6) (by rw [hP0];exact Tryz.func6) rfl Tryz.ntmps6 rfl (by simp) ?_
  intro X K hU hnt hbl hK
  have hP : X.P = Tryz.prog := hU.P.trans hP0
  have hG := hG0.under hU
  have hT := Ty.T6 hP
  simp only [GA,↓GB,GX,simprocAttr] at hbl ⊢
  have hGA := hG.a
  have hGB := hG.b
  replace hG := hG.k
  have hnt1 := True.intro;have hT1 := True.intro;have hU1P := True.intro
  repeat' (first|(cases f1)|(cases f2)|(refine SX.seqK ?_;intro N hN)|((first | (refine SX.ops ?_));simp only [GA,↓GB,GX,simprocAttr,hnt,hT,hnt1,hT1,hU1P,vM,killL,agN,agP,csN,c1N,ccN,cpN,List.cons_append,List.nil_append,List.length_cons,List.length_nil,List.all_cons,List.all_nil,Bool.and_true,decide_true,hw1,hap1,hap0,z1,z2,r1,r2])|(refine SX.mixP (id := 14) 120 [.p (.s 0),.p (.s 1),.p (.s 2),.p (.s 3),.p (.s 4),.p (.s 5),.p (.s 6),.p (.s 7),.p (.q [(8,[13,82]),(9,[17,82]),(10,[83,84,82]),(11,[82,85]),(12,[86]),(13,[15,87]),(14,[19,87]),(15,[88,89,87]),(16,[87,90]),(17,[91]),(18,[13,92]),(19,[93,92]),(20,[94,92])] none),.h [(21,[12,95]),(22,[96,95]),(23,[97,95]),(24,[3,95])] 25 [96,97,98] [96,97,98,99] [(26,[100,95]),(27,[101,95]),(28,[98,102,95]),(29,[95,103,92]),(30,[92,104]),(31,[105]),(32,[15,106]),(33,[107,106]),(34,[108,106])],.h [(35,[14,109]),(36,[110,109]),(37,[111,109]),(38,[4,109])] 39 [110,111,112] [110,111,112,113] [(40,[114,109]),(41,[115,109]),(42,[112,116,109]),(43,[109,117,106]),(44,[106,118]),(45,[119])]] ?_ hnt ?_ ?_;(focus first | (rw [hP];kernel_rfl) | (rw [hU1P,hP];kernel_rfl));(focus kernel_rfl);intro X1 hU1 hwi1 hown1 hnt1 hbl1;have hU1P := hU1.P;have hnt1 := hnt1.trans hnt;simp (maxSteps := 1000000) only [GA,↓GB,GX,simprocAttr,hnt,hT,vM,killL,agN,agP,csN,c1N,ccN,cpN,List.cons_append,List.nil_append,List.length_cons,List.length_nil,List.all_cons,List.all_nil,Bool.and_true,decide_true,hnt1,hT1,hU1P,vM,killL,agN,agP,csN,c1N,ccN,cpN,List.cons_append,List.nil_append,List.length_cons,List.length_nil,List.all_cons,List.all_nil,Bool.and_true,decide_true,hw1,hap1,hap0,z1,z2,r1,r2])|((first | refine SX.skip ?_ | refine SX.exit ?_ | refine SX.label ?_ | refine SX.ret ?_);try simp only [GA,↓GB,GX,simprocAttr])|(refine hN _ ?_;clear hN N)|((first | refine hK _ _ (FinI.ret3 ?_) | refine hK _ _ (FinI.nrm3 ?_));simp only [GA,↓GB,GX,simprocAttr,finP_s,hnt,hT,hnt1,hT1,hU1P,vM,killL,agN,agP,csN,c1N,ccN,cpN,List.cons_append,List.nil_append,List.length_cons,List.length_nil,List.all_cons,List.all_nil,Bool.and_true,decide_true,hw1,hap1,hap0,z1,z2,r1,r2];refine Done.out ?_)|((first | refine SX.cond rfl (fun hb => ?_) (fun hb => ?_) | (refine bif2.mk (fun hb => ?_) (fun hb => ?_) <;> (try simp only [hb,GA,↓GB,GX,simprocAttr,hnt,hT,hnt1,hT1,hU1P,vM,killL,agN,agP,csN,c1N,ccN,cpN,List.cons_append,List.nil_append,List.length_cons,List.length_nil,List.all_cons,List.all_nil,Bool.and_true,decide_true,hw1,hap1,hap0,z1,z2,r1,r2]))) <;> ((first | cases hb | (simp only [HBs] at hb) | skip) <;> (first | (exfalso;omega) | skip)))|((first | (refine Ctr.use (hex) hP hG [] ?_ rfl rfl ?_;(focus (refine LeR.of rfl trivial ?_ ?_ ?_ ?_ ?_ <;> first | decide | (simp only [GA,↓GB,GX,simprocAttr,GDs];done)));intro os' s hR;obtain ⟨rfl,rfl⟩ := hR) | (refine CtrF.use (hask) hP (fun X' hU => hGA.under hU) [] ?_ rfl rfl ?_;(focus (refine LeR.of rfl trivial ?_ ?_ ?_ ?_ ?_ <;> first | decide | (simp only [GA,↓GB,GX,simprocAttr,GDs];done)));intro os' s hR;obtain ⟨rfl,rfl⟩ := hR) | (refine CtrF.use (htell) hP (fun X' hU => hGB.under hU) [] ?_ rfl rfl ?_;(focus (refine LeR.of rfl trivial ?_ ?_ ?_ ?_ ?_ <;> first | decide | (simp only [GA,↓GB,GX,simprocAttr,GDs];done)));intro os' s hR;obtain ⟨rfl,rfl⟩ := hR) | (refine Ctr.use (hpt) hP ?_ [2,3,4] ?_ rfl rfl ?_;(focus (intro p hp;cases hp));(focus (refine LeR.of rfl trivial ?_ ?_ ?_ ?_ ?_ <;> first | decide | (simp only [GA,↓GB,GX,simprocAttr,GDs];done)));intro os' s hR;obtain ⟨rfl,rfl⟩ := hR) | (refine Ctr.use (hpr) hP ?_ [5,6] ?_ rfl rfl ?_;(focus (intro p hp;cases hp));(focus (refine LeR.of rfl trivial ?_ ?_ ?_ ?_ ?_ <;> first | decide | (simp only [GA,↓GB,GX,simprocAttr,GDs];done)));intro os' s hR;obtain ⟨rfl,rfl⟩ := hR) | (refine Ctr.use (hg1) hP hG [] ?_ rfl rfl ?_;(focus (refine LeR.of rfl trivial ?_ ?_ ?_ ?_ ?_ <;> first | decide | (simp only [GA,↓GB,GX,simprocAttr,GDs];done)));intro os' s hR;obtain ⟨rfl,rfl⟩ := hR) | (refine Ctr.use (hg2) hP hG [] ?_ rfl rfl ?_;(focus (refine LeR.of rfl trivial ?_ ?_ ?_ ?_ ?_ <;> first | decide | (simp only [GA,↓GB,GX,simprocAttr,GDs];done)));intro os' s hR;obtain ⟨rfl,rfl⟩ := hR) | (refine Ctr.use (hpx) hP ?_ [7,8,9] ?_ rfl rfl ?_;(focus (intro p hp;cases hp));(focus (refine LeR.of rfl trivial ?_ ?_ ?_ ?_ ?_ <;> first | decide | (simp only [GA,↓GB,GX,simprocAttr,GDs];done)));intro os' s hR;obtain ⟨rfl,rfl⟩ := hR) | (refine Ctr.use (hpy) hP ?_ [11,12] ?_ rfl rfl ?_;(focus (intro p hp;cases hp));(focus (refine LeR.of rfl trivial ?_ ?_ ?_ ?_ ?_ <;> first | decide | (simp only [GA,↓GB,GX,simprocAttr,GDs];done)));intro os' s hR;obtain ⟨rfl,rfl⟩ := hR));simp only [GA,↓GB,GX,simprocAttr,hnt,hT,hnt1,hT1,hU1P,vM,killL,agN,agP,csN,c1N,ccN,cpN,List.cons_append,List.nil_append,List.length_cons,List.length_nil,List.all_cons,List.all_nil,Bool.and_true,decide_true,hw1,hap1,hap0,z1,z2,r1,r2])|((first | (refine Ctr.use (hex) (hU1P.trans hP) (hG.under hU1) [] ?_ rfl rfl ?_;(focus (refine LeR.of rfl trivial ?_ ?_ ?_ ?_ ?_ <;> first | decide | (simp only [GA,↓GB,GX,simprocAttr,GDs];done)));intro os' s hR;obtain ⟨rfl,rfl⟩ := hR) | (refine CtrF.use (hask) (hU1P.trans hP) (fun X' hU => (hGA.under hU1).under hU) [] ?_ rfl rfl ?_;(focus (refine LeR.of rfl trivial ?_ ?_ ?_ ?_ ?_ <;> first | decide | (simp only [GA,↓GB,GX,simprocAttr,GDs];done)));intro os' s hR;obtain ⟨rfl,rfl⟩ := hR) | (refine CtrF.use (htell) (hU1P.trans hP) (fun X' hU => (hGB.under hU1).under hU) [] ?_ rfl rfl ?_;(focus (refine LeR.of rfl trivial ?_ ?_ ?_ ?_ ?_ <;> first | decide | (simp only [GA,↓GB,GX,simprocAttr,GDs];done)));intro os' s hR;obtain ⟨rfl,rfl⟩ := hR) | (refine Ctr.use (hpt) (hU1P.trans hP) ?_ [2,3,4] ?_ rfl rfl ?_;(focus (intro p hp;cases hp));(focus (refine LeR.of rfl trivial ?_ ?_ ?_ ?_ ?_ <;> first | decide | (simp only [GA,↓GB,GX,simprocAttr,GDs];done)));intro os' s hR;obtain ⟨rfl,rfl⟩ := hR) | (refine Ctr.use (hpr) (hU1P.trans hP) ?_ [5,6] ?_ rfl rfl ?_;(focus (intro p hp;cases hp));(focus (refine LeR.of rfl trivial ?_ ?_ ?_ ?_ ?_ <;> first | decide | (simp only [GA,↓GB,GX,simprocAttr,GDs];done)));intro os' s hR;obtain ⟨rfl,rfl⟩ := hR) | (refine Ctr.use (hg1) (hU1P.trans hP) (hG.under hU1) [] ?_ rfl rfl ?_;(focus (refine LeR.of rfl trivial ?_ ?_ ?_ ?_ ?_ <;> first | decide | (simp only [GA,↓GB,GX,simprocAttr,GDs];done)));intro os' s hR;obtain ⟨rfl,rfl⟩ := hR) | (refine Ctr.use (hg2) (hU1P.trans hP) (hG.under hU1) [] ?_ rfl rfl ?_;(focus (refine LeR.of rfl trivial ?_ ?_ ?_ ?_ ?_ <;> first | decide | (simp only [GA,↓GB,GX,simprocAttr,GDs];done)));intro os' s hR;obtain ⟨rfl,rfl⟩ := hR) | (refine Ctr.use (hpx) (hU1P.trans hP) ?_ [7,8,9] ?_ rfl rfl ?_;(focus (intro p hp;cases hp));(focus (refine LeR.of rfl trivial ?_ ?_ ?_ ?_ ?_ <;> first | decide | (simp only [GA,↓GB,GX,simprocAttr,GDs];done)));intro os' s hR;obtain ⟨rfl,rfl⟩ := hR) | (refine Ctr.use (hpy) (hU1P.trans hP) ?_ [11,12] ?_ rfl rfl ?_;(focus (intro p hp;cases hp));(focus (refine LeR.of rfl trivial ?_ ?_ ?_ ?_ ?_ <;> first | decide | (simp only [GA,↓GB,GX,simprocAttr,GDs];done)));intro os' s hR;obtain ⟨rfl,rfl⟩ := hR));simp only [GA,↓GB,GX,simprocAttr,hnt,hT,hnt1,hT1,hU1P,vM,killL,agN,agP,csN,c1N,ccN,cpN,List.cons_append,List.nil_append,List.length_cons,List.length_nil,List.all_cons,List.all_nil,Bool.and_true,decide_true,hw1,hap1,hap0,z1,z2,r1,r2])|(refine and_mk ?_ ?_;(focus first | decide | omega | rfl | assumption | (rw [hnt1];rfl) | (simp only [LBs];omega) | (simp;done)))|(refine And.intro ?_ ?_))
  all_goals (try refine Done.mk ?_)
  all_goals first
    | ((refine hN0 _ _ ⟨[],_,_,?_,?_,?_,⟨rfl,rfl⟩⟩;(focus exact LeR.of rfl trivial (by simp only [GA,↓GB,GX,simprocAttr,GDs]) (by decide) rfl rfl rfl);rotate_left;(focus rfl));rfl)
    | (have h1 := hc1 rfl;exfalso;omega)
    | (have h2 := hc2 rfl
       have e2 := decide_eq_true (show (y.rs.length : Int) ≤ ((tellRs (tN t') L').length : Int) by omega)
       rw [e2]
       (refine hN0 _ _ ⟨[],_,_,?_,?_,?_,⟨rfl,rfl⟩⟩;(focus exact LeR.of rfl trivial (by simp only [GA,↓GB,GX,simprocAttr,GDs]) (by decide) rfl rfl rfl);rotate_left;(focus rfl))
       rfl)
    | trace_state
end Go.Proofs.YtbdacbcpniegiaaGreatDoor.Q
namespace Go.Proofs.YtbdacbcpniegiaaGreatDoor.Q
open Go Go.RowKit Go.ChangeShapes Go.WideShapes Go.ChangeAt Go.Sx Go.Proofs Go.Proofs.YtbdacbcpniegiaaGreatDoor
theorem ctrF_calls {P : Program} {F : Ctx → Prop} {f : FuncId} {args : List SV} {R : List LO → SV → Prop} (h : CtrF P F f [] args R) (w : World) (hF : F ⟨P,w,[],0,[]⟩) {vals : List Value} (ha : All2 (DV []) args vals) :
    Calls P f vals.toArray w fun e w' => ∃ v os' s σ',e = .returned v ∧ R os' s ∧ DV σ' s v ∧ Below w.heap.size w w' := by
  have hr : Rel ⟨P,w,[],0,[]⟩ ⟨[],[]⟩ [] [] { tmps := #[],defers := [] } w :=
    ⟨fun t s h => by simp at h,rfl,rfl,fun i o fp v h => by simp at h,by simp,fun b h => by simp at h,fun b h => by simp at h,Fr.refl _ _,rfl,rfl,fun v h => by simp at h,fun i v h => by simp at h⟩
  refine (h ⟨P,w,[],0,[]⟩ rfl hF (fun c s => ∃ os',c = ⟨[],os'⟩ ∧ R os' s) (fun os' s hR => ⟨os',rfl,hR⟩) _ _ _ _ hr vals ha).mono ?_
  rintro e w' ⟨v,c',ρ',σ',s,rfl,hr',hd,os',rfl,hR⟩
  exact ⟨v,os',s,σ',rfl,hR,hd,hr'.low.below (by simp)⟩
theorem sl_cell {H : Type} {enc : TypeId × Value → H} {P : Program} {W : World} {sp : Nat → Bool} {held : Bool} {n base t e : Nat} {cs : List Value} {x : DataW H × List MemPlace} (ht : P.underlying t = some (.slice e))
    (h : DataW.trod enc P W base sp held n t cs = some x) : ∃ a l c,cs = [.slice a l c] := by
  rcases Go.Deep.open_slice ht h with ⟨hcs,_⟩ | ⟨a,l,c,m,k,D,Pl,hcs,_⟩
  · exact ⟨_,_,_,hcs⟩
  · exact ⟨_,_,_,hcs⟩
theorem c41 : Tryz.prog.cellsOf 26 = 7 := by kernel_rfl
theorem c81 : Tryz.prog.cellsOf 68 = 7 := by kernel_rfl
theorem c78 : Tryz.prog.cellsOf 29 = 10 := by kernel_rfl
theorem c83 : Tryz.prog.cellsOf 70 = 10 := by kernel_rfl
theorem k3 : Tryz.prog.cellsOf 3 = 1 := by kernel_rfl
theorem k4 : Tryz.prog.cellsOf 4 = 1 := by kernel_rfl
theorem k9 : Tryz.prog.cellsOf 9 = 1 := by kernel_rfl
theorem k22 : Tryz.prog.cellsOf 22 = 1 := by kernel_rfl
theorem k38 : Tryz.prog.cellsOf 23 = 1 := by kernel_rfl
theorem k39 : Tryz.prog.cellsOf 24 = 1 := by kernel_rfl
theorem k58 : Tryz.prog.cellsOf 27 = 1 := by kernel_rfl
theorem k79 : Tryz.prog.cellsOf 66 = 1 := by kernel_rfl
theorem req_cells {H : Type} {enc : TypeId × Value → H} {W : World} {sp : Nat → Bool} {held : Bool} {n base : Nat} {cs : List Value} {x : DataW H × List MemPlace}
    (h : DataW.trod enc Tryz.prog W base sp held n 26 cs = some x) : ∃ (t : Int) (dl : Bool) (q : Nat) (a0 : Option Addr) (n0 c0 : Nat) (a1 : Option Addr) (n1 c1 : Nat) (a2 : Option Addr) (n2 c2 : Nat) (d : List UInt8),q < 18446744073709551616 ∧ d.length ≤ 9223372036854775807 ∧
      cs = [.int .i64 t,.bool dl,.int .u64 q,.slice a0 n0 c0,.slice a1 n1 c1,.slice a2 n2 c2,.string (B d)] := by
  obtain ⟨ys,m,rfl,_,hl,hys,hf⟩ := DataW.trod_struct Tryz.underlying26 h
  rw [c41] at hl
  have g0 : DataW.trod enc Tryz.prog W base sp held m 3 ((cs.drop 0).take (Tryz.prog.cellsOf 3)) = ys[0]? := hf 0 _ rfl
  have g1 : DataW.trod enc Tryz.prog W base sp held m 4 ((cs.drop 1).take (Tryz.prog.cellsOf 4)) = ys[1]? := hf 1 _ rfl
  have g2 : DataW.trod enc Tryz.prog W base sp held m 22 ((cs.drop 2).take (Tryz.prog.cellsOf 22)) = ys[2]? := hf 2 _ rfl
  have g3 : DataW.trod enc Tryz.prog W base sp held m 23 ((cs.drop 3).take (Tryz.prog.cellsOf 23)) = ys[3]? := hf 3 _ rfl
  have g4 : DataW.trod enc Tryz.prog W base sp held m 23 ((cs.drop 4).take (Tryz.prog.cellsOf 23)) = ys[4]? := hf 4 _ rfl
  have g5 : DataW.trod enc Tryz.prog W base sp held m 24 ((cs.drop 5).take (Tryz.prog.cellsOf 24)) = ys[5]? := hf 5 _ rfl
  have g6 : DataW.trod enc Tryz.prog W base sp held m 9 ((cs.drop 6).take (Tryz.prog.cellsOf 9)) = ys[6]? := hf 6 _ rfl
  have hy : ys.length = 7 := hys
  rw [k3,List.getElem?_eq_getElem (by omega)] at g0
  rw [k4,List.getElem?_eq_getElem (by omega)] at g1
  rw [k22,List.getElem?_eq_getElem (by omega)] at g2
  rw [k38,List.getElem?_eq_getElem (by omega)] at g3
  rw [k38,List.getElem?_eq_getElem (by omega)] at g4
  rw [k39,List.getElem?_eq_getElem (by omega)] at g5
  rw [k9,List.getElem?_eq_getElem (by omega)] at g6
  obtain ⟨t,e0,_,w0⟩ := DataW.trod_int Tryz.underlying3 g0
  obtain ⟨dl,e1,_⟩ := DataW.trod_bool Tryz.underlying4 g1
  obtain ⟨q,e2,_,w2⟩ := DataW.trod_int Tryz.underlying22 g2
  obtain ⟨a0,n0,c0,e3⟩ := sl_cell Tryz.underlying23 g3
  obtain ⟨a1,n1,c1,e4⟩ := sl_cell Tryz.underlying23 g4
  obtain ⟨a2,n2,c2,e5⟩ := sl_cell Tryz.underlying24 g5
  obtain ⟨d,e6,_,w6⟩ := DataW.trod_string Tryz.underlying9 g6
  have f0 := at1 e0
  have f1 := at1 e1
  have f2 := at1 e2
  have f3 := at1 e3
  have f4 := at1 e4
  have f5 := at1 e5
  have f6 := at1 e6
  have b2 := u64_of w2
  have r2 : ((q.toNat : Nat) : Int) = q := by omega
  refine ⟨t,dl,q.toNat,a0,n0,c0,a1,n1,c1,a2,n2,c2,d.data.toList,by omega,by simpa [maxLen] using w6,?_⟩
  match cs,hl with
  | [x0,x1,x2,x3,x4,x5,x6],_ =>
    simp only [List.getElem?_cons_zero,List.getElem?_cons_succ,Option.some.injEq] at f0 f1 f2 f3 f4 f5 f6
    subst f0 f1 f2 f3 f4 f5 f6
    simp only [B_data,r2]
theorem resp_cells {H : Type} {enc : TypeId × Value → H} {W : World} {sp : Nat → Bool} {held : Bool} {n base : Nat} {cs : List Value} {x : DataW H × List MemPlace}
    (h : DataW.trod enc Tryz.prog W base sp held n 68 cs = some x) : ∃ (t : Int) (dl mo : Bool) (q v : Nat) (a0 : Option Addr) (n0 c0 : Nat) (a1 : Option Addr) (n1 c1 : Nat),q < 18446744073709551616 ∧ v < 18446744073709551616 ∧
      cs = [.int .i64 t,.bool dl,.bool mo,.int .u64 q,.int .u64 v,.slice a0 n0 c0,.slice a1 n1 c1] := by
  obtain ⟨ys,m,rfl,_,hl,hys,hf⟩ := DataW.trod_struct Tryz.underlying68 h
  rw [c81] at hl
  have g0 : DataW.trod enc Tryz.prog W base sp held m 3 ((cs.drop 0).take (Tryz.prog.cellsOf 3)) = ys[0]? := hf 0 _ rfl
  have g1 : DataW.trod enc Tryz.prog W base sp held m 4 ((cs.drop 1).take (Tryz.prog.cellsOf 4)) = ys[1]? := hf 1 _ rfl
  have g2 : DataW.trod enc Tryz.prog W base sp held m 4 ((cs.drop 2).take (Tryz.prog.cellsOf 4)) = ys[2]? := hf 2 _ rfl
  have g3 : DataW.trod enc Tryz.prog W base sp held m 22 ((cs.drop 3).take (Tryz.prog.cellsOf 22)) = ys[3]? := hf 3 _ rfl
  have g4 : DataW.trod enc Tryz.prog W base sp held m 22 ((cs.drop 4).take (Tryz.prog.cellsOf 22)) = ys[4]? := hf 4 _ rfl
  have g5 : DataW.trod enc Tryz.prog W base sp held m 66 ((cs.drop 5).take (Tryz.prog.cellsOf 66)) = ys[5]? := hf 5 _ rfl
  have g6 : DataW.trod enc Tryz.prog W base sp held m 23 ((cs.drop 6).take (Tryz.prog.cellsOf 23)) = ys[6]? := hf 6 _ rfl
  have hy : ys.length = 7 := hys
  rw [k3,List.getElem?_eq_getElem (by omega)] at g0
  rw [k4,List.getElem?_eq_getElem (by omega)] at g1
  rw [k4,List.getElem?_eq_getElem (by omega)] at g2
  rw [k22,List.getElem?_eq_getElem (by omega)] at g3
  rw [k22,List.getElem?_eq_getElem (by omega)] at g4
  rw [k79,List.getElem?_eq_getElem (by omega)] at g5
  rw [k38,List.getElem?_eq_getElem (by omega)] at g6
  obtain ⟨t,e0,_,w0⟩ := DataW.trod_int Tryz.underlying3 g0
  obtain ⟨dl,e1,_⟩ := DataW.trod_bool Tryz.underlying4 g1
  obtain ⟨mo,e2,_⟩ := DataW.trod_bool Tryz.underlying4 g2
  obtain ⟨q,e3,_,w3⟩ := DataW.trod_int Tryz.underlying22 g3
  obtain ⟨v,e4,_,w4⟩ := DataW.trod_int Tryz.underlying22 g4
  obtain ⟨a0,n0,c0,e5⟩ := sl_cell Tryz.underlying66 g5
  obtain ⟨a1,n1,c1,e6⟩ := sl_cell Tryz.underlying23 g6
  have f0 := at1 e0
  have f1 := at1 e1
  have f2 := at1 e2
  have f3 := at1 e3
  have f4 := at1 e4
  have f5 := at1 e5
  have f6 := at1 e6
  have b3 := u64_of w3
  have b4 := u64_of w4
  have r3 : ((q.toNat : Nat) : Int) = q := by omega
  have r4 : ((v.toNat : Nat) : Int) = v := by omega
  refine ⟨t,dl,mo,q.toNat,v.toNat,a0,n0,c0,a1,n1,c1,by omega,by omega,?_⟩
  match cs,hl with
  | [x0,x1,x2,x3,x4,x5,x6],_ =>
    simp only [List.getElem?_cons_zero,List.getElem?_cons_succ,Option.some.injEq] at f0 f1 f2 f3 f4 f5 f6
    subst f0 f1 f2 f3 f4 f5 f6
    simp only [r3,r4]
theorem lm_cells {H : Type} {enc : TypeId × Value → H} {W : World} {n : Nat} {cs : List Value} {x : DataW H × List MemPlace}
    (h : DataW.trod enc Tryz.prog W 0 (fun _ => true) true n 27 cs = some x) : ∃ (q : Option Addr) (L : List UInt8) (c : Nat),cs = [.slice q L.length c] ∧ ∀ i,i < L.length → ∃ ad,q = some ad ∧ W.cell? (ad.add (i * 1)) = some (.int .u8 ((L.getD i 0).toNat : Nat)) := by
  obtain ⟨a,l,c,rfl⟩ := sl_cell Tryz.underlying27 h
  obtain ⟨xs,rfl,hc⟩ := u8row (a := a) (len := l) (cap := c) (d := x.1) (p := x.2) Tryz.underlying27 Tryz.underlying5 (by kernel_rfl) ⟨n,h⟩
  exact ⟨a,xs,c,rfl,hc⟩
structure Ak where
  t : Int
  dl : Bool
  q : Nat
  a0 : Option Addr
  n0 : Nat
  c0 : Nat
  a1 : Option Addr
  n1 : Nat
  c1 : Nat
  a2 : Option Addr
  n2 : Nat
  c2 : Nat
  d : List UInt8
  o : Bool
  qL : Option Addr
  L : List UInt8
  cL : Nat
  qM : Option Addr
  M : List UInt8
  cM : Nat
def Ak.cells (x : Ak) : List Value := [.int .i64 x.t,.bool x.dl,.int .u64 x.q,.slice x.a0 x.n0 x.c0,.slice x.a1 x.n1 x.c1,.slice x.a2 x.n2 x.c2,.string (B x.d),.bool x.o,.slice x.qL x.L.length x.cL,.slice x.qM x.M.length x.cM]
def FarW (W : World) (q : Option Addr) (L : List UInt8) : Prop := ∀ i,i < L.length → ∃ ad,q = some ad ∧ W.cell? (ad.add (i * 1)) = some (.int .u8 ((L.getD i 0).toNat : Nat))
theorem FarW.far {P : Program} {w : World} {q : Option Addr} {L : List UInt8} (h : FarW w q L) : FarU ⟨P,w,[],0,[]⟩ q L := fun i hi => by
  obtain ⟨ad,e,hc⟩ := h i hi
  exact ⟨ad,e,by simp,hc⟩
structure Ak.Ok (x : Ak) (W : World) : Prop where
  q : x.q < 18446744073709551616
  d : x.d.length ≤ 9223372036854775807
  l : FarW W x.qL x.L
  m : FarW W x.qM x.M
theorem ask_in {H : Type} {enc : TypeId × Value → H} {W : World} {cs : Array Value} {d : DataW H} {p : List MemPlace} (h : DataW.Trod enc Tryz.prog W 0 (fun _ => true) true 29 (.agg cs) d p) : ∃ y : Ak,y.Ok W ∧ cs = y.cells.toArray := by
  obtain ⟨n,hn⟩ := h
  have hn : DataW.trod enc Tryz.prog W 0 (fun _ => true) true n 29 cs.toList = some (d,p) := hn
  obtain ⟨ys,m,_,_,hl,hys,hf⟩ := DataW.trod_struct Tryz.underlying29 hn
  rw [c78] at hl
  have g0 : DataW.trod enc Tryz.prog W 0 (fun _ => true) true m 26 ((cs.toList.drop 0).take (Tryz.prog.cellsOf 26)) = ys[0]? := hf 0 _ rfl
  have g1 : DataW.trod enc Tryz.prog W 0 (fun _ => true) true m 4 ((cs.toList.drop 7).take (Tryz.prog.cellsOf 4)) = ys[1]? := hf 1 _ rfl
  have g2 : DataW.trod enc Tryz.prog W 0 (fun _ => true) true m 27 ((cs.toList.drop 8).take (Tryz.prog.cellsOf 27)) = ys[2]? := hf 2 _ rfl
  have g3 : DataW.trod enc Tryz.prog W 0 (fun _ => true) true m 27 ((cs.toList.drop 9).take (Tryz.prog.cellsOf 27)) = ys[3]? := hf 3 _ rfl
  have hy : ys.length = 4 := hys
  rw [c41,List.getElem?_eq_getElem (by omega)] at g0
  rw [k4,List.getElem?_eq_getElem (by omega)] at g1
  rw [k58,List.getElem?_eq_getElem (by omega)] at g2
  rw [k58,List.getElem?_eq_getElem (by omega)] at g3
  obtain ⟨t,dl,q,a0,n0,c0,a1,n1,c1,a2,n2,c2,s,hq,hd,e0⟩ := req_cells g0
  obtain ⟨o,e1,_⟩ := DataW.trod_bool Tryz.underlying4 g1
  obtain ⟨qL,L,cL,e2,hL⟩ := lm_cells g2
  obtain ⟨qM,M,cM,e3,hM⟩ := lm_cells g3
  have f1 := at1 e1
  have f2 := at1 e2
  have f3 := at1 e3
  refine ⟨⟨t,dl,q,a0,n0,c0,a1,n1,c1,a2,n2,c2,s,o,qL,L,cL,qM,M,cM⟩,⟨hq,hd,hL,hM⟩,?_⟩
  rw [← Array.toArray_toList (xs := cs)]
  congr 1
  revert hl f1 f2 f3 e0
  generalize cs.toList = l
  intro hl e0 f1 f2 f3
  match l,hl with
  | [x0,x1,x2,x3,x4,x5,x6,x7,x8,x9],_ =>
    simp only [List.getElem?_cons_zero,List.getElem?_cons_succ,Option.some.injEq] at f1 f2 f3
    subst f1 f2 f3
    have e0 : [x0,x1,x2,x3,x4,x5,x6] = _ := e0
    simp only [List.cons.injEq,and_true] at e0
    obtain ⟨rfl,rfl,rfl,rfl,rfl,rfl,rfl⟩ := e0
    rfl
structure Tk where
  t : Int
  dl : Bool
  mo : Bool
  q : Nat
  v : Nat
  a0 : Option Addr
  n0 : Nat
  c0 : Nat
  a1 : Option Addr
  n1 : Nat
  c1 : Nat
  o : Bool
  qL : Option Addr
  L : List UInt8
  cL : Nat
  qM : Option Addr
  M : List UInt8
  cM : Nat
def Tk.cells (x : Tk) : List Value := [.int .i64 x.t,.bool x.dl,.bool x.mo,.int .u64 x.q,.int .u64 x.v,.slice x.a0 x.n0 x.c0,.slice x.a1 x.n1 x.c1,.bool x.o,.slice x.qL x.L.length x.cL,.slice x.qM x.M.length x.cM]
structure Tk.Ok (x : Tk) (W : World) : Prop where
  q : x.q < 18446744073709551616
  v : x.v < 18446744073709551616
  l : FarW W x.qL x.L
  m : FarW W x.qM x.M
theorem tell_in {H : Type} {enc : TypeId × Value → H} {W : World} {cs : Array Value} {d : DataW H} {p : List MemPlace} (h : DataW.Trod enc Tryz.prog W 0 (fun _ => true) true 70 (.agg cs) d p) : ∃ y : Tk,y.Ok W ∧ cs = y.cells.toArray := by
  obtain ⟨n,hn⟩ := h
  have hn : DataW.trod enc Tryz.prog W 0 (fun _ => true) true n 70 cs.toList = some (d,p) := hn
  obtain ⟨ys,m,_,_,hl,hys,hf⟩ := DataW.trod_struct Tryz.underlying70 hn
  rw [c83] at hl
  have g0 : DataW.trod enc Tryz.prog W 0 (fun _ => true) true m 68 ((cs.toList.drop 0).take (Tryz.prog.cellsOf 68)) = ys[0]? := hf 0 _ rfl
  have g1 : DataW.trod enc Tryz.prog W 0 (fun _ => true) true m 4 ((cs.toList.drop 7).take (Tryz.prog.cellsOf 4)) = ys[1]? := hf 1 _ rfl
  have g2 : DataW.trod enc Tryz.prog W 0 (fun _ => true) true m 27 ((cs.toList.drop 8).take (Tryz.prog.cellsOf 27)) = ys[2]? := hf 2 _ rfl
  have g3 : DataW.trod enc Tryz.prog W 0 (fun _ => true) true m 27 ((cs.toList.drop 9).take (Tryz.prog.cellsOf 27)) = ys[3]? := hf 3 _ rfl
  have hy : ys.length = 4 := hys
  rw [c81,List.getElem?_eq_getElem (by omega)] at g0
  rw [k4,List.getElem?_eq_getElem (by omega)] at g1
  rw [k58,List.getElem?_eq_getElem (by omega)] at g2
  rw [k58,List.getElem?_eq_getElem (by omega)] at g3
  obtain ⟨t,dl,mo,q,v,a0,n0,c0,a1,n1,c1,hq,hv,e0⟩ := resp_cells g0
  obtain ⟨o,e1,_⟩ := DataW.trod_bool Tryz.underlying4 g1
  obtain ⟨qL,L,cL,e2,hL⟩ := lm_cells g2
  obtain ⟨qM,M,cM,e3,hM⟩ := lm_cells g3
  have f1 := at1 e1
  have f2 := at1 e2
  have f3 := at1 e3
  refine ⟨⟨t,dl,mo,q,v,a0,n0,c0,a1,n1,c1,o,qL,L,cL,qM,M,cM⟩,⟨hq,hv,hL,hM⟩,?_⟩
  rw [← Array.toArray_toList (xs := cs)]
  congr 1
  revert hl f1 f2 f3 e0
  generalize cs.toList = l
  intro hl e0 f1 f2 f3
  match l,hl with
  | [x0,x1,x2,x3,x4,x5,x6,x7,x8,x9],_ =>
    simp only [List.getElem?_cons_zero,List.getElem?_cons_succ,Option.some.injEq] at f1 f2 f3
    subst f1 f2 f3
    have e0 : [x0,x1,x2,x3,x4,x5,x6] = _ := e0
    simp only [List.cons.injEq,and_true] at e0
    obtain ⟨rfl,rfl,rfl,rfl,rfl,rfl,rfl⟩ := e0
    rfl
end Go.Proofs.YtbdacbcpniegiaaGreatDoor.Q
namespace Go.Proofs.YtbdacbcpniegiaaGreatDoor.Q
open Go Go.RowKit Go.ChangeShapes Go.WideShapes Go.ChangeAt Go.Sx Go.Proofs Go.Proofs.YtbdacbcpniegiaaGreatDoor
theorem _root_.Go.Proofs.YtbdacbcpniegiaaGreatDoor.u16_of {n : Int} (h : (Lit.int .u16 n).wf = true) : 0 ≤ n ∧ n < 65536 := by
  simp only [Lit.wf,Bool.and_eq_true,decide_eq_true_eq] at h
  have e1 : IntKind.u16.min = 0 := rfl
  have e2 : IntKind.u16.max = 65535 := rfl
  omega
theorem cuts_any (x : Ak) (y : Tk) (nu : Nat) (hnu : nu < 65536) (w : World) (hx : x.Ok w) (hy : y.Ok w) {e : EA} (he : e.Ok) (hG : ∀ p ∈ GE e,w.cell? p.1 = some p.2 ∧ loneStr w p) :
    Calls Tryz.prog 6 #[.agg x.cells.toArray,.agg y.cells.toArray,.int .u16 nu] w fun x w' => x = .returned (.bool true) ∧ Below w.heap.size w w' := by
  refine (ctrF_calls (cuts_ctr he x.t x.dl x.q hx.q x.d hx.d x.a0 x.n0 x.c0 x.a1 x.n1 x.c1 x.a2 x.n2 x.c2 x.o x.qL x.L x.cL x.qM x.M x.cM y.t y.dl y.mo y.q y.v hy.q hy.v y.a0 y.n0 y.c0 y.a1 y.n1 y.c1 y.o y.qL y.L y.cL y.qM y.M y.cM nu hnu) w
    ⟨fun p hp => ⟨(hG p hp).1,by simp,(hG p hp).2⟩,⟨hx.l.far,hx.m.far⟩,⟨hy.l.far,hy.m.far⟩⟩ (vals := [.agg x.cells.toArray,.agg y.cells.toArray,.int .u16 nu])
    ⟨⟨_,rfl,rfl,rfl,rfl,rfl,rfl,rfl,rfl,rfl,rfl,rfl,trivial⟩,⟨_,rfl,rfl,rfl,rfl,rfl,rfl,rfl,rfl,rfl,rfl,rfl,trivial⟩,rfl,trivial⟩).mono ?_
  rintro x w' ⟨v,os',s,σ',rfl,⟨rfl,rfl⟩,hd,hb⟩
  have hd : v = .bool true := hd
  subst hd
  exact ⟨rfl,hb⟩
end Go.Proofs.YtbdacbcpniegiaaGreatDoor.Q
