/- Part of the proof. No condition. -/
import Derived.Test.YtgmppconibklcaaGreatDoorM22
import Derived.Test.YtgmppconibklcaaGreatDoorM20
import Derived.Test.YtgmppconibklcaaGreatDoorM19
import Derived.Test.YtgmppconibklcaaGreatDoorM17
import Derived.WalkLawsBesides
import Derived.Defers
import Derived.Recover
set_option maxHeartbeats 40000000
set_option maxRecDepth 100000
set_option linter.unusedVariables false
set_option linter.unusedSimpArgs false
namespace Go.Proofs.YtgmppconibklcaaGreatDoor
open Go Go.RowKit
namespace Am
variable {gl:Nat→Option (List D)}
theorem zni (n:Nd) (hf:Fine n):OK gl 92 [nX n] (.b (Dr.intOf n==some 1&&(n.cls==0&&n.tag==2))):=by
 have h:=one_ok (gl:=gl) n hf;have e:((Dr.intOf n).isSome&&(n.cls==0&&n.tag==2)&&(Dr.intOf n).getD 0==1)=(Dr.intOf n==some 1&&(n.cls==0&&n.tag==2)):=by
  cases hi:Dr.intOf n with
  | none=>simp
  | some i=>
   simp only [Option.isSome_some,Bool.true_and,Option.getD_some];have:((some i==some (1:Int)):Bool)=(i==1):=rfl;rw [this,Bool.and_comm]
 rw [e] at h;exact h
abbrev reqX (q:Rq.Req):E:= .agg [.d (.leaf (.string ⟨q.alg.toArray⟩)),.d (z04 q.impr),.d (.leaf (.string ⟨q.policy.toArray⟩)),.d (.leaf (.bool q.has)),.d (limD (Nt.lim q.nonce)),.d (.leaf (.bool q.cert)),.d (exR q.exts)]
structure St (ok:Bool) (a i p:List UInt8) (has:Bool) (c4:C) (cert:Bool) (c6:C) (l:List Nd) (s:SF):Prop where
 e2:s.env 2=some (.e (.one (.ref 32 0)))
 e6:s.env 6=some (.b ok)
 e7:s.env 7=some (.e (.one (.ref 112 0)))
 e8:s.env 8=some (.e (rX (ndR l)))
 h32:∃ z,s.heap 32=some (.var 27 z)∧z.length=7
 h112:s.heap 112=some (.var 27 [.d (.leaf (.string ⟨a.toArray⟩)),.d (z04 i),.d (.leaf (.string ⟨p.toArray⟩)),.d (.leaf (.bool has)),c4,.d (.leaf (.bool cert)),c6])
def X7 (x:E):Prop:=∃ c0 c1 c2 c3 c4 c5 c6:C,x = .agg [c0,c1,c2,c3,c4,c5,c6]∧x.isD=true
theorem X7.mk {c0 c1 c2 c3 c4 c5 c6:C} (h:(E.agg [c0,c1,c2,c3,c4,c5,c6]).isD=true):X7 (.agg [c0,c1,c2,c3,c4,c5,c6]):=⟨_,_,_,_,_,_,_,rfl,h⟩
def RqR (n:Nd):T→List O→List O→Prop:=fun t ws os=>(∃ x,t = .tup [x,bX (Rq.z34 n).isSome]∧X7 x∧∀ q,Rq.z34 n=some q→x=reqX q)∧ws=[]∧os=[]
theorem zm7 (k:Nd):(Dr.intOf k==some 1&&k.tag==2)=(Dr.intOf k==some 1&&isT k 2):=by
 cases h:(Dr.intOf k==some 1) with
 | false=>rfl
 | true=>
  rw [beq_iff_eq] at h;have hw:Dr.whole k=true:=by
   unfold Dr.intOf at h;split at h
   ·rename_i h2;exact h2.1
   ·cases h
  unfold Dr.whole at hw;simp only [Bool.and_eq_true] at hw;unfold isT;rw [hw.1.1];rfl
theorem RqR.no {n:Nd} {x:E} (hx:X7 x) (h:Rq.z34 n=none):RqR n (.tup [x,bX false]) [] []:=⟨⟨x,by rw [h];rfl,hx,fun q hq=>by rw [h] at hq;cases hq⟩,rfl,rfl⟩
theorem zkm (n:Nd) (a b:Nat):sq n (a:Int) (b:Int)=Rq.z0U n a b:=by
 have h1:decide ((a:Int)≤(n.kids.length:Int))=decide (a≤n.kids.length):=by rw [decide_eq_decide];omega
 have h2:decide ((n.kids.length:Int)≤(b:Int))=decide (n.kids.length≤b):=by rw [decide_eq_decide];omega
 unfold sq Rq.z0U;rw [h1,h2]
theorem ziy {n:Nd} (h:Dr.right n=true):oidO n=Rq.z2R n:=by
 unfold oidO Rq.z2R Rq.isU;rw [h,Bool.and_true]
theorem z7k (L:List Nd):Rq.z1j L=if (L.headD Nd.nil).cls=0∧(L.headD Nd.nil).tag=1∧(L.headD Nd.nil).bytes=[255] then (true,L.drop 1) else (false,L):=by
 cases L with
 | nil=>rfl
 | cons k t=>rfl
theorem z3N (L:List Nd):Rq.z18 L=if (L.headD Nd.nil).cls=2∧(L.headD Nd.nil).tag=0∧0<(L.headD Nd.nil).kids.length then (match (L.headD Nd.nil).kids.mapM Rq.exOf with
  | some es=>some (es,L.drop 1)
  | none=>none) else some ([],L):=by
 cases L with
 | nil=>rfl
 | cons k t=>rfl
theorem wrap_small (x:Int) (h1:0≤x) (h2:x≤1000000000):IntKind.wrap .i64 x=x:=by
 rw [IntKind.wrap_i64];omega
theorem znB {k:Nd} (hr:Dr.right k=true):(impO k).2.2=(Rq.z6M k).isSome∧∀ o b,Rq.z6M k=some (o,b)→impO k=(o,b,true):=by
 have e2:sq k 2 2=Rq.z0U k 2 2:=zkm k 2 2;have e1:sq (Rq.kid k 0) 1 1=Rq.z0U (Rq.kid k 0) 1 1:=zkm _ 1 1;unfold impO Rq.z6M;rw [e2,e1];cases h1:Rq.z0U k 2 2 with
 | false=>simp
 | true=>
  have h1':sq k 2 2=true:=by rw [e2,h1]
  obtain ⟨x,y,hk⟩:=zlO h1';have rx:Dr.right (Rq.kid k 0)=true:=z7V hr (by rw [hk];simp);have ry:Dr.right (Rq.kid k 1)=true:=z7V hr (by rw [hk];simp);cases h2:Rq.z0U (Rq.kid k 0) 1 1 with
  | false=>simp
  | true=>
   have h2':sq (Rq.kid k 0) 1 1=true:=by rw [e1,h2]
   obtain ⟨z,hz⟩:=zlP h2';have rz:Dr.right (Rq.kid (Rq.kid k 0) 0)=true:=z7V rx (by rw [hz];simp);rw [ziy rz];have h3:Rq.isU (Rq.kid k 1) 4=((Rq.kid k 1).cls==0&&(Rq.kid k 1).tag==4):=by unfold Rq.isU;rw [ry,Bool.and_true]
   rw [h3];cases h4:((Rq.kid k 1).cls==0&&(Rq.kid k 1).tag==4) with
   | false=>simp
   | true=>
    cases h5:Rq.z2R (Rq.kid (Rq.kid k 0) 0) with
    | none=>simp
    | some o=>
     by_cases h6:1≤(Rq.kid k 1).bytes.length∧(Rq.kid k 1).bytes.length≤64
     ·have a1:decide (1≤((Rq.kid k 1).bytes.length:Int))=true:=decide_eq_true (by omega);have a2:decide (((Rq.kid k 1).bytes.length:Int)≤64)=true:=decide_eq_true (by omega);simp only [Bool.and_self,if_true,if_pos h6,Option.isSome_some,Option.getD_some,a1,a2];refine ⟨trivial,fun o' b' h=>?_⟩;injection h with h;injection h with ha hb;rw [ha,hb]
     ·simp only [Bool.and_self,if_true,if_neg h6,Option.isSome_some,Option.getD_some,Bool.true_and,Option.isSome_none];refine ⟨?_,fun o' b' h=>by cases h⟩;rw [Bool.and_eq_false_iff];by_cases h7:1≤(Rq.kid k 1).bytes.length
      ·exact .inr (decide_eq_false (by omega))
      ·exact .inl (decide_eq_false (by omega))
theorem zbT (K:List Nd):K.mapM Rq.exOf=if (K.all fun x=>(Rq.exOf x).isSome)=true then some (K.map fun x=>(Rq.exOf x).getD Rq.z0E) else none:=by
 induction K with
 | nil=>rfl
 | cons k K ih=>
  rw [List.mapM_cons,ih];cases hk:Rq.exOf k with
  | none=>simp [hk]
  | some e=>
   by_cases ha:(K.all fun x=>(Rq.exOf x).isSome)=true
   ·simp [hk,ha]
   ·simp [hk,ha]
theorem zjf {k:Nd} (hm:Dr.mx k≤20000):((Rq.exOf k).getD Rq.z0E).oid.length≤90000∧((Rq.exOf k).getD Rq.z0E).val.length≤40000:=by
 cases h:Rq.exOf k with
 | none=>simp [Rq.z0E]
 | some e=>
  have h1:=(Rq.z84 h).1;unfold Rq.exOk at h1;simp at h1;refine ⟨?_,by simp;omega⟩;simp only [Option.getD_some];unfold Rq.exOf at h;split at h
  ·split at h
   ·cases h
   ·rename_i o ho;split at h
    ·injection h with h;subst h;show o.length≤90000;unfold Rq.z2R at ho;split at ho
     ·have h2:=Rq.zfr ho;have h3:(Rq.kid k 0).bytes.length≤20000:=by
       unfold Rq.kid;cases hk:k.kids with
       | nil=>simp
       | cons y t=>
        have h4:=Dr.z2s (l:=k.kids) (x:=y) (by rw [hk];simp);have h5:=Dr.z0Y k;have h6:=Dr.z0Y y;simp;omega
      omega
     ·cases ho
    ·cases h
  ·cases h
structure Lp (im:Bool) (a i p:List UInt8) (has:Bool) (c4:C) (ct:Bool) (L3 K:List Nd) (k:Nat) (s:SF):Prop where
 ex:∃ (j:Nat) (c6:C),j+k=K.length∧s.env 104=some (.e (iX j))∧s.env 102=some (.e (rX (ndR K)))∧s.env 103=some (.e (iX K.length)) ∧
  St (im&&(K.take j).all fun x=>(Rq.exOf x).isSome) a i p has c4 ct c6 L3 s∧(j=0∧c6 = .nilS∨c6 = .gr 1936 3 (exL ((K.take j).map fun x=>(Rq.exOf x).getD Rq.z0E))∧s.heap 1936=some (.own 87 3 j))
theorem b255 (x:UInt8):(((x.toNat:Int)==255):Bool)=decide (x=255):=by
 have h:((x.toNat:Int)=255)↔x=255:=by
  constructor
  ·intro h;apply UInt8.toNat_inj.1;have:x.toNat=255:=by omega
   rw [this];rfl
  ·rintro rfl;rfl
 by_cases hx:x=255
 ·subst hx;rfl
 ·rw [decide_eq_false hx,beq_eq_false_iff_ne];exact fun hh=>hx (h.1 hh)
theorem zfW {L:List Nd} (h:∀ k∈L,Dr.right k=true):Rq.z0G L=match oidO (L.headD Nd.nil) with
  | some s=>(s,L.drop 1)
  | none=>([],L):=by
 cases L with
 | nil=>rfl
 | cons k t=>
  simp only [List.headD_cons,ziy (h k (by simp)),Rq.z0G,List.drop_succ_cons,List.drop_zero];cases Rq.z2R k<;>rfl
theorem z1m (args:List E):(⟨z6D args,z3z []⟩:SF)=⟨z6D args,fun _=>none⟩:=by rw [z3y]
theorem z6W {p:Prop} (h:p:=by
  repeat (refine z0a ?_)
  refine z1O z1h z0b [2,6,7,8,18] [32,112] zdX (by kernel_rfl) fun Q hQ=>?_
  simp [snap,z1w,z4F,z4l,look,apply,putE,z1Y,z1l,setL,z4H,rdOf,Op.operands,Call.operands,z2C,z3I,z1t,z2d,z2l,meet,Log.men,T.men,E.men,C.men,O.men,z5S,h2,h6,h7,h8,h32,hz,h112];subst hQ;try simp only [z02,z03,z00,z01]
  refine z07 ?_;simp;have hh:=fun x=>hend x
  simp at hh;exact hh _ (X7.mk rfl)):p:=h
theorem zez {p:Prop} (h:p:=by
  subst hQ;try simp only [z02,z03,z00,z01]
  refine z07 ?_;simp;have hh:=fun x=>hend x
  simp at hh;exact hh _ (X7.mk rfl)):p:=h
theorem zew {p:Prop} (h:p:=by
  simp;subst hQ;try simp only [z02,z03,z00,z01]
  try simp only [z01]
  rcases hc6 with ⟨e1,rfl⟩|⟨rfl,e2⟩
  ·exact ⟨by simp [g104],by simp [g102],by simp [g103],⟨by simp [h2],by simp,by simp [h7],by simp [h8],⟨_,by simp [h32];rfl,by simp [hz]⟩,by simp [h112]⟩,by simp,by simp,.inl ⟨e1,rfl⟩⟩
  ·exact ⟨by simp [g104],by simp [g102],by simp [g103],⟨by simp [h2],by simp,by simp [h7],by simp [h8],⟨_,by simp [h32];rfl,by simp [hz]⟩,by simp [h112]⟩,by simp,by simp,.inr ⟨rfl,by simp [e2]⟩⟩):p:=h
theorem za8 {p:Prop} (h:p:=by
  exact ⟨[],.nilS,im,L3,⟨by simp [h2],by simp [h6],by simp [h7],by simp [h8],⟨_,by simp [h32];rfl,by simp [hz]⟩,by simp [h112]⟩,.inl ⟨rfl,rfl⟩,by simp,by simp,by simp [hx],fun r hr=>by rw [hx] at hr;injection hr with hr;subst hr;exact ⟨rfl,rfl⟩⟩):p:=h
theorem zev {p:Prop} (h:p:=by
  simp;subst hQ;try simp only [z02,z03,z00,z01]
  repeat (refine z0a ?_)
  refine z1I fun Q hQ=>?_
  simp;subst hQ;try simp only [z02,z03,z00,z01]
  refine z05 ?_;try simp only [z01]
  rw [if_neg (by simp [hbt])];exact ⟨by simp [h2],by simp [h6],by simp [h7],by simp,⟨_,by simp [h32];rfl,by simp [hz]⟩,by simp [h112]⟩):p:=h
theorem zhQ (hX:∀ k,Fine k→OK gl 98 [nX k] (.tup [exX ((Rq.exOf k).getD Rq.z0E),bX (Rq.exOf k).isSome])) (n:Nd) (hr:Dr.right n=true) (hf:Fine n) (hw:Dr.wt n≤100000) (hm:Dr.mx n≤20000):z3q Tryz.prog gl Tabs 41 [nX n] [] (RqR n):=by
 obtain ⟨b1,hb1⟩:∃ b,b=sq n 2 6:=⟨_,rfl⟩;have his:=z5B (gl:=gl) n 2 6;rw [←hb1] at his;refine z6c false Tryz.func41 rfl (by show 1≤_;decide) ?_;rw [z1m];unfold Tryz.f41;dsimp only;repeat (refine z0a ?_)
 refine z09 z0b fun Q hQ=>?_
 simp;subst hQ;try simp only [z02,z03,z00,z01]
 repeat (refine z0a ?_)
 refine z09 z0b fun Q hQ=>?_
 simp;refine z0k Tryz.func91 (by simp) (by simp) (by simp) (by simp) (his) (by simp) (by simp) ?_;simp;cases b1
 ·simp;subst hQ;try simp only [z02,z03,z00,z01]
  repeat (refine z0a ?_)
  refine z1I fun Q hQ=>?_
  simp;subst hQ;try simp only [z02,z03,z00,z01]
  repeat (refine z0a ?_)
  refine z09 z0b fun Q hQ=>?_
  simp;subst hQ;try simp only [z02,z03,z00,z01]
  refine z07 ?_;simp;refine RqR.no (X7.mk rfl) ?_;have:Rq.z0U n 2 6=false:=by rw [←zkm];exact hb1.symm
  unfold Rq.z34;rw [this];rfl
 have hN:Rq.z0U n 2 6=true:=by rw [←zkm];exact hb1.symm
 obtain ⟨k0,k1,L,hk⟩:∃ k0 k1 L,n.kids=k0::k1::L:=by
  unfold Rq.z0U at hN;simp at hN;match n.kids,hN.1.2 with
  | k0::k1::L,_=>exact ⟨k0,k1,L,rfl⟩
  | [_],h=>simp at h
  | [],h=>simp at h
 have r0:Rq.kid n 0=k0:=by simp [Rq.kid,hk]
 have r1:Rq.kid n 1=k1:=by simp [Rq.kid,hk]
 have fk0:Fine k0:=z1D hf (by simp [hk]);have fk1:Fine k1:=z1D hf (by simp [hk]);have fL:∀ k∈L,Fine k:=fun k h=>z1D hf (by simp [hk,h])
 have rk1:Dr.right k1=true:=Rq.z2F hr _ (by simp [hk]);have rk0:Dr.right k0=true:=Rq.z2F hr _ (by simp [hk]);have rL:∀ k∈L,Dr.right k=true:=fun k h=>Rq.z2F hr _ (by simp [hk,h])
 obtain ⟨b2,hb2⟩:∃ b,b=(Dr.intOf k0==some 1&&(k0.cls==0&&k0.tag==2)):=⟨_,rfl⟩;have h1:=zni (gl:=gl) k0 fk0;rw [←hb2] at h1;simp [hk];refine z0k Tryz.func92 (by simp) (by simp) (by simp) (by simp) (h1) (by simp) (by simp) ?_;simp;subst hQ;try simp only [z02,z03,z00,z01]
 repeat (refine z0a ?_)
 refine z1I fun Q hQ=>?_
 simp;cases b2
 ·simp;subst hQ;try simp only [z02,z03,z00,z01]
  repeat (refine z0a ?_)
  refine z09 z0b fun Q hQ=>?_
  simp;subst hQ;try simp only [z02,z03,z00,z01]
  refine z07 ?_;simp;refine RqR.no (X7.mk rfl) ?_;have e:=zm7 k0;unfold isT at e;rw [←hb2] at e;unfold Rq.z34;rw [r0,e,Bool.and_false];rfl
 simp;subst hQ;try simp only [z02,z03,z00,z01]
 refine z05 ?_;simp only [z02];have e1:(Dr.intOf k0==some 1&&k0.tag==2)=true:=by
  have e:=zm7 k0;unfold isT at e;rw [←hb2] at e;exact e
 obtain ⟨a,i,im,himp⟩:∃ a i im,impO k1=(a,i,im):=⟨_,_,_,rfl⟩;have himo:=zc5 (gl:=gl) k1 fk1;rw [himp] at himo;repeat (refine z0a ?_)
 refine z09 z0b fun Q hQ=>?_
 simp [hk];refine z0k Tryz.func93 (by simp) (by simp) (by simp) (by simp) (himo) (by simp) (by simp) ?_;simp;subst hQ;try simp only [z02,z03,z00,z01]
 repeat (refine z0a ?_)
 refine z09 z0b fun Q hQ=>?_
 simp;subst hQ;try simp only [z02,z03,z00,z01]
 repeat (refine z0a ?_)
 refine z09 z0b fun Q hQ=>?_
 simp [hk];subst hQ;try simp only [z02,z03,z00,z01]
 /- the policy -/
 refine z2J (fun s'=>St im a i (Rq.z0G L).1 false .nilS false .nilS (Rq.z0G L).2 s') ?_ ?_
 ·rw [zfW rL];have ho:=zeW (gl:=gl) (L.headD Nd.nil) (by cases L with|nil=>simp|cons k t=>exact z2b (fL k (by simp)));have ho0:L=[]→oidO (L.headD Nd.nil)=none:=by rintro rfl;rfl
  generalize oidO (L.headD Nd.nil)=o at ho ho0;repeat (refine z0a ?_)
  refine z09 z0b fun Q hQ=>?_
  simp;refine z0k Tryz.func95 (by simp) (by simp) (by simp) (by simp) (zau L) (by simp) (by simp) ?_;simp;refine z0k Tryz.func94 (by simp) (by simp) (by simp) (by simp) (ho) (by simp) (by simp) ?_;simp;subst hQ;try simp only [z02,z03,z00,z01]
  repeat (refine z0a ?_)
  refine z09 z0b fun Q hQ=>?_
  simp;subst hQ;try simp only [z02,z03,z00,z01]
  repeat (refine z0a ?_)
  refine z1I fun Q hQ=>?_
  simp;cases o with
  | none=>
   simp;subst hQ;try simp only [z02,z03,z00,z01]
   refine z05 ?_;try simp only [z01]
   exact ⟨by simp,by simp,by simp,by simp,⟨_,by simp;rfl,by simp⟩,by simp⟩
  | some sv=>
   match L,ho0 with
   | [],ho0=>exact absurd (ho0 rfl) (by simp)
   | k::t,_=>
    simp;subst hQ;try simp only [z02,z03,z00,z01]
    repeat (refine z0a ?_)
    refine z1O z1h z0b [2,6,7,8,9] [32,112] zdX (by kernel_rfl) fun Q hQ=>?_
    simp [snap,z1w,z4F,z4l,look,apply,putE,z1Y,z1l,setL,z4H,rdOf,Op.operands,Call.operands,z2C,z3I,z1t,z2d,z2l,meet,Log.men,T.men,E.men,C.men,O.men,z5S];subst hQ;try simp only [z02,z03,z00,z01]
    exact ⟨by simp,by simp,by simp,by simp,⟨_,by simp;rfl,by simp⟩,by simp⟩
 intro s hS;obtain ⟨p,L1,hp⟩:∃ p L1,Rq.z0G L=(p,L1):=⟨_,_,rfl⟩;have hm1:∀ k∈L1,k∈L:=by have:=(Rq.z8M L).2.2;rw [hp] at this;exact this
 rw [hp] at hS;obtain ⟨h2,h6,h7,h8,⟨z,h32,hz⟩,h112⟩:=hS;simp only at h8 h112;obtain ⟨has,na,L2,hnn⟩:∃ has na L2,Rq.z0p L1=(has,na,L2):=⟨_,_,_,rfl⟩;have hno:=zgt (gl:=gl) L1 (fun k h=>fL k (hm1 k h));rw [hnn] at hno;simp only at hno
 /- the nonce -/
 repeat (refine z0a ?_)
 refine z09 z0b fun Q hQ=>?_
 simp [h8];refine z0k Tryz.func96 (by simp) (by simp) (by simp) (by simp) (hno) (by simp) (by simp) ?_;simp [h2,h6,h7,h32,h112];subst hQ;try simp only [z02,z03,z00,z01]
 /- the mark -/
 refine z2J (fun s'=>St im a i p has (.d (limD (Nt.lim na))) (Rq.z1j L2).1 .nilS (Rq.z1j L2).2 s') ?_ ?_
 ·rw [z7k];obtain ⟨h0,hh0⟩:∃ h0,h0=L2.headD Nd.nil:=⟨_,rfl⟩;have hfi:=zau (gl:=gl) L2;rw [←hh0] at hfi ⊢;obtain ⟨b,hb⟩:∃ b,b=(h0.cls==0&&h0.tag==1):=⟨_,rfl⟩;have his:=zgC (gl:=gl) h0 1;rw [←hb] at his;have hb':(h0.cls=0∧h0.tag=1∧h0.bytes=[255])↔(b=true∧h0.bytes=[255]):=by rw [hb];simp [and_assoc]
  simp only [hb'];repeat (refine z0a ?_)
  refine z09 z0b fun Q hQ=>?_
  simp [h2,h6,h7,h32,h112];refine z0k Tryz.func95 (by simp) (by simp) (by simp) (by simp) (hfi) (by simp) (by simp) ?_;simp [h2,h6,h7,h32,h112];subst hQ;try simp only [z02,z03,z00,z01]
  repeat (refine z0a ?_)
  refine z09 z0b fun Q hQ=>?_
  simp [h2,h6,h7,h32,h112];refine z0k Tryz.func97 (by simp) (by simp) (by simp) (by simp) (his) (by simp) (by simp) ?_;simp [h2,h6,h7,h32,h112];cases b
  ·simp;subst hQ;try simp only [z02,z03,z00,z01]
   repeat (refine z0a ?_)
   refine z1I fun Q hQ=>?_
   simp;subst hQ;try simp only [z02,z03,z00,z01]
   refine z05 ?_;try simp only [z01]
   rw [if_neg (by simp)];exact ⟨by simp [h2],by simp [h6],by simp [h7],by simp,⟨_,by simp [h32];rfl,by simp [hz]⟩,by simp [h112]⟩
  ·simp;rcases hbt:h0.bytes with _|⟨x,_|⟨y,t⟩⟩
   ·exact zev
   ·simp [b255];by_cases hx:x=255
    ·subst hx;have hne:L2=h0::L2.drop 1:=by
      cases L2 with
      | nil=>rw [hh0] at hbt;cases hbt
      | cons k t=>rw [hh0];rfl
     simp;subst hQ;try simp only [z02,z03,z00,z01]
     repeat (refine z0a ?_)
     refine z1I fun Q hQ=>?_
     simp;subst hQ;try simp only [z02,z03,z00,z01]
     rw [hne];repeat (refine z0a ?_)
     refine z1O z1h z0b [2,6,7,8] [32,112] zdX (by kernel_rfl) fun Q hQ=>?_
     simp [snap,z1w,z4F,z4l,look,apply,putE,z1Y,z1l,setL,z4H,rdOf,Op.operands,Call.operands,z2C,z3I,z1t,z2d,z2l,meet,Log.men,T.men,E.men,C.men,O.men,z5S,h2,h6,h7,h32,h112];subst hQ;try simp only [z02,z03,z00,z01]
     have ht:List.take (L2.length-1) L2.tail=L2.tail:=List.take_of_length_le (by simp);exact ⟨by simp,by simp,by simp,by simp [hbt,ht],⟨_,by simp;rfl,by simp [hz]⟩,by simp [hbt]⟩
    ·simp [hx];subst hQ;try simp only [z02,z03,z00,z01]
     repeat (refine z0a ?_)
     refine z1I fun Q hQ=>?_
     simp;subst hQ;try simp only [z02,z03,z00,z01]
     refine z05 ?_;try simp only [z01]
     rw [if_neg (by simp [hbt,hx])];exact ⟨by simp [h2],by simp [h6],by simp [h7],by simp,⟨_,by simp [h32];rfl,by simp [hz]⟩,by simp [h112]⟩
   ·exact zev
 intro s2 hS2;have hm2:∀ k∈L2,k∈L:=by
  intro k h;have h1:∀ k∈(Rq.z0p L1).2.2,k∈L1:=by
   cases L1 with
   | nil=>intro k h;simp [Rq.z0p] at h
   | cons x t=>
    intro k h;simp only [Rq.z0p] at h;split at h
    ·split at h
     ·exact List.mem_cons_of_mem _ h
     ·exact h
    ·exact h
  rw [hnn] at h1;exact hm1 k (h1 k h)
 have hm3:∀ k∈(Rq.z1j L2).2,k∈L:=by
  intro k h;rw [z7k] at h;split at h
  ·exact hm2 k (List.mem_of_mem_drop h)
  ·exact hm2 k h
 obtain ⟨ct,L3,htt⟩:∃ ct L3,Rq.z1j L2=(ct,L3):=⟨_,_,rfl⟩;rw [htt] at hS2 hm3;simp only at hS2 hm3;clear h2 h6 h7 h8 h32 hz h112;obtain ⟨h2,h6,h7,h8,⟨z2,h32,hz⟩,h112⟩:=hS2
 /- the extensions -/
 obtain ⟨h0,hh0⟩:∃ h0,h0=L3.headD Nd.nil:=⟨_,rfl⟩;have hfi:=zau (gl:=gl) L3;rw [←hh0] at hfi;have fh0:∀ k∈h0.kids,Fine k:=by
  intro k hk2;cases L3 with
  | nil=>rw [hh0] at hk2;cases hk2
  | cons y t=>rw [hh0] at hk2;exact z1D (fL y (hm3 y (by simp))) hk2
 have hwt0:L3≠[]→Dr.wt h0≤Dr.wt n∧∀ y∈h0.kids,Dr.mx y≤20000:=by
  intro hne;have hmem:h0∈n.kids:=by
   rw [hk];cases L3 with
   | nil=>exact absurd rfl hne
   | cons y t=>rw [hh0];simp [hm3 y (by simp)]
  obtain ⟨q,hq,e⟩:=List.getElem_of_mem hmem;have h1:=z2I hq;rw [e] at h1;have h2:=z0W n;refine ⟨by omega,fun y hy=>?_⟩;have h3:=Dr.z2s hmem;have h4:=Dr.z2s hy;have h5:=Dr.z0Y n;have h6:=Dr.z0Y h0;omega
 refine z2J (fun s'=>∃ es c6 ok' L4,St ok' a i p has (.d (limD (Nt.lim na))) ct c6 L4 s'∧(c6 = .nilS∧es=[]∨∃ q,c6 = .gr q 3 (exL es))∧es.length≤10000∧(∀ e∈es,e.oid.length≤90000∧e.val.length≤40000) ∧
  ok'=(im&&(Rq.z18 L3).isSome)∧(∀ r,Rq.z18 L3=some r→es=r.1∧L4=r.2)) ?_ ?_
 ·repeat (refine z0a ?_)
  refine z09 z0b fun Q hQ=>?_
  simp [h2,h6,h7,h32,h112,h8];refine z0k Tryz.func95 (by simp) (by simp) (by simp) (by simp) (hfi) (by simp) (by simp) ?_;simp [h2,h6,h7,h32,h112,h8];subst hQ;try simp only [z02,z03,z00,z01]
  repeat (refine z0a ?_)
  refine z09 z0b fun Q hQ=>?_
  simp [h2,h6,h7,h32,h112,h8];by_cases x1:h0.cls=2
  ·simp [x1];by_cases x2:h0.tag=0
   ·simp [x2];subst hQ;try simp only [z02,z03,z00,z01]
    repeat (refine z0a ?_)
    refine z1I fun Q hQ=>?_
    simp;by_cases x3:0<h0.kids.length
    ·simp [x3];subst hQ;try simp only [z02,z03,z00,z01]
     repeat (refine z0a ?_)
     refine z09 z0b fun Q hQ=>?_
     simp [h2,h6,h7,h32,h112,h8];subst hQ;try simp only [z02,z03,z00,z01]
     refine z7h ?_;refine z0A (Lp im a i p has (.d (limD (Nt.lim na))) ct L3 h0.kids) h0.kids.length ?_ ?_
     ·exact ⟨0,.nilS,by simp,by simp,by simp,by simp,⟨by simp [h2],by simp [h6],by simp [h7],by simp [h8],⟨_,by simp [h32];rfl,by simp [hz]⟩,by simp [h112]⟩,.inl ⟨rfl,rfl⟩⟩
     intro k s3 hL;clear h2 h6 h7 h8 h32 hz h112;obtain ⟨j,c6,hj,g104,g102,g103,⟨h2,h6,h7,h8,⟨z3,h32,hz⟩,h112⟩,hc6⟩:=hL;repeat (refine z0a ?_)
     refine z09 z0b fun Q hQ=>?_
     simp [g103,g104];subst hQ;try simp only [z02,z03,z00,z01]
     repeat (refine z0a ?_)
     refine z1I fun Q hQ=>?_
     simp;cases k with
     | zero=>
      obtain rfl:j=h0.kids.length:=by omega
      simp;subst hQ;try simp only [z02,z03,z00,z01]
      refine z06 ?_;simp only [zbl,z9l,zcC,if_true];have hne:L3=h0::L3.drop 1:=by
       cases L3 with
       | nil=>rw [hh0] at x1;cases x1
       | cons k t=>rw [hh0];rfl
      rw [hne] at h8;have ht:List.take (L3.length-1) L3.tail=L3.tail:=List.take_of_length_le (by simp);repeat (refine z0a ?_)
      refine z09 z0b fun Q hQ=>?_
      simp [h8,ht];subst hQ;try simp only [z02,z03,z00,z01]
      try simp only [z01]
      rcases hc6 with ⟨h0',_⟩|⟨rfl,_⟩
      ·omega
      try simp only [List.take_length] at h6
      try simp only [List.take_length] at h112
      try simp only [List.take_length]
      have hkl:h0.kids.length≤10000:=by
       have h1:=z1E h0.kids;have h2:=z0W h0;have h3:Dr.wt h0≤Dr.wt n:=(hwt0 (by rw [hne];simp)).1;omega
      have hxe:Rq.z18 L3=if (h0.kids.all fun x=>(Rq.exOf x).isSome)=true then some (h0.kids.map fun x=>(Rq.exOf x).getD Rq.z0E,L3.tail) else none:=by
       rw [z3N,←hh0,if_pos ⟨x1,x2,x3⟩,zbT];by_cases ha:(h0.kids.all fun x=>(Rq.exOf x).isSome)=true
       ·simp only [if_pos ha,List.drop_one]
       ·simp only [if_neg ha]
      refine ⟨_,_,_,L3.tail,⟨by simp [h2],by simp;exact h6,by simp [h7],by simp,⟨_,by simp [h32];rfl,by simp [hz]⟩,by simp [h112];rfl⟩,.inr ⟨1936,rfl⟩,by simpa using hkl,?_,?_,?_⟩
      ·intro e he;obtain ⟨y,hy,rfl⟩:=List.mem_map.1 he;exact zjf ((hwt0 (by rw [hne];simp)).2 y hy)
      ·rw [hxe];by_cases ha:(h0.kids.all fun x=>(Rq.exOf x).isSome)=true
       ·rw [if_pos ha,ha];rfl
       ·rw [if_neg ha];have:(h0.kids.all fun x=>(Rq.exOf x).isSome)=false:=by simpa using ha
        rw [this];rfl
      ·intro r hr;rw [hxe] at hr;split at hr
       ·injection hr with hr;subst hr;exact ⟨rfl,rfl⟩
       ·cases hr
     | succ k=>
      have hjlt:j<h0.kids.length:=by omega
      simp [hjlt];subst hQ;try simp only [z02,z03,z00,z01]
      refine z05 ?_;simp only [z02];repeat (refine z0a ?_)
      refine z7h ?_;have hd:List.drop j h0.kids=h0.kids[j]::List.drop (j+1) h0.kids:=List.drop_eq_getElem_cons hjlt;obtain ⟨x,hx⟩:∃ x,x=h0.kids[j]:=⟨_,rfl⟩;rw [←hx] at hd;have fx:Fine x:=fh0 x (by rw [hx];exact List.getElem_mem hjlt);repeat (refine z0a ?_)
      refine z09 z0b fun Q hQ=>?_
      simp [g102,g104,hjlt,hd];subst hQ;try simp only [z02,z03,z00,z01]
      repeat (refine z0a ?_)
      refine z09 z0b fun Q hQ=>?_
      simp;refine z0k Tryz.func98 (by simp) (by simp) (by simp) (by simp) (hX x fx) (by simp) (by simp) ?_;simp;subst hQ;try simp only [z02,z03,z00,z01]
      /- the test's end -/
      refine z2J (fun s'=>s'.env 104=some (.e (iX j))∧s'.env 102=some (.e (rX (ndR h0.kids)))∧s'.env 103=some (.e (iX h0.kids.length))∧St (im&&(h0.kids.take (j+1)).all fun x=>(Rq.exOf x).isSome) a i p has (.d (limD (Nt.lim na))) ct c6 L3 s' ∧
       s'.env 15=some (.e (.one (.ref 240 0)))∧s'.heap 240=some (.var 87 [.d (.leaf (.string ⟨((Rq.exOf x).getD Rq.z0E).oid.toArray⟩)),.d (.leaf (.bool ((Rq.exOf x).getD Rq.z0E).crit)),.d (z04 ((Rq.exOf x).getD Rq.z0E).val)]) ∧
       (j=0∧c6 = .nilS∨c6 = .gr 1936 3 (exL ((h0.kids.take j).map fun x=>(Rq.exOf x).getD Rq.z0E))∧s'.heap 1936=some (.own 87 3 j))) ?_ ?_
      ·have htk:(h0.kids.take (j+1)).all (fun x=>(Rq.exOf x).isSome)=((h0.kids.take j).all (fun x=>(Rq.exOf x).isSome)&&(Rq.exOf x).isSome):=by
        rw [List.take_succ_eq_append_getElem hjlt,List.all_append,←hx];simp
       rw [htk,←Bool.and_assoc];generalize (im&&(h0.kids.take j).all fun x=>(Rq.exOf x).isSome)=okb at h6;repeat (refine z0a ?_)
       refine z09 z0b fun Q hQ=>?_
       simp [h6];cases okb
       ·exact zew
       ·exact zew
      ·intro s4 hs4;clear g104 g102 g103 h2 h6 h7 h8 h32 hz h112 hc6;obtain ⟨g104,g102,g103,⟨h2,h6,h7,h8,⟨z4,h32,hz⟩,h112⟩,g15,g240,hc6⟩:=hs4;have htk:(h0.kids.take (j+1)).map (fun x=>(Rq.exOf x).getD Rq.z0E)=(h0.kids.take j).map (fun x=>(Rq.exOf x).getD Rq.z0E)++[(Rq.exOf x).getD Rq.z0E]:=by
        rw [List.take_succ_eq_append_getElem hjlt,List.map_append,←hx];rfl
       generalize (Rq.exOf x).getD Rq.z0E=ex at g240 htk;rcases hc6 with ⟨hj0,rfl⟩|⟨rfl,h1936⟩
       ·repeat (refine z0a ?_)
        refine z09 z0b fun Q hQ=>?_
        simp [h7,h112,g15,g240,z08,zjg];subst hQ;try simp only [z02,z03,z00,z01]
        have hwr:IntKind.wrap .i64 ((j:Int)+1)=(j:Int)+1:=wrap_small _ (by omega) (by omega);repeat (refine z0a ?_)
        refine z09 z0b fun Q hQ=>?_
        simp [g104,hwr];subst hQ;try simp only [z02,z03,z00,z01]
        refine ⟨k,by omega,⟨j+1,_,by omega,by simp,by simp [g102],by simp [g103],⟨by simp [h2],by simp [h6],by simp [h7],by simp [h8],⟨_,by simp [h32];rfl,by simp [hz]⟩,by simp;rfl⟩,.inr ⟨by rw [htk,hj0];simp,by simp [hj0]⟩⟩⟩
       ·obtain ⟨es,hes⟩:∃ es,es=(h0.kids.take j).map fun x=>(Rq.exOf x).getD Rq.z0E:=⟨_,rfl⟩
        have hesl:es.length=j:=by rw [hes];simp;omega
        rw [←hes] at htk h112;have hjb:j≤10000:=by
         have h1:=z1E h0.kids;have h2:=z0W h0;have h3:Dr.wt h0≤Dr.wt n:=(hwt0 (by rintro rfl;rw [hh0] at x1;cases x1)).1;omega
        have hc1:(j*3+3) / 3=j+1:=by omega
        have hc2:(j+1)*48≤140737488355328:=by omega
        have hc3:j*3+3≤140737488355328:=by omega
        repeat (refine z0a ?_)
        refine z09 z0b fun Q hQ=>?_
        simp [h7,h112,g15,g240,h1936,z08,zjg,hesl,hc1,hc2,hc3];subst hQ;try simp only [z02,z03,z00,z01]
        have hwr:IntKind.wrap .i64 ((j:Int)+1)=(j:Int)+1:=wrap_small _ (by omega) (by omega);repeat (refine z0a ?_)
        refine z09 z0b fun Q hQ=>?_
        simp [g104,hwr];subst hQ;try simp only [z02,z03,z00,z01]
        refine ⟨k,by omega,⟨j+1,_,by omega,by simp,by simp [g102],by simp [g103],⟨by simp [h2],by simp [h6],by simp [h7],by simp [h8],⟨_,by simp [h32];rfl,by simp [hz]⟩,by simp;rfl⟩,.inr ⟨by rw [htk],by simp⟩⟩⟩
    ·simp [x3];subst hQ;try simp only [z02,z03,z00,z01]
     refine z05 ?_;try simp only [z01]
     have hx:Rq.z18 L3=some ([],L3):=by rw [z3N,←hh0,if_neg (fun h=>x3 h.2.2)]
     exact za8
   ·have x2':(h0.tag==0)=false:=by simpa using x2
    simp [x2'];subst hQ;try simp only [z02,z03,z00,z01]
    repeat (refine z0a ?_)
    refine z1I fun Q hQ=>?_
    simp;subst hQ;try simp only [z02,z03,z00,z01]
    refine z05 ?_;try simp only [z01]
    have hx:Rq.z18 L3=some ([],L3):=by rw [z3N,←hh0,if_neg (by simp [x2])]
    exact za8
  ·have x1':(h0.cls==2)=false:=by simpa using x1
   simp [x1'];subst hQ;try simp only [z02,z03,z00,z01]
   repeat (refine z0a ?_)
   refine z1I fun Q hQ=>?_
   simp;subst hQ;try simp only [z02,z03,z00,z01]
   refine z05 ?_;try simp only [z01]
   have hx:Rq.z18 L3=some ([],L3):=by rw [z3N,←hh0,if_neg (by simp [x1])]
   exact za8
 intro s3 hS3;clear h2 h6 h7 h8 h32 hz h112;obtain ⟨es,c6,ok',L4,⟨h2,h6,h7,h8,⟨z3,h32,hz⟩,h112⟩,hc6,hlen,hsz,hok,hr4⟩:=hS3;have hexs:=zja (gl:=gl) es hsz hlen;have hna:(Nt.lim na).length≤100000000:=by
  obtain ⟨E,hE⟩:∃ E:Nat,E=40000:=⟨_,rfl⟩;have h1:na<Nt.B^E:=by
   have h1:(Rq.z0p L1).2.1<Nt.B^E:=by
    cases hL1:L1 with
    | nil=>exact Nat.pow_pos (by decide)
    | cons x t=>
     simp only [Rq.z0p];split
     ·split
      ·rename_i a0 ha0;unfold Dr.z1z at ha0;split at ha0
       ·injection ha0 with ha0;rw [←ha0];have h3:x.bytes.length≤E:=by
         have:=z2b (fL x (hm1 x (by rw [hL1];simp)));omega
        exact Nat.lt_of_lt_of_le (Nt.zaP _) (Nat.le_trans (Nat.pow_le_pow_right (by decide) h3) (Nat.pow_le_pow_left (by decide) _))
       ·cases ha0
      ·exact Nat.pow_pos (by decide)
     ·exact Nat.pow_pos (by decide)
   rw [hnn] at h1;exact h1
  have:=Nt.zdw h1;omega
 have hnon:=zf0 (gl:=gl) has (Nt.lim na) (Nt.z5z na) hna;rw [Nt.zbX] at hnon;have hdr:n.kids.drop 2=L:=by rw [hk];rfl
 have hreq:Rq.z34 n=match Rq.z6M k1 with
  | none=>none
  | some (alg,impr)=>match Rq.z18 L3 with
   | none=>none
   | some (es,l)=>if l.isEmpty&&Rq.z0N es&&Rq.z0s has na then some ⟨alg,impr,p,has,na,ct,es⟩ else none:=by
  unfold Rq.z34;rw [r0,r1,hN,e1,hdr];simp only [hp,hnn,htt,Bool.and_self,if_true];cases Rq.z6M k1 with
  | none=>rfl
  | some oi=>
   cases Rq.z18 L3 with
   | none=>rfl
   | some r=>rfl
 obtain ⟨i1,i2⟩:=znB rk1;rw [himp] at i1 i2;have hend:∀ x:E,X7 x→((ok'&&Rq.z0N es&&L4.isEmpty&&Rq.z0s has na)=true→x=reqX ⟨a,i,p,has,na,ct,es⟩)→RqR n (.tup [x,bX (ok'&&Rq.z0N es&&L4.isEmpty&&Rq.z0s has na)]) [] []:=by
  intro x hxd hx;cases hi:Rq.z6M k1 with
  | none=>
   have him:im=false:=by rw [hi] at i1;exact i1
   subst him;have:ok'=false:=by rw [hok];rfl
   rw [this];refine RqR.no hxd ?_;rw [hreq,hi]
  | some oi=>
   obtain ⟨o,b⟩:=oi;have h3:=i2 o b hi;injection h3 with h3 h4;injection h4 with h4 h5;subst h3 h4 h5;cases ht:Rq.z18 L3 with
   | none=>
    have:ok'=false:=by rw [hok,ht];rfl
    rw [this];refine RqR.no hxd ?_;rw [hreq,hi,ht]
   | some r=>
    have:ok'=true:=by rw [hok,ht];rfl
    subst this;obtain ⟨rfl,rfl⟩:=hr4 r ht;have hreq2:Rq.z34 n=if (r.2.isEmpty&&Rq.z0N r.1&&Rq.z0s has na)=true then some ⟨a,i,p,has,na,ct,r.1⟩ else none:=by rw [hreq,hi,ht]
    by_cases hb:(r.2.isEmpty&&Rq.z0N r.1&&Rq.z0s has na)=true
    ·have hb2:(true&&Rq.z0N r.1&&r.2.isEmpty&&Rq.z0s has na)=true:=by simp only [Bool.and_eq_true] at hb ⊢;exact ⟨⟨⟨trivial,hb.1.2⟩,hb.1.1⟩,hb.2⟩
     rw [if_pos hb] at hreq2;refine ⟨⟨x,by rw [hreq2,hb2];rfl,hxd,fun q hq=>?_⟩,rfl,rfl⟩;rw [hreq2] at hq;injection hq with hq;rw [←hq];exact hx hb2
    ·have hb2:(true&&Rq.z0N r.1&&r.2.isEmpty&&Rq.z0s has na)=false:=by
      rw [←Bool.not_eq_true];intro h;simp only [Bool.and_eq_true] at h hb;exact hb ⟨⟨h.1.2,h.1.1.2⟩,h.2⟩
     rw [hb2];refine RqR.no hxd ?_;rw [hreq2,if_neg hb]
 rcases hc6 with ⟨rfl,hes0⟩|⟨q6,rfl⟩
 ·have hexs':OK gl 28 [rX (exR [])] (.tup [z4G es,bX (Rq.z0N es)]):=by rw [hes0] at hexs ⊢;exact hexs
  repeat (refine z0a ?_)
  refine z09 z0b fun Q hQ=>?_
  simp [h7,h112];refine z0k Tryz.func28 (by simp) (by simp) (by simp) (by simp) hexs' (zff _ _) (zcb _ _ _) ?_;simp;subst hQ;try simp only [z02,z03,z00,z01]
  generalize Rq.z0N es=xo at hend;cases ok' with
  | false=>
   exact z6W
  | true=>
   cases xo with
   | false=>
    exact z6W
   | true=>
    cases L4 with
    | cons y t=>
     have hy:((((t.length:Int)+1)==0):Bool)=false:=by rw [beq_eq_false_iff_ne];omega
     repeat (refine z0a ?_)
     refine z1O z1h z0b [2,6,7,8,18] [32,112] zdX (by kernel_rfl) fun Q hQ=>?_
     simp [snap,z1w,z4F,z4l,look,apply,putE,z1Y,z1l,setL,z4H,rdOf,Op.operands,Call.operands,z2C,z3I,z1t,z2d,z2l,meet,Log.men,T.men,E.men,C.men,O.men,z5S,h2,h6,h7,h8,h32,hz,h112,hy];exact zez
    | nil=>
     generalize Rq.z0s has na=nb at hend hnon;repeat (refine z0a ?_)
     refine z1O z1h z0b [2,6,7,8,18] [32,112] (zhs hnon) (by kernel_rfl) fun Q hQ=>?_
     simp [snap,z1w,z4F,z4l,look,apply,putE,z1Y,z1l,setL,z4H,rdOf,Op.operands,Call.operands,z2C,z3I,z1t,z2d,z2l,meet,Log.men,T.men,E.men,C.men,O.men,z5S,z5E,tabX,z1k,z4u,named,z38,h2,h6,h7,h8,h32,hz,h112];subst hQ;try simp only [z02,z03,z00,z01]
     refine z07 ?_;simp;have hh:=fun x=>hend x
     simp at hh;exact hh _ (X7.mk rfl) (fun _=>by rw [hes0])
 ·repeat (refine z0a ?_)
  refine z09 z0b fun Q hQ=>?_
  simp [h7,h112];refine z0k Tryz.func28 (by simp) (by simp) (by simp) (by simp) hexs (zff _ _) (zcb _ _ _) ?_;simp;subst hQ;try simp only [z02,z03,z00,z01]
  generalize Rq.z0N es=xo at hend;cases ok' with
  | false=>
   exact z6W
  | true=>
   cases xo with
   | false=>
    exact z6W
   | true=>
    cases L4 with
    | cons y t=>
     have hy:((((t.length:Int)+1)==0):Bool)=false:=by rw [beq_eq_false_iff_ne];omega
     repeat (refine z0a ?_)
     refine z1O z1h z0b [2,6,7,8,18] [32,112] zdX (by kernel_rfl) fun Q hQ=>?_
     simp [snap,z1w,z4F,z4l,look,apply,putE,z1Y,z1l,setL,z4H,rdOf,Op.operands,Call.operands,z2C,z3I,z1t,z2d,z2l,meet,Log.men,T.men,E.men,C.men,O.men,z5S,h2,h6,h7,h8,h32,hz,h112,hy];exact zez
    | nil=>
     generalize Rq.z0s has na=nb at hend hnon;repeat (refine z0a ?_)
     refine z1O z1h z0b [2,6,7,8,18] [32,112] (zhs hnon) (by kernel_rfl) fun Q hQ=>?_
     simp [snap,z1w,z4F,z4l,look,apply,putE,z1Y,z1l,setL,z4H,rdOf,Op.operands,Call.operands,z2C,z3I,z1t,z2d,z2l,meet,Log.men,T.men,E.men,C.men,O.men,z5S,z5E,tabX,z1k,z4u,named,z38,h2,h6,h7,h8,h32,hz,h112];subst hQ;try simp only [z02,z03,z00,z01]
     refine z07 ?_;simp;have hh:=fun x=>hend x
     simp at hh;exact hh _ (X7.mk rfl) (fun _=>rfl)
end Am
end Go.Proofs.YtgmppconibklcaaGreatDoor

namespace Go.Proofs.YtgmppconibklcaaGreatDoor
open Go Go.RowKit
theorem zj9 {fn:Func} {s:Tmp} (hr:fn.results=#[.cell s 80]) (tmps:Array Value) (w:World) {P:Nat} {c0 c1:Value} (hB:Blk w P 80 #[c0,c1]) (h4:tmps[s]?.getD undef = .pointer (some ⟨P,0,none⟩)):
  (results fn tmps).run Tryz.prog w = .ok (.agg #[c0,c1]) w:=by
 obtain ⟨g0,g1,_⟩:=hB.two;simp [results,hr,go_sem,h4,g0,g1]
def z41 (at_ code:Int):Value:= .iface 234 (.agg #[.int .i64 at_,.int .i64 code])
theorem z0T (c:Int) (p:Option Addr) (w:World):
  Calls Tryz.prog 168 #[.bool true,.int .i64 c,.pointer p] w fun e w'=>e = .returned (.tuple #[])∧w'=w:=by
 go_enter Tryz.func168,Tryz.ntmps168
 go_wp2_with fail
 first|go_end0|skip
 exact ⟨rfl,rfl⟩
theorem z13 (c a:Int) (p:Addr) (w:World) (hc:w.cell? p=some (.int .i64 a)):
  Calls Tryz.prog 168 #[.bool false,.int .i64 c,.pointer (some p)] w fun e w'=>e = .panicked [{v:=z41 a c,recovered:=false}]∧w'=w:=by
 go_enter Tryz.func168,Tryz.ntmps168
 go_wp2
 exact ⟨rfl,rfl,rfl⟩
theorem z3O (c:Int) (p:Option Addr) (w:World):
  Calls Tryz.prog 218 #[.bool true,.int .i64 c,.pointer p] w fun e w'=>e = .returned (.tuple #[])∧w'=w:=by
 go_enter Tryz.func218,Tryz.ntmps218
 go_wp2_with fail
 first|go_end0|skip
 exact ⟨rfl,rfl⟩
theorem z25 (c a:Int) (p:Addr) (w:World) (hc:w.cell? p=some (.int .i64 a)):
  Calls Tryz.prog 218 #[.bool false,.int .i64 c,.pointer (some p)] w fun e w'=>e = .panicked [{v:=z41 a c,recovered:=false}]∧w'=w:=by
 go_enter Tryz.func218,Tryz.ntmps218
 go_wp2
 exact ⟨rfl,rfl,rfl⟩
theorem zaG (a c:Int) (w:World):
  Calls Tryz.prog 110 #[z41 a c] w fun e w'=>e = .returned (.agg #[.int .i64 a,.int .i64 c])∧Below w.heap.size w w':=by
 unfold z41;have ha:∀ (V:Value) (w:World),(Instr.typeAssert (.iface 234 V) 20 234 true).run Tryz.prog w = .ok (.tuple #[V,.bool true]) w:=fun _ _=>by kernel_rfl
 go_enter Tryz.func110,Tryz.ntmps110
 go_wp2_with fail
 refine bodyPost_ret (zj9 Tryz.results110 _ _ (Blk.alloc (Blk.new w 80 #[.int .i64 a,.int .i64 c]) _) rfl) rfl ⟨rfl,?_⟩;exact ((Below.refl _ w).alloc (Nat.le_refl _) _).alloc (by simp [go_sem]) _
end Go.Proofs.YtgmppconibklcaaGreatDoor

namespace Go.Proofs.YtgmppconibklcaaGreatDoor
open Go Go.RowKit
abbrev World.set2 (w:World) (g:Nat) (c0 c1:Value):World:=(w.setCell ⟨g,0,none⟩ c0).setCell ⟨g,1,none⟩ c1
theorem z5n (p q:Addr) (w:World):
  CallsD Tryz.prog 109 #[.pointer (some p),.pointer (some q)] .returning w fun e u' w'=>e = .returned (.tuple #[])∧u' = .returning∧w'=w:=by
 refine callsD_of_wpS Tryz.func109 rfl fun c₀ cs hu=>?_
 apply wpS_seq;apply wpS_region;simp [wpOpsS,go_sem,recoverD,hu,Tryz.ntmps109,Exit.thenS];refine wpS_of_wp ?_
 go_wp2_with fail
 cases c₀;simp_all [bodyPostS,results,Tryz.results109]
theorem z7z (g h:Nat) (x y:Int) (older:List PanicEntry) (w:World) {a0 a1 a2 a3 a4 b0 b1:Value} (hg:Blk w g 61 #[a0,a1,a2,a3,a4]) (hh:Blk w h 80 #[b0,b1]) (hne:g≠h):
  CallsD Tryz.prog 109 #[.pointer (some ⟨g,0,none⟩),.pointer (some ⟨h,0,none⟩)] (.panicking ({v:=z41 x y,recovered:=false}::older)) w fun e u' w' =>
   e = .returned (.tuple #[])∧u' = .panicking ({v:=z41 x y,recovered:=true}::older)∧∃ w1,Below w.heap.size w w1∧w'=World.set2 (World.set5 w1 g (.int .i64 0) (.int .i64 0) (.bool false) (.slice none 0 0) (.slice none 0 0)) h (.int .i64 x) (.int .i64 y):=by
 have HC:=Lib.hid (zaG x y);unfold z41 at HC ⊢;refine callsD_of_wpS Tryz.func109 rfl fun c₀ cs hu=>?_
 apply wpS_seq;apply wpS_region;simp [wpOpsS,go_sem,recoverD,hu,Tryz.ntmps109,Exit.thenS];refine wpS_of_wp ?_;have HG:=Lib.hid hg;have HH:=Lib.hid hh;clear hg hh
 go_wp2_with fail
 refine (HC.out w).mono ?_;rintro e w1 ⟨rfl,hb⟩;have HB:=Lib.hid hb;have HG1:=Lib.hid (HG.out.below hb HG.out.lt);have HH1:=Lib.hid (HH.out.below hb HH.out.lt);clear hb;obtain ⟨p0,p1,p2,p3,p4,g0,g1,g2,g3,g4⟩:=HG1.out.five;obtain ⟨q0,q1,f0,f1⟩:=HH1.out.two
 go_wp2_with fail
 simp [bodyPostS,results,Tryz.results109];exact ⟨w1,HB.out,rfl⟩
end Go.Proofs.YtgmppconibklcaaGreatDoor

