/- Part of the proof. No condition. -/
import Derived.Test.YtgmppconibklcaaGreatDoorM47
import Derived.Test.YtgmppconibklcaaGreatDoorM28
import Derived.Test.YtgmppconibklcaaGreatDoorM10
set_option maxHeartbeats 40000000
set_option maxRecDepth 100000
set_option linter.unusedVariables false
set_option linter.unusedSimpArgs false
namespace Go.Proofs.YtgmppconibklcaaGreatDoor
open Go Go.RowKit
namespace Am
variable {gl:Nat→Option (List D)}
structure RdI (b:List UInt8) (a d C G size j f:Nat) (k:Nat) (s:SF):Prop where
 e0:s.env 0=some (.e (rX (z04 b)))
 e1:s.env 1=some (.e (iX a))
 e3:s.env 3=some (.e (iX d))
 e8:s.env 8=some (.e (.one (.ref 128 0)))
 e10:s.env 10=some (.e (.one (.ref 160 0)))
 e12:s.env 12=some (.e (.one (.ref 192 0)))
 e13:s.env 13=some (.e (iX size))
 e14:s.env 14=some (.e (iX ((a:Int)+1+(j:Int))))
 h8:s.heap 128=some (.var 61 [.d (.leaf (.int .i64 0)),.d (.leaf (.int .i64 0)),.d (.leaf (.bool false)),.nilS,.nilS])
 h10:s.heap 160=some (.var 80 [.d (.leaf (.int .i64 0)),.d (.leaf (.int .i64 0))])
 ex:∃ (p g:Nat) (ns:List Nd) (cuts:List (List UInt8)),a+1+j+size≤p+k∧p≤a+1+j+size∧a<p∧s.env 16=some (.e (iX p))∧2*(a+1+j+size)+1≤g+2*p∧Dr.puts ns=some cuts∧cuts.flatten.length+(a+1+j)=p ∧
  (Dr.rdL f (d+1) ((b.drop (a+1+j)).take size)=match Dr.rdL g (d+1) ((b.drop p).take (a+1+j+size-p)) with
   | none=>none
   | some (ns2,cuts2)=>some (ns++ns2,cuts++cuts2)) ∧
  (ns=[]∧s.heap 192=some (.var 61 [.d (.leaf (.int .i64 C)),.d (.leaf (.int .i64 G)),.d (.leaf (.bool true)),.nilS,.nilS]) ∨
   ns≠[]∧s.heap 192=some (.var 61 [.d (.leaf (.int .i64 C)),.d (.leaf (.int .i64 G)),.d (.leaf (.bool true)),.nilS,.gr 1984 5 (ndL ns)])∧s.heap 1984=some (.own 61 5 ns.length))
theorem z4w {C G:Nat} {ns:List Nd} {cuts:List (List UInt8)} (hm:Dr.may C G true=true) (hp:Dr.puts ns=some cuts):Dr.right (.mk C G true [] ns)=!decide (C=0∧G=17∧Dr.rising cuts=false):=by
 by_cases h:C=0∧G=17∧Dr.rising cuts=false
 ·rw [decide_eq_true h];obtain ⟨rfl,rfl,hr⟩:=h;show (Dr.put _).isSome=false;have:=Dr.z3m (k:=true) (b:=[]) (l:=ns) (i:=ns.length) (bs:=cuts) (by rw [List.take_length];exact hp) hr;exact congrArg Option.isSome this
 ·rw [decide_eq_false h];show (Dr.put _).isSome=true;rw [Dr.z5s hm (fun _=>rfl) (fun h=>by cases h) (fun _ h=>by cases h) hp (fun h1 h2=>by
   cases hr:Dr.rising cuts with
   | true=>rfl
   | false=>exact absurd ⟨by omega,by omega,hr⟩ h)]
  rfl
theorem zgn (b:List UInt8) (a e d f:Nat) (t:UInt8) (q:List UInt8) (hb:b.length≤20000) (he:e≤b.length) (ha:a<e) (hd:b.drop a=t::q) (hd32:d≤32) (hf:2*e≤f+2*a)
  (hm:Dr.may (t.toNat / 64:Nat) (t.toNat%32:Nat) (t.toNat / 32%2==1)=true) (hp:(t.toNat / 32%2==1)=true) (size j:Nat) (hH:hdr (q.take (e-a-1))=(size,j,0)) (hj:j+size≤e-a-1)
  (ih:∀ p e' g:Nat,a<p→e'≤e→2*e'≤g+2*p→RfC gl b p e' (d+1) g):RfC gl b a e d f:=by
 obtain ⟨f,rfl⟩:∃ f',f=f'+1:=⟨f-1,by omega⟩;have hr:(b.drop a).take (e-a)=t::q.take (e-a-1):=by
  rw [hd];cases h:e-a with
  | zero=>omega
  | succ m=>rfl
 have hq1:b.drop (a+1)=q:=by rw [←List.drop_drop,hd];rfl
 have hql:(q.take (e-a-1)).length=e-a-1:=by
  have h:=congrArg List.length hd;rw [List.length_drop,List.length_cons] at h;rw [List.length_take];omega
 have hs:=zec (e:=e) (j:=j) (size:=size) hq1 hj;have hn:Dr.rdN (f+1) d ((b.drop a).take (e-a))=match Dr.rdL f (d+1) ((b.drop (a+1+j)).take size) with
   | none=>none
   | some (ns,cuts)=>if t.toNat / 64=0∧t.toNat%32=17∧Dr.rising cuts=false then none else some (.mk (t.toNat / 64:Nat) (t.toNat%32:Nat) true [] ns,1+j+size):=by
  rw [hr,Dr.rdN,if_pos hm,z9t,hH];simp only [if_true];rw [if_neg (by omega),hp,hs];rfl
 unfold RfC;rw [hn];have cH:=zda (gl:=gl) b a e he (by omega) (by omega);rw [hq1,hH] at cH;unfold hdrT at cH;simp only [if_true] at cH;have c1:=rMay (gl:=gl) ((t.toNat / 64:Nat):Int) ((t.toNat%32:Nat):Int) (t.toNat / 32%2==1);rw [hm] at c1;rw [hp] at hm c1;obtain ⟨C,G,Q,hC,hG,hQ,p1,p2,p3,wC,wt⟩:=z6i t;rw [hp] at hQ;subst hQ;rw [←hC,←hG] at c1 hm ⊢;simp only [if_true] at p3;have w32:(t.toNat:Int) / 32=((t.toNat / 32:Nat):Int):=rfl;have wN:=z17 (k:=t.toNat / 32) (by have:=t.toNat_lt;omega);generalize t.toNat / 32=N at *;have w1:IntKind.wrap .i64 ((e:Int)-((a:Int)+1+(j:Int)))=(e:Int)-((a:Int)+1+(j:Int)):=z0f (by omega) (by omega);have w2:IntKind.wrap .i64 ((a:Int)+1+(j:Int)+(size:Int))=(a:Int)+1+(j:Int)+(size:Int):=z0f (by omega) (by omega);have w3:IntKind.wrap .i64 ((d:Int)+1)=(d:Int)+1:=z0f (by omega) (by omega);have hje:a+1+j+size≤e:=by omega
 have hlt:¬((e:Int)-((a:Int)+1+(j:Int))<size):=by omega
 clear hn hr hq1 hql hH hC hG hp hs hj;obtain ⟨O,hO⟩:∃ O:Option (Nd×Nat),O=(match Dr.rdL f (d+1) ((b.drop (a+1+j)).take size) with
   | none=>none
   | some (ns,cuts)=>if C=0∧G=17∧Dr.rising cuts=false then none else some (.mk (C:Int) (G:Int) true [] ns,1+j+size)):=⟨_,rfl⟩
 rw [←hO];have hOn:Dr.rdL f (d+1) ((b.drop (a+1+j)).take size)=none→O=none:=fun h=>by rw [hO,h]
 have hOs:∀ ns cuts,Dr.rdL f (d+1) ((b.drop (a+1+j)).take size)=some (ns,cuts)→O=if C=0∧G=17∧Dr.rising cuts=false then none else some (.mk (C:Int) (G:Int) true [] ns,1+j+size):=fun ns cuts h=>by rw [hO,h]
 have hcast:((a+(1+j+size):Nat):Int)=(a:Int)+1+(j:Int)+(size:Int):=by push_cast;omega
 clear hO;have hih:∀ p e' g:Nat,a<p→e'≤e→2*e'≤g+2*p→RfC gl b p e' (d+1) g:=ih;refine z6c false Tryz.func99 rfl (by show 4≤_;decide) ?_;rw [z1m];unfold Tryz.f99;dsimp only;repeat' (first
  | (first|refine sq_ ?_|refine bk_ ?_)
  | ((first|refine rg_ fun Q hQ=>?_|refine if_ fun Q hQ=>?_|refine dr_ (id:=15) [0,1,3,8,10,12,13,14] [128,160,192,737,881] (by kernel_rfl) fun Q hQ=>?_|refine dr_ (id:=20) [8,10,19] [128,160,304] (by kernel_rfl) fun Q hQ=>?_|refine ca_ ?_|show EndK _ _ _ _ _ _ _ _);simp -implicitDefEqProofs [*])
  | ((first|refine bs_ ?_ ?_|refine cs_ ?_ ?_)<;>(intro hc;have hb:=hc;(try simp only [hk_,ne_eq] at hc);(try have ⟨hc1,hc2⟩:_∧_:=hc);(try subst_vars))<;>first|contradiction|(exfalso;omega)|(simp -implicitDefEqProofs [*])|skip)
  | ((first|refine aq_ ?_|refine z05 ?_|refine z06 ?_|refine z07 ?_);try simp only [sk_,↓reduceIte,Nat.reduceEqDiff])
  | (with_reducible refine And.intro ?_ ?_;focus (decide +kernel))
  | ((with_reducible show OptK _ _);(simp (disch:=omega) only [if_pos,if_neg]);(try (simp -implicitDefEqProofs [*]))))
 clear p1 p2 p3 wC wt w32 wN w1 c1 cH hd;refine z0A (RdI b a d C G size j f) (a+1+j+size) ?_ ?_
 ·refine ⟨by simp,by simp,by simp,by simp,by simp,by simp,by simp,by simp,by simp,by simp,a+1+j,f,[],[],by omega,by omega,by omega,by simp,by omega,by rw [Dr.puts],by simp,?_,.inl ⟨rfl,by simp⟩⟩;rw [show a+1+j+size-(a+1+j)=size by omega];cases Dr.rdL f (d+1) ((b.drop (a+1+j)).take size) with
  | none=>rfl
  | some r=>rfl
 ·rintro k s ⟨e0,e1,e3,e8,e10,e12,e13,e14,h8,h10,p,g,ns,cuts,hk,hpE,hap,e16,hg,hps,hfl,hrd,h12⟩;by_cases hlt2:p<a+1+j+size
  ·obtain ⟨k,rfl⟩:∃ k',k=k'+1:=⟨k-1,by omega⟩;obtain ⟨g,rfl⟩:∃ g',g=g'+1:=⟨g-1,by omega⟩;obtain ⟨c,l,hsl⟩:∃ c l,(b.drop p).take (a+1+j+size-p)=c::l:=by
    cases h:(b.drop p).take (a+1+j+size-p) with
    | nil=>
     have:=congrArg List.length h;rw [List.length_take,List.length_drop] at this;simp at this;omega
    | cons c l=>exact ⟨c,l,rfl⟩
   have cK:z3q Tryz.prog gl Tabs 99 [rX (z04 b),iX p,iX ((a+1+j+size:Nat):Int),iX ((d+1:Nat):Int)] [] (RfR p (Dr.rdN g (d+1) ((b.drop p).take (a+1+j+size-p)))):=hih p (a+1+j+size) g hap hje (by omega);have hcI:(((a+1+j+size:Nat)):Int)=(a:Int)+1+(j:Int)+(size:Int):=by push_cast;rfl
   have hcd:(((d+1:Nat)):Int)=(d:Int)+1:=by push_cast;rfl
   rw [hsl,hcI,hcd] at cK;rw [hsl,Dr.rdL] at hrd;have hltI:(p:Int)<(a:Int)+1+(j:Int)+(size:Int):=by omega
   have hwt:=Dr.z9M ns hps;have hwl:=z1E ns;have hn5:(ns.length*5+5) / 5*72≤140737488355328:=by omega
   have hn6:ns.length*5+5≤140737488355328:=by omega
   cases hrN:Dr.rdN g (d+1) (c::l) with
   | none=>
    rw [hrN] at cK hrd;have hOe:=hOn hrd;subst hOe;clear hrd hOn hOs hih ih hf hps hfl hg hk hwt hwl hpE hap hsl hm hrN hje hcast hlt2 hcI hcd;rcases h12 with ⟨rfl,h12⟩|⟨hne,h12,h1984⟩;all_goals
     repeat' (first
      | (first|refine sq_ ?_|refine bk_ ?_)
      | ((first|refine rg_ fun Q hQ=>?_|refine if_ fun Q hQ=>?_|refine dr_ (id:=15) [0,1,3,8,10,12,13,14] [128,160,192,737,881] (by kernel_rfl) fun Q hQ=>?_|refine dr_ (id:=20) [8,10,19] [128,160,304] (by kernel_rfl) fun Q hQ=>?_|refine ca_ ?_|(refine z4s (cK) ?_;rintro t ws os' ⟨⟨x,y,hy,rfl⟩,rfl,rfl⟩)|show EndK _ _ _ _ _ _ _ _);simp -implicitDefEqProofs [*])
      | ((first|refine bs_ ?_ ?_|refine cs_ ?_ ?_)<;>(intro hc;have hb:=hc;(try simp only [hk_,ne_eq] at hc);(try have ⟨hc1,hc2⟩:_∧_:=hc);(try subst_vars))<;>first|contradiction|(exfalso;omega)|(simp -implicitDefEqProofs [*])|skip)
      | ((first|refine aq_ ?_|refine z05 ?_|refine z06 ?_|refine z07 ?_);try simp only [sk_,↓reduceIte,Nat.reduceEqDiff])
      | (with_reducible refine And.intro ?_ ?_;focus (decide +kernel))
      | ((with_reducible show OptK _ _);(simp (disch:=omega) only [if_pos,if_neg]);(try (simp -implicitDefEqProofs [*]))))
     all_goals first|omega|exact ⟨⟨_,_,by assumption,rfl⟩,rfl,rfl⟩
   | some r=>
    obtain ⟨n,k2⟩:=r;rw [hrN] at cK hrd;obtain ⟨hk0,hkl,hpn,_⟩:=(Dr.z96 g).1 _ _ _ _ hrN;have hps2:=Dr.z4g ns n hps hpn;have hfl2:(cuts++[(c::l).take k2]).flatten.length+(a+1+j)=p+k2:=by
     rw [List.flatten_append,List.length_append,List.flatten_singleton,List.length_take,Nat.min_eq_left hkl];omega
    have hcl:(c::l).length≤a+1+j+size-p:=by rw [←hsl,List.length_take];omega
    have hdrop:(c::l).drop k2=(b.drop (p+k2)).take (a+1+j+size-(p+k2)):=by
     rw [←hsl,List.drop_take,List.drop_drop]
     congr 1
     omega
    have hrd2:Dr.rdL f (d+1) ((b.drop (a+1+j)).take size)=match Dr.rdL g (d+1) ((b.drop (p+k2)).take (a+1+j+size-(p+k2))) with
      | none=>none
      | some (ns2,cuts2)=>some ((ns++[n])++ns2,(cuts++[(c::l).take k2])++cuts2):=by
     rw [hrd,←hdrop];simp only;cases Dr.rdL g (d+1) ((c::l).drop k2) with
     | none=>rfl
     | some r=>simp
    have hi1:a+1+j+size≤p+k2+k:=by omega
    have hi2:p+k2≤a+1+j+size:=by omega
    have hi3:a<p+k2:=by omega
    have hi4:2*(a+1+j+size)+1≤g+2*(p+k2):=by omega
    have cK2:z3q Tryz.prog gl Tabs 99 [rX (z04 b),iX p,iX ((a:Int)+1+(j:Int)+(size:Int)),iX ((d:Int)+1)] [] (fun t ws os=>t = .tup [nX n,iX ((p:Int)+(k2:Int)),fltX 0 0]∧ws=[]∧os=[]):=cK;clear cK hrd hOn hOs hih ih hf hps hfl hg hk hwt hwl hpE hap hsl hm hrN hje hcast hlt2 hcI hcd hk0 hkl hpn hcl hdrop hlt;rcases h12 with ⟨rfl,h12⟩|⟨hne,h12,h1984⟩;all_goals
     repeat' (first
      | (first|refine sq_ ?_|refine bk_ ?_)
      | ((first|refine rg_ fun Q hQ=>?_|refine if_ fun Q hQ=>?_|refine dr_ (id:=15) [0,1,3,8,10,12,13,14] [128,160,192,737,881] (by kernel_rfl) fun Q hQ=>?_|refine dr_ (id:=20) [8,10,19] [128,160,304] (by kernel_rfl) fun Q hQ=>?_|refine ca_ ?_|(refine z4s (cK2) ?_;rintro t ws os' ⟨rfl,rfl,rfl⟩)|show EndK _ _ _ _ _ _ _ _);simp -implicitDefEqProofs [*,z08])
      | ((first|refine bs_ ?_ ?_|refine cs_ ?_ ?_)<;>(intro hc;have hb:=hc;(try simp only [hk_,ne_eq] at hc);(try have ⟨hc1,hc2⟩:_∧_:=hc);(try subst_vars))<;>first|contradiction|(exfalso;omega)|(simp -implicitDefEqProofs [*,z08])|skip)
      | ((first|refine aq_ ?_|refine z05 ?_|refine z06 ?_|refine z07 ?_);try simp only [sk_,↓reduceIte,Nat.reduceEqDiff])
      | (with_reducible refine And.intro ?_ ?_;focus (decide +kernel))
      | ((with_reducible show OptK _ _);(simp (disch:=omega) only [if_pos,if_neg]);(try (simp -implicitDefEqProofs [*,z08]))))
     exact ⟨k,by omega,⟨by simp [e0],by simp [e1],by simp [e3],by simp [e8],by simp [e10],by simp [e12],by simp [e13],by simp [e14],by simp [h8],by simp [h10],p+k2,g,_++[n],cuts++[(c::l).take k2],by omega,by omega,by omega,by simp,by omega,hps2,hfl2,hrd2,.inr ⟨by simp,by simp [h12],by simp⟩⟩⟩
  ·obtain rfl:p=a+1+j+size:=by omega
   have hrd2:Dr.rdL f (d+1) ((b.drop (a+1+j)).take size)=some (ns,cuts):=by
    rw [hrd,Nat.sub_self,List.take_zero];rw [show Dr.rdL g (d+1) []=some ([],[]) from by cases g<;>rw [Dr.rdL]];simp
   have hOe:=hOs ns cuts hrd2;have h6:=Dr.z9M ns hps;have h7:=Dr.zdr ns hps;have cR:=zi2 (gl:=gl) (.mk C G true [] ns) (by rw [Dr.wt];simp;omega) (by rw [Dr.mx];simp;omega);rw [z4w hm hps] at cR;have hcI:(((a+1+j+size:Nat)):Int)=(a:Int)+1+(j:Int)+(size:Int):=by push_cast;rfl
   rw [hcI] at e16;clear hrd hrd2 hOn hOs h6 h7 hih ih hf hfl hps hg hk hpE hap hm;by_cases hv:C=0∧G=17∧Dr.rising cuts=false
   ·rw [if_pos hv] at hOe;rw [decide_eq_true hv] at cR;subst hOe;clear hv;rcases h12 with ⟨rfl,h12⟩|⟨hne,h12,h1984⟩;all_goals
     repeat' (first
      | (first|refine sq_ ?_|refine bk_ ?_)
      | ((first|refine rg_ fun Q hQ=>?_|refine if_ fun Q hQ=>?_|refine dr_ (id:=15) [0,1,3,8,10,12,13,14] [128,160,192,737,881] (by kernel_rfl) fun Q hQ=>?_|refine dr_ (id:=20) [8,10,19] [128,160,304] (by kernel_rfl) fun Q hQ=>?_|refine ca_ ?_|show EndK _ _ _ _ _ _ _ _);simp -implicitDefEqProofs [*])
      | ((first|refine bs_ ?_ ?_|refine cs_ ?_ ?_)<;>(intro hc;have hb:=hc;(try simp only [hk_,ne_eq] at hc);(try have ⟨hc1,hc2⟩:_∧_:=hc);(try subst_vars))<;>first|contradiction|(exfalso;omega)|(simp -implicitDefEqProofs [*])|skip)
      | ((first|refine aq_ ?_|refine z05 ?_|refine z06 ?_|refine z07 ?_);try simp only [sk_,↓reduceIte,Nat.reduceEqDiff])
      | (with_reducible refine And.intro ?_ ?_;focus (decide +kernel))
      | ((with_reducible show OptK _ _);(simp (disch:=omega) only [if_pos,if_neg]);(try (simp -implicitDefEqProofs [*]))))
     all_goals first|omega|exact ⟨⟨_,_,by decide,rfl⟩,rfl,rfl⟩
   ·rw [if_neg hv] at hOe;rw [decide_eq_false hv] at cR;subst hOe;clear hv;rcases h12 with ⟨rfl,h12⟩|⟨hne,h12,h1984⟩;all_goals
     repeat' (first
      | (first|refine sq_ ?_|refine bk_ ?_)
      | ((first|refine rg_ fun Q hQ=>?_|refine if_ fun Q hQ=>?_|refine dr_ (id:=15) [0,1,3,8,10,12,13,14] [128,160,192,737,881] (by kernel_rfl) fun Q hQ=>?_|refine dr_ (id:=20) [8,10,19] [128,160,304] (by kernel_rfl) fun Q hQ=>?_|refine ca_ ?_|show EndK _ _ _ _ _ _ _ _);simp -implicitDefEqProofs [*])
      | ((first|refine bs_ ?_ ?_|refine cs_ ?_ ?_)<;>(intro hc;have hb:=hc;(try simp only [hk_,ne_eq] at hc);(try have ⟨hc1,hc2⟩:_∧_:=hc);(try subst_vars))<;>first|contradiction|(exfalso;omega)|(simp -implicitDefEqProofs [*])|skip)
      | ((first|refine aq_ ?_|refine z05 ?_|refine z06 ?_|refine z07 ?_);try simp only [sk_,↓reduceIte,Nat.reduceEqDiff])
      | (with_reducible refine And.intro ?_ ?_;focus (decide +kernel))
      | ((with_reducible show OptK _ _);(simp (disch:=omega) only [if_pos,if_neg]);(try (simp -implicitDefEqProofs [*]))))
     exact ⟨by unfold RfT;simp only;rw [hcast];rfl,rfl,rfl⟩
theorem zes (b:List UInt8) (hb:b.length≤20000):∀ (m a e d f:Nat),e≤m+a→e≤b.length→d≤33→2*e≤f+2*a→RfC gl b a e d f
 | 0,a,e,d,f,h,he,hd,hf=>z7A b a e d f (by omega)
 | m+1,a,e,d,f,h,he,hd,hf=>by
  by_cases ha:e≤a
  ·exact z7A b a e d f ha
  ·have hl:a<b.length:=by omega
   obtain ⟨t,q,hdq,_,_⟩:=z0t hl;by_cases hbad:Dr.may (t.toNat / 64:Nat) (t.toNat%32:Nat) (t.toNat / 32%2==1)=false∨(hdr (q.take (e-a-1))).2.2≠0∨(q.take (e-a-1)).length-(hdr (q.take (e-a-1))).2.1<(hdr (q.take (e-a-1))).1∨32<d
   ·exact zi3 b a e d f t q (by omega) he (by omega) hdq hd (by omega) hbad
   ·have h1:Dr.may (t.toNat / 64:Nat) (t.toNat%32:Nat) (t.toNat / 32%2==1)=true:=by
     cases hm:Dr.may (t.toNat / 64:Nat) (t.toNat%32:Nat) (t.toNat / 32%2==1) with
     | true=>rfl
     | false=>exact absurd (.inl hm) hbad
    have h2:(hdr (q.take (e-a-1))).2.2=0:=Classical.byContradiction fun hh=>hbad (.inr (.inl hh))
    have h3:¬((q.take (e-a-1)).length-(hdr (q.take (e-a-1))).2.1<(hdr (q.take (e-a-1))).1):=fun hh=>hbad (.inr (.inr (.inl hh)))
    have h4:¬32<d:=fun hh=>hbad (.inr (.inr (.inr hh)))
    have hrl:=Dr.z1K (r:=q.take (e-a-1)) (n:=(hdr (q.take (e-a-1))).1) (j:=(hdr (q.take (e-a-1))).2.1) (by rw [z9t,if_pos h2]);have hql:(q.take (e-a-1)).length=e-a-1:=by
     have h:=congrArg List.length hdq;rw [List.length_drop,List.length_cons] at h;rw [List.length_take];omega
    rw [hql] at h3;have hj1:=hrl.1;rw [hql] at hj1;have hH:hdr (q.take (e-a-1))=((hdr (q.take (e-a-1))).1,(hdr (q.take (e-a-1))).2.1,0):=by rw [←h2]
    generalize (hdr (q.take (e-a-1))).1=size at *;generalize (hdr (q.take (e-a-1))).2.1=j at *;cases hp:(t.toNat / 32%2==1) with
    | false=>exact zgl b a e d f t q hb he (by omega) hdq (by omega) (by omega) h1 hp size j hH (by omega)
    | true=>exact zgn b a e d f t q hb he (by omega) hdq (by omega) (by omega) h1 hp size j hH (by omega) fun p e' g hap he' hg=>zes b hb m p e' (d+1) g (by omega) (by omega) (by omega) (by omega)
theorem zet (b:List UInt8) (hb:b.length≤20000):z3q Tryz.prog gl Tabs 42 [rX (z04 b)] [] (fun t ws os=>RdR b t∧ws=[]∧os=[]):=by
 have cK:z3q Tryz.prog gl Tabs 99 [rX (z04 b),iX ((0:Nat):Int),iX (b.length:Int),iX ((1:Nat):Int)] [] (RfR 0 (Dr.rdN (2*b.length+2) 1 ((b.drop 0).take (b.length-0)))):=zes b hb b.length 0 b.length 1 (2*b.length+2) (by omega) (Nat.le_refl _) (by omega) (by omega);rw [List.drop_zero,Nat.sub_zero,List.take_length] at cK;have hr:Dr.read b=match Dr.rdN (2*b.length+2) 1 b with
   | some (n,k)=>if k<b.length then none else some n
   | none=>none:=by
  unfold Dr.read;rw [if_neg (by omega)];cases Dr.rdN (2*b.length+2) 1 b<;>rfl
 have hz:b.length≤16777216:=by omega
 cases hN:Dr.rdN (2*b.length+2) 1 b with
 | none=>
  rw [hN] at cK hr;have hr:Dr.read b=none:=hr;unfold RdR;rw [hr];clear hr hN;refine z6c false Tryz.func42 rfl (by show 1≤_;decide) ?_;rw [z1m];unfold Tryz.f42;dsimp only;repeat' (first
   | (first|refine sq_ ?_|refine bk_ ?_)
   | ((first|refine rg_ fun Q hQ=>?_|refine if_ fun Q hQ=>?_|refine dr_ (id:=5) [2,3,6] [32,48,96,257] (by kernel_rfl) fun Q hQ=>?_|refine ca_ ?_|(refine z4s (cK) ?_;rintro t ws os' ⟨⟨x,y,hy,rfl⟩,rfl,rfl⟩)|show EndK _ _ _ _ _ _ _ _);simp -implicitDefEqProofs [*])
   | ((first|refine bs_ ?_ ?_|refine cs_ ?_ ?_)<;>(intro hc;have hb:=hc;(try simp only [hk_,ne_eq] at hc);(try have ⟨hc1,hc2⟩:_∧_:=hc);(try subst_vars))<;>first|contradiction|(exfalso;omega)|(simp -implicitDefEqProofs [*])|skip)
   | ((first|refine aq_ ?_|refine z05 ?_|refine z06 ?_|refine z07 ?_);try simp only [sk_,↓reduceIte,Nat.reduceEqDiff])
   | (with_reducible refine And.intro ?_ ?_;focus (decide +kernel))
   | ((with_reducible show OptK _ _);(simp (disch:=omega) only [if_pos,if_neg]);(try (simp -implicitDefEqProofs [*]))))
  all_goals first|omega|exact ⟨_,_,⟨rfl,rfl⟩,by assumption⟩
 | some r=>
  obtain ⟨n,k⟩:=r;rw [hN] at cK hr;have hr:Dr.read b=if k<b.length then none else some n:=hr
  have cK2:z3q Tryz.prog gl Tabs 99 [rX (z04 b),iX 0,iX (b.length:Int),iX 1] [] (fun t ws os=>t = .tup [nX n,iX ((0+k:Nat):Int),fltX 0 0]∧ws=[]∧os=[]):=cK;clear hN cK;by_cases hk:k<b.length
  ·rw [if_pos hk] at hr;unfold RdR;rw [hr];clear hr;refine z6c false Tryz.func42 rfl (by show 1≤_;decide) ?_;rw [z1m];unfold Tryz.f42;dsimp only;repeat' (first
    | (first|refine sq_ ?_|refine bk_ ?_)
    | ((first|refine rg_ fun Q hQ=>?_|refine if_ fun Q hQ=>?_|refine dr_ (id:=5) [2,3,6] [32,48,96,257] (by kernel_rfl) fun Q hQ=>?_|refine ca_ ?_|(refine z4s (cK2) ?_;rintro t ws os' ⟨rfl,rfl,rfl⟩)|show EndK _ _ _ _ _ _ _ _);simp -implicitDefEqProofs [*])
    | ((first|refine bs_ ?_ ?_|refine cs_ ?_ ?_)<;>(intro hc;have hb:=hc;(try simp only [hk_,ne_eq] at hc);(try have ⟨hc1,hc2⟩:_∧_:=hc);(try subst_vars))<;>first|contradiction|(exfalso;omega)|(simp -implicitDefEqProofs [*])|skip)
    | ((first|refine aq_ ?_|refine z05 ?_|refine z06 ?_|refine z07 ?_);try simp only [sk_,↓reduceIte,Nat.reduceEqDiff])
    | (with_reducible refine And.intro ?_ ?_;focus (decide +kernel))
    | ((with_reducible show OptK _ _);(simp (disch:=omega) only [if_pos,if_neg]);(try (simp -implicitDefEqProofs [*]))))
   all_goals first|omega|exact ⟨_,_,⟨rfl,rfl⟩,by decide⟩|simp
  ·rw [if_neg hk] at hr;unfold RdR;rw [hr];clear hr;refine z6c false Tryz.func42 rfl (by show 1≤_;decide) ?_;rw [z1m];unfold Tryz.f42;dsimp only;have d5:Drw 5 [2,3,6] [32,48,96,257]:=⟨⟩;exact am_;all_goals first|omega|exact ⟨_,_,⟨rfl,rfl⟩,by decide⟩|simp
end Am
end Go.Proofs.YtgmppconibklcaaGreatDoor

namespace Go.Proofs.YtgmppconibklcaaGreatDoor
open Go Go.RowKit
namespace Am
variable {gl:Nat→Option (List D)}
theorem zo0 {x:Nat} (h:0<x):Nt.bl x=Nt.bl (x / 2)+1:=by
 unfold Nt.bl;rw [if_neg (by omega)];by_cases h2:2≤x
 ·rw [if_neg (by omega),Nat.log2_def,if_pos h2]
 ·obtain rfl:x=1:=by omega
  rfl
structure BiI (B0:Nat) (R:Nat) (k:Nat) (s:SF):Prop where
 ex:∃ (x n:Nat),x≤k∧x<4294967296∧s.env 5=some (.e (.one (.d (.leaf (.int .u64 x)))))∧s.env 4=some (.e (iX n))∧n+Nt.bl x=R
theorem zmZ (l:List Nat) (hL:Nt.Lb l) (hz:l.length≤10000000):OK gl 148 [rX (nuR .u32 l)] (.i .i64 (Nt.bl (Nt.vl l))):=by
 have c1:=za7 (gl:=gl) l hL (by omega);have hsl:=Nt.z7l l;have htl:=Nt.z1o l;by_cases h0:Nt.sz l=0
 ·have ht:Nt.trim l=[]:=List.eq_nil_of_length_eq_zero (by omega);have hv:Nt.vl l=0:=by rw [←Nt.z48,ht];rfl
  rw [ht] at c1;rw [hv];have hb0:Nt.bl 0=0:=rfl;clear ht hv hsl htl h0;refine z0d Tryz.func148 rfl (by show 1≤_;decide) ?_;unfold Tryz.f148;dsimp only;exact am_
 ·have hbl:=Nt.zfH hL (by omega);obtain ⟨m,hm⟩:∃ m,Nt.sz l=m+1:=⟨Nt.sz l-1,by omega⟩;rw [hm,Nat.add_sub_cancel] at hbl;rw [hm] at htl;obtain ⟨x,r,hd,hxx,_⟩:=z0t (l:=Nt.trim l) (k:=m) (by omega);have hx:l.getD m 0=x:=by
   unfold Nt.trim at hxx;rw [hm,List.getElem?_take] at hxx;rw [List.getD_eq_getElem?_getD];split at hxx
   ·rw [hxx];rfl
   ·omega
  have hxB:x<4294967296:=hL.trim x (List.mem_of_getElem? hxx);rw [hx] at hbl;rw [hbl];generalize Nt.trim l=tr at *;have w1:IntKind.wrap .i64 (32*(m:Int))=((32*m:Nat):Int):=by rw [z0f (by omega) (by omega)];push_cast;rfl
  have w2:IntKind.wrap .i64 (m:Int)=(m:Int):=z0f (by omega) (by omega);have hmz:m≤10000000:=by omega
  have hbx:Nt.bl x≤32:=Nt.zh5 hxB;clear hbl hx hxx hsl hm h0 hL hz;refine z0d Tryz.func148 rfl (by show 1≤_;decide) ?_;unfold Tryz.f148;dsimp only;repeat' (first
   | (first|refine sq_ ?_|refine bk_ ?_)
   | ((first|refine rg_ fun Q hQ=>?_|refine if_ fun Q hQ=>?_|refine ca_ ?_|show EndK _ _ _ _ _ _ _ _);simp -implicitDefEqProofs [*])
   | ((first|refine bs_ ?_ ?_|refine cs_ ?_ ?_)<;>(intro hc;have hb:=hc;(try simp only [hk_,ne_eq] at hc);(try have ⟨hc1,hc2⟩:_∧_:=hc);(try subst_vars))<;>first|contradiction|(exfalso;omega)|(simp -implicitDefEqProofs [*])|skip)
   | ((first|refine aq_ ?_|refine z05 ?_|refine z06 ?_|refine z07 ?_);try simp only [sk_,↓reduceIte,Nat.reduceEqDiff])
   | ((with_reducible show OptK _ _);(simp (disch:=omega) only [if_pos,if_neg]);(try (simp -implicitDefEqProofs [*]))))
  refine z0A (BiI (32*m) (32*m+Nt.bl x)) x ?_ ?_
  ·exact ⟨x,32*m,Nat.le_refl _,hxB,by simp,by simp [w1],rfl⟩
  ·rintro k s ⟨y,n,hy,hyB,e5,e4,hn⟩;by_cases hy0:y=0
   ·subst hy0;have hn:n=32*m+Nt.bl x:=by rw [←hn];rfl
    exact am_
   ·obtain ⟨k,rfl⟩:∃ k',k=k'+1:=⟨k-1,by omega⟩;have hh:=zo0 (x:=y) (by omega);have w3:IntKind.wrap .i64 ((n:Int)+1)=(n:Int)+1:=z0f (by omega) (by omega);have w4:IntKind.wrap .u64 ((y:Int) / 2)=(y:Int) / 2:=by rw [IntKind.wrap_u64];omega
    repeat' (first
     | (first|refine sq_ ?_|refine bk_ ?_)
     | ((first|refine rg_ fun Q hQ=>?_|refine if_ fun Q hQ=>?_|refine ca_ ?_|show EndK _ _ _ _ _ _ _ _);simp -implicitDefEqProofs [*])
     | ((first|refine bs_ ?_ ?_|refine cs_ ?_ ?_)<;>(intro hc;have hb:=hc;(try simp only [hk_,ne_eq] at hc);(try have ⟨hc1,hc2⟩:_∧_:=hc);(try subst_vars))<;>first|contradiction|(exfalso;omega)|(simp -implicitDefEqProofs [*])|skip)
     | ((first|refine aq_ ?_|refine z05 ?_|refine z06 ?_|refine z07 ?_);try simp only [sk_,↓reduceIte,Nat.reduceEqDiff])
     | ((with_reducible show OptK _ _);(simp (disch:=omega) only [if_pos,if_neg]);(try (simp -implicitDefEqProofs [*]))))
    exact ⟨k,by omega,⟨y / 2,n+1,by omega,by omega,by simp,by simp,by omega⟩⟩
end Am
end Go.Proofs.YtgmppconibklcaaGreatDoor

namespace Go.Proofs.YtgmppconibklcaaGreatDoor
open Go Go.RowKit
namespace Am
variable {gl:Nat→Option (List D)}
abbrev u64X (n:Nat):E:= .one (.d (.leaf (.int .u64 n)))
theorem zbD {p:Prop} (h:p:=by
  refine z0d Tryz.func217 rfl (by show 2≤_;decide) ?_;unfold Tryz.f217;dsimp only;exact am_;all_goals omega):p:=h
theorem rDigit (l:List Nat) (i:Nat) (hz:l.length≤10000000):OK gl 217 [rX (nuR .u64 l),iX i] (.e (u64X (l.getD i 0))):=by
 by_cases h:i<l.length
 ·obtain ⟨x,r,hd,hx,_⟩:=z0t h;have hk:l.getD i 0=x:=by rw [List.getD_eq_getElem?_getD,hx];rfl
  rw [hk];clear hk hx;exact zbD
 ·have hk:l.getD i 0=0:=by rw [List.getD_eq_getElem?_getD,List.getElem?_eq_none (by omega)];rfl
  rw [hk];exact zbD
def byC (l:List UInt8):List C:=l.map fun b=> .d (.leaf (.int .u8 (b.toNat:Int)))
theorem znZ (l:List UInt8):(byC l).length=l.length:=by simp [byC]
theorem zlA (n:Nat):List.replicate n (C.d (.leaf (.int .u8 0)))=byC (List.replicate n 0):=by simp [byC]
theorem zfl:∀ l:List UInt8,dsOf (byC l)=some (byL l)
 | []=>rfl
 | b::l=>by
  have:=zfl l;simp only [byC,List.map_cons] at this ⊢;simp [dsOf,this,byL]
structure WrI (tr:List Nat) (n v:Nat) (k:Nat) (s:SF):Prop where
 e1:s.env 1=some (.e (iX n))
 e6:s.env 6=some (.e (rX (nuR .u64 tr)))
 e7:s.env 7=some (.e (.one (.sl 400 n 1)))
 ex:∃ i,i+k=n∧s.env 8=some (.e (iX i))∧s.heap 400=some (.var 5 (byC (List.replicate k 0++Nt.beN i v)))
structure WrJ (tr:List Nat) (n v k i dg r:Nat) (m:Nat) (s:SF):Prop where
 e1:s.env 1=some (.e (iX n))
 e6:s.env 6=some (.e (rX (nuR .u64 tr)))
 e7:s.env 7=some (.e (.one (.sl 400 n 1)))
 e8:s.env 8=some (.e (iX i))
 h400:s.heap 400=some (.var 5 (byC (List.replicate k 0++Nt.beN i v)))
 ex:∃ c,c+m=r∧s.env 10=some (.e (iX c))∧s.env 9=some (.e (u64X (dg / 256^c)))
theorem zg0 (m:Nat) (x:UInt8) (l:List UInt8):z3Y (byC (List.replicate (m+1) 0++l)) m [C.d (.leaf (.int .u8 (x.toNat:Int)))]=byC (List.replicate m 0++x::l):=by
 have h1:(byC (List.replicate (m+1) 0++l)).take m=byC (List.replicate m 0):=by
  unfold byC;rw [←List.map_take,List.take_append_of_le_length (by simp),List.take_replicate,Nat.min_eq_left (by omega)]
 have h2:(byC (List.replicate (m+1) 0++l)).drop (m+1)=byC l:=by
  unfold byC;rw [←List.map_drop,List.drop_append_of_le_length (by simp)];simp
 unfold z3Y;rw [h1,List.length_singleton,h2];simp [byC]
theorem rWrite (l:List Nat) (hL:Nt.Lb l) (hz:l.length≤10000000) (n:Nat) (hn:n≤65536) (hb:Nt.bl (Nt.vl l)≤8*n):OK gl 157 [rX (nuR .u32 l),iX n] (.tup [rX (z04 (Nt.beN n (Nt.vl l))),iX 0]):=by
 have c1:=za7 (gl:=gl) l hL (by omega);have c2:=zmZ (gl:=gl) l hL hz;have hv:=Nt.z48 l;have hLt:=hL.trim;have htl:(Nt.trim l).length≤10000000:=by have:=Nt.z1o l;have:=Nt.z7l l;omega
 have w1:IntKind.wrap .i64 (8*(n:Int))=8*(n:Int):=z0f (by omega) (by omega);rw [←hv] at c2 hb ⊢;generalize Nt.trim l=tr at *;generalize hB:Nt.bl (Nt.vl tr)=B at *;have hbI:¬(8*(n:Int)<(B:Int)):=by omega
 have hnI:¬((65536:Int)<(n:Int)):=by omega
 have hn6:(n:Int)≤1000000:=by omega
 have hn7:(n:Int)≤100000000:=by omega
 clear hB hb hz hL hv;have hcz:=zlA n;refine z0d Tryz.func157 rfl (by show 2≤_;decide) ?_;unfold Tryz.f157;dsimp only;repeat' (first
  | (first|refine sq_ ?_|refine bk_ ?_)
  | ((first|refine rg_ fun Q hQ=>?_|refine if_ fun Q hQ=>?_|refine ca_ ?_|show EndK _ _ _ _ _ _ _ _);simp -implicitDefEqProofs [*])
  | ((first|refine bs_ ?_ ?_|refine cs_ ?_ ?_)<;>(intro hc;have hb:=hc;(try simp only [hk_,ne_eq] at hc);(try have ⟨hc1,hc2⟩:_∧_:=hc);(try subst_vars))<;>first|contradiction|(exfalso;omega)|(simp -implicitDefEqProofs [*])|skip)
  | ((first|refine aq_ ?_|refine z05 ?_|refine z06 ?_|refine z07 ?_);try simp only [sk_,↓reduceIte,Nat.reduceEqDiff])
  | ((with_reducible show OptK _ _);(simp (disch:=omega) only [if_pos,if_neg]);(try (simp -implicitDefEqProofs [*]))))
 clear c1 c2 hbI hnI hn6 hn7 hcz w1;refine z0A (WrI tr n (Nt.vl tr)) n ?_ ?_
 ·exact ⟨by simp,by simp,by simp,0,by simp,by simp,by simp [Nt.beN]⟩
 ·rintro k s ⟨e1,e6,e7,i,hi,e8,h400⟩;cases k with
  | zero=>
   obtain rfl:i=n:=by omega
   have hds:=zfl (Nt.beN i (Nt.vl tr));have hbl:=Nt.z0o i (Nt.vl tr);simp only [List.replicate_zero,List.nil_append] at h400;refine z5Q 400 ?_;have z0:=@setC.eq_def;exact am_
  | succ k=>
   obtain ⟨q,hq⟩:∃ q,q=i / 4:=⟨_,rfl⟩;obtain ⟨r,hr⟩:∃ r,r=i%4:=⟨_,rfl⟩;have q1:(i:Int) / 4=(q:Int):=by omega
   have r1:(i:Int).tmod 4=(r:Int):=by rw [hr];rfl
   have c3:=rDigit (gl:=gl) tr q htl;have hby:=Nt.byte_at hLt i;rw [←hq,←hr] at hby;have hfr:=z8j i (Nt.vl tr);rw [←hby] at hfr;have wq:IntKind.wrap .i64 (q:Int)=(q:Int):=z0f (by omega) (by omega);have hr4:r<4:=by omega
   have hlt:i<n:=by omega
   have hin:i≤65536:=by omega
   have h256:2^(8*r)=256^r:=by rw [Nat.pow_mul]
   rw [h256] at hfr;have hdB:tr.getD q 0<4294967296:=Nt.z2U hLt q;generalize tr.getD q 0=dg at *;clear hq hr hby h256 htl;repeat' (first
    | ((first|refine z0J (y:= .region 15 _ _) ((WrJ tr n (Nt.vl tr) (k+1) i dg r 0)) ?_ ?_|refine z0J (y:= .seq (.region 15 _ _) _) ((WrJ tr n (Nt.vl tr) (k+1) i dg r 0)) ?_ ?_;intro Q hQ))
    | (first|refine sq_ ?_|refine bk_ ?_)
    | ((first|refine rg_ fun Q hQ=>?_|refine if_ fun Q hQ=>?_|refine ca_ ?_|show EndK _ _ _ _ _ _ _ _);simp -implicitDefEqProofs [*])
    | ((first|refine bs_ ?_ ?_|refine cs_ ?_ ?_)<;>(intro hc;have hb:=hc;(try simp only [hk_,ne_eq] at hc);(try have ⟨hc1,hc2⟩:_∧_:=hc);(try subst_vars))<;>first|contradiction|(exfalso;omega)|(simp -implicitDefEqProofs [*])|skip)
    | ((first|refine aq_ ?_|refine z05 ?_|refine z06 ?_|refine z07 ?_);try simp only [sk_,↓reduceIte,Nat.reduceEqDiff])
    | ((with_reducible show OptK _ _);(simp (disch:=omega) only [if_pos,if_neg]);(try (simp -implicitDefEqProofs [*]))))
   ·intro Q hQ;repeat' (first
     | (first|refine sq_ ?_|refine bk_ ?_)
     | ((first|refine rg_ fun Q hQ=>?_|refine if_ fun Q hQ=>?_|refine ca_ ?_|show EndK _ _ _ _ _ _ _ _);simp -implicitDefEqProofs [*])
     | ((first|refine bs_ ?_ ?_|refine cs_ ?_ ?_)<;>(intro hc;have hb:=hc;(try simp only [hk_,ne_eq] at hc);(try have ⟨hc1,hc2⟩:_∧_:=hc);(try subst_vars))<;>first|contradiction|(exfalso;omega)|(simp -implicitDefEqProofs [*])|skip)
     | ((first|refine aq_ ?_|refine z05 ?_|refine z06 ?_|refine z07 ?_);try simp only [sk_,↓reduceIte,Nat.reduceEqDiff])
     | ((with_reducible show OptK _ _);(simp (disch:=omega) only [if_pos,if_neg]);(try (simp -implicitDefEqProofs [*]))))
    refine z0A (WrJ tr n (Nt.vl tr) (k+1) i dg r) r ?_ ?_
    ·exact ⟨by simp [e1],by simp [e6],by simp [e7],by simp [e8],by simp [h400],0,by simp,by simp,by simp⟩
    ·rintro m s ⟨e1,e6,e7,e8,h400,c,hc,e10,e9⟩;clear hfr c3 q1 wq;cases m with
     | zero=>
      obtain rfl:c=r:=by omega
      obtain ⟨y,hy⟩:∃ y,dg / 256^c=y:=⟨_,rfl⟩;rw [hy] at e9;have hy':True→dg / 256^c=y:=fun _=>hy
      clear hy;repeat' (first
       | (first|refine sq_ ?_|refine bk_ ?_)
       | ((first|refine rg_ fun Q hQ=>?_|refine if_ fun Q hQ=>?_|refine ca_ ?_|show EndK _ _ _ _ _ _ _ _);simp -implicitDefEqProofs [*])
       | ((first|refine bs_ ?_ ?_|refine cs_ ?_ ?_)<;>(intro hc;have hb:=hc;(try simp only [hk_,ne_eq] at hc);(try have ⟨hc1,hc2⟩:_∧_:=hc);(try subst_vars))<;>first|contradiction|(exfalso;omega)|(simp -implicitDefEqProofs [*])|skip)
       | ((first|refine aq_ ?_|refine z05 ?_|refine z06 ?_|refine z07 ?_);try simp only [sk_,↓reduceIte,Nat.reduceEqDiff])
       | ((with_reducible show OptK _ _);(simp (disch:=omega) only [if_pos,if_neg]);(try (simp -implicitDefEqProofs [*]))))
      exact ⟨by simp [e1],by simp [e6],by simp [e7],by simp [e8],by simp [h400],c,by omega,by simp [e10],by rw [hy' trivial];simp [e9]⟩
     | succ m=>
      have hle:dg / 256^c≤dg:=Nat.div_le_self _ _;have hdd:dg / 256^(c+1)=dg / 256^c / 256:=by rw [Nat.pow_succ,Nat.div_div_eq_div_mul]
      obtain ⟨y,hy⟩:∃ y,dg / 256^c=y:=⟨_,rfl⟩;rw [hy] at e9 hle hdd;have hy':True→dg / 256^(c+1)=y / 256:=fun _=>hdd
      clear hy hdd;obtain ⟨z,hz⟩:∃ z,y / 256=z:=⟨_,rfl⟩;rw [hz] at hy';have w5:IntKind.wrap .u64 ((y:Int) / 256)=(z:Int):=by rw [IntKind.wrap_u64];omega
      have w6:IntKind.wrap .i64 ((c:Int)+1)=(c:Int)+1:=z0f (by omega) (by omega);clear hz hle;repeat' (first
       | (first|refine sq_ ?_|refine bk_ ?_)
       | ((first|refine rg_ fun Q hQ=>?_|refine if_ fun Q hQ=>?_|refine ca_ ?_|show EndK _ _ _ _ _ _ _ _);simp -implicitDefEqProofs [*])
       | ((first|refine bs_ ?_ ?_|refine cs_ ?_ ?_)<;>(intro hc;have hb:=hc;(try simp only [hk_,ne_eq] at hc);(try have ⟨hc1,hc2⟩:_∧_:=hc);(try subst_vars))<;>first|contradiction|(exfalso;omega)|(simp -implicitDefEqProofs [*])|skip)
       | ((first|refine aq_ ?_|refine z05 ?_|refine z06 ?_|refine z07 ?_);try simp only [sk_,↓reduceIte,Nat.reduceEqDiff])
       | ((with_reducible show OptK _ _);(simp (disch:=omega) only [if_pos,if_neg]);(try (simp -implicitDefEqProofs [*]))))
      exact ⟨m,by omega,⟨by simp [e1],by simp [e6],by simp [e7],by simp [e8],by simp [h400],c+1,by omega,by simp [w6],by rw [hy' trivial];simp⟩⟩
   ·rintro s ⟨e1,e6,e7,e8,h400,c,hc,e10,e9⟩;obtain rfl:c=r:=by omega
    have hcv:=zcA (dg / 256^c);have hsp:=zg0 k (UInt8.ofNat (dg / 256^c%256)) (Nt.beN i (Nt.vl tr));rw [←hfr] at hsp;have hlen:(byC (List.replicate (k+1) 0++Nt.beN i (Nt.vl tr))).length=n:=by rw [znZ];simp [Nt.z0o];omega
    have w7:IntKind.wrap .i64 ((n:Int)-1)=(n:Int)-1:=z0f (by omega) (by omega);have w8:IntKind.wrap .i64 ((n:Int)-1-(i:Int))=(k:Int):=by rw [z0f (by omega) (by omega)];omega
    have w9:IntKind.wrap .i64 ((i:Int)+1)=(i:Int)+1:=z0f (by omega) (by omega);have hkn:k<n:=by omega
    have hkI:(k:Int)<(n:Int):=by omega
    obtain ⟨x,hx⟩:∃ x,UInt8.ofNat (dg / 256^c%256)=x:=⟨_,rfl⟩;obtain ⟨y,hy⟩:∃ y,dg / 256^c=y:=⟨_,rfl⟩;rw [hy] at e9 hcv hx;rw [hy,hx] at hsp;rw [hx] at hcv;have hcv2:IntKind.wrap .u8 ((y:Int)%256)=(x.toNat:Int):=hcv;clear hfr c3 q1 wq r1 hx hy;repeat' (first
     | (first|refine sq_ ?_|refine bk_ ?_)
     | ((first|refine rg_ fun Q hQ=>?_|refine if_ fun Q hQ=>?_|refine ca_ ?_|show EndK _ _ _ _ _ _ _ _);simp -implicitDefEqProofs [*,z0j,z2X])
     | ((first|refine bs_ ?_ ?_|refine cs_ ?_ ?_)<;>(intro hc;have hb:=hc;(try simp only [hk_,ne_eq] at hc);(try have ⟨hc1,hc2⟩:_∧_:=hc);(try subst_vars))<;>first|contradiction|(exfalso;omega)|(simp -implicitDefEqProofs [*,z0j,z2X])|skip)
     | ((first|refine aq_ ?_|refine z05 ?_|refine z06 ?_|refine z07 ?_);try simp only [sk_,↓reduceIte,Nat.reduceEqDiff])
     | ((with_reducible show OptK _ _);(simp (disch:=omega) only [if_pos,if_neg]);(try (simp -implicitDefEqProofs [*,z0j,z2X]))))
    have hsp2:List.take k (byC (List.replicate (k+1) 0++Nt.beN i (Nt.vl tr)))++C.d (.leaf (.int .u8 (x.toNat:Int)))::List.drop (k+1) (byC (List.replicate (k+1) 0++Nt.beN i (Nt.vl tr)))=byC (List.replicate k 0++Nt.beN (i+1) (Nt.vl tr)):=hsp;exact ⟨k,by omega,⟨by simp [e1],by simp [e6],by simp [e7],i+1,by omega,by simp,by simp [hsp2]⟩⟩
theorem zgw (v:Nat) (h:Nt.bl v≤131072):Dr.natN v = .mk 0 2 false (Nt.beN (Nt.bl v / 8+1) v) []:=by
 unfold Dr.natN;rw [if_neg (by omega)];rfl
theorem rNat (l:List Nat) (hL:Nt.Lb l) (hz:l.length≤10000000) (hb:Nt.bl (Nt.vl l)≤131072):OK gl 88 [rX (nuR .u32 l)] (.e (nX (Dr.natN (Nt.vl l)))):=by
 have c1:=zmZ (gl:=gl) l hL hz;have c2:=rWrite (gl:=gl) l hL hz (Nt.bl (Nt.vl l) / 8+1) (by omega) (by omega);rw [zgw _ hb];have hB:Nt.bl (Nt.vl l) / 8≤16384:=by omega
 obtain ⟨B,hBB⟩:∃ B,Nt.bl (Nt.vl l)=B:=⟨_,rfl⟩;rw [hBB] at c1 c2 hB hb ⊢;obtain ⟨q,hq⟩:∃ q,q=B / 8:=⟨_,rfl⟩;have q1:(B:Int) / 8=(q:Int):=by omega
 rw [←hq] at c2 hB ⊢;have c2:OK gl 157 [rX (nuR .u32 l),iX ((q:Int)+1)] (.tup [rX (z04 (Nt.beN (q+1) (Nt.vl l))),iX 0]):=c2;generalize Nt.beN (q+1) (Nt.vl l)=o at *;have w1:IntKind.wrap .i64 (q:Int)=(q:Int):=z0f (by omega) (by omega);have w2:IntKind.wrap .i64 ((q:Int)+1)=(q:Int)+1:=z0f (by omega) (by omega);clear hq hBB;refine z0d Tryz.func88 rfl (by show 1≤_;decide) ?_;unfold Tryz.f88;dsimp only;exact am_;all_goals omega
end Am
end Go.Proofs.YtgmppconibklcaaGreatDoor

namespace Go.Proofs.YtgmppconibklcaaGreatDoor
open Go Go.RowKit
namespace Am
variable {gl:Nat→Option (List D)}
structure NumI (l:List Nat) (k:Nat) (s:SF):Prop where
 e0:s.env 0=some (.e (rX (nuR .u64 l)))
 ex:∃ j,j+k=l.length∧s.env 4=some (.e (iX j))∧((j=0∧s.env 3=some (.e (.one .nilS)))∨(0<j∧s.env 3=some (.e (.one (.gr 320 1 (nuL .u32 (l.take j)))))∧s.heap 320=some (.own 208 1 j)))
theorem wrap_u32 {x:Nat} (h:x<Nt.B):IntKind.wrap .u32 (x:Int)=x:=by rw [IntKind.wrap_u32];unfold Nt.B at h;omega
theorem zmX (l:List Nat) (hL:Nt.Lb l) (hz:l.length≤10000000):OK gl 165 [rX (nuR .u64 l)] (.e (rX (nuR .u32 (Nt.trim l)))):=by
 have cC:=rCut (gl:=gl) l (by omega);have hLt:=hL.trim;have htl:(Nt.trim l).length≤10000000:=by have:=Nt.z1o l;have:=Nt.z7l l;omega
 generalize Nt.trim l=tr at *;refine z0d Tryz.func165 rfl (by show 1≤_;decide) ?_;unfold Tryz.f165;dsimp only;repeat' (first
  | (first|refine sq_ ?_|refine bk_ ?_)
  | ((first|refine rg_ fun Q hQ=>?_|refine if_ fun Q hQ=>?_|refine ca_ ?_|show EndK _ _ _ _ _ _ _ _);simp -implicitDefEqProofs [*])
  | ((first|refine bs_ ?_ ?_|refine cs_ ?_ ?_)<;>(intro hc;have hb:=hc;(try simp only [hk_,ne_eq] at hc);(try have ⟨hc1,hc2⟩:_∧_:=hc);(try subst_vars))<;>first|contradiction|(exfalso;omega)|(simp -implicitDefEqProofs [*])|skip)
  | ((first|refine aq_ ?_|refine z05 ?_|refine z06 ?_|refine z07 ?_);try simp only [sk_,↓reduceIte,Nat.reduceEqDiff])
  | ((with_reducible show OptK _ _);(simp (disch:=omega) only [if_pos,if_neg]);(try (simp -implicitDefEqProofs [*]))))
 clear cC hz;refine z0A (NumI tr) tr.length ?_ ?_
 ·exact ⟨by simp,0,by simp,by simp,.inl ⟨rfl,by simp⟩⟩
 ·rintro k s ⟨h0,j,hj,h4,h3⟩;cases k with
  | zero=>
   have hjl:j=tr.length:=by omega
   subst hjl;rcases h3 with ⟨hj0,h3⟩|⟨_,h3,_⟩
   ·have hl0:tr=[]:=List.length_eq_zero_iff.1 hj0;subst hl0;repeat' (first
     | (first|refine sq_ ?_|refine bk_ ?_)
     | ((first|refine rg_ fun Q hQ=>?_|refine if_ fun Q hQ=>?_|refine ca_ ?_|show EndK _ _ _ _ _ _ _ _);simp -implicitDefEqProofs [*,z08])
     | ((first|refine bs_ ?_ ?_|refine cs_ ?_ ?_)<;>(intro hc;have hb:=hc;(try simp only [hk_,ne_eq] at hc);(try have ⟨hc1,hc2⟩:_∧_:=hc);(try subst_vars))<;>first|contradiction|(exfalso;omega)|(simp -implicitDefEqProofs [*,z08])|skip)
     | ((first|refine aq_ ?_|refine z05 ?_|refine z06 ?_|refine z07 ?_);try simp only [sk_,↓reduceIte,Nat.reduceEqDiff])
     | ((with_reducible show OptK _ _);(simp (disch:=omega) only [if_pos,if_neg]);(try (simp -implicitDefEqProofs [*,z08]))))
    all_goals rfl
   ·exact ama_
  | succ k=>
   have h1:j<tr.length:=by omega
   obtain ⟨x,r,hd,hx,htk⟩:=z0t h1;have hw:=z17 (k:=j+1) (by omega);have hwx:=wrap_u32 (hLt x (List.mem_of_getElem? hx));have hmin:min j tr.length=j:=by omega
   rcases h3 with ⟨rfl,h3⟩|⟨hj0,h3,h320⟩
   ·have h1t:List.take 1 tr=[x]:=by rw [show 1=0+1 from rfl,htk];rfl
    clear htk hx hmin;repeat' (first
     | (first|refine sq_ ?_|refine bk_ ?_)
     | ((first|refine rg_ fun Q hQ=>?_|refine if_ fun Q hQ=>?_|refine ca_ ?_|show EndK _ _ _ _ _ _ _ _);simp -implicitDefEqProofs [*,z08])
     | ((first|refine bs_ ?_ ?_|refine cs_ ?_ ?_)<;>(intro hc;have hb:=hc;(try simp only [hk_,ne_eq] at hc);(try have ⟨hc1,hc2⟩:_∧_:=hc);(try subst_vars))<;>first|contradiction|(exfalso;omega)|(simp -implicitDefEqProofs [*,z08])|skip)
     | ((first|refine aq_ ?_|refine z05 ?_|refine z06 ?_|refine z07 ?_);try simp only [sk_,↓reduceIte,Nat.reduceEqDiff])
     | ((with_reducible show OptK _ _);(simp (disch:=omega) only [if_pos,if_neg]);(try (simp -implicitDefEqProofs [*,z08]))))
    exact ⟨k,by omega,by simp [h0],1,by omega,by simp,.inr ⟨by omega,by simp [h1t],by simp⟩⟩
   ·clear hx;repeat' (first
     | (first|refine sq_ ?_|refine bk_ ?_)
     | ((first|refine rg_ fun Q hQ=>?_|refine if_ fun Q hQ=>?_|refine ca_ ?_|show EndK _ _ _ _ _ _ _ _);simp -implicitDefEqProofs [*,z08])
     | ((first|refine bs_ ?_ ?_|refine cs_ ?_ ?_)<;>(intro hc;have hb:=hc;(try simp only [hk_,ne_eq] at hc);(try have ⟨hc1,hc2⟩:_∧_:=hc);(try subst_vars))<;>first|contradiction|(exfalso;omega)|(simp -implicitDefEqProofs [*,z08])|skip)
     | ((first|refine aq_ ?_|refine z05 ?_|refine z06 ?_|refine z07 ?_);try simp only [sk_,↓reduceIte,Nat.reduceEqDiff])
     | ((with_reducible show OptK _ _);(simp (disch:=omega) only [if_pos,if_neg]);(try (simp -implicitDefEqProofs [*,z08]))))
    exact ⟨k,by omega,by simp [h0],j+1,by omega,by simpa using hw,.inr ⟨by omega,by simp [htk],by simp⟩⟩
def nuC (l:List Nat):List C:=l.map fun (x:Nat)=> .d (.leaf (.int .u64 (x:Int)))
theorem znn (l:List Nat):(nuC l).length=l.length:=by simp [nuC]
theorem zkY (n:Nat):List.replicate n (C.d (.leaf (.int .u64 0)))=nuC (List.replicate n 0):=by simp [nuC]
theorem zfk:∀ l:List Nat,dsOf (nuC l)=some (nuL .u64 l)
 | []=>rfl
 | b::l=>by
  have:=zfk l;simp only [nuC,List.map_cons] at this ⊢;simp [dsOf,this,nuL]
theorem zfZ (l:List Nat) (m x:Nat) (h:m<l.length):List.take m (nuC l)++C.d (.leaf (.int .u64 (x:Int)))::List.drop (m+1) (nuC l)=nuC (l.set m x):=by
 unfold nuC;rw [←List.map_take,←List.map_drop,List.set_eq_take_append_cons_drop,if_pos h];simp
structure R1I (b:List UInt8) (n0:Nat) (k:Nat) (s:SF):Prop where
 e0:s.env 0=some (.e (rX (z04 b)))
 e3:s.env 3=some (.e (.one (.sl 160 n0 1)))
 ex:∃ (i p:Nat) (o:List Nat),i+k=b.length∧s.env 5=some (.e (iX i))∧s.env 4=some (.e (u64X p))∧(i%4≠0→p=2^(8*(i%4)))∧s.heap 160=some (.var 180 (nuC o))∧Nt.RI b o i∧o.length=n0
theorem zbC {p:Prop} (h:p:=by
  repeat' (first
   | (first|refine sq_ ?_|refine bk_ ?_)
   | ((first|refine rg_ fun Q hQ=>?_|refine if_ fun Q hQ=>?_|refine dr_ (id:=8) [0,3,4,5] [160] (by kernel_rfl) fun Q hQ=>?_|refine ca_ ?_|show EndK _ _ _ _ _ _ _ _);simp -implicitDefEqProofs [*,z2X])
   | ((first|refine bs_ ?_ ?_|refine cs_ ?_ ?_)<;>(intro hc;have hb:=hc;(try simp only [hk_,ne_eq] at hc);(try have ⟨hc1,hc2⟩:_∧_:=hc);(try subst_vars))<;>first|contradiction|(exfalso;omega)|(simp -implicitDefEqProofs [*,z2X])|skip)
   | ((first|refine aq_ ?_|refine z05 ?_|refine z06 ?_|refine z07 ?_);try simp only [sk_,↓reduceIte,Nat.reduceEqDiff])
   | (with_reducible refine And.intro ?_ ?_;focus (decide +kernel))
   | ((with_reducible show OptK _ _);(simp (disch:=omega) only [if_pos,if_neg]);(try (simp -implicitDefEqProofs [*,z2X]))))
  exact ⟨k,by omega,⟨by simp [e0],by simp [e3],i+1,P2,o.set q z,by omega,by simp [wi],by simp [wp],hp2,by simp [hsp],hR2,hol2⟩⟩):p:=h
theorem zmV (b:List UInt8) (hb:b.length≤100000):OK gl 102 [rX (z04 b)] (.e (rX (nuR .u32 (Nt.lim (Nt.be b))))):=by
 obtain ⟨n0,hn0⟩:∃ n0,n0=b.length / 4+1:=⟨_,rfl⟩;have q0:(b.length:Int) / 4=(n0:Int)-1:=by omega
 have w0:IntKind.wrap .i64 ((n0:Int)-1)=(n0:Int)-1:=z0f (by omega) (by omega);have w1:IntKind.wrap .i64 (n0:Int)=(n0:Int):=z0f (by omega) (by omega);have h1:(n0:Int)≤1000000:=by omega
 have h2:8*(n0:Int)≤100000000:=by omega
 have hcz:=zkY n0;have hn4:b.length<4*n0:=by omega
 have hnz:n0≤100000:=by omega
 clear hn0;refine z0d Tryz.func102 rfl (by show 1≤_;decide) ?_;unfold Tryz.f102;dsimp only;repeat' (first
  | (first|refine sq_ ?_|refine bk_ ?_)
  | ((first|refine rg_ fun Q hQ=>?_|refine if_ fun Q hQ=>?_|refine dr_ (id:=8) [0,3,4,5] [] (by kernel_rfl) fun Q hQ=>?_|refine ca_ ?_|show EndK _ _ _ _ _ _ _ _);simp -implicitDefEqProofs [*])
  | ((first|refine bs_ ?_ ?_|refine cs_ ?_ ?_)<;>(intro hc;have hb:=hc;(try simp only [hk_,ne_eq] at hc);(try have ⟨hc1,hc2⟩:_∧_:=hc);(try subst_vars))<;>first|contradiction|(exfalso;omega)|(simp -implicitDefEqProofs [*])|skip)
  | ((first|refine aq_ ?_|refine z05 ?_|refine z06 ?_|refine z07 ?_);try simp only [sk_,↓reduceIte,Nat.reduceEqDiff])
  | (with_reducible refine And.intro ?_ ?_;focus (decide +kernel))
  | ((with_reducible show OptK _ _);(simp (disch:=omega) only [if_pos,if_neg]);(try (simp -implicitDefEqProofs [*]))))
 clear q0 w0 w1 h1 h2 hcz;refine z0A (R1I b n0) b.length ?_ ?_
 ·exact ⟨by simp,by simp,0,1,List.replicate n0 0,by simp,by simp,by simp,by simp,by simp,Nt.RI.start b n0,by simp⟩
 ·rintro k s ⟨e0,e3,i,p,o,hi,e5,e4,hp,h160,hR,hol⟩;cases k with
  | zero=>
   obtain rfl:i=b.length:=by omega
   have hv:=hR.fin;have hN:=zmX (gl:=gl) o hR.lb (by omega);rw [Nt.ze4 hR.lb,hv] at hN;have hds:=zfk o;clear hR hp;refine z5Q 160 ?_;have d8:Drw 8 [0,3,4,5] []:=⟨⟩;have z0:=@setC.eq_def;exact am_
  | succ k=>
   obtain ⟨q,hq⟩:∃ q,q=i / 4:=⟨_,rfl⟩;obtain ⟨r,hr⟩:∃ r,r=i%4:=⟨_,rfl⟩;have q1:(i:Int) / 4=(q:Int):=by omega
   have r1:(i:Int).tmod 4=(r:Int):=by rw [hr];rfl
   obtain ⟨m,hm⟩:∃ m,m+1+i=b.length:=⟨k,by omega⟩;have hmb:m<b.length:=by omega
   obtain ⟨c,rest,hd,hcx,_⟩:=z0t hmb;have hcg:b.getD (b.length-1-i) 0=c:=by rw [show b.length-1-i=m by omega,List.getD_eq_getElem?_getD,hcx];rfl
   have hql:q<o.length:=by omega
   have hnx:=hR.next (by omega) (by rw [←hq];exact hql);rw [hcg,←hq,←hr] at hnx;obtain ⟨hlt,hR2⟩:=hnx;obtain ⟨x,orest,hdo,hox,_⟩:=z0t hql;have hxg:o.getD q 0=x:=by rw [List.getD_eq_getElem?_getD,hox];rfl
   rw [hxg] at hlt hR2;have hsp:=zfZ o q (x+c.toNat*2^(8*r)) hql;have hr4:r<4:=by omega
   have hP:∃ P,P=2^(8*r):=⟨_,rfl⟩;obtain ⟨P,hP⟩:=hP;have hPle:P≤16777216:=by
    rw [hP];have:=Nat.pow_le_pow_right (show 1≤2 by decide) (show 8*r≤24 by omega);omega
   have hpow:r≠3→2^(8*(r+1))=P*256:=fun _=>by rw [hP,show 8*(r+1)=8*r+8 by omega,Nat.pow_add]
   rw [←hP] at hlt hR2 hsp;have hc:=c.toNat_lt;have hB:Nt.B=4294967296:=rfl;rw [hB] at hlt;have hcP:c.toNat*P≤256*16777216:=Nat.mul_le_mul (by omega) hPle;obtain ⟨y,hy⟩:∃ y,y=c.toNat*P:=⟨_,rfl⟩;rw [←hy] at hlt hR2 hsp hcP;have wm:IntKind.wrap .u64 ((P:Int)*(c.toNat:Int))=(y:Int):=by
    have e:(P:Int)*(c.toNat:Int)=(y:Int):=by rw [hy,Int.mul_comm];push_cast;rfl
    rw [e,IntKind.wrap_u64];omega
   obtain ⟨z,hz⟩:∃ z,z=x+y:=⟨_,rfl⟩;rw [←hz] at hlt hR2 hsp;have wa:IntKind.wrap .u64 ((x:Int)+(y:Int))=(z:Int):=by rw [IntKind.wrap_u64];omega
   obtain ⟨P2,hP2⟩:∃ P2,P2=P*256:=⟨_,rfl⟩;have wp:IntKind.wrap .u64 ((P:Int)*256)=(P2:Int):=by rw [IntKind.wrap_u64];omega
   have hp2:(i+1)%4≠0→P2=2^(8*((i+1)%4)):=fun h=>by
    rw [hP2,←hpow (by omega),show (i+1)%4=r+1 by omega]
   have hpr:r≠0→p=P:=fun h=>by rw [hP,hr];exact hp (by omega)
   have hP0:r=0→P=1:=fun h=>by rw [hP,h]
   have wc:IntKind.wrap .u64 (c.toNat:Int)=c.toNat:=by rw [IntKind.wrap_u64];omega
   have wq:IntKind.wrap .i64 (q:Int)=(q:Int):=z0f (by omega) (by omega);have wl:IntKind.wrap .i64 ((b.length:Int)-1)=(b.length:Int)-1:=z0f (by omega) (by omega);have wm2:IntKind.wrap .i64 ((b.length:Int)-1-(i:Int))=(m:Int):=by rw [z0f (by omega) (by omega)];omega
   have wi:IntKind.wrap .i64 ((i:Int)+1)=(i:Int)+1:=z0f (by omega) (by omega);have hqI:(q:Int)<(n0:Int):=by omega
   have hib:(i:Int)<(b.length:Int):=by omega
   have hnl:=znn o;have hdn:True→(nuC o).drop q = .d (.leaf (.int .u64 (x:Int)))::nuC orest:=fun _=>by unfold nuC;rw [←List.map_drop,hdo];rfl
   have hget:(nuC o)[q]? = some (.d (.leaf (.int .u64 (x:Int)))):=by unfold nuC;rw [List.getElem?_map,hox];rfl
   have hget2:∀ h:q<(nuC o).length,(nuC o)[q]'h=C.d (.leaf (.int .u64 (x:Int))):=fun h=>by
    rw [List.getElem?_eq_getElem h] at hget;exact Option.some.inj hget
   have hix:z0j Tryz.prog 151 (some (.e (.one (.sl 160 n0 1)))) (q:Int)=some (.ref 160 q):=by
    simp [z0j];omega
   have hii:i+1+k=b.length:=by omega
   have hol2:(o.set q z).length=n0:=by rw [List.length_set];exact hol
   clear hq hr hm hcx hcg hlt hox hxg hP hPle hpow hc hB hcP hy hz hP2 hp hR hi hn4 hnz hb;by_cases hr0:r=0
   ·have hP1:=hP0 hr0;subst hr0;subst hP1;clear hP0 hpr;have wp:IntKind.wrap .u64 256=(P2:Int):=wp;obtain rfl:y=c.toNat:=by
     have h:IntKind.wrap .u64 (1*(c.toNat:Int))=(y:Int):=wm;rw [Int.one_mul,wc] at h;omega
    clear wm;exact zbC
   ·have hpP:=hpr hr0;subst hpP;clear hP0 hpr;exact zbC
end Am
end Go.Proofs.YtgmppconibklcaaGreatDoor

