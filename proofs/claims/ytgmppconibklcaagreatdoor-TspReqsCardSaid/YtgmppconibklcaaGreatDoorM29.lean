/- Part of the proof. No condition. -/
import Derived.Test.YtgmppconibklcaaGreatDoorM28
set_option maxHeartbeats 40000000
set_option maxRecDepth 100000
set_option linter.unusedVariables false
set_option linter.unusedSimpArgs false
namespace Go.Proofs.YtgmppconibklcaaGreatDoor
open Go Go.RowKit
namespace Am
variable {gl:Nat→Option (List D)}
theorem zno {n:Nd} {l:List Nd} (h:n.kids=l):Nd.mk n.cls n.tag n.cons n.bytes l=n:=by subst h;cases n;rfl
theorem zih {p:Prop} (h:p:=by
  rw [hk] at cO;have hxe:=zno hk;rcases h3 with ⟨rfl,h3⟩|⟨hj0,h3,hh⟩
  ·have h1t:List.take 1 l=[x]:=by rw [show 1=0+1 from rfl,htk];rfl
   clear htk;repeat' (first
    | (first|refine sq_ ?_|refine bk_ ?_)
    | ((first|refine rg_ fun Q hQ=>?_|refine if_ fun Q hQ=>?_|refine ca_ ?_|show EndK _ _ _ _ _ _ _ _);simp -implicitDefEqProofs [*,z08,ownT,ownW])
    | ((first|refine bs_ ?_ ?_|refine cs_ ?_ ?_)<;>(intro hc;have hb:=hc;(try simp only [hk_,ne_eq] at hc);(try have ⟨hc1,hc2⟩:_∧_:=hc);(try subst_vars))<;>first|contradiction|(exfalso;omega)|(simp -implicitDefEqProofs [*,z08,ownT,ownW])|skip)
    | ((first|refine aq_ ?_|refine z05 ?_|refine z06 ?_|refine z07 ?_);try simp only [sk_,↓reduceIte,Nat.reduceEqDiff])
    | ((with_reducible show OptK _ _);(simp (disch:=omega) only [if_pos,if_neg]);(try (simp -implicitDefEqProofs [*,z08,ownT,ownW]))))
   exact ⟨k,by omega,by simp [h6],by simp [h7],1,by omega,by simp,.inr ⟨by omega,by simp [h1t],by simp⟩⟩
  ·repeat' (first
    | (first|refine sq_ ?_|refine bk_ ?_)
    | ((first|refine rg_ fun Q hQ=>?_|refine if_ fun Q hQ=>?_|refine ca_ ?_|show EndK _ _ _ _ _ _ _ _);simp -implicitDefEqProofs [*,z08,ownT,ownW])
    | ((first|refine bs_ ?_ ?_|refine cs_ ?_ ?_)<;>(intro hc;have hb:=hc;(try simp only [hk_,ne_eq] at hc);(try have ⟨hc1,hc2⟩:_∧_:=hc);(try subst_vars))<;>first|contradiction|(exfalso;omega)|(simp -implicitDefEqProofs [*,z08,ownT,ownW])|skip)
    | ((first|refine aq_ ?_|refine z05 ?_|refine z06 ?_|refine z07 ?_);try simp only [sk_,↓reduceIte,Nat.reduceEqDiff])
    | ((with_reducible show OptK _ _);(simp (disch:=omega) only [if_pos,if_neg]);(try (simp -implicitDefEqProofs [*,z08,ownT,ownW]))))
   exact ⟨k,by omega,by simp [h6],by simp [h7],j+1,by omega,by simpa using hw,.inr ⟨by omega,by simp [htk],by simp⟩⟩):p:=h
theorem zcs (l:List Nd) (hz:Dr.wts l≤10000000) (ih:∀ n∈l,z0S Tryz.prog gl Tabs 76 [rX (ndR n.kids)] [] (ownT n.kids) (ownW n.kids) []):z0S Tryz.prog gl Tabs 76 [rX (ndR l)] [] (ownT l) (ownW l) []:=by
 have hlen:=z1E l;refine zj5 true Tryz.func76 rfl (by show 1≤_;decide) ?_;rw [z1m];unfold Tryz.f76;dsimp only;have hbl:∀ n∈l,n.bytes.length≤140737488355328:=fun n hn=>by
  have h1:=z0W n;obtain ⟨k,hk,rfl⟩:=List.getElem_of_mem hn;have:=z2I hk;omega
 have hlz:l.length≤10000000:=by omega
 clear hz hlen;repeat' (first
  | (first|refine sq_ ?_|refine bk_ ?_)
  | ((first|refine rg_ fun Q hQ=>?_|refine if_ fun Q hQ=>?_|refine ca_ ?_|show EndK _ _ _ _ _ _ _ _);simp -implicitDefEqProofs [*])
  | ((first|refine bs_ ?_ ?_|refine cs_ ?_ ?_)<;>(intro hc;have hb:=hc;(try simp only [hk_,ne_eq] at hc);(try have ⟨hc1,hc2⟩:_∧_:=hc);(try subst_vars))<;>first|contradiction|(exfalso;omega)|(simp -implicitDefEqProofs [*])|skip)
  | ((first|refine aq_ ?_|refine z05 ?_|refine z06 ?_|refine z07 ?_);try simp only [sk_,↓reduceIte,Nat.reduceEqDiff])
  | ((with_reducible show OptK _ _);(simp (disch:=omega) only [if_pos,if_neg]);(try (simp -implicitDefEqProofs [*]))))
 refine z0A (OwnI l) l.length ?_ ?_
 ·exact ⟨by simp,by simp,0,by simp,by simp,.inl ⟨rfl,by simp⟩⟩
 ·rintro k s ⟨h6,h7,j,hj,h8,h3⟩;cases k with
  | zero=>
   have hjl:j=l.length:=by omega
   subst hjl;clear ih hbl;rcases h3 with ⟨hj0,h3⟩|⟨hj0,h3,hh⟩
   ·have hl0:l=[]:=List.length_eq_zero_iff.1 hj0;subst hl0;have z0:=@ownT.eq_def;have z1:=@ownW.eq_def;exact am_
   ·cases l with
    | nil=>exact absurd hj0 (by simp)
    | cons a l=>
     have z0:=@ownT.eq_def;have z1:=@ownW.eq_def;exact am_
  | succ k=>
   have h1:j<l.length:=by omega
   obtain ⟨x,r,hd,hx,htk⟩:=z0t h1;have hw:=z17 (k:=j+1) (by omega);have hmin:min j l.length=j:=by omega
   have cO:=ih x (List.mem_of_getElem? hx);have hb:=hbl x (List.mem_of_getElem? hx);have h5:(j*5+5) / 5*72≤140737488355328:=by omega
   have h5':j*5+5≤140737488355328:=by omega
   clear ih hbl;rcases hk:x.kids with _|⟨a,m⟩
   ·exact zih
   ·exact zih
theorem dOwn:∀ (m:Nat) (l:List Nd),Dr.wts l≤m→Dr.wts l≤10000000→z0S Tryz.prog gl Tabs 76 [rX (ndR l)] [] (ownT l) (ownW l) []
 | 0,l,h,hz=>zcs l hz fun n hn=>by
   have h1:=z0W n;obtain ⟨k,hk,rfl⟩:=List.getElem_of_mem hn;have:=z2I hk;omega
 | m+1,l,h,hz=>zcs l hz fun n hn=>by
   have h1:=z0W n;obtain ⟨k,hk,rfl⟩:=List.getElem_of_mem hn;have:=z2I hk;exact dOwn m _ (by omega) (by omega)
def zgX (c t:Int) (l:List Nd):T:=match l with
 | []=> .e (.agg [.d (.leaf (.int .i64 c)),.d (.leaf (.int .i64 t)),.d (.leaf (.bool true)),.nilS,.nilS])
 | l=> .e (.agg [.d (.leaf (.int .i64 c)),.d (.leaf (.int .i64 t)),.d (.leaf (.bool true)),.nilS,.gr 14 5 (ndL l)])
theorem dCons (c t:Int) (l:List Nd) (hz:Dr.wts l≤10000000):z0S Tryz.prog gl Tabs 35 [iX c,iX t,rX (ndR l)] [] (zgX c t l) (ownW l) []:=by
 have cO:=dOwn (gl:=gl) _ l (Nat.le_refl _) hz;refine zj5 true Tryz.func35 rfl (by show 3≤_;decide) ?_;rw [z1m];unfold Tryz.f35;dsimp only;cases l with
 | nil=>
  have z0:=@ownT.eq_def;have z1:=@ownW.eq_def;have z2:=@zgX.eq_def;exact am_
 | cons a l=>
  have z0:=@ownT.eq_def;have z1:=@ownW.eq_def;have z2:=@zgX.eq_def;exact am_
theorem tSeqO (l:List Nd) (hz:Dr.wts l≤10000000):z0S Tryz.prog gl Tabs 30 [rX (ndR l)] [] (zgX 0 16 l) (ownW l) []:=by
 have cO:=dCons (gl:=gl) 0 16 l hz;refine zj5 true Tryz.func30 rfl (by show 1≤_;decide) ?_;rw [z1m];unfold Tryz.f30;dsimp only;cases l with
 | nil=>
  have z0:=@ownT.eq_def;have z1:=@ownW.eq_def;have z2:=@zgX.eq_def;exact am_
 | cons a l=>
  have z0:=@ownT.eq_def;have z1:=@ownW.eq_def;have z2:=@zgX.eq_def;exact am_
theorem zmz (a:Nd) (l:List Nd) (hz:Dr.wts (a::l)≤10000000):z0S Tryz.prog gl Tabs 30 [rX (ndR (a::l))] [] (.e (.agg [.d (.leaf (.int .i64 0)),.d (.leaf (.int .i64 16)),.d (.leaf (.bool true)),.nilS,.gr 14 5 (ndL (a::l))])) [.own 61 5 (l.length+1)] []:=tSeqO (a::l) hz
end Am
end Go.Proofs.YtgmppconibklcaaGreatDoor

