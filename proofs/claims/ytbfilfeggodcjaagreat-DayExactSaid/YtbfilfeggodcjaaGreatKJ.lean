/- Parts. -/
import Derived.Test.YtbfilfeggodcjaaGreatKF
import Derived.Test.YtbfilfeggodcjaaGreatKG
set_option linter.all false
set_option maxHeartbeats 4000000
set_option maxRecDepth 16000
namespace Go.Proofs.YtbfilfeggodcjaaGreat
open Go.Abs Tryz
open List
theorem C4(p:aB->Bool)(g:FuncId)(r:∀x:aB,Sq g [] [.agg x.cells] [] (.bool (p x)))(cs:List aB)(f:cs.length<2^60):Sq 233 [] [.sl 3 (cs.map aB.cells),.fn g []] [] (.int .i64 (iD (λc:aB=>if p c then 1 else 0) 1 cs)):=by
 refine aX 19 2 [.tmp 4] mixed func233 ?_;simp only[go_sem,seval];refine aF.w1 cs.length 8 [0,1,7] [] (λi _=>∀j (a:j<cs.length),j<i->(if p cs[j]then(1:Int)else 0)≠1) (by intros;omega) ?_ ?_
 ·intro i _ m k s b;have o:=aP (c:=aB.cells) cs m;have hli:(i:Int)<(cs.length:Int):=aj
  have f:=r cs[i];simp only[aB.cells]at o f;refine sc (a2 k o) f ?_;cases d:p cs[i]
  ·simp only[go_sem,seval,d,s];refine af.u m ?_ ?_
   ·intro j a hji;rcases cq j i with h|h
    ·exact b j a h
    ·obtain rfl:j=i:=aj
     simp[d]
   ·simp only[go_sem,seval]
  ·obtain⟨q,e⟩:=je (no:=λc:aB=>if p c then(1:Int)else 0) (n:=1) (z:=(⟨0,0,0⟩:aB)) m b (by simp[d]);rw[e];simp only[go_sem,seval,d]
 ·intro _ l b;obtain⟨q,e⟩:=gC (no:=λc:aB=>if p c then(1:Int)else 0) (n:=1) (z:=(⟨0,0,0⟩:aB)) (λj a=>b j a a);rw[e];simp only[go_sem,seval,l]
theorem xB(p:aB->Bool)(g:FuncId)(d:∀x:aB,Sq g [] [.agg x.cells] [] (.bool (p x)))(cs:List aB)(b:cs.length<2^60):Sq 172 [] [.sl 3 (cs.map aB.cells),.fn g []] [] (.bool (cs.any p)):=by
 have h:=C4 p g d cs b;have e:decide (0<=iD (λc:aB=>if p c then(1:Int)else 0) 1 cs)=cs.any p:=by
  rw[qX];congr 1;funext c;cases a:p c<;>simp[a]
 refine aX 9 2 [.tmp 4] mixed func172 ?_;exact qt e h
theorem BE(x:aB):Sq 173 [] [.agg x.cells] [] (.bool (!bR x.cw)):=by
 have a:=dL [x.cw] (by simp);rw[Ck]at a;simp only[ints,map_cons,map_nil]at a;simp only[aB.cells];refine aX 8 1 [.tmp 2] mixed func173 ?_;exact slx aI a
theorem uj(l:List aB)(hl:l.length<2^40):Sq 72 [] [.sl 3 (l.map aB.cells)] [] (.bool (gX l)):=by
 have h:=xB (λx=>!bR x.cw) 173 BE l aj;have e:(!l.any λx=>!bR x.cw)=gX l:=by rw[gX,not_any_eq_all_not];simp
 refine aX 6 1 [.tmp 2] mixed func72 ?_;exact qt e h
theorem IW(w c:Int)(l:List aB)(hl:l.length<2^29):Sq 80 [] [.int .i64 w,.int .i64 c,.sl 3 (l.map aB.cells)] [] (.bH [.int .i64 (jJ w c l),.int .i64 (eJ w c l)]):=by
 have t:=uj l aj;refine aX 40 3 [.tmp 6,.tmp 7] mixed func80 ?_;refine sc aI t ?_;cases n:gX l
 ·have e:eJ w c l=3:=by simp[eJ,n]
  simp only[go_sem,seval,jJ,e]<;>simp
 have e:eJ w c l=if bR (aK (nY w c l))then 0 else 1:=by simp[eJ,n]
 have p:∀x∈l,bR x.cw=true:=λx j=>cR.1 n x j;have s:=oA (nY w c l) (by have:=fu (vH w c) aB.cw l;unfold nY;omega);have q:right (nY w c l)=true:=cR.2 (qj λx j=>p x j);rw[nH,nG,q,cF,aE rfl]at s;simp only[jJ];rw[e];clear e t;simp only[go_sem,seval];refine aF.wv l.length [0,1,14,15] [256] (λi=>[(16,.int .i64 i),(8,.ref 560)]) (λi=>[(560,.own 1 (ints (nY w c (l.take i))))]) ?_ ?_ ?_
 ·simp only[go_sem,seval]<;>simp[nY,pick,ints]
 ·intro i _ g b d _;obtain⟨x,j,k,hli⟩:=uy (c:=aB.cells) l g;have a:ints (nY w c (l.take (i+1)))=ints (nY w c (l.take i))++_:=kf (vH w c) aB.cw g;have h:(nY w c (l.take i)).length<=(l.take i).length:=fu (vH w c) aB.cw (l.take i);have hlt:(l.take i).length=i:=by simp;omega
  obtain⟨L,u⟩:=aV (nY w c (l.take i));rw[<-u]at a h |-;rw[<-j]at a;simp only[aB.cells]at k;simp only[vH]at a;cases f:x.who==w
  ·simp only[f,eO,jm,if_false,append_nil]at a;simp only[go_sem,seval,b,k,f,d];refine bG ?_;refine af.v g ?_;simp only[go_sem,seval,a]
  cases m:x.cur==c
  ·simp only[f,m,Bool.and_false,jm,if_false,append_nil]at a;simp only[go_sem,seval,b,k,f,m,d];refine bG ?_;refine af.v g ?_;simp only[go_sem,seval,a]
  simp only[f,m,Bool.and_self,if_true]at a;simp only[go_sem,seval,b,k,f,m,d,aL];refine bG ?_;refine af.v g ?_;simp only[go_sem,seval,a]
 ·intro _ o _;simp only[go_sem,seval,o,ef];refine sl aI s ?_;cases r:bR (aK (nY w c l))
  ·simp only[go_sem,seval,r]<;>simp
  ·simp only[go_sem,seval,r]<;>simp
theorem Hq(x y:aB):∃c:Int,Sq 75 [] [.agg x.cells,.agg y.cells] [] (.int .i64 c)/\decide (c<0)=dI x y:=by
 have a:=jW x.who y.who;have b:=jW x.cur y.cur;have d:=AP (uB x.who y.who) (uB x.cur y.cur);refine⟨if uB x.who y.who=0 then uB x.cur y.cur else uB x.who y.who,?_,?_⟩
 ·simp only[aB.cells];refine aX 17 2 [.tmp 4] mixed func75 ?_;refine sc aI a ?_;refine sc aI b ?_;exact slx aI d
 ·rw[gI,decide_eq_true_iff,eH];simp only[uB];repeat' split
  all_goals omega
def jN(x y:aB):Bool:=x.who==y.who&&x.cur==y.cur
theorem Jd(x y:aB):Sq 79 [] [.agg x.cells,.agg y.cells] [] (.bool (jN x y)):=by
 simp only[aB.cells];cases q:x.who==y.who;all_goals
  refine aX 17 2 [.tmp 4] mixed func79 ?_;simp only[go_sem,seval,q,jN];try simp
def sF(l:List aB):List aB->List aB->List aB×Int
 | [],out=>(out,0)
 |d::r,out=>if eJ d.who d.cur l=0 then sF l r (out++tS l d)else([],eJ d.who d.cur l)
def Br(l:List aB):List aB:=u5 jN (Ag dI l)
def lJ(l:List aB):List aB×Int:=if gX l then sF l (Br l) []else([],3)
def Ht(l:List aB)(d:aB):(tS l d).length<=1:=by unfold tS;split<;>simp
def yp(l:List aB):(Ag dI l).length=l.length:=KI _ _
def No{A:Type}{xs a:List A}{i:Nat}{z:A}(h:i<xs.length):(xs++a).getD i z=xs.getD i z:=by
 rw[getD,getD,getElem?_append_left h]
theorem Fu(l:List aB)(hl:l.length<2^28):Sq 27 [] [.sl 3 (l.map aB.cells)] [.own 3 ((lJ l).1.map aB.cells)] (.bH [.ref 0,.int .i64 (lJ l).2]):=by
 have L:=uj l aj;have Q:=vE l aj;have N:=FX dI 75 Hq l aj;have K:=λw c=>IW w c l aj;refine aX 50 1 [.tmp 2,.tmp 3] mixed func27 ?_;refine sc aI L ?_;cases J:gX l
 ·simp only[go_sem,seval,lJ,J]<;>simp
 have P:lJ l=sF l (Br l) []:=by rw[lJ,J,aE rfl]
 rw[P];clear P L;have f:=AR jN 79 Jd (Ag dI l) (by rw[yp];omega);have s:=Cr jN (Ag dI l);have I:=yp l;unfold Br;obtain⟨T,R⟩:=aV (Ag dI l);rw[<-R]at N f s I |-;obtain⟨Z,C⟩:=aV (u5 jN T);rw[<-C]at f s |-;refine so aI Q ?_;refine sg [240] aI N ?_;refine ak.fk [] [240] false (by simp) ?_;simp only[go_sem,seval];have z:=Ht l;rcases Nat.eq_or_lt_of_le s with hk|hk
 ·have f:=f _ _ (λ_=>⟨rfl,rfl⟩) (λh=>absurd hk aj);have u:T.map aB.cells=Z.map aB.cells:=by
   rw[C];have k:∀(p:aB)(r:List aB),(qq jN p r).length=r.length->qq jN p r=r:=by
    intro p r;induction r generalizing p with
    |nil=>intro _;rfl
    |cons y r ih =>
     intro h;unfold qq at h |-;split at h
     ·have:=wK jN y r;simp only[length_cons]at h;omega
     ·rename_i U;rw[az U];rw[ih y (by simpa using h)]
   cases T with
   |nil=>rfl
   |cons x r=>rw[u5,k x r (by rw[C]at hk;simpa[u5]using hk)]
  have B:T.length=Z.length:=hk.symm;rw[u]at f;rw[u];refine bX.fV f ?_;simp only[go_sem,seval,B];refine aF.mN (S:=List aB) Z.length [0,19,20] [240] (λi _=>[(21,.int .i64 i),(5,.ref 768)]) (λi o=>[(768,.own 3 (o.map aB.cells))]) (λi o=>o.length<=i/\sF l (Z.drop i) o=sF l Z []) [] ⟨cX _,rfl⟩ ?_ ?_ ?_
  ·simp only[go_sem,seval]<;>simp
  ·intro i o g n e a;obtain⟨t,a⟩:=a;obtain⟨d,E,v,F⟩:=uy (c:=aB.cells) Z g;rw[fX g,sF]at a;rw[<-E]at a;have m:=K d.who d.cur;have H:=z d;simp only[aB.cells]at v;refine sc (a2 n v) m ?_;cases b:eJ d.who d.cur l==0
   ·have k:eJ d.who d.cur l≠0:=by simpa using b
    rw[az k]at a;rw[<-a];simp only[go_sem,seval,bne,b]<;>simp
   ·have k:eJ d.who d.cur l=0:=by simpa using b
    rw[aE k]at a;cases j:jJ d.who d.cur l==0
    ·rw[tS,j,az mE]at a;simp only[go_sem,seval,bne,b,j,e];refine bG ?_;refine af.jz (o++[⟨d.who,d.cur,jJ d.who d.cur l⟩]) g ⟨by rw[cT];simp only[length_cons,length_nil];omega,a⟩ ?_;simp only[go_sem,seval,jH,map_cons,map_nil]
    ·rw[tS,j,aE rfl,append_nil]at a;simp only[go_sem,seval,bne,b,j,e];refine bG ?_;refine af.jz o g ⟨by omega,a⟩ ?_;simp only[go_sem,seval]
  ·intro o q a;obtain⟨t,a⟩:=a;rw[mT,sF]at a;rw[<-a];simp only[go_sem,seval,q]<;>simp
 ·have f:=f _ _ (λh=>absurd hk aj) (λ_=>⟨rfl,rfl⟩);obtain⟨O,M⟩:∃O:List (List D),O=replicate (T.length-Z.length) [D.int .i64 0,D.int .i64 0,D.int .i64 0]:=⟨_,rfl⟩
  have A:O.length=T.length-Z.length:=by rw[M,length_replicate]
  rw[<-M]at f;refine bX.fV f ?_;simp only[go_sem,seval,cT];refine aF.mN (S:=List aB) Z.length [0,19,20] [240] (λi _=>[(21,.int .i64 i),(5,.ref 768)]) (λi o=>[(768,.own 3 (o.map aB.cells))]) (λi o=>o.length<=i/\sF l (Z.drop i) o=sF l Z []) [] ⟨cX _,rfl⟩ ?_ ?_ ?_
  ·simp only[go_sem,seval]<;>simp
  ·intro i o g n e a;obtain⟨t,a⟩:=a;obtain⟨d,E,v,F⟩:=uy (c:=aB.cells) Z g;rw[fX g,sF]at a;rw[<-E]at a;have m:=K d.who d.cur;have H:=z d;simp only[aB.cells]at v;have G:(Z.map aB.cells++O).getD i []=[.int .i64 d.who,.int .i64 d.cur,.int .i64 d.cw]:=by rw[No (by rw[mY];exact g)];exact v
   simp only[go_sem,seval,n,G,cT,A];refine sc aI m ?_;cases b:eJ d.who d.cur l==0
   ·have k:eJ d.who d.cur l≠0:=by simpa using b
    rw[az k]at a;rw[<-a];simp only[go_sem,seval,bne,b]<;>simp
   ·have k:eJ d.who d.cur l=0:=by simpa using b
    rw[aE k]at a;cases j:jJ d.who d.cur l==0
    ·rw[tS,j,az mE]at a;simp only[go_sem,seval,bne,b,j,e];refine bG ?_;refine af.jz (o++[⟨d.who,d.cur,jJ d.who d.cur l⟩]) g ⟨by rw[cT];simp only[length_cons,length_nil];omega,a⟩ ?_;simp only[go_sem,seval,jH,map_cons,map_nil]
    ·rw[tS,j,aE rfl,append_nil]at a;simp only[go_sem,seval,bne,b,j,e];refine bG ?_;refine af.jz o g ⟨by omega,a⟩ ?_;simp only[go_sem,seval]
  ·intro o q a;obtain⟨t,a⟩:=a;rw[mT,sF]at a;rw[<-a];simp only[go_sem,seval,q]<;>simp
