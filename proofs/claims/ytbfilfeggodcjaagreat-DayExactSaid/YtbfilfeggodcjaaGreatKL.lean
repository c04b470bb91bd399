/- Parts. -/
import Derived.Test.YtbfilfeggodcjaaGreatKI
import Derived.Test.YtbfilfeggodcjaaGreatKJ
import Derived.Test.YtbfilfeggodcjaaGreatKK
set_option linter.all false
set_option maxHeartbeats 4000000
set_option maxRecDepth 16000
namespace Go.Proofs.YtbfilfeggodcjaaGreat
open Go.Abs Tryz
open List hiding min
def qH{a b:aB}:dI a b=false↔¬(a.who<b.who\/(a.who=b.who/\a.cur<b.cur)):=by rw[<-eH];simp
def ku{a b:aB}:jN a b=true↔a.who=b.who/\a.cur=b.cur:=by simp[jN]
theorem Eu(f:Bool)(last:aB):∀(l:List aB)(s:Bool×aB),(∀d∈l,(f||dI last d)=true->(gH f last l s).1=true/\dI d (gH f last l s).2=false)/\(s.1=true->(gH f last l s).1=true/\dI s.2 (gH f last l s).2=false)
 | [],s=>by
  refine⟨λd m=>(by cases m),λh=>⟨h,?_⟩⟩;show dI s.2 s.2=false;rw[qH];omega
 |d::r,s=>by
  obtain⟨i,c⟩:=Eu f last r (if BF f last s d then(true,d)else s);rw[gH];cases a:BF f last s d with
  |true =>
   rw[a,aE rfl]at i c;rw[aE rfl];obtain⟨j,e⟩:=c rfl;refine⟨λx b g=>?_,λn=>⟨j,?_⟩⟩
   ·rcases mem_cons.1 b with rfl|b
    ·exact⟨j,e⟩
    ·exact i x b g
   ·simp only[BF,dO,n,Bool.not_true,Bool.false_or]at a;have k:=a.2;rw[eH]at k;rw[qH]at e |-;dsimp only at e;omega
  |false =>
   rw[a,az mE]at i c;rw[az mE];refine⟨λx b g=>?_,c⟩;rcases mem_cons.1 b with rfl|b
   ·simp only[BF,g,cF,Bool.or_eq_false_iff,Bool.not_eq_false']at a;obtain⟨j,e⟩:=c a.1;refine⟨j,?_⟩;have k:=a.2;rw[qH]at k e |-;omega
   ·exact i x b g
def NQ(l:List aB){a b:aB}(c:a.who=b.who)(d:a.cur=b.cur):tS l a=tS l b:=by unfold tS;rw[c,d]
theorem Eg(l:List aB):∀(Z:List aB)(n:Nat)(f:Bool)(last:aB)(out:List aB),Z.length<n->Z.Pairwise (λa b=>dI a b=true)->(∀z∈Z,(f||dI last z)=true/\z∈l)->(∀d∈l,(f||dI last d)=true->∃z∈Z,jN z d=true)->zu l n f last out=sF l Z out
 |Z,0,_,_,_,h,_,_,_=>by omega
 | [],n+1,f,last,out,_,_,_,hk=>by
  rw[zu,sF];cases i:(gH f last l (false,.zero)).1 with
  |false=>rfl
  |true =>
   exfalso;rcases tE i with e| ⟨p,h2⟩
   ·rw[e]at i;cases i
   ·obtain⟨z,o,_⟩:=hk _ p h2;cases o
 |z::Z,n+1,f,last,out,hn,hp,o,hk=>by
  rw[oC]at hp;obtain⟨v,w⟩:=o z sT;obtain⟨i,A⟩:=(Eu f last l (false,.zero)).1 z w v;have c:(gH f last l (false,.zero)).2∈l/\(f||dI last (gH f last l (false,.zero)).2)=true:=by
   rcases tE i with e|h
   ·rw[e]at i;cases i
   ·exact h
  rw[zu,sF,i,aE rfl];obtain⟨s,t⟩:=aV ((gH f last l (false,.zero)).2);rw[<-t]at c A |-;obtain⟨z2,u,C⟩:=hk s c.1 c.2;rw[ku]at C;have x:z2.who=z.who/\z2.cur=z.cur\/dI z z2=true:=by
   rcases mem_cons.1 u with rfl|h
   ·exact .inl ⟨rfl,rfl⟩
   ·exact .inr (hp.1 z2 h)
  have g:s.who=z.who/\s.cur=z.cur:=by
   rw[qH]at A;rcases x with h|h
   ·omega
   ·rw[eH]at h;omega
  rw[NQ l g.1 g.2,g.1,g.2];by_cases m:eJ z.who z.cur l=0
  ·rw[aE m,aE m];refine Eg l Z n false s _ (by simp only[length_cons]at hn;omega) hp.2 (λy j=>?_) (λd B q=>?_)
   ·have p:=hp.1 y j;refine⟨?_,(o y (by simp[j])).2⟩;rw[Bool.false_or,eH];rw[eH]at p;omega
   ·rw[Bool.false_or]at q;have r:(f||dI last d)=true:=by
     cases f with
     |true=>rfl
     |false =>
      have:=c.2;rw[Bool.false_or]at this |-;rw[eH]at this q |-;omega
    obtain⟨y,j,k⟩:=hk d B r;rcases mem_cons.1 j with rfl|j
    ·rw[ku]at k;rw[eH]at q;omega
    ·exact⟨y,j,k⟩
  ·rw[az m,az m]
def Lg:Ord dI where
 TC x y h:=by rw[eH]at h;rw[qH];omega
 OY x y z h1 h2:=by rw[qH]at *;omega
theorem rj:∀(r:List aB)(p:aB),y8 dI (p::r)->(∀z∈qq jN p r,z∈r/\dI p z=true)/\(∀d∈r,jN p d=true\/∃z∈qq jN p r,jN z d=true)/\(qq jN p r).Pairwise (λa b=>dI a b=true)
 | [],p,_=>⟨λz c=>(by cases c),λd e=>(by cases e),Pairwise.nil⟩
 |y::r,p,h=>by
  have l:=oC.1 h;obtain⟨i,n,o⟩:=rj r y l.2;have g:=l.1 y sT;rw[qq];cases m:jN y p with
  |true =>
   rw[aE rfl];rw[ku]at m;refine⟨λz c=>?_,λd e=>?_,o⟩
   ·obtain⟨j,k⟩:=i z c;refine⟨by simp[j],?_⟩;rw[eH]at k |-;omega
   ·rcases mem_cons.1 e with rfl|e
    ·left;rw[ku];omega
    ·rcases n d e with h|h
     ·left;rw[ku]at h |-;omega
     ·exact .inr h
  |false =>
   rw[az mE];have f:dI p y=true:=by
    have:¬jN y p=true:=by rw[m];exact mE
    rw[ku]at this;rw[qH]at g;rw[eH];omega
   refine⟨λz c=>?_,λd e=>.inr ?_,?_⟩
   ·rcases mem_cons.1 c with rfl|c
    ·exact⟨by simp,f⟩
    ·obtain⟨j,k⟩:=i z c;refine⟨by simp[j],?_⟩;rw[eH]at f k |-;omega
   ·rcases mem_cons.1 e with rfl|e
    ·exact⟨d,by simp,by rw[ku];exact⟨rfl,rfl⟩⟩
    ·rcases n d e with h| ⟨z,c,he⟩
     ·exact⟨y,by simp,h⟩
     ·exact⟨z,by simp[c],he⟩
   ·exact oC.2 ⟨λz c=>(i z c).2,o⟩
def z7(l:List aB):lJ l=iN l:=by
 unfold lJ iN;cases gX l
 ·rfl
 rw[aE rfl,aE rfl];have f:=wW dI l;have e:=KJ Lg l;have hlen:=f.length_eq;unfold Br;have hrl:=Cr jN (Ag dI l);refine(Eg l _ _ true .zero [] aj ?_ ?_ ?_).symm
 ·cases c:Ag dI l with
  |nil=>exact Pairwise.nil
  |cons x r =>
   rw[c]at e;obtain⟨i,_,j⟩:=rj r x e;exact oC.2 ⟨λz b=>(i z b).2,j⟩
 ·intro z b;refine⟨rfl,f.mem_iff.1 ?_⟩;cases c:Ag dI l with
  |nil=>rw[c]at b;cases b
  |cons x r =>
   rw[c]at e b;rcases mem_cons.1 b with rfl|b
   ·simp
   ·simp[((rj r x e).1 z b).1]
 ·intro d g _;have a:=f.mem_iff.2 g;cases c:Ag dI l with
  |nil=>rw[c]at a;cases a
  |cons x r =>
   rw[c]at e a;rcases mem_cons.1 a with rfl|a
   ·exact⟨d,by simp[u5],by rw[ku];exact⟨rfl,rfl⟩⟩
   ·rcases(rj r x e).2.1 d a with h| ⟨z,b,he⟩
    ·exact⟨x,by simp[u5],h⟩
    ·exact⟨z,by simp[u5,b],he⟩
def Bu(d:aB):Bool:=aG.right ⟨2,d.who,d.cur⟩&&bR d.cw
def nq(l:List aB):List aJ×Int:=if l.all Bu then(if(lJ l).2=0 then rJ (jC (lJ l).1)else([],(lJ l).2))else([],3)
theorem G9(l:List aB)(hl:l.length<2^27):Sq 28 [] [.sl 3 (l.map aB.cells)] [.own 4 ((nq l).1.map aJ.cells)] (.bH [.ref 0,.int .i64 (nq l).2]):=by
 have o:=Fu l aj;obtain⟨k,g⟩:=z8 l;rw[<-z7]at k g;have p:=GY (jC (lJ l).1) (by have:=qh (lJ l).1;omega);unfold nq;obtain⟨m,f⟩:=aV ((lJ l).1);obtain⟨e,s⟩:=aV ((lJ l).2);rw[<-f]at o k g p;rw[<-s]at o;rw[<-f,<-s];clear f s;refine aX 72 1 [.tmp 2,.tmp 3] mixed func28 ?_;simp only[go_sem,seval];refine aF.w1 l.length 13 [0,11,12] [208] (λi _=>(l.drop i).all Bu=l.all Bu) rfl ?_ ?_
 ·intro i _ h j n a;obtain⟨x,z,f,w⟩:=uy (c:=aB.cells) l h;have A:=kV ⟨2,x.who,x.cur⟩;have r:=dL [x.cw] (by simp);rw[Ck]at r;simp only[ints,map_cons,map_nil]at r;rw[fX h,<-z,all_cons,Bu]at a;simp only[aB.cells]at f;simp only[aG.cells]at A;clear o p;refine sc (a2 j f) A ?_;cases q:aG.right ⟨2,x.who,x.cur⟩
  ·rw[q,eO,eO]at a;rw[<-a];simp only[go_sem,seval]<;>simp
  refine sl aI r ?_;cases B:bR x.cw
  ·rw[q,B,Bool.and_false,eO]at a;rw[<-a];simp only[go_sem,seval]<;>simp
  rw[q,B,cF,cF]at a;simp only[go_sem,seval,n];refine af.u h a ?_;simp only[go_sem,seval]
 intro _ b a;rw[mT]at a;rw[<-a,show([]:List aB).all Bu=true from rfl,aE rfl];clear a;refine so b o ?_;by_cases q:e=0
 case neg =>
  have d:(e==0)=false:=by simpa using q
  simp only[go_sem,seval,bne,d,az q];all_goals simp
 subst q;rw[aE rfl];simp only[go_sem,seval];refine bG ?_;clear o b;refine aF.wv m.length [40,41] [560] (λi=>[(42,.int .i64 i),(8,.ref 1072)]) (λi=>[(1072,.own 4 ((jC (m.take i)).map aJ.cells))]) ?_ ?_ ?_
 ·simp only[go_sem,seval]<;>simp[jC]
 ·intro i _ h j n _;obtain⟨x,z,f,w⟩:=uy (c:=aB.cells) m h;have y:jC (m.take (i+1))=jC (m.take i)++_:=jr _ h;have g:=qh (m.take i);have hlt:(m.take i).length=i:=by simp;omega
  have t:=fY.1 (k m[i] (cZ h));obtain⟨L,C⟩:=aV (jC (m.take i));rw[<-C]at y g |-;rw[<-z]at y t;have D:IntKind.wrap .i64 (0-x.cw) = -x.cw:=eM;simp only[aB.cells]at f;clear p;simp only[go_sem,seval,cT,length_cons,length_nil,j,f,D,n];refine bG ?_;refine af.v h ?_;simp only[go_sem,seval,y]<;>simp
 ·intro _ b _;simp only[go_sem,seval,b,ef];refine bG ?_;refine ak.fk [1072] [] false (by simp) ?_;simp only[go_sem,seval];refine bX.fV p ?_;simp only[go_sem,seval]
def NU(h:∀x:aG,x.right=true->x∈eK)(i:eK.Pairwise λa b=>a.less b=true)(l:List aB):nq l=(iB l,nj l):=by
 have e:lJ l=iN l:=z7 l;unfold nq iB nj;rw[e];have d:l.all Bu=(rY l&&gX l):=by
  unfold rY gX;induction l with
  |nil=>rfl
  |cons x r ih =>
   have:=ih (z7 r);simp only[all_cons,Bu]at this |-;rw[this];cases aG.right ⟨2,x.who,x.cur⟩<;>cases bR x.cw<;>simp
 rw[d];cases h1:rY l
 ·rfl
 ·cases g:gX l
  ·have c:(iN l).2=3:=by rw[iN,g];rfl
   rw[c];rfl
  ·by_cases c:(iN l).2=0
   ·rw[Bool.and_self,aE rfl,aE c,aE rfl,aE c,GX h i];by_cases f:pZ (jC (iN l).1)=0
    ·rw[aE f]
    ·rw[az f,mI,az f]
   ·rw[Bool.and_self,aE rfl,az c,aE rfl,az c,az c]
theorem Ow(r:aC)(b:bI)(h:r.small)(a:b.small):Sq 26 [] [.agg r.cells,.agg b.cells] [] (.bH [.agg (ou r b).cells,.sl 3 ((iE r b).map aB.cells),.int .i64 (lN r b)]):=by
 refine Spec.frozen (Kz r b h a) [0,1,2] rfl ?_;intro r;rcases r with _| _| _|r<;>rfl
theorem NR(l:List aB)(a:l.length<2^28):Sq 27 [] [.sl 3 (l.map aB.cells)] [] (.bH [.sl 3 ((lJ l).1.map aB.cells),.int .i64 (lJ l).2]):=by
 refine Spec.frozen (Fu l a) [0] rfl ?_;intro r;rcases r with _|r<;>rfl
theorem Ft(l:List aB)(a:l.length<2^27):Sq 28 [] [.sl 3 (l.map aB.cells)] [] (.bH [.sl 4 ((nq l).1.map aJ.cells),.int .i64 (nq l).2]):=by
 refine Spec.frozen (G9 l a) [0] rfl ?_;intro r;rcases r with _|r<;>rfl
theorem Fl(l:bS)(id:Int)(g:List aJ)(b:l.bs.length<2^28)(a:g.length<2^28):Sq 30 [] [.agg l.cells,.int .i64 id,.sl 4 (g.map aJ.cells)] [] (.bH [.agg (kg l id g).cells,.int .i64 (gZ l id g)]):=by
 refine Spec.frozen (HA l id g b a) [0] rfl ?_;intro r;rcases r with _|r<;>rfl
theorem DA(r:aC)(h:r.jT):Sq 31 [] [.agg r.cells] [] (.agg (wZ r).cells):=by
 refine Spec.frozen (O0 r h) [0] rfl ?_;intro r;rcases r with _|r<;>rfl
def zS:au:=⟨0,0,0,⟨[],[],[]⟩,⟨0,[],[]⟩,⟨0,[]⟩,[],[],[],[]⟩
def Ah(s:au):List aB:=(lJ (iE s.aA s.book)).1
def CQ(s:au):List aJ:=(nq (Ah s)).1
def Mz(s:au):Int:=IntKind.wrap .i64 (s.cL.last+1)
def OJ(s:au):bS:=if(CQ s).length=0 then s.cL else kg s.cL (Mz s) (CQ s)
def OI(s:au):Int:=if(CQ s).length=0 then 0 else gZ s.cL (Mz s) (CQ s)
def Mg(s:au)(a:Int):Int:=if a=0 then(if lN s.aA s.book=0 then(if(lJ (iE s.aA s.book)).2=0 then(if(nq (Ah s)).2=0 then OI s else(nq (Ah s)).2)else(lJ (iE s.aA s.book)).2)else lN s.aA s.book)else a
def Q2(s:au)(a:Int):au:=if Mg s a=0 then{ s with phase:=1,aA:=wZ s.aA,book:=ou s.aA s.book,cL:=OJ s }else zS
def SQ(s:au)(a:Int):List aB:=if Mg s a=0 then Ah s else[]
def yc(r:aC)(b:bI):(iE r b).length<=b.qs.length:=by
 unfold iE;split<;>simp
theorem Hr(l:List aB):∀(Z out:List aB),(sF l Z out).1.length<=out.length+Z.length
 | [],out=>by simp[sF]
 |d::r,out=>by
  unfold sF;split
  ·have a:=Hr l r (out++tS l d);have h2:=Ht l d;rw[cT]at a;rw[length_cons];omega
  ·simp
def BD(l:List aB):(lJ l).1.length<=l.length:=by
 unfold lJ;split
 ·have a:=Hr l (Br l) [];have b:=Cr jN (Ag dI l);rw[yp]at b;unfold Br at a;simp only[length_nil]at a;unfold Br;omega
 ·simp
def Ei(l:List aB):(nq l).1.length<=2*l.length:=by
 unfold nq;split
 ·split
  ·have h1:=D7 (jC (lJ l).1);have h2:=qh (lJ l).1;have h3:=BD l;omega
  ·simp
 ·simp
theorem H7(s:au)(r:s.small)(hq:s.book.qs.length<2^24)(J:s.cL.bs.length<2^28)(A:∀x∈s.aM,rq x)(b:Int)(m:Sq 25 [] [.agg s.cells,.int .i64 0] [] (.int .i64 b)) :
  Sq 6 [] [.agg s.cells] [] (.bH [.agg (Q2 s b).cells,.sl 3 ((SQ s b).map aB.cells),.int .i64 (Mg s b)]):=by
 have c2:=qG s r A;have c3:=Ow s.aA s.book r.aA.small r.book;have w:=yc s.aA s.book;have c4:=NR (iE s.aA s.book) aj;have z:=BD (iE s.aA s.book);have p:=Ft (Ah s) (by unfold Ah;omega);have y:=Ei (Ah s);have g:=Fl s.cL (Mz s) (CQ s) J (by unfold CQ Ah at *;omega);have q:=DA s.aA r.aA;have l:(CQ s).length<2^27:=by unfold CQ Ah at *;omega
 obtain⟨F,a⟩:=aV (Mg s b);have h:=a;simp only[Mg,OI]at a;simp only[Q2,SQ,<-h,OJ];clear h;rw[show(lJ (iE s.aA s.book)).1=Ah s from rfl]at c4;rw[show(nq (Ah s)).1=CQ s from rfl]at p;simp only[au.cells]at m c2 |-;simp only[bI.cells,aC.cells]at c3;simp only[aC.cells]at q;simp only[bS.cells]at g;obtain⟨N,E⟩:=aV (Ah s);obtain⟨G,v⟩:=aV (CQ s);obtain⟨ne,n⟩:=aV ((lJ (iE s.aA s.book)).2);obtain⟨D,f⟩:=aV ((nq (Ah s)).2);obtain⟨RD,j⟩:=aV (iE s.aA s.book);obtain⟨RB,i⟩:=aV (ou s.aA s.book);obtain⟨H,o⟩:=aV (lN s.aA s.book);obtain⟨C,c⟩:=aV (gZ s.cL (Mz s) (CQ s));obtain⟨PL,e⟩:=aV (kg s.cL (Mz s) (CQ s));obtain⟨TR,k⟩:=aV (wZ s.aA);rw[<-c,<-e]at g;rw[<-c]at a;rw[<-e];rw[<-f,<-v]at p;rw[<-f]at a;rw[<-n]at c4 a;rw[<-E]at c4 p |-;rw[<-v]at g a l |-;rw[<-j]at c3 c4;rw[<-i]at c3 |-;rw[<-o]at c3 a;rw[<-k]at q |-;clear E v n f j i o c e k z w y;simp only[Mz]at g;refine aX 79 1 [.cell 2 41,.tmp 3,.tmp 4] mixed func6 ?_;refine sc aI m ?_;by_cases t:b=0
 case neg =>
  have d:(b==0)=false:=by simpa using t
  rw[az t]at a;rw[a];simp only[go_sem,seval,bne,d,az t,zS];all_goals rfl
 subst t;rw[aE rfl]at a;refine sc aI c3 ?_;by_cases k1:H=0
 case neg =>
  have d:(H==0)=false:=by simpa using k1
  rw[az k1]at a;rw[a];simp only[go_sem,seval,bne,d,az k1,zS];all_goals rfl
 subst k1;rw[aE rfl]at a;refine sc aI c4 ?_;by_cases k2:ne=0
 case neg =>
  have d:(ne==0)=false:=by simpa using k2
  rw[az k2]at a;rw[a];simp only[go_sem,seval,bne,d,az k2,zS];all_goals rfl
 subst k2;rw[aE rfl]at a;refine sc aI p ?_;by_cases k3:D=0
 case neg =>
  have d:(D==0)=false:=by simpa using k3
  rw[az k3]at a;rw[a];simp only[go_sem,seval,bne,d,az k3,zS];all_goals rfl
 subst k3;rw[aE rfl]at a;refine sc aI c2 ?_;by_cases u:G.length=0
 ·have d:decide ((0:Int)<(G.length:Int))=false:=kR;rw[aE u]at a;rw[a];simp only[go_sem,seval,d,aE u];exact qt aI q
 ·have d:decide ((0:Int)<(G.length:Int))=true:=kN;rw[az u]at a;rw[a];simp only[go_sem,seval,d,az u];refine sc aI g ?_;by_cases B:C=0
  case neg =>
   have I:(C==0)=false:=by simpa using B
   simp only[go_sem,seval,bne,I,az B,zS];all_goals rfl
  subst B;exact qt aI q
def CW(b:bI)(h:b.small):Sq 135 [] [.agg b.cells] [] (.agg b.cells):=by
 have c1:=rF b.ts h.1;have c2:=tY b.qs h.2;simp only[bI.cells];refine aX 12 1 [.cell 2 32] mixed func135 ?_;refine sc aI c1 ?_;exact qt aI c2
theorem Aw(b:bI)(h:b.small):Sq 44 [] [.agg b.cells] [] (.agg (bI.cells ⟨b.next,[],b.qs⟩)):=by
 have c1:=CW b h;simp only[bI.cells]at c1 |-;refine aX 7 1 [.cell 2 32] mixed func44 ?_;simp only[go_sem,seval];(with_reducible and_intros)<;>first|exact .dq|omega|skip
 refine ak.aH c1 ?_;simp only[go_sem,seval];all_goals rfl
def Pt(s:au)(a:Int):Int:=if a=0 then(if 1099511627776<=s.day then 1 else 0)else a
def Qw(s:au)(a:Int):au:=if Pt s a=0 then{ s with day:=s.day+1,phase:=0,book:=⟨s.book.next,[],s.book.qs⟩ }else zS
theorem LS(s:au)(f:s.small)(g:fP s.day)(c:∀x∈s.aM,rq x)(a:Int)(b:Sq 25 [] [.agg s.cells,.int .i64 2] [] (.int .i64 a)) :
  Sq 10 [] [.agg s.cells] [] (.bH [.agg (Qw s a).cells,.int .i64 (Pt s a)]):=by
 have c2:=qG s f c;have c3:=Aw s.book f.book;unfold Qw Pt;simp only[au.cells]at b c2 |-;simp only[bI.cells]at c3;refine aX 34 1 [.cell 2 41,.tmp 3] mixed func10 ?_;refine sc aI b ?_;by_cases e:a=0
 case neg =>
  have d:(a==0)=false:=by simpa using e
  simp only[go_sem,seval,bne,d,az e,zS];all_goals rfl
 subst e;by_cases k1:1099511627776<=s.day
 ·have d:decide (1099511627776<=s.day)=true:=gJ k1;simp only[go_sem,seval,d,aE k1,az (by decide:¬(1:Int)=0),zS];all_goals rfl
 have d:decide (1099511627776<=s.day)=false:=kY k1;have wd:IntKind.wrap .i64 (s.day+1)=s.day+1:=lF (by have:=g.1;omega) aj;simp only[go_sem,seval,d,az k1,wd];refine sc aI c2 ?_;refine sc aI c3 ?_;simp only[go_sem,seval,wd];all_goals first|rfl|simp
theorem oG(s:au)(p:Int)(a:s.small)(hr:s.right):Sq 25 [] [.agg s.cells,.int .i64 p] [] (.int .i64 (if s.phase=p then 0 else 15)):=by
 have c1:=iz s a;rw[dh.2 hr]at c1;simp only[if_true]at c1;simp only[au.cells]at c1 |-;refine aX 18 2 [.tmp 4] mixed func25 ?_;by_cases h:s.phase=p
 ·have q:(s.phase==p)=true:=by simpa using h
  rw[aE h];refine sc aI c1 ?_;simp only[go_sem,seval,bne,q]
 ·have q:(s.phase==p)=false:=by simpa using h
  rw[az h];refine sc aI c1 ?_;simp only[go_sem,seval,bne,q]
def Vj(s:au)(w c:Int):bR (Ex s w c)=true:=by
 unfold Ex sD;(repeat' split)<;>first|rfl|simp_all
def Mm{r:aC}(h:r.okB=true):∀w∈kk r [1],1<=w/\w<=16:=λw b=>by
 obtain⟨m,a,-,rfl⟩:=Hx b;exact(zZ ((jj.1 h).1.1 m a)).1
def MU{xs:List aq}{w c n t:Int}(h:l7 bD bg xs=true)(f:1<=w/\w<=16)(d:0<=c/\c<=2)(e:0<=n/\n<=4611686018427387904)(ht:0<=t/\t<=1099511627776):oZ xs ⟨w,c,n⟩ t=0:=by
 have a:uc ⟨w,c,n⟩=true:=EY.2 ⟨f,d,e⟩;have b:within t 0 1099511627776=true:=by simp[within];omega
 simp only[oZ,h,a,b];rfl
def SK(s:au):(oS s).2=if nj (cI s)=0 then(if(iB (cI s)).length=0 then 0 else dU s.cL (nextId s.cL) (iB (cI s)))else nj (cI s):=by
 unfold oS uU;by_cases h:nj (cI s)=0
 ·by_cases a:iB (cI s)=[]
  ·rw[az λk=>k.2 a,aE h,a,h];rfl
  ·rw[aE ⟨h,a⟩,aE h,az λk=>a (eq_nil_of_length_eq_zero k)]
 ·rw[az λk=>h k.1,az h]
def aa8{s:au}(h:nj (cI s)=0):(oS s).1=if(iB (cI s)).length=0 then s.cL else lT s.cL (nextId s.cL) (iB (cI s)):=by
 unfold oS uU;by_cases a:iB (cI s)=[]
 ·rw[az λk=>k.2 a,a];rfl
 ·rw[aE ⟨h,a⟩,az λk=>a (eq_nil_of_length_eq_zero k)]
def st_eq{s:au}(hr:s.right):Mg s (if s.phase=0 then 0 else 15)=eU s/\Q2 s (if s.phase=0 then 0 else 15)=eV s/\SQ s (if s.phase=0 then 0 else 15)=ia s:=by
 have k:=dh.2 hr;have j:=z7 (iE s.aA s.book);have c:Ah s=cI s:=by rw[Ah,cI,j]
 have i:=NU (λ_ h=>rS.2 h) vu (cI s);have f:CQ s=iB (cI s):=by rw[CQ,c,i]
 have l:=post_eq (λ_ h=>rS.2 h) vu (λbs h=>Kn.1 h) s.cL (Mz s) (iB (cI s));have g:Mz s=nextId s.cL:=rfl;have d:OI s=if(iB (cI s)).length=0 then 0 else dU s.cL (nextId s.cL) (iB (cI s)):=by rw[OI,f,l.1,g]
 have e:OJ s=if(iB (cI s)).length=0 then s.cL else lT s.cL (nextId s.cL) (iB (cI s)):=by rw[OJ,f,l.2,g]
 have b:Mg s (if s.phase=0 then 0 else 15)=eU s:=by
  unfold Mg eU;rw[k,aE rfl,SK,c,i,d,j];by_cases h:s.phase=0
  ·rw[aE h,aE rfl,aE h]
  ·rw[az h,az (by decide),az h]
 have m:eU s=0->nj (cI s)=0:=λh=>by
  unfold eU at h;rw[k,aE rfl,SK]at h;split at h
  ·split at h
   ·split at h
    ·split at h
     ·assumption
     ·exact h
    ·rename_i a;exact absurd h a
   ·rename_i a;exact absurd h a
  ·cases h
 refine⟨b,?_,?_⟩
 ·unfold Q2 eV;rw[b];split
  ·rename_i h;rw[e,aa8 (m h)]
  ·rfl
 ·unfold SQ ia;rw[b,c]
def op_eq{s:au}(hr:s.right):Qw s (if s.phase=2 then 0 else 15)=lS s/\Pt s (if s.phase=2 then 0 else 15)=nr s:=by
 have b:Pt s (if s.phase=2 then 0 else 15)=nr s:=by
  have hk:=hr.K8;unfold Pt nr;rw[dh.2 hr,aE rfl];by_cases h:s.phase=2
  ·rw[aE h,aE rfl,aE h];by_cases a:s.day=1099511627776
   ·rw[aE a,aE aj]
   ·rw[az a,az aj]
  ·rw[az h,az (by decide),az h]
 refine⟨?_,b⟩;unfold Qw lS;rw[b];split<;>rfl
set_option maxHeartbeats 4000000
set_option maxRecDepth 16000
theorem Jw(s:au)(q:s.small)(hq:s.book.qs.length<2^24)(L:s.cL.bs.length<2^28)(B:∀x∈s.aM,x.r.fits)(b:Int)(m:Sq 25 [] [.agg s.cells,.int .i64 0] [] (.int .i64 b)) :
  Sq 6 [] [.agg s.cells] (qJ (Q2 s b)++[.own 3 ((SQ s b).map aB.cells)]) (.bH [.agg (fE (Q2 s b)),.ref 10,.I (Mg s b)]):=by
 have c2:=oH s q B;have c3:=Kz s.aA s.book q.aA.small q.book;have y:=yc s.aA s.book;have c4:=Fu (iE s.aA s.book) aj;have A:=BD (iE s.aA s.book);have p:=G9 (Ah s) (by unfold Ah;omega);have z:=Ei (Ah s);have g:=HA s.cL (Mz s) (CQ s) L (by unfold CQ Ah at *;omega);have v:=Mo s.aA q.aA;have l:(CQ s).length<2^27:=by unfold CQ Ah at *;omega
 obtain⟨F,a⟩:=aV (Mg s b);have h:=a;simp only[Mg,OI]at a;simp only[Q2,SQ,<-h,OJ];clear h;rw[show(lJ (iE s.aA s.book)).1=Ah s from rfl]at c4;rw[show(nq (Ah s)).1=CQ s from rfl]at p;simp only[au.cells,qJ,fE,cons_append,nil_append]at m c2 |-;simp only[bI.cells,aC.cells]at c3;simp only[aC.cells]at v;simp only[bS.cells]at g;obtain⟨N,H⟩:=aV (Ah s);obtain⟨G,w⟩:=aV (CQ s);obtain⟨ne,n⟩:=aV ((lJ (iE s.aA s.book)).2);obtain⟨E,f⟩:=aV ((nq (Ah s)).2);obtain⟨RD,j⟩:=aV (iE s.aA s.book);obtain⟨RB,i⟩:=aV (ou s.aA s.book);obtain⟨J,o⟩:=aV (lN s.aA s.book);obtain⟨D,c⟩:=aV (gZ s.cL (Mz s) (CQ s));obtain⟨PL,e⟩:=aV (kg s.cL (Mz s) (CQ s));rw[<-c,<-e]at g;rw[<-c]at a;rw[<-e];rw[<-f,<-w]at p;rw[<-f]at a;rw[<-n]at c4 a;rw[<-H]at c4 p |-;rw[<-w]at g a l |-;rw[<-j]at c3 c4;rw[<-i]at c3 |-;rw[<-o]at c3 a;have k:wZ s.aA=⟨s.aA.ms,s.aA.ns.map ay.fm,s.aA.xs⟩:=rfl;clear H w n f j i o c e A y z;rw[k];clear k;simp only[Mz]at g;refine aX 79 1 [.cell 2 41,.tmp 3,.tmp 4] mixed func6 ?_;refine sc aI m ?_;by_cases t:b=0
 case neg =>
  have d:(b==0)=false:=su t;rw[az t]at a;rw[a];simp only[go_sem,seval,bne,d,az t,zS];all_goals rfl
 subst t;rw[aE rfl]at a;refine so aI c3 ?_;by_cases k1:J=0
 case neg =>
  have d:(J==0)=false:=su k1;rw[az k1]at a;rw[a];simp only[go_sem,seval,bne,d,az k1,zS];all_goals rfl
 subst k1;rw[aE rfl]at a;refine s0 ?_;refine bG ?_;refine ak.fk [370] [] false sT ?_;refine s0 ?_;refine bX.fV c4 ?_;by_cases k2:ne=0
 case neg =>
  have d:(ne==0)=false:=su k2;rw[az k2]at a;rw[a];simp only[go_sem,seval,bne,d,az k2,zS];all_goals rfl
 subst k2;rw[aE rfl]at a;refine s0 ?_;refine bG ?_;refine ak.fk [] [] true sT ?_;refine s0 ?_;refine bX.xH p ?_;by_cases k3:E=0
 case neg =>
  have d:(E==0)=false:=su k3;rw[az k3]at a;rw[a];simp only[go_sem,seval,bne,d,az k3,zS];all_goals rfl
 subst k3;rw[aE rfl]at a;refine so aI c2 ?_;refine bG ?_;by_cases u:G.length=0
 ·have d:decide ((0:Int)<(G.length:Int))=false:=kR;rw[aE u]at a;rw[a];simp only[go_sem,seval,d,aE u];exact Vs aI v
 ·have d:decide ((0:Int)<(G.length:Int))=true:=kN;rw[az u]at a;rw[a];simp only[go_sem,seval,d,az u];refine bG ?_;refine ak.fk [672] [] false sT ?_;refine s0 ?_;refine bX.fV g ?_;by_cases C:D=0
  case neg =>
   have K:(D==0)=false:=su C;simp only[go_sem,seval,bne,K,az C,zS];all_goals rfl
  subst C;exact Vs aI v
theorem N9(s:au)(f:s.small)(g:fP s.day)(c:∀x∈s.aM,x.r.fits)(a:Int)(b:Sq 25 [] [.agg s.cells,.int .i64 2] [] (.int .i64 a)) :
  Sq 10 [] [.agg s.cells] (qJ (Qw s a)) (.bH [.agg (fE (Qw s a)),.I (Pt s a)]):=by
 have c2:=oH s f c;have c3:=CV s.book f.book;unfold Qw Pt;simp only[au.cells,qJ,fE]at b c2 |-;simp only[bI.cells]at c3;refine aX 34 1 [.cell 2 41,.tmp 3] mixed func10 ?_;refine sc aI b ?_;by_cases e:a=0
 case neg =>
  have d:(a==0)=false:=su e;simp only[go_sem,seval,bne,d,az e,zS];all_goals rfl
 subst e;by_cases k1:1099511627776<=s.day
 ·have d:decide (1099511627776<=s.day)=true:=gJ k1;simp only[go_sem,seval,d,aE k1,az (by decide:¬(1:Int)=0),zS];all_goals rfl
 have d:decide (1099511627776<=s.day)=false:=kY k1;have wd:IntKind.wrap .i64 (s.day+1)=s.day+1:=lF (by have:=g.1;omega) aj;simp only[go_sem,seval,d,az k1,wd];refine so aI c2 ?_;refine bG ?_;refine ak.fk [] [] true sT ?_;refine s0 ?_;refine bX.xH c3 ?_;simp only[go_sem,seval,wd];all_goals first|rfl|simp
def C2(s:au)(y:s.small)(hr:s.right)(ad:∀x∈s.aM,x.r.fits) :
  Sq 8 [] [.agg s.cells] (qJ (eT s)++[.own 3 ((iT s).map aB.cells)]) (.bH [.agg (fE (eT s)),.ref 10,.I (gw s)]):=by
 have c1:=oG s 1 y hr;have c2:=oH s y ad;have c3:=JI s.aA [1] y.aA sT;have u:s.fit:=⟨y.aA.small,y.book,y.cL,y.ps⟩
 have V:=λw c=>Jx s w c u;have cA:=λxs d (h:xs.length<2^29)=>Gl xs d (uh s) h;have ae:=vf s.aA [1];have hml:=y.aA.1;have l:=Mm hr.aA;have hclk:=hr.K8.1;have hlen:=hr.lens.calls;obtain⟨E,o⟩:=aV (gw s);have H:=o;simp only[gw,dh.2 hr,if_true]at o;simp only[eT,iT,<-H];clear H;obtain⟨R,W⟩:=aV (Ja s);rw[<-W]at o |-;simp only[Ja]at W;obtain⟨G,U⟩:=aV (kk s.aA [1]);rw[<-U]at c3 W ae l;clear U;have hA:uh s=min (s.now+3) 1099511627776:=rfl;have hw:IntKind.wrap .i64 (s.now+3)=s.now+3:=lF aj aj;have q:=hr.calls;simp only[au.cells,qJ,fE,cons_append,nil_append]at c1 c2 V |-;rw[show ints [1]=[[.I 1]]from rfl]at c3;simp only[aC.cells]at c3;simp only[aB.cells]at cA;by_cases Z:s.phase=1
 case neg =>
  rw[az Z]at o c1;rw[o];refine aX 78 1 [.cell 2 41,.tmp 3,.tmp 4] mixed func8 ?_;refine sc aI c1 ?_;try simp only[go_sem,seval,bne]
  all_goals simp[au.zero,pl]
 rw[aE Z]at o c1;obtain⟨ph,N⟩:=aV (s.phase);rw[<-N]at Z c1 c2 V |-;clear N hr u;refine aX 78 1 [.cell 2 41,.tmp 3,.tmp 4] mixed func8 ?_;refine sc aI c1 ?_;refine so aI c2 ?_;refine bG ?_;refine ak.fk [400] [] false sT ?_;refine s0 ?_;refine bX.fV c3 ?_;clear c1 c2 c3;simp only[go_sem,seval,aL];refine aF.mN (S:=List aq×List aB) G.length [1,2,6,25,26] [32,48,352,353,354,355,356,357,358,360,361] (λi _=>[(3,.nil),(4,.I 0),(27,.I i),(7,.ref 1152)])
  (λi x=>[(112,.box [.I s.now,.I s.day,.I ph,.ref 352,.ref 353,.ref 354,.I s.book.next,.ref 355,.ref 356,.I s.cL.last,.ref 357,.ref 358,.ref 359,.ref 360,.ref 361]),(359,.own 4 (x.1.map aq.cells)),(1152,.own 3 (x.2.map aB.cells))])
  (λi x=>mZ s (G.drop i) x=R/\(x.1.length<2^29/\l7 bD bg x.1=true)/\x.2.length<=3*i) (s.calls,[]) ⟨W.symm,⟨by dsimp only;omega,q⟩,cX _⟩ ?_ ?_ ?_
 ·exact lA
 ·intro i x X ab ag b;obtain⟨cs,ds⟩:=x;obtain⟨b,f,g⟩:=b;dsimp only at b f g |-;rw[fX X]at b;simp only[mZ]at b;have M:=ints_at G X;have hli:(i:Int)<(G.length:Int):=aj
  have B:=V G[i];have T:=l G[i] (cZ X);obtain⟨w,O⟩:=aV (G[i]);rw[<-O]at b M B T;obtain⟨Q,hQ⟩:=aV (kF s w 3 0 (cs,ds));rw[<-hQ]at b;clear V O l;simp only[go_sem,seval,aL,ab,M];refine bG ?_;refine aF.mN (S:=List aq×List aB) 3 [1,2,6,9,25,26,27] [32,48,352,353,354,355,356,357,358,360,361] (λc _=>[(3,.nil),(4,.I 0),(31,.I c),(7,.ref 1152)])
   (λc x=>[(112,.box [.I s.now,.I s.day,.I ph,.ref 352,.ref 353,.ref 354,.I s.book.next,.ref 355,.ref 356,.I s.cL.last,.ref 357,.ref 358,.ref 359,.ref 360,.ref 361]),(359,.own 4 (x.1.map aq.cells)),(1152,.own 3 (x.2.map aB.cells))])
   (λc x=>kF s w (3-c) c x=Q/\(x.1.length<2^29/\l7 bD bg x.1=true)/\x.2.length<=3*i+c) (cs,ds) ⟨hQ.symm,f,g⟩ ?_ ?_ ?_
  ·exact lA
  ·intro c x hc D P a;obtain⟨cs,ds⟩:=x;obtain⟨a,f,g⟩:=a;dsimp only at a f g |-;have D:decide ((c:Int)<3)=true:=D;obtain⟨m,hm⟩:∃m,3-c=m+1:=⟨3-c-1,by omega⟩
   have L:3-(c+1)=m:=aj
   rw[hm]at a;simp only[kF]at a;have z:=B c;have j:=cA cs ⟨w,c,Ex s w c⟩ f.1;have C:=Gg cs ⟨w,c,Ex s w c⟩ (uh s);have k:=(J0 (d:=⟨w,c,Ex s w c⟩) (t:=uh s) f.2).1;have K:=fY.1 (Vj s w c);have v:KD s w c=0->0<=Ex s w c:=λh=>by have:=(aa' h).2.2.2.1;omega
   have p:=λh=>MU (c:=(c:Int)) (t:=uh s) f.2 T ⟨by omega,by omega⟩ ⟨v h,K.2⟩ ⟨by omega,by omega⟩;dsimp only at j;obtain⟨n,hn⟩:=aV (Ex s w c);obtain⟨e,he⟩:=aV (KD s w c);rw[<-hn]at z j a C k p;rw[<-he]at z a p;rw[hA]at j a C k p;clear cA B hn he v K;refine sm D ?_;try(with_reducible and_intros)<;>first|exact .dq|omega|skip
   refine ak.aH z ?_;by_cases F:e=0
   case neg =>
    have d:(e==0)=false:=su F;rw[az F]at a;rw[<-a]at b;dsimp only at b;rw[az F]at b;rw[<-b]at o;rw[o];simp only[az F];refine sm (a2 lH d) ?_;all_goals simp[au.zero,pl]
   rw[aE F]at a;rw[p F]at j;rw[F];refine sm hw ?_;refine bG ?_;refine ak.fk [] [] true sT ?_;refine s0 ?_;refine bX.xH j ?_;obtain⟨A,aa⟩:=aV (tO cs ⟨w,c,n⟩ (min (s.now+3) 1099511627776));rw[<-aa]at a C k |-
   by_cases Y:n=0
   ·have a:kF s w m (c+1) (A,ds)=Q:=by rw[<-a];simp[uR,Y]
    rw[Y];refine sm (a2 lH P) ?_;refine bG ?_;refine af.jz (A,ds) hc ⟨by rw[L];exact a,⟨by dsimp only;omega,k⟩,by dsimp only;omega⟩ ?_;exact lA
   ·have d:(n==0)=false:=su Y;have a:kF s w m (c+1) (A,ds++[⟨w,c,n⟩])=Q:=by rw[<-a];simp[uR,Y]
    refine sm (a3 lH d P) ?_;refine bG ?_;refine af.jz (A,ds++[⟨w,c,n⟩]) hc ⟨by rw[L];exact a,⟨by dsimp only;omega,k⟩,by simp;omega⟩ ?_;exact lA
  intro x J a;obtain⟨cs,ds⟩:=x;obtain⟨a,f,g⟩:=a;have a:((cs,ds),(0:Int))=Q:=a;rw[<-a]at b;dsimp only at b f g;rw[aE rfl]at b;dsimp only;try refine dM.id ?_
  refine sm (a2 ag J) ?_;try(with_reducible and_intros)<;>first|exact .dq|omega|skip
  refine af.jz (cs,ds) X ⟨b,f,by dsimp only;omega⟩ ?_;exact lA
 intro x ac b;obtain⟨cs,ds⟩:=x;have b:=b.1;rw[mT]at b;have b:((cs,ds),(0:Int))=R:=b;subst b;rw[o];dsimp only;refine sm ac ?_;all_goals simp
theorem Gy(s:au)(n:Int)(hr:s.right)(w:s.small)(k:∀x∈s.aM,x.r.fits)(hn:fP n):Sq 12 [] [.agg s.cells,.int .i64 n] (qJ (cy s n)++[.own 3 ((eZ s n).map aB.cells)]) (.bH [.agg (fE (cy s n)),.ref 10,.int .i64 (gj s n)]):=by
 have c1:=iz s w;have j:=dh.2 hr;rw[j]at c1;simp only[if_true]at c1;have q:gj s n=if within n 1 1000 then(if 1099511627776<s.now+n then 1 else 0)else 3:=by rw[gj,j];rfl
 have hclk:=hr.K8;simp only[au.cells]at c1 |-;simp only[qJ,fE,cons_append,nil_append];refine aX 91 2 [.cell 4 41,.tmp 5,.tmp 6] mixed func12 ?_;refine sc aI c1 ?_;by_cases w1:n<1
 ·have o:decide (n<1)=true:=gJ w1;have e:gj s n=3:=by rw[q,az];simp[within];omega
  have e2:cy s n=.zero:=by rw[cy,az aj]
  have f:eZ s n=[]:=by rw[eZ,az aj]
  rw[e,e2,f];simp only[go_sem,seval,o]<;>simp[au.zero,pl]
 have o:decide (n<1)=false:=kY w1;by_cases w2:1000<n
 ·have C:decide (1000<n)=true:=gJ w2;have e:gj s n=3:=by rw[q,az];simp[within];omega
  have e2:cy s n=.zero:=by rw[cy,az aj]
  have f:eZ s n=[]:=by rw[eZ,az aj]
  rw[e,e2,f];simp only[go_sem,seval,o,C]<;>simp[au.zero,pl]
 have C:decide (1000<n)=false:=kY w2;have A:IntKind.wrap .i64 (1099511627776-n)=1099511627776-n:=lF aj aj;by_cases w3:1099511627776-n<s.now
 ·have H:decide (1099511627776-n<s.now)=true:=gJ w3;have e:gj s n=1:=by rw[q,aE (by simp[within];omega),aE aj]
  have e2:cy s n=.zero:=by rw[cy,az aj]
  have f:eZ s n=[]:=by rw[eZ,az aj]
  rw[e,e2,f];simp only[go_sem,seval,o,C,A,H]<;>simp[au.zero,pl]
 have H:decide (1099511627776-n<s.now)=false:=kY w3;have e:gj s n=0:=by rw[q,aE (by simp[within];omega),az aj]
 have c2:=oH s w k;have c3:=G5 (s.now+n) s.calls w.calls;have e2:cy s n={ s with now:=s.now+n,aA:=(fc (dR (s.now+n) s.calls) (s.aA,fM (s.now+n) s.calls)).1,calls:=(fc (dR (s.now+n) s.calls) (s.aA,fM (s.now+n) s.calls)).2 }:=by
  rw[cy,aE e,G4,yu _ _ s.calls (fM (s.now+n) s.calls)]
 have f:eZ s n=(dR (s.now+n) s.calls).map aq.due:=by rw[eZ,aE e]
 have z:∀c∈dR (s.now+n) s.calls,cr s.aA c.who≠0:=λc h=>by
  obtain⟨x,hx,h⟩:=mem_flatMap.1 h;split at h
  ·obtain rfl:=kK.1 h;have:=hr.known.cs _ hx;omega
  ·cases h
 have Q:(dR (s.now+n) s.calls).length<=1*s.calls.length:=gB (λx=>by split<;>simp) _;have T:(fM (s.now+n) s.calls).length<=1*s.calls.length:=gB (λx=>by split<;>simp) _;have hsc:=w.calls;have U:=w.aA;rw[e,e2,f];obtain⟨l,u⟩:=aV (dR (s.now+n) s.calls);obtain⟨b,t⟩:=aV (fM (s.now+n) s.calls);obtain⟨N,D⟩:=aV (s.now+n);have V:IntKind.wrap .i64 (s.now+n)=N:=by rw[D];exact lF aj aj
 rw[<-D]at c3 u t |-;rw[<-u,<-t]at c3;rw[<-D,<-u]at z Q;rw[<-D,<-t]at T;rw[<-u,<-t];obtain⟨R,hR⟩:=aV (fc l (s.aA,b));rw[<-hR];simp only[au.cells,qJ,fE]at c2 |-;clear q j e e2 f c1 u t w1 w2 w3;refine so (a5 o C A H V) c2 ?_;refine bG ?_;refine ak.fk [] [] true sT ?_;refine s0 ?_;refine bX.xH c3 ?_;refine s0 ?_;refine bG ?_;refine aF.mN (S:=aC×List aq) l.length [4,8,55,56] [80,848,627,628,629,630,631,632,633] (λi x=>[(57,.I i),(11,.ref 1056),(10,.ref 849)])
  (λi x=>[(1056,.own 3 (((l.take i).map aq.due).map aB.cells)),(144,.box [.I N,.I s.day,.I s.phase,.ref 624,.ref 625,.ref 626,.I s.book.next,.ref 627,.ref 628,.I s.cL.last,.ref 629,.ref 630,.ref 631,.ref 632,.ref 633]),(624,.own 3 (x.1.ms.map ah.cells)),(625,.own 12 (x.1.ns.map ay.cells)),(626,.own 4 (x.1.xs.map av.cells)),(849,.own 4 (x.2.map aq.cells))])
  (λi x=>fc (l.drop i) x=R/\x.1.jT/\x.2.length<2^30/\x.1.okB=true/\∀c∈l.drop i,cr x.1 c.who≠0) (s.aA,b) ⟨hR.symm,U,by show b.length<2^30;omega,hr.aA,z⟩ ?_ ?_ ?_
 ·exact lA
 ·intro i x E K X J;obtain⟨r,cs⟩:=x;obtain⟨d,Y,Z,F,B⟩:=J;simp only at Y Z F;obtain⟨y,hy,hm,hli⟩:=uy (c:=aq.cells) l E;rw[drop_eq_getElem_cons E]at d B;have m:=B _ (mem_cons_self ..);have a:((l.take (i+1)).map aq.due).map aB.cells=((l.take i).map aq.due).map aB.cells++[aB.cells l[i].due]:=by rw[kM E,jH,jH];rfl
  have L:(((l.take i).map aq.due).map aB.cells).length=i:=by simp;omega
  rw[<-hy]at d B m a;obtain⟨O,hO⟩:=aV (((l.take i).map aq.due).map aB.cells);rw[<-hO]at a L |-;have c4:=yW cs [y.who] Z sT;have G:=FK r y.who Y F ((JE F).1 m);have v:=xT F m (p:=2) aj;obtain⟨p1,p2,_⟩:=FA v;simp only[fc]at d;have g:fc (l.drop (i+1)) (ga r y.who 2,bJ cs [y.who])=R/\(ga r y.who 2).jT/\(bJ cs [y.who]).length<2^30/\(ga r y.who 2).okB=true/\∀c∈l.drop (i+1),cr (ga r y.who 2) c.who≠0:=
   ⟨d,xV Y _ _,Nat.lt_of_le_of_lt (rB _ _) Z,p1,λc h=>by
    rw[p2];split
    ·decide
    ·exact B c (mem_cons_of_mem _ h)⟩
  simp only[aq.cells]at hm;simp only[ints,map_cons,map_nil,aC.cells]at c4 G;simp only[aq.due,aB.cells]at a;obtain⟨W,hW⟩:=aV (bJ cs [y.who]);obtain⟨P,hP⟩:=aV (ga r y.who 2);rw[<-hW]at c4 g;rw[<-hP]at G g;clear hy hO hW hP d B p1 p2 v;refine sm (a2 K hm) ?_;refine bG ?_;refine ak.fk [1136] [] true sT ?_;refine s0 ?_;refine bX.xH c4 ?_;refine s0 ?_;refine bG ?_;refine ak.fk [] [] true sT ?_;refine s0 ?_;refine bX.xH G ?_;refine sm X ?_;refine bG ?_;refine af.jz (P,W) E ?_ ?_
  ·exact g
  exact dJ a
 ·intro x M J;obtain⟨r,cs⟩:=x;obtain⟨d,_⟩:=J;rw[mT]at d;simp only[fc]at d;rw[<-d];simp only[go_sem,seval,M,ef]
theorem C3(s:au)(b:s.small)(hr:s.right)(a:∀x∈s.aM,rq x):Sq 6 [] [.agg s.cells] [] (.bH [.agg (eV s).cells,.sl 3 ((ia s).map aB.cells),.int .i64 (eU s)]):=by
 have c1:=H7 s b (by have:=hr.lens.qs;omega) (by have:=hr.lens.bs;omega) a _ (oG s 0 b hr);obtain⟨c,e2,d⟩:=st_eq hr;rwa[c,e2,d]at c1
theorem Gx(s:au)(b:s.small)(hr:s.right)(a:∀x∈s.aM,rq x):Sq 10 [] [.agg s.cells] [] (.bH [.agg (lS s).cells,.int .i64 (nr s)]):=by
 have c1:=LS s b (by have:=hr.K8;exact⟨by omega,by omega⟩) a _ (oG s 2 b hr);obtain⟨c,e2⟩:=op_eq hr;rwa[c,e2]at c1
def xk(t p:Int):au:=⟨t,0,p,⟨[],[],[]⟩,⟨0,[],[]⟩,⟨0,[]⟩,[],[],[],[]⟩
def yq(t p:Int):(xk t p).small:=⟨⟨by simp[xk],by simp[xk],by simp[xk]⟩,⟨by simp[xk],by simp[xk]⟩,by simp[xk],by simp[xk],by simp[xk],by simp[xk],by simp[xk],by simp[xk]⟩
def Im:Sq 18 [] [] [] (.bool true):=by
 have a:=EW (xk 0 0) 2 (dh.1 (by kernel_rfl)) (yq _ _) (by simp[xk]) ⟨by decide,by decide⟩;rw[show cy (xk 0 0) 2=xk 2 0 from rfl,show eZ (xk 0 0) 2=[]from rfl,show gj (xk 0 0) 2=0 from rfl]at a;have b:=C3 (xk 2 0) (yq _ _) (dh.1 (by kernel_rfl)) (by simp[xk]);rw[show eV (xk 2 0)=xk 2 1 by kernel_rfl,show ia (xk 2 0)=[]by kernel_rfl,show eU (xk 2 0)=0 by kernel_rfl]at b;have c:=Gx (xk 2 1) (yq _ _) (dh.1 (by kernel_rfl)) (by simp[xk]);rw[show nr (xk 2 1)=15 by kernel_rfl]at c;simp only[au.cells,xk,map_nil,pl]at a b c;replace a:=Spec.Km a (ds':=[.agg [.I 0,.I 0,.I 0,.nil,.nil,.nil,.I 0,.nil,.nil,.I 0,.nil,.nil,.nil,.nil,.nil],.I 2]) (by simp[ju,iR]);refine aX 48 0 [.tmp 0] mixed func18 ?_;refine sc aI a ?_;refine sc aI b ?_;exact qt aI c
set_option maxHeartbeats 4000000
set_option maxRecDepth 16000
def xA(s:au)(p:Int)(a:s.small):Sq 25 [] [.agg s.cells,.I p] [] (.I (if bf s then(if s.phase=p then 0 else 15)else 14)):=by
 by_cases hr:bf s=true
 ·rw[aE hr];exact oG s p a (dh.1 hr)
 ·have c1:=iz s a;rw[az hr]at c1 |-;simp only[au.cells]at c1 |-;refine aX 18 2 [.tmp 4] mixed func25 ?_;refine s0 ?_;(with_reducible and_intros)<;>first|exact .dq|omega|skip
  refine ak.aH c1 ?_;simp only[go_sem,seval,seval]
def Jv(s:au)(d:s.small)(g:s.book.qs.length<2^24)(f:s.cL.bs.length<2^28) :
  Sq 6 [] [.agg s.cells] (qJ (eV s)++[.own 3 ((ia s).map aB.cells)]) (.bH [.agg (fE (eV s)),.ref 10,.I (eU s)]):=by
 have c:=Jw s d g f d.rs _ (xA s 0 d);by_cases hr:bf s=true
 ·rw[aE hr]at c;obtain⟨a,e2,b⟩:=st_eq (dh.1 hr);rwa[a,e2,b]at c
 ·rw[az hr]at c;have e:eU s=14:=by rw[eU,az hr]
  have a:Mg s 14=14:=by rw[Mg,az (by decide)]
  have e2:Q2 s 14=eV s:=by rw[Q2,eV,az (by rw[a];decide),az (by rw[e];decide)];rfl
  have b:SQ s 14=ia s:=by rw[SQ,ia,az (by rw[a];decide),az (by rw[e];decide)]
  rw[a,e2,b]at c;rw[e];exact c
def N7(s:au)(b:s.small)(d:fP s.day):Sq 10 [] [.agg s.cells] (qJ (lS s)) (.bH [.agg (fE (lS s)),.I (nr s)]):=by
 have c:=N9 s b d b.rs _ (xA s 2 b);by_cases hr:bf s=true
 ·rw[aE hr]at c;obtain⟨a,e2⟩:=op_eq (dh.1 hr);rwa[a,e2]at c
 ·rw[az hr]at c;have e:nr s=14:=by rw[nr,az hr]
  have a:Pt s 14=14:=by rw[Pt,az (by decide)]
  have e2:Qw s 14=lS s:=by rw[Qw,lS,az (by rw[a];decide),az (by rw[e];decide)];rfl
  rw[a,e2]at c;rw[e];exact c
def Jb(s:au)(a:s.small):Sq 8 [] [.agg s.cells] (qJ (eT s)++[.own 3 ((iT s).map aB.cells)]) (.bH [.agg (fE (eT s)),.ref 10,.I (gw s)]):=by
 by_cases hr:bf s=true
 ·exact C2 s a (dh.1 hr) a.rs
 ·have c1:=xA s 1 a;rw[az hr]at c1;have e:gw s=14:=by rw[gw,az hr]
  rw[show eT s=.zero by rw[eT,az (by rw[e];decide)],show iT s=[]by rw[iT,az (by rw[e];decide)],e];simp only[au.cells,qJ,fE,cons_append,nil_append]at c1 |-;refine aX 78 1 [.cell 2 41,.tmp 3,.tmp 4] mixed func8 ?_;refine sc aI c1 ?_;try simp only[go_sem,seval,bne]
  all_goals simp[au.zero,pl]
def OS(s:au)(n:Int)(a:s.small)(b:fP n):Sq 12 [] [.agg s.cells,.I n] (qJ (cy s n)++[.own 3 ((eZ s n).map aB.cells)]) (.bH [.agg (fE (cy s n)),.ref 10,.I (gj s n)]):=by
 by_cases hr:bf s=true
 ·exact Gy s n (dh.1 hr) a a.rs b
 ·have c1:=iz s a;rw[az hr]at c1;have e:gj s n=14:=by rw[gj,az hr]
  rw[show cy s n=.zero by rw[cy,az (by rw[e];decide)],show eZ s n=[]by rw[eZ,az (by rw[e];decide)],e];simp only[au.cells,qJ,fE,cons_append,nil_append]at c1 |-;refine aX 91 2 [.cell 4 41,.tmp 5,.tmp 6] mixed func12 ?_;refine sc aI c1 ?_;try simp only[go_sem,seval,bne]
  all_goals simp[au.zero,pl]
def oQ{t:au}(h:t.right)(a:∀x∈t.aM,x.r.fits):t.small:=by
 have l:=h.lens;have h1:=l.ms;have h2:=l.ns;have h3:=l.xs;have h4:=l.ts;have h5:=l.qs;have h6:=l.bs;have h7:=l.ps;have h8:=l.calls;have h9:=l.bQ;have h10:=l.aM;exact⟨⟨by omega,by omega,by omega⟩,⟨by omega,by omega⟩,by omega,by omega,by omega,by omega,by omega,a⟩
def rC:(au.zero).small:=⟨⟨by decide,by decide,by decide⟩,⟨by decide,by decide⟩,by decide,by decide,by decide,by decide,by decide,by simp[au.zero]⟩
def Ew{s:au}(b:s.small):(eV s).small:=by
 by_cases a:eU s=0
 ·exact oQ (FU a) (by unfold eV;rw[aE a];exact b.rs)
 ·unfold eV;rw[az a];exact rC
def Ee{s:au}(b:s.small):(eT s).small:=by
 by_cases a:gw s=0
 ·exact oQ (Fq a) (by unfold eT;rw[aE a];exact b.rs)
 ·unfold eT;rw[az a];exact rC
def Kt{s:au}(b:s.small):(lS s).small:=by
 by_cases a:nr s=0
 ·exact oQ (Je a) (by unfold lS;rw[aE a];exact b.rs)
 ·unfold lS;rw[az a];exact rC
def KM{s:au}{n:Int}(b:s.small):(cy s n).small:=by
 by_cases a:gj s n=0
 ·exact oQ (JK a) (by unfold cy;rw[aE a];exact b.rs)
 ·unfold cy;rw[az a];exact rC
def FR(s:au):(ia s).length<=s.book.qs.length+1:=by
 unfold ia;split
 ·have h1:=(z8 (iE s.aA s.book)).2;have h2:=yc s.aA s.book;show(iN (iE s.aA s.book)).1.length<=_;omega
 ·simp
def Fp(s:au):(iT s).length<=3*s.aA.ms.length:=by
 unfold iT;split
 ·have a:=Ec (s:=s) (kk s.aA [1]) (s.calls,[]);have h2:=vf s.aA [1];show(mZ s (kk s.aA [1]) (s.calls,[])).1.2.length<=_;simp only[length_nil]at a;omega
 ·simp
def JJ(s:au)(n:Int):(eZ s n).length<=s.calls.length:=by
 unfold eZ;split
 ·rw[mY];exact D9 _ _
 ·simp
def wV(t:au)(h:t.small):Sq 16 (qJ t) [.agg (fE t)] [.undef,.undef,.undef,.undef,.undef,.undef,.undef,.undef,.undef,.undef] (.bH []):=by
 obtain⟨⟨a1,a2,a3⟩,⟨a4,a5⟩,a6,a7,a8,a9,a10,a11⟩:=h;exact zI _ _ _ _ _ _ _ _ _ _ _ _ _ _ t.aM (by simp;omega) (by simp;omega) (by simp;omega) (by simp;omega) (by simp;omega) (by simp;omega) (by simp[pl];omega) (by simp;omega) (by simp;omega) aj a11
def Fi(s:au)(n:Int)(hr:s.gE)(U:fP n):Sq 3 [] [.agg s.cells,.I n] [] (.bool true):=by
 have J:=Im;have b:=IX s;cases q:n5 s
 case true =>
  rw[q]at b;simp only[au.cells]at b |-;refine aX 100 2 [.tmp 4] mixed func3 ?_;exact qt aI b
 have a:=GN q hr;have G:s.aA.ms.length<=300/\s.book.qs.length<=1000/\s.cL.bs.length<=300/\s.ps.length<=300/\s.calls.length<=300:=by
  simp only[n5,uH,uG,Bool.or_eq_false_iff,iX,mY]at q;omega
 rw[q]at b;have P:=jA s a;have c:=jf s s a;rw[Cs]at c;have t:=Jv s a aj aj;have u:=Jb s a;have A:=N7 s a hr.day;have w:=OS s n a U;have x:=Ce s a hr aj;have r1:=wG s a hr aj aj;have r2:=zy s a hr;have r3:=FH s n a hr;have z:=jf (eV s) (eV s) (Ew a);have k1:=jf (eT s) (eT s) (Ee a);have k2:=jf (lS s) (lS s) (Kt a);have k3:=jf (cy s n) (cy s n) (KM a);have V:=FR s;have W:=Fp s;have X:=JJ s n;have B:=jO (ia s) (ia s) aj;have C:=jO (iT s) (iT s) aj;have O:=Spec.Km (jO [] [] (by decide)) (ds':=[.nil,.nil]) (by simp[ju,iR]);have D:=jO (eZ s n) (eZ s n) aj;have K:=wV (eV s) (Ew a);have L:=wV (eT s) (Ee a);have M:=wV (lS s) (Kt a);have N:=wV (cy s n) (KM a);have Q:=lB ((ia s).map aB.cells) (by simp;omega);have R:=lB ((iT s).map aB.cells) (by simp;omega);have S:=lB ((eZ s n).map aB.cells) (by simp;omega);rw[Cs]at z k1 k2 k3;rw[gJ rfl]at B C O D;obtain⟨S0,l⟩:=aV (eV s);obtain⟨S1,m⟩:=aV (eT s);obtain⟨S2,o⟩:=aV (lS s);obtain⟨S3,p⟩:=aV (cy s n);obtain⟨D0,d⟩:=aV (ia s);obtain⟨D1,e⟩:=aV (iT s);obtain⟨D3,f⟩:=aV (eZ s n);obtain⟨E0,g⟩:=aV (eU s);obtain⟨E1,h⟩:=aV (gw s);obtain⟨E2,j⟩:=aV (nr s);obtain⟨E3,k⟩:=aV (gj s n);rw[<-l]at t x z K;rw[<-m]at u r1 k1 L;rw[<-o]at A r2 k2 M;rw[<-p]at w r3 k3 N;rw[<-d]at t x B Q;rw[<-e]at u r1 C R;rw[<-f]at w r3 D S;rw[<-g]at t x;rw[<-h]at u r1;rw[<-j]at A r2;rw[<-k]at w r3;clear l m o p d e f g h j k V W X q G a;simp only[au.cells,qJ,fE,cons_append,nil_append]at b P c t u A w x r1 r2 r3 z k1 k2 k3 K L M N |-;refine aX 100 2 [.tmp 4] mixed func3 ?_;refine sc aI b ?_;refine sc aI P ?_;refine bG ?_;refine aF.wv 4 [1,2,5] [48,96] (λi=>[(6,.I i)]) (λ_=>[]) ?_ ?_ ?_
 ·exact lA
 ·intro i _ y E H _;have T:i=0\/i=1\/i=2\/i=3:=aj
  refine sm (a2 E H) ?_;rcases T with rfl|rfl|rfl|rfl
  ·-- 0
   refine so aI t ?_;refine sc aI x ?_;refine sl aI z ?_;refine sl aI B ?_;refine bG ?_;refine ak.sem rfl ?_;refine bO.eat (gs:=[656,657,658,659,660,661,662,663,664,665]) (by decide) (by simp only[go_sem,seval]) K (by simp only[go_sem,seval]) (by simp only[go_sem,seval]) (by decide) ?_ ?_
   ·intro r hr;simp only[mem_cons,not_mem_nil,or_false]at hr;rcases hr with rfl|rfl|rfl|rfl|rfl|rfl|rfl|rfl|rfl|rfl<;>simp only[go_sem,seval]<;>rfl
   refine sg [666] aI Q ?_;refine sc aI c ?_;refine bG ?_;refine af.v y ?_;refine s0 ?_;rfl
  ·-- 1
   refine so aI u ?_;refine sc aI r1 ?_;refine sl aI k1 ?_;refine sl aI C ?_;refine bG ?_;refine ak.sem rfl ?_;refine bO.eat (gs:=[880,881,882,883,884,885,886,887,888,889]) (by decide) (by simp only[go_sem,seval]) L (by simp only[go_sem,seval]) (by simp only[go_sem,seval]) (by decide) ?_ ?_
   ·intro r hr;simp only[mem_cons,not_mem_nil,or_false]at hr;rcases hr with rfl|rfl|rfl|rfl|rfl|rfl|rfl|rfl|rfl|rfl<;>simp only[go_sem,seval]<;>rfl
   refine sg [890] aI R ?_;refine sc aI c ?_;refine bG ?_;refine af.v y ?_;refine s0 ?_;rfl
  ·-- 2
   refine so aI A ?_;refine sc aI r2 ?_;refine sl aI k2 ?_;refine sc aI O ?_;refine bG ?_;refine ak.sem rfl ?_;refine bO.eat (gs:=[1104,1105,1106,1107,1108,1109,1110,1111,1112,1113]) (by decide) (by simp only[go_sem,seval]) M (by simp only[go_sem,seval]) (by simp only[go_sem,seval]) (by decide) ?_ ?_
   ·intro r hr;simp only[mem_cons,not_mem_nil,or_false]at hr;rcases hr with rfl|rfl|rfl|rfl|rfl|rfl|rfl|rfl|rfl|rfl<;>simp only[go_sem,seval]<;>rfl
   refine sc aI DE ?_;refine sc aI c ?_;refine bG ?_;refine af.v y ?_;refine s0 ?_;rfl
  ·-- 3
   refine so aI w ?_;refine sc aI r3 ?_;refine sl aI k3 ?_;refine sl aI D ?_;refine bG ?_;refine ak.sem rfl ?_;refine bO.eat (gs:=[416,417,418,419,420,421,422,423,424,425]) (by decide) (by simp only[go_sem,seval]) N (by simp only[go_sem,seval]) (by simp only[go_sem,seval]) (by decide) ?_ ?_
   ·intro r hr;simp only[mem_cons,not_mem_nil,or_false]at hr;rcases hr with rfl|rfl|rfl|rfl|rfl|rfl|rfl|rfl|rfl|rfl<;>simp only[go_sem,seval]<;>rfl
   refine sg [426] aI S ?_;refine sc aI c ?_;refine bG ?_;refine af.v y ?_;refine s0 ?_;rfl
 ·intro _ F _;exact qt F J
