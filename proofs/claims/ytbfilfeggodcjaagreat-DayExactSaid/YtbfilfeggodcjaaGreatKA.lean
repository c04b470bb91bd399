/- Parts. -/
import Derived.Test.YtbfilfeggodcjaaGreatTY
import Derived.Test.YtbfilfeggodcjaaGreatAC
import Derived.Test.YtbfilfeggodcjaaGreatAB
import Derived.Shelf.Bits.Mul64
set_option linter.all false
set_option maxHeartbeats 4000000
set_option maxRecDepth 16000
namespace Go.Proofs.YtbfilfeggodcjaaGreat
open Go.Abs Tryz
open List hiding lt min
section
variable{α:Type}
def pS(p:Nat->Bool)(i j:Nat):Nat:=if i<j then(if p ((i+j)/2)then pS p ((i+j)/2+1) j else pS p i ((i+j)/2))else i
termination_by j-i
def ER{p:Nat->Bool}{i j:Nat}(h:i<j):pS p i j=if p ((i+j)/2)then pS p ((i+j)/2+1) j else pS p i ((i+j)/2):=by rw[pS,aE h]
def uA{p:Nat->Bool}{i j:Nat}(h:¬i<j):pS p i j=i:=by rw[pS,az h]
def ES{p:Nat->Bool}{i j h:Nat}(c:i<j)(e:h=(i+j)/2)(f:p h=true):pS p (h+1) j=pS p i j:=by
 subst e;rw[ER c,f];rfl
def IK{p:Nat->Bool}{i j h:Nat}(c:i<j)(e:h=(i+j)/2)(f:p h=false):pS p i h=pS p i j:=by
 subst e;rw[ER c,f];rfl
theorem xz{p:Nat->Bool}{lo:Nat}(l:∀a b,lo<=a->a<=b->p b=true->p a=true):∀(n i j:Nat),lo<=i->j-i<=n->i<=j->i<=pS p i j/\pS p i j<=j/\(∀k,i<=k->k<pS p i j->p k=true)/\(∀k,pS p i j<=k->k<j->p k=false)
 | 0,i,j,hlo,h,hij=>by
  have:i=j:=aj
  subst this;rw[uA aj];exact⟨cX _,cX _,λk e f=>by omega,λk e f=>by omega⟩
 |n+1,i,j,hlo,h,hij=>by
  by_cases g:i<j
  ·rw[ER g];have e:i<=(i+j)/2:=aj
   have f:(i+j)/2<j:=aj
   generalize (i+j)/2=c at e f;cases m:p c with
   |true =>
    obtain⟨s,a2,a3,a4⟩:=xz l n (c+1) j aj aj aj;simp only[if_true];refine⟨by omega,a2,λk k1 k2=>?_,a4⟩;rcases cq c k with hk|hk
    ·exact a3 k hk k2
    ·exact l k c aj hk m
   |false =>
    obtain⟨s,a2,a3,a4⟩:=xz l n i c hlo aj e;simp only[jm,if_false];refine⟨s,by omega,a3,λk k1 k2=>?_⟩;rcases cq k c with hk|hk
    ·exact a4 k k1 hk
    ·cases o:p k with
     |false=>rfl
     |true=>rw[l c k aj hk o]at m;cases m
  ·rw[uA g];exact⟨cX _,hij,λk e f=>by omega,λk e f=>by omega⟩
theorem Az{p:Nat->Bool}:∀(n i j:Nat),j-i<=n->i<=j->i<=pS p i j/\pS p i j<=j
 | 0,i,j,h,hij=>by
  rw[uA aj];exact⟨cX _,hij⟩
 |n+1,i,j,h,hij=>by
  by_cases e:i<j
  ·rw[ER e];have f:i<=(i+j)/2:=aj
   have g:(i+j)/2<j:=aj
   generalize (i+j)/2=c at f g;split
   ·have:=Az (p:=p) n (c+1) j aj aj;omega
   ·have:=Az (p:=p) n i c aj aj;omega
  ·rw[uA e];exact⟨cX _,hij⟩
def t2(q:α->α->Bool)(x y:Option α):Bool:=match x,y with
 |some x,some y=>q x y
 | _,_=>false
def cutAt(lt:α->α->Bool)(X Y:List α):Nat:=
 pS (λc=>t2 (λy x=>!lt y x) Y[(X.length+Y.length)/2-1-c]? X[c]?) (if X.length>(X.length+Y.length)/2 then(X.length+Y.length)/2-Y.length else 0) (if X.length>(X.length+Y.length)/2 then(X.length+Y.length)/2 else X.length)
def vG(lt:α->α->Bool)(X Y:List α):cutAt lt X Y<=X.length/\cutAt lt X Y<=(X.length+Y.length)/2/\(X.length+Y.length)/2-cutAt lt X Y<=Y.length:=by
 have key:∀p,pS p (if X.length>(X.length+Y.length)/2 then(X.length+Y.length)/2-Y.length else 0) (if X.length>(X.length+Y.length)/2 then(X.length+Y.length)/2 else X.length)<=X.length /\
   pS p (if X.length>(X.length+Y.length)/2 then(X.length+Y.length)/2-Y.length else 0) (if X.length>(X.length+Y.length)/2 then(X.length+Y.length)/2 else X.length)<=(X.length+Y.length)/2 /\
   (X.length+Y.length)/2-pS p (if X.length>(X.length+Y.length)/2 then(X.length+Y.length)/2-Y.length else 0) (if X.length>(X.length+Y.length)/2 then(X.length+Y.length)/2 else X.length)<=Y.length:=by
  intro p;split
  ·have:=Az (p:=p) _ ((X.length+Y.length)/2-Y.length) ((X.length+Y.length)/2) (cX _) aj;omega
  ·have:=Az (p:=p) _ 0 X.length (cX _) aj;omega
 exact key _
def Af(lt:α->α->Bool):Nat->List α->List α->List α
 | 0,X,Y=>X++Y
 |n+1,X,Y =>
  if X.length=0\/Y.length=0 then X++Y
  else if X.length=1 then Y.take (pS (λc=>t2 lt Y[c]? X[0]?) 0 Y.length)++X++Y.drop (pS (λc=>t2 lt Y[c]? X[0]?) 0 Y.length)
  else if Y.length=1 then X.take (pS (λc=>t2 (λy x=>!lt y x) Y[0]? X[c]?) 0 X.length)++Y++X.drop (pS (λc=>t2 (λy x=>!lt y x) Y[0]? X[c]?) 0 X.length)
  else Af lt n (X.take (cutAt lt X Y)) (Y.take ((X.length+Y.length)/2-cutAt lt X Y))++Af lt n (X.drop (cutAt lt X Y)) (Y.drop ((X.length+Y.length)/2-cutAt lt X Y))
def y8(lt:α->α->Bool)(l:List α):Prop:=l.Pairwise λx y=>lt y x=false
structure Ord(lt:α->α->Bool):Prop where
 TC:∀x y,lt x y=true->lt y x=false
 OY:∀x y z,lt y x=false->lt z y=false->lt z x=false
def y8.at{lt:α->α->Bool}{l:List α}(h:y8 lt l){i j:Nat}{x y:α}(c:i<j)(g:l[i]?=some x)(k:l[j]?=some y):lt y x=false:=by
 obtain⟨e,rfl⟩:=cJ.1 g;obtain⟨f,rfl⟩:=cJ.1 k;exact tN.1 h i j e f c
theorem Ord.refl{lt:α->α->Bool}(c:Ord lt)(x:α):lt x x=false:=by
 cases h:lt x x with
 |false=>rfl
 |true=>rw[c.TC x x h]at h;cases h
def y8.Mv{lt:α->α->Bool}(f:Ord lt){l:List α}(h:y8 lt l){i j:Nat}{x y:α}(hij:i<=j)(e:l[i]?=some x)(c:l[j]?=some y):lt y x=false:=by
 rcases cq i j with hlt|hge
 ·exact h.at hlt e c
 ·obtain rfl:i=j:=aj
  rw[e]at c;cases c;exact f.refl x
def jg{l:List α}{n:Nat}{x:α}(h:x∈l.take n):∃i,i<n/\l[i]?=some x:=by
 obtain⟨i,c⟩:=mem_iff_getElem?.1 h;rw[getElem?_take]at c;split at c
 ·exact⟨i,by assumption,c⟩
 ·cases c
def fZ{l:List α}{n:Nat}{x:α}(h:x∈l.drop n):∃i,n<=i/\l[i]?=some x:=by
 obtain⟨i,c⟩:=mem_iff_getElem?.1 h;rw[getElem?_drop]at c;exact⟨n+i,by omega,c⟩
def iw{l:List α}{i:Nat}(h:i<l.length):∃x,l[i]?=some x:=⟨l[i],ec h⟩
def cg{l:List α}{i:Nat}{x:α}(h:l[i]?=some x):i<l.length:=(cJ.1 h).1
def Cls(lt:α->α->Bool)(p:α->Bool):Prop:=∀a b,p a=true->p b=true->lt a b=false
theorem AZ{lt:α->α->Bool}{p:α->Bool}(i:Cls lt p){A B:List α}(h:∀a∈A,∀b∈B,lt b a=true):(B++A).filter p=(A++B).filter p:=by
 rw[rR,rR];cases f:A.filter p with
 |nil=>simp
 |cons a r =>
  cases g:B.filter p with
  |nil=>simp
  |cons b t =>
   have c:=mem_filter.1 (f ▸ mem_cons_self:a∈A.filter p);have e:=mem_filter.1 (g ▸ mem_cons_self:b∈B.filter p);have:=i b a e.2 c.2;rw[h a c.1 b e.1]at this;cases this
theorem Cv{lt:α->α->Bool}(m:Ord lt):∀(n:Nat)(X Y:List α),X.length+Y.length<=n->y8 lt X->y8 lt Y->y8 lt (Af lt n X Y)/\(Af lt n X Y).Perm (X++Y)/\∀p,Cls lt p->(Af lt n X Y).filter p=(X++Y).filter p
 | 0,X,Y,h,hX,hY=>by
  have:X=[]:=length_eq_zero_iff.1 aj;subst this;simp only[Af,nil_append];exact⟨hY,.refl _,λ_ _=>by first|rfl|trivial⟩
 |n+1,X,Y,h,hX,hY=>by
  unfold Af;split
  ·rename_i t;refine⟨?_,.refl _,λ_ _=>rfl⟩;rcases t with t|t<;>rw[length_eq_zero_iff]at t<;>subst t<;>simpa
  rename_i t;split
  ·rename_i D;obtain⟨x,rfl⟩:=length_eq_one_iff.1 D
   have f:=xz (p:=λc=>t2 lt Y[c]? [x][0]?) (lo:=0) (by
    intro a b _ J f;simp only[getElem?_cons_zero]at f |-;cases O:Y[b]? with
    |none=>simp[t2,O]at f
    |some y =>
     simp only[t2,O]at f;obtain⟨z,R⟩:=iw (l:=Y) (i:=a) (by have:=cg O;omega);simp only[R,t2];cases H:lt z x with
     |true=>rfl
     |false=>rw[m.OY x z y H (hY.Mv m J R O)]at f;cases f) _ 0 Y.length (cX _) (cX _) aj
   generalize pS (λc=>t2 lt Y[c]? [x][0]?) 0 Y.length=p at f;obtain⟨-,b2,M,N⟩:=f;simp only[getElem?_cons_zero]at M N;refine⟨?_,?_,λq H=>?_⟩
   ·unfold y8;rw[cu,pairwise_append];refine⟨hY.sublist (take_sublist _ _),?_,?_⟩
    ·rw[singleton_append,oC];refine⟨λy O=>?_,hY.sublist (drop_sublist _ _)⟩;obtain⟨i,E,g⟩:=fZ O;have:=N i E (cg g);simpa[t2,g]using this
    ·intro a o b f;obtain⟨i,E,g⟩:=jg o;rw[singleton_append,mem_cons]at f;rcases f with rfl|f
     ·have:=M i aj E;simp only[t2,g]at this;exact m.TC _ _ this
     ·obtain⟨j,T,G⟩:=fZ f;exact hY.Mv m aj g G
   ·have D:(Y.take p++[x]++Y.drop p).Perm ([x]++Y.take p++Y.drop p):=Perm.append_right _ perm_append_comm;refine D.trans ?_;rw[cu,jI]
   ·have:=AZ H (A:=[x]) (B:=Y.take p) λa o b f=>by
     obtain rfl:=kK.1 o;obtain⟨i,E,g⟩:=jg f;have:=M i aj E;simpa[t2,g]using this
    rw[rR,this,<-rR,cu,jI]
  rename_i D;split
  ·rename_i F;obtain⟨y,rfl⟩:=length_eq_one_iff.1 F
   have f:=xz (p:=λc=>t2 (λy x=>!lt y x) [y][0]? X[c]?) (lo:=0) (by
    intro a b _ J f;simp only[getElem?_cons_zero]at f |-;cases I:X[b]? with
    |none=>simp[t2,I]at f
    |some x =>
     simp only[t2,I,jY]at f;obtain⟨z,R⟩:=iw (l:=X) (i:=a) (by have:=cg I;omega);simp only[R,t2,jY]
     exact m.OY z x y (hX.Mv m J R I) f) _ 0 X.length (cX _) (cX _) aj
   generalize pS (λc=>t2 (λy x=>!lt y x) [y][0]? X[c]?) 0 X.length=p at f;obtain⟨-,b2,M,N⟩:=f;simp only[getElem?_cons_zero]at M N;refine⟨?_,?_,λq H=>?_⟩
   ·unfold y8;rw[cu,pairwise_append];refine⟨hX.sublist (take_sublist _ _),?_,?_⟩
    ·rw[singleton_append,oC];refine⟨λx I=>?_,hX.sublist (drop_sublist _ _)⟩;obtain⟨i,E,g⟩:=fZ I;have:=N i E (cg g);simp only[t2,g,Bool.not_eq_false']at this;exact m.TC _ _ this
    ·intro a o b f;obtain⟨i,E,g⟩:=jg o;rw[singleton_append,mem_cons]at f;rcases f with rfl|f
     ·have:=M i aj E;simpa[t2,g]using this
     ·obtain⟨j,T,G⟩:=fZ f;exact hX.Mv m aj g G
   ·have D:(X.take p++[y]++X.drop p).Perm (X.take p++(X.drop p++[y])):=by
     rw[cu];exact Perm.append_left _ perm_append_comm
    refine D.trans ?_;rw[<-cu,jI]
   ·have:=AZ H (A:=X.drop p) (B:=[y]) λa o b f=>by
     obtain rfl:=kK.1 f;obtain⟨i,E,g⟩:=fZ o;have:=N i E (cg g);simpa[t2,g]using this
    rw[cu,rR,this,<-rR,<-cu,jI]
  rename_i F;obtain⟨c1,c2,c3⟩:=vG lt X Y;have hl0:X.length≠0/\Y.length≠0:=aj
  have Q:∀a b,(X.length>(X.length+Y.length)/2->(X.length+Y.length)/2-Y.length<=a)->a<=b->t2 (λy x=>!lt y x) Y[(X.length+Y.length)/2-1-b]? X[b]?=true->t2 (λy x=>!lt y x) Y[(X.length+Y.length)/2-1-a]? X[a]?=true:=by
   intro a b o J f;cases I:X[b]? with
   |none=>simp[t2,I]at f
   |some x =>
    have hbx:=cg I;cases O:Y[(X.length+Y.length)/2-1-b]? with
    |none=>simp[t2,I,O]at f
    |some y =>
     simp only[t2,I,O,jY]at f;obtain⟨z,R⟩:=iw (l:=X) (i:=a) aj
     obtain⟨u,P⟩:=iw (l:=Y) (i:=(X.length+Y.length)/2-1-a) (by
      rcases cq ((X.length+Y.length)/2) X.length with hlt|hge
      ·have:=o hlt;omega
      ·omega)
     simp only[R,P,t2,jY];exact m.OY z y u (m.OY z x y (hX.Mv m J R I) f) (hY.Mv m aj O P)
  -- what the cut tells
  have K:(∀k,(X.length>(X.length+Y.length)/2->(X.length+Y.length)/2-Y.length<=k)->k<cutAt lt X Y->t2 (λy x=>!lt y x) Y[(X.length+Y.length)/2-1-k]? X[k]?=true) /\
    (∀k,cutAt lt X Y<=k->k<(X.length+Y.length)/2->k<X.length->t2 (λy x=>!lt y x) Y[(X.length+Y.length)/2-1-k]? X[k]?=false):=by
   unfold cutAt;split
   ·rename_i C;obtain⟨-,-,M,N⟩:=xz (p:=λc=>t2 (λy x=>!lt y x) Y[(X.length+Y.length)/2-1-c]? X[c]?) (lo:=(X.length+Y.length)/2-Y.length) (λa b D F S=>Q a b (λ_=>D) F S) _ ((X.length+Y.length)/2-Y.length) ((X.length+Y.length)/2) (cX _) (cX _) aj;exact⟨λk D F=>M k (D C) F,λk D F S=>N k D F⟩
   ·rename_i C;obtain⟨-,-,M,N⟩:=xz (p:=λc=>t2 (λy x=>!lt y x) Y[(X.length+Y.length)/2-1-c]? X[c]?) (lo:=0) (λa b D F S=>Q a b (λh=>(C h).elim) F S) _ 0 X.length (cX _) (cX _) aj;exact⟨λk D F=>M k aj F,λk D F S=>N k D S⟩
  have L:X.length>(X.length+Y.length)/2->(X.length+Y.length)/2-Y.length<=cutAt lt X Y:=by
   intro C;unfold cutAt;rw[aE C,aE C];exact(Az _ _ _ (cX _) aj).1
  generalize cutAt lt X Y=s at c1 c2 c3 K L;generalize hh:(X.length+Y.length)/2=t at c2 c3 K L;obtain⟨ac,ad⟩:=K;have Z:=hX.sublist (take_sublist s X);have W:=hX.sublist (drop_sublist s X);have ab:=hY.sublist (take_sublist (t-s) Y);have aa:=hY.sublist (drop_sublist (t-s) Y);obtain⟨r1,r2,r5⟩:=Cv m n (X.take s) (Y.take (t-s)) (by simp only[dw];omega) Z ab;obtain⟨r3,r4,r6⟩:=Cv m n (X.drop s) (Y.drop (t-s)) (by simp only[dW];omega) W aa;have V:∀a∈X.drop s,∀b∈Y.take (t-s),lt b a=true:=by
   intro b f a o;obtain⟨i,E,g⟩:=jg o;obtain⟨j,T,G⟩:=fZ f;have hjx:=cg G;have hiy:=cg g;have H:=ad s (cX _) aj aj;obtain⟨u,P⟩:=iw (l:=X) (i:=s) aj;obtain⟨v,U⟩:=iw (l:=Y) (i:=t-1-s) aj;simp only[t2,P,U,Bool.not_eq_false']at H;cases hc:lt a b with
   |true=>rfl
   |false=>rw[m.OY u a v (m.OY u b a (hX.Mv m T P G) hc) (hY.Mv m aj g U)]at H;cases H
  refine⟨?_,?_,λp hp=>?_⟩
  ·unfold y8;rw[pairwise_append];refine⟨r1,r3,?_⟩;intro a o b f;have o:=r2.mem_iff.1 o;have f:=r4.mem_iff.1 f;rw[mem_append]at o f;rcases o with o|o<;>rcases f with f|f
   ·obtain⟨i,E,g⟩:=jg o;obtain⟨j,T,G⟩:=fZ f;exact hX.Mv m aj g G
   ·obtain⟨i,E,g⟩:=jg o;obtain⟨j,T,G⟩:=fZ f;have hjy:=cg G
    -- the last of the front of X against the first of the back of Y
    have H:=ac (s-1) (λC=>by have:=L C;omega) aj;obtain⟨u,P⟩:=iw (l:=X) (i:=s-1) aj;cases U:Y[t-1-(s-1)]? with
    |none=>simp[t2,P,U]at H
    |some v =>
     simp only[t2,P,U,jY]at H;exact m.OY a u b (hX.Mv m aj g P) (m.OY u v b H (hY.Mv m aj U G))
   ·exact m.TC _ _ (V b f a o)
   ·obtain⟨i,E,g⟩:=jg o;obtain⟨j,T,G⟩:=fZ f;exact hY.Mv m aj g G
  ·refine(r2.append r4).trans ?_;have e1:(X.take s++Y.take (t-s)++(X.drop s++Y.drop (t-s))).Perm (X.take s++(X.drop s++Y.take (t-s))++Y.drop (t-s)):=by
    simp only[cu];refine Perm.append_left _ ?_;rw[<-cu,<-cu];exact Perm.append_right _ perm_append_comm
   refine e1.trans (Perm.of_eq ?_);rw[<-cu,jI,cu,jI]
  ·rw[rR,r5 p hp,r6 p hp,<-rR];have e:X++Y=X.take s++(X.drop s++Y.take (t-s))++Y.drop (t-s):=by
    rw[<-cu,jI,cu,jI]
   have w:=AZ hp V;rw[rR,rR]at w;rw[e];simp only[rR,cu]at w |-;rw[<-cu ((Y.take (t-s)).filter p),w,cu]
def zk(lt:α->α->Bool)(x:α):List α->List α
 | []=>[x]
 |y::R=>if lt x y then y::zk lt x R else x::y::R
theorem xG(lt:α->α->Bool)(x:α):∀R:List α,(zk lt x R).Perm (x::R)
 | []=>.refl _
 |y::R=>by
  unfold zk;split
  ·exact((xG lt x R).cons y).trans (Perm.swap _ _ _)
  ·exact .refl _
theorem GS{lt:α->α->Bool}(g:Ord lt)(x:α):∀R:List α,R.Pairwise (λa b=>lt a b=false)->(zk lt x R).Pairwise (λa b=>lt a b=false)
 | [],_=>by simp[zk]
 |y::R,h=>by
  have f:=oC.1 h;unfold zk;split
  ·rename_i c;rw[oC];refine⟨λb e=>?_,GS g x R f.2⟩;rcases mem_cons.1 ((xG lt x R).mem_iff.1 e)with rfl|e
   ·exact g.TC _ _ c
   ·exact f.1 b e
  ·rename_i c;have c:lt x y=false:=by simpa using c
   rw[oC];refine⟨λb e=>?_,h⟩;rcases mem_cons.1 e with rfl|e
   ·exact c
   ·exact g.OY b y x (f.1 b e) c
def qI(lt:α->α->Bool)(R:List α):List α->List α
 | []=>R
 |x::X=>qI lt (zk lt x R) X
def xE(lt:α->α->Bool)(X:List α):List α:=(qI lt [] X).reverse
theorem xF(lt:α->α->Bool):∀(X R:List α),(qI lt R X).Perm (X++R)
 | [],R=>.refl _
 |x::X,R=>by
  simp only[qI];refine(xF lt X _).trans ?_;refine((xG lt x R).append_left X).trans ?_;simp only[cons_append];exact perm_middle
theorem GR{lt:α->α->Bool}(c:Ord lt):∀(X R:List α),R.Pairwise (λa b=>lt a b=false)->(qI lt R X).Pairwise (λa b=>lt a b=false)
 | [],R,h=>h
 |x::X,R,h=>GR c X _ (GS c x R h)
def GQ(lt:α->α->Bool)(X R:List α):(qI lt R X).length=X.length+R.length:=by rw[(xF lt X R).length_eq,cT]
def tc(lt:α->α->Bool)(X:List α):(xE lt X).Perm X:=by
 refine(reverse_perm _).trans ?_;simpa using xF lt X []
def Be{lt:α->α->Bool}(c:Ord lt)(X:List α):y8 lt (xE lt X):=by
 unfold y8 xE;rw[pairwise_reverse];exact GR c X [] Pairwise.nil
def sw(lt:α->α->Bool)(X:List α):(xE lt X).length=X.length:=(tc lt X).length_eq
theorem wS(lt:α->α->Bool):∀(n:Nat)(X Y:List α),(Af lt n X Y).Perm (X++Y)
 | 0,X,Y=>.refl _
 |n+1,X,Y=>by
  unfold Af;split
  ·exact .refl _
  split
  ·generalize pS _ 0 Y.length=p;have c:(Y.take p++X++Y.drop p).Perm (X++Y.take p++Y.drop p):=Perm.append_right _ perm_append_comm;refine c.trans ?_;rw[cu,jI]
  split
  ·generalize pS _ 0 X.length=p;have c:(X.take p++Y++X.drop p).Perm (X.take p++(X.drop p++Y)):=by
    rw[cu];exact Perm.append_left _ perm_append_comm
   refine c.trans ?_;rw[<-cu,jI]
  generalize cutAt lt X Y=s;generalize (X.length+Y.length)/2=h0;refine((wS lt n _ _).append (wS lt n _ _)).trans ?_;have e:(X.take s++Y.take (h0-s)++(X.drop s++Y.drop (h0-s))).Perm (X.take s++(X.drop s++Y.take (h0-s))++Y.drop (h0-s)):=by
   simp only[cu];refine Perm.append_left _ ?_;rw[<-cu,<-cu];exact Perm.append_right _ perm_append_comm
  refine e.trans (Perm.of_eq ?_);rw[<-cu,jI,cu,jI]
def QY(lt:α->α->Bool)(n:Nat)(X Y:List α):(Af lt n X Y).length=X.length+Y.length:=by rw[(wS lt n X Y).length_eq,cT]
theorem wR(lt:α->α->Bool):∀(n m:Nat)(X Y:List α),X.length+Y.length<=n->X.length+Y.length<=m->Af lt n X Y=Af lt m X Y
 | 0,m,X,Y,h,_=>by
  have c:X=[]:=length_eq_zero_iff.1 aj;have e:Y=[]:=length_eq_zero_iff.1 aj;subst c;subst e;cases m<;>simp[Af]
 |n+1,0,X,Y,_,h=>by
  have c:X=[]:=length_eq_zero_iff.1 aj;have e:Y=[]:=length_eq_zero_iff.1 aj;subst c;subst e;simp[Af]
 |n+1,m+1,X,Y,h,h'=>by
  by_cases f:X.length=0\/Y.length=0
  ·simp only[Af,aE f]
  by_cases c:X.length=1
  ·simp only[Af,az f,aE c]
  by_cases e:Y.length=1
  ·simp only[Af,az f,az c,aE e]
  simp only[Af,az f,az c,az e];obtain⟨c1,c2,c3⟩:=vG lt X Y;rw[wR lt n m _ _ (by simp only[dw];omega) (by simp only[dw];omega),wR lt n m (X.drop _) _ (by simp only[dW];omega) (by simp only[dW];omega)]
def wT(lt:α->α->Bool)(X Y:List α):List α:=Af lt (X.length+Y.length) X Y
def wU(lt:α->α->Bool)(X Y:List α):(wT lt X Y).length=X.length+Y.length:=QY _ _ _ _
def Ia(lt:α->α->Bool)(X Y:List α):(wT lt X Y).Perm (X++Y):=wS _ _ _ _
def FW{lt:α->α->Bool}(f:Ord lt){X Y:List α}(c:y8 lt X)(e:y8 lt Y):y8 lt (wT lt X Y):=(Cv f _ X Y (cX _) c e).1
def H8(lt:α->α->Bool)(Y:List α):wT lt [] Y=Y:=by unfold wT;cases h:([]:List α).length+Y.length<;>simp[Af]
def H9(lt:α->α->Bool)(X:List α):wT lt X []=X:=by unfold wT;cases h:X.length+([]:List α).length<;>simp[Af]
theorem QZ(lt:α->α->Bool)(x:α){Y:List α}(hY:Y.length≠0):wT lt [x] Y=Y.take (pS (λc=>t2 lt Y[c]? (some x)) 0 Y.length)++[x]++Y.drop (pS (λc=>t2 lt Y[c]? (some x)) 0 Y.length):=by
 unfold wT;rw[show[x].length+Y.length=Y.length+1 by simp;omega];rw[Af,az (by simp only[length_cons,length_nil];omega),aE (by simp)];simp
theorem OD(lt:α->α->Bool){X:List α}(hX:X.length≠0)(e:X.length≠1)(y:α):wT lt X [y]=X.take (pS (λc=>t2 (λy x=>!lt y x) (some y) X[c]?) 0 X.length)++[y]++X.drop (pS (λc=>t2 (λy x=>!lt y x) (some y) X[c]?) 0 X.length):=by
 unfold wT;rw[show X.length+[y].length=X.length+1 by simp];rw[Af,az (by simp only[length_cons,length_nil];omega),az e,aE (by simp)];simp
def Q0(lt:α->α->Bool){X Y:List α}(h1:2<=X.length)(h2:2<=Y.length):wT lt X Y=wT lt (X.take (cutAt lt X Y)) (Y.take ((X.length+Y.length)/2-cutAt lt X Y))++wT lt (X.drop (cutAt lt X Y)) (Y.drop ((X.length+Y.length)/2-cutAt lt X Y)):=by
 obtain⟨c1,c2,c3⟩:=vG lt X Y;obtain⟨n,c⟩:∃n,X.length+Y.length=n+1:=⟨X.length+Y.length-1,by omega⟩
 unfold wT;rw[c,Af,az aj,az aj,az aj,<-c];rw[wR lt n _ (X.take _) _ (by simp only[dw];omega) (cX _),wR lt n _ (X.drop _) _ (by simp only[dW];omega) (cX _)]
def vv(lt:α->α->Bool):Nat->List α->List α
 | 0,l=>xE lt l
 |n+1,l=>if 20<=l.length then xE lt (l.take 20)++vv lt n (l.drop 20)else xE lt l
def lq(lt:α->α->Bool)(bs:Nat):Nat->List α->List α
 | 0,l=>l
 |n+1,l=>if 2*bs<=l.length then wT lt (l.take bs) ((l.drop bs).take bs)++lq lt bs n (l.drop (2*bs))else if bs<l.length then wT lt (l.take bs) (l.drop bs)else l
def zf(lt:α->α->Bool):Nat->Nat->List α->List α
 | 0,_,l=>l
 |n+1,bs,l=>if bs<l.length then zf lt n (2*bs) (lq lt bs l.length l)else l
def Ag(lt:α->α->Bool)(l:List α):List α:=zf lt l.length 20 (vv lt l.length l)
theorem xx(lt:α->α->Bool):∀(n:Nat)(l:List α),(vv lt n l).Perm l
 | 0,l=>tc lt l
 |n+1,l=>by
  unfold vv;split
  ·refine((tc lt _).append (xx lt n _)).trans ?_;rw[jI]
  ·exact tc lt l
theorem uS(lt:α->α->Bool)(bs:Nat):∀(n:Nat)(l:List α),(lq lt bs n l).Perm l
 | 0,l=>.refl _
 |n+1,l=>by
  unfold lq;split
  ·refine((Ia lt _ _).append (uS lt bs n _)).trans (Perm.of_eq ?_);rw[cu,show l.drop (2*bs)=(l.drop bs).drop bs by rw[drop_drop];congr 1;omega,jI,jI]
  split
  ·refine(Ia lt _ _).trans ?_;rw[jI]
  ·exact .refl _
theorem DR(lt:α->α->Bool):∀(n bs:Nat)(l:List α),(zf lt n bs l).Perm l
 | 0,_,l=>.refl _
 |n+1,bs,l=>by
  unfold zf;split
  ·exact(DR lt n _ _).trans (uS lt bs _ l)
  ·exact .refl _
def wW(lt:α->α->Bool)(l:List α):(Ag lt l).Perm l:=(DR lt _ _ _).trans (xx lt _ _)
def MX(lt:α->α->Bool)(n:Nat)(l:List α):(vv lt n l).length=l.length:=(xx lt n l).length_eq
def tv(lt:α->α->Bool)(bs n:Nat)(l:List α):(lq lt bs n l).length=l.length:=(uS lt bs n l).length_eq
def KI(lt:α->α->Bool)(l:List α):(Ag lt l).length=l.length:=(wW lt l).length_eq
inductive PB(lt:α->α->Bool)(bs:Nat):List α->Prop
 |last (l:List α):l.length<=bs->y8 lt l->PB lt bs l
 |more (A B:List α):A.length=bs->y8 lt A->PB lt bs B->PB lt bs (A++B)
theorem Gi{lt:α->α->Bool}(c:Ord lt):∀(n:Nat)(l:List α),l.length<=n->PB lt 20 (vv lt n l)
 | 0,l,h=>.last _ (by simp only[vv,sw];omega) (Be c _)
 |n+1,l,h=>by
  unfold vv;split
  ·exact .more _ _ (by rw[sw,dw];omega) (Be c _) (Gi c n _ (by simp only[dW];omega))
  ·exact .last _ (by rw[sw];omega) (Be c _)
theorem Ek{lt:α->α->Bool}(f:Ord lt){bs:Nat}(j:0<bs):∀(n:Nat)(l:List α),l.length<=n->PB lt bs l->PB lt (2*bs) (lq lt bs n l)
 | 0,l,h,c=>by
  have:l=[]:=length_eq_zero_iff.1 aj;subst this;exact .last _ (by simp[lq]) (by simp[lq,y8])
 |n+1,l,h,c=>by
  unfold lq;cases c with
  |last _ h1 h2 =>
   rw[az aj,az aj];exact .last _ aj h2
  |more A B h1 h2 i =>
   have k:(A++B).take bs=A:=by rw[<-h1];simp
   have t2:(A++B).drop bs=B:=by rw[<-h1];simp
   have t3:(A++B).drop (2*bs)=B.drop bs:=by rw[show 2*bs=bs+bs by omega,<-drop_drop,t2]
   rw[k,t2,t3];cases i with
   |last _ k1 k2 =>
    split
    ·rename_i c;have:B.length=bs:=by rw[cT]at c;omega
     rw[take_of_length_le aj,drop_of_length_le aj];have e:lq lt bs n ([]:List α)=[]:=length_eq_zero_iff.1 (by rw[tv];rfl);rw[e,append_nil];exact .last _ (by rw[wU];omega) (FW f h2 k2)
    split
    ·exact .last _ (by rw[wU];omega) (FW f h2 k2)
    ·rename_i c g;rw[cT]at g;have:B=[]:=length_eq_zero_iff.1 aj;subst this;rw[append_nil];exact .last _ aj h2
   |more B C k1 k2 k3 =>
    rw[aE (by simp only[cT];omega)];rw[show(B++C).take bs=B by rw[<-k1];simp,show(B++C).drop bs=C by rw[<-k1];simp];exact .more _ _ (by rw[wU];omega) (FW f h2 k2) (Ek f j n C (by simp only[cT]at h;omega) k3)
theorem PB.srt{lt:α->α->Bool}{bs:Nat}{l:List α}(h:PB lt bs l)(c:l.length<=bs):y8 lt l:=by
 cases h with
 |last _ h1 h2=>exact h2
 |more A B h1 h2 h3 =>
  rw[cT]at c;have:B=[]:=length_eq_zero_iff.1 aj;subst this;rwa[append_nil]
theorem GA{lt:α->α->Bool}(c:Ord lt):∀(n bs:Nat)(l:List α),0<bs->l.length<=n+bs->PB lt bs l->y8 lt (zf lt n bs l)
 | 0,bs,l,_,hl,h=>h.srt aj
 |n+1,bs,l,hb,hl,h=>by
  unfold zf;split
  ·exact GA c n _ _ aj (by rw[tv];omega) (Ek c hb _ l (cX _) h)
  ·exact h.srt aj
def KJ{lt:α->α->Bool}(c:Ord lt)(l:List α):y8 lt (Ag lt l):=GA c _ _ _ aj (by rw[MX];omega) (Gi c _ l (cX _))
def JF(L U M V R:List α)(i:Nat):List α:=L++(V.take i++U.drop i)++M++(U.take i++V.drop i)++R
def OQ(L U M V R:List α):JF L U M V R 0=L++U++M++V++R:=by simp[JF]
def Q4(L U M V R:List α)(h:U.length=V.length):JF L U M V R U.length=L++V++M++U++R:=by
 have c:V.take U.length=V:=by rw[h];exact ef
 have e:V.drop U.length=[]:=by rw[h];exact mT
 simp[JF,c,e]
def rT(P:List α)(u:α)(Q:List α){k:Nat}(h:k=P.length):(P++u::Q)[k]?=some u:=by subst h;simp
def tF(P:List α)(u v:α)(Q:List α){k:Nat}(h:k=P.length):(P++u::Q).set k v=P++v::Q:=by subst h;simp
def OP(L U M V R:List α)(h:U.length=V.length){a b:Nat}(ha:a=L.length)(hb:b=L.length+U.length+M.length){i:Nat}(g:i<U.length) :
  (JF L U M V R i).length=L.length+U.length+M.length+V.length+R.length/\∃u v,(JF L U M V R i)[a+i]?=some u/\(JF L U M V R i)[b+i]?=some v/\JF L U M V R (i+1)=((JF L U M V R i).set (a+i) v).set (b+i) u:=by
 have c:i<V.length:=aj
 refine⟨by simp only[JF,cT,dw,dW];omega,U[i],V[i],?_⟩;have e:JF L U M V R i=(L++V.take i)++U[i]::((U.drop (i+1)++M++U.take i)++V[i]::(V.drop (i+1)++R)):=by
  simp only[JF,drop_eq_getElem_cons g,drop_eq_getElem_cons c,cu,cons_append]
 have e2:JF L U M V R (i+1)=(L++V.take i)++V[i]::((U.drop (i+1)++M++U.take i)++U[i]::(V.drop (i+1)++R)):=by
  simp only[JF,kM g,kM c,cu,cons_append,nil_append]
 have k1:a+i=(L++V.take i).length:=by simp only[cT,dw];omega
 have k2:∀x,b+i=(L++V.take i++x::(U.drop (i+1)++M++U.take i)).length:=by
  intro x;simp only[cT,length_cons,dw,dW];omega
 have f:∀x y,(L++V.take i)++x::((U.drop (i+1)++M++U.take i)++y::(V.drop (i+1)++R))=(L++V.take i++x::(U.drop (i+1)++M++U.take i))++y::(V.drop (i+1)++R):=by
  intro x y;simp only[cu,cons_append]
 refine⟨?_,?_,?_⟩
 ·rw[e];exact rT _ _ _ k1
 ·rw[e,f];exact rT _ _ _ (k2 _)
 ·rw[e,tF _ _ _ _ k1,f,tF _ _ _ _ (k2 _),e2,f]
def jM(L:List α)(x:α)(P R:List α)(i:Nat):List α:=L++P.take (P.length-i)++x::(P.drop (P.length-i)++R)
def AV(L:List α)(x:α)(P R:List α){i:Nat}(hi:i<P.length){a b:Nat}(ha:a=L.length+P.length-i)(hb:b+1=a) :
  ∃v,(jM L x P R i)[a]?=some x/\(jM L x P R i)[b]?=some v/\P[P.length-i-1]?=some v/\jM L x P R (i+1)=((jM L x P R i).set a v).set b x:=by
 obtain⟨k,g⟩:∃k,P.length-i=k+1:=⟨P.length-i-1,by omega⟩
 have c:k<P.length:=aj
 refine⟨P[k],?_⟩;have e:jM L x P R i=(L++P.take k)++P[k]::x::(P.drop (k+1)++R):=by
  simp only[jM,g,kM c,cu,cons_append,nil_append]
 have e2:jM L x P R (i+1)=(L++P.take k)++x::P[k]::(P.drop (k+1)++R):=by
  simp only[jM,show P.length-(i+1)=k by omega,drop_eq_getElem_cons c,cu,cons_append]
 have k1:b=(L++P.take k).length:=by simp only[cT,dw];omega
 have k2:∀y,a=(L++P.take k++[y]).length:=by intro y;simp only[cT,dw,length_cons,length_nil];omega
 have f:∀y z,(L++P.take k)++y::z::(P.drop (k+1)++R)=(L++P.take k++[y])++z::(P.drop (k+1)++R):=by
  intro y z;simp only[cu,cons_append,nil_append]
 refine⟨?_,?_,?_,?_⟩
 ·rw[e,f];exact rT _ _ _ (k2 _)
 ·rw[e];exact rT _ _ _ k1
 ·rw[g];exact ec c
 ·rw[e,f,tF _ _ _ _ (k2 _),<-f,tF _ _ _ _ k1,e2]
def AW(L:List α)(x:α)(P R:List α):jM L x P R 0=L++P++x::R:=by simp[jM]
def Le(L:List α)(x:α)(P R:List α):jM L x P R P.length=L++x::(P++R):=by simp[jM]
def Lf(L:List α)(x:α)(P R:List α)(i:Nat):(jM L x P R i).length=L.length+P.length+R.length+1:=by
 simp only[jM,cT,length_cons,dw,dW];omega
def Il(L:List α)(x:α)(P R:List α)(i:Nat):List α:=L++P.take i++x::(P.drop i++R)
def O8(L:List α)(x:α)(P R:List α){i:Nat}(f:i<P.length){a b:Nat}(ha:a=L.length+i)(hb:b=a+1) :
  ∃v,(Il L x P R i)[a]?=some x/\(Il L x P R i)[b]?=some v/\Il L x P R (i+1)=((Il L x P R i).set a v).set b x:=by
 refine⟨P[i],?_⟩;have c:Il L x P R i=(L++P.take i)++x::P[i]::(P.drop (i+1)++R):=by
  simp only[Il,drop_eq_getElem_cons f,cu,cons_append]
 have e2:Il L x P R (i+1)=(L++P.take i)++P[i]::x::(P.drop (i+1)++R):=by
  simp only[Il,kM f,cu,cons_append,nil_append]
 have k1:a=(L++P.take i).length:=by simp only[cT,dw];omega
 have k2:∀y,b=(L++P.take i++[y]).length:=by intro y;simp only[cT,dw,length_cons,length_nil];omega
 have e:∀y z,(L++P.take i)++y::z::(P.drop (i+1)++R)=(L++P.take i++[y])++z::(P.drop (i+1)++R):=by
  intro y z;simp only[cu,cons_append,nil_append]
 refine⟨?_,?_,?_⟩
 ·rw[c];exact rT _ _ _ k1
 ·rw[c,e];exact rT _ _ _ (k2 _)
 ·rw[c,tF _ _ _ _ k1,e,tF _ _ _ _ (k2 _),e2,e]
def O9(L:List α)(x:α)(P R:List α):Il L x P R 0=L++x::(P++R):=by simp[Il]
def Rc(L:List α)(x:α)(P R:List α):Il L x P R P.length=L++P++x::R:=by simp[Il]
def Rd(L:List α)(x:α)(P R:List α)(i:Nat):(Il L x P R i).length=L.length+P.length+R.length+1:=by
 simp only[Il,cT,length_cons,dw,dW];omega
theorem Ke(lt:α->α->Bool)(x:α):∀(Q:List α)(i:Nat),i<=Q.length->(∀j v,j<i->Q[j]?=some v->lt x v=true)->(∀v,Q[i]?=some v->lt x v=false)->zk lt x Q=Q.take i++x::Q.drop i
 | [],i,h,_,_=>by
  have:i=0:=by simpa using h
  subst this;rfl
 |y::Q,0,_,_,h=>by
  have:=h y rfl;simp[zk,this]
 |y::Q,i+1,hl,h1,h2=>by
  have e:=h1 0 y aj rfl;have f:=Ke lt x Q i (by simpa using hl) (λj v hj c=>h1 (j+1) v aj (by simpa using c)) (λv c=>h2 v (by simpa using c));simp[zk,e,f]
theorem D5(lt:α->α->Bool):∀(X R:List α)(k:Nat)(h:k<X.length),qI lt R (X.take (k+1))=zk lt X[k] (qI lt R (X.take k))
 | [],_,k,h=>by simp at h
 |x::X,R,0,h=>by simp[qI]
 |x::X,R,k+1,h=>by
  simp only[take_succ_cons,qI,getElem_cons_succ];exact D5 lt X _ k (by simpa using h)
def zl(lt:α->α->Bool)(L X R:List α)(k:Nat):List α:=L++(qI lt [] (X.take k)).reverse++X.drop k++R
theorem Nw(lt:α->α->Bool)(L X R:List α):zl lt L X R 1=L++X++R:=by
 cases X with
 |nil=>simp[zl,qI]
 |cons x X=>simp[zl,qI,zk]
def Nu(lt:α->α->Bool)(L X R:List α){k:Nat}(h:X.length<=k):zl lt L X R k=L++xE lt X++R:=by
 simp[zl,xE,take_of_length_le h,drop_of_length_le h]
def Nv(lt:α->α->Bool)(L X R:List α)(k:Nat):(zl lt L X R k).length=L.length+X.length+R.length:=by
 simp only[zl,cT,length_reverse,GQ,dw,dW,length_nil];omega
def Lt(lt:α->α->Bool)(L X R:List α){k:Nat}(h:k<X.length):zl lt L X R k=jM L X[k] (qI lt [] (X.take k)).reverse (X.drop (k+1)++R) 0:=by
 rw[AW];simp only[zl,drop_eq_getElem_cons h,cu,cons_append]
def Lu(lt:α->α->Bool)(L X R:List α){k:Nat}(h:k<X.length){P:List α}(m:P=(qI lt [] (X.take k)).reverse){i:Nat}(e:i<=P.length)(g:∀j v,j<i->P[P.length-j-1]?=some v->lt X[k] v=true)(l:i<P.length->∀v,P[P.length-i-1]?=some v->lt X[k] v=false) :
  zl lt L X R (k+1)=jM L X[k] P (X.drop (k+1)++R) i:=by
 subst m;generalize n:qI lt [] (X.take k)=Q at *;have hr:∀j,j<Q.length->Q.reverse[Q.reverse.length-j-1]?=Q[j]?:=by
  intro j f;rw[length_reverse,getElem?_reverse aj];congr 1;omega
 have o:=Ke lt X[k] Q i (by simpa using e) (λj v f c=>g j v f (by rw[hr j (cg c)];exact c)) (λv c=>l (by rw[length_reverse];exact cg c) v (by rw[hr i (cg c)];exact c));have hil:i<=Q.length:=by simpa using e
 simp only[zl,D5 lt X [] k h,n,o,jM,reverse_append,reverse_cons,length_reverse];have p:Q.reverse.take (Q.length-i)=(Q.drop i).reverse:=by rw[take_reverse];congr 2;omega
 have t2:Q.reverse.drop (Q.length-i)=(Q.take i).reverse:=by rw[drop_reverse];congr 2;omega
 rw[p,t2];simp only[cu,cons_append,nil_append]
end
structure kq where
 who:Int
 cE:Int
 units:Int
 deriving DecidableEq
def lF{x:Int}(c:-9223372036854775808<=x)(e:x<9223372036854775808):IntKind.i64.wrap x=x:=tK c e
def kq.key(p:kq):Int:=p.who*8+p.cE
def jK(w a:Int):Bool:=decide (1<=w)&&decide (w<=16)&&decide (1<=a)&&decide (a<=6)
def kq.ok(p:kq):Prop:=jK p.who p.cE=true/\1<=p.units/\p.units<=1099511627776
def q9{w a:Int}:jK w a=true↔1<=w/\w<=16/\1<=a/\a<=6:=by
 simp only[jK,dO,bP];omega
def ET(p:kq)(w a:Int):Int:=if p.who≠w then IntKind.wrap .i64 (p.who-w)else IntKind.wrap .i64 (p.cE-a)
def AQ{p:kq}{w a:Int}(c:jK p.who p.cE=true)(h:jK w a=true):ET p w a=if p.who≠w then p.who-w else p.cE-a:=by
 rw[q9]at c h;unfold ET;rw[lF aj aj,lF aj aj]
def EU{p:kq}{w a:Int}(c:jK p.who p.cE=true)(h:jK w a=true):ET p w a<0↔p.key<w*8+a:=by
 rw[AQ c h];rw[q9]at c h;unfold kq.key;split<;>omega
def oh(ps:List kq)(i:Nat):Bool:=
 match ps[i]? with
 |none=>true
 |some p=>jK p.who p.cE&&decide (1<=p.units)&&decide (p.units<=1099511627776)&&(match i with
  | 0=>true
  |j+1=>match ps[j]? with
   |some q=>decide (ET q p.who p.cE<0)
   |none=>true)
def j5(ps:List kq):Bool:=(range ps.length).all (oh ps)
def Good(ps:List kq):Prop:=(∀p∈ps,p.ok)/\ps.Pairwise (λp q=>p.key<q.key)
def AH{ps:List kq}:j5 ps=true↔Good ps:=by
 have l:∀i (h:i<ps.length),oh ps i=true↔ps[i].ok/\∀j,(f:j+1=i)->ET (ps[j]'aj) ps[i].who ps[i].cE<0:=by
  intro i h;unfold oh;rw[ec h];cases i with
  |zero=>simp[kq.ok,and_assoc]
  |succ i =>
   simp only[ec (show i<ps.length by omega),dO,bP,kq.ok];constructor
   ·rintro⟨⟨⟨c,m⟩,s⟩,h4⟩;exact⟨⟨c,m,s⟩,λj f=>(show j=i by omega) ▸ h4⟩
   ·rintro⟨⟨c,m,s⟩,h4⟩;exact⟨⟨⟨c,m⟩,s⟩,h4 i rfl⟩
 constructor
 ·intro v;have g:∀i (h:i<ps.length),oh ps i=true:=by
   intro i h;exact cR.1 v i (mem_range.2 h)
  have o:∀i (h:i<ps.length),ps[i].ok:=λi h=>((l i h).1 (g i h)).1;refine⟨?_,?_⟩
  ·intro p x;obtain⟨i,k,rfl⟩:=mem_iff_getElem.1 x;exact o i k
  ·rw[tN];have key:∀d i (f:i+d+1<ps.length),ps[i].key<ps[i+d+1].key:=by
    intro d;induction d with
    |zero =>
     intro i f;have c:=((l (i+1) f).1 (g _ f)).2 i rfl;rw[EU (o i aj).1 (o (i+1) f).1]at c;exact c
    |succ d ih =>
     intro i f;have t:=ih i aj;have c:=((l (i+d+1+1) f).1 (g _ f)).2 (i+d+1) rfl;rw[EU (o (i+d+1) aj).1 (o (i+d+1+1) f).1]at c;exact Int.lt_trans t c
   intro i j k f hij;have:=key (j-i-1) i aj;have e:i+(j-i-1)+1=j:=aj
   simpa only[e]using this
 ·rintro⟨c,m⟩;rw[tN]at m;refine cR.2 λi k=>?_;have k:=mem_range.1 k;rw[l i k];refine⟨c _ (cZ k),?_⟩;intro j f;have n:j<ps.length:=aj
  rw[EU (c _ (cZ n)).1 (c _ (cZ k)).1];exact m j i n k aj
def pos(K:Int):List kq->Nat
 | []=>0
 |p::r=>if p.key<K then pos K r+1 else 0
def kq.cells(p:kq):List D:=[.I p.who,.I p.cE,.I p.units]
def pl(ps:List kq):List (List D):=ps.map kq.cells
theorem Oc(ps:List kq):(pl ps).length=ps.length:=by simp[pl]
theorem mP(ps:List kq){i:Nat}(h:i<ps.length):(pl ps).getD i []=[.I ps[i].who,.I ps[i].cE,.I ps[i].units]:=by simp[pl,h,kq.cells]
attribute [go_sem] Oc
theorem HP(w a:Int):Sq 218 [] [.int .i64 w,.int .i64 a] [] (.bool (jK w a)):=by
 refine aX 19 2 [.tmp 4] mixed func218 ?_;refine s0 ?_;repeat' with_reducible first|apply And.intro|exact .dq|refine ak.aH (by assumption) ?_|refine gr (λh=>?_) λh=>?_|refine .id ?_|refine af.bF aj ?_ ?_|exact aI|simp only[*,go_sem,seval]
 all_goals(simp only[jK];simp<;>omega)
theorem EV(p:kq)(w a:Int):Sq 219 [] [.agg [.int .i64 p.who,.int .i64 p.cE,.int .i64 p.units],.int .i64 w,.int .i64 a] [] (.int .i64 (ET p w a)):=by
 refine aX 19 3 [.tmp 6] mixed func219 ?_;refine s0 ?_;repeat' with_reducible first|apply And.intro|exact .dq|refine ak.aH (by assumption) ?_|refine gr (λh=>?_) λh=>?_|refine .id ?_|refine af.bF aj ?_ ?_|exact aI|simp only[*,go_sem,seval]
 all_goals(simp only[ET];simp_all)
theorem Fw{ps:List kq}{i:Nat}(h:i<ps.length):oh ps i=(jK ps[i].who ps[i].cE&&decide (1<=ps[i].units)&&decide (ps[i].units<=1099511627776)&&(decide (i=0)||decide (ET (ps.getD (i-1) ⟨0,0,0⟩) ps[i].who ps[i].cE<0))):=by
 unfold oh;rw[ec h];cases i with
 |zero=>simp
 |succ i =>
  have c:i<ps.length:=aj
  simp[ec c,getD_eq_getElem?_getD]
def DO{ps:List kq}{i:Nat}(h:i<ps.length)(c:oh ps i=false):j5 ps=false:=by
 cases e:j5 ps
 ·rfl
 ·rw[cR.1 e i (mem_range.2 h)]at c;cases c
def AF{ps:List kq}(h:∀i<ps.length,oh ps i=true):j5 ps=true:=cR.2 λi c=>h i (mem_range.1 c)
theorem Em(ps:List kq)(hl:ps.length<2^62):Sq 137 [] [.sl 3 (pl ps)] [] (.int .i64 (if j5 ps then 0 else 14)):=by
 refine aX 46 1 [.tmp 2] mixed func137 ?_;refine s0 ?_;refine aF.count ps.length [0,5,6] [112] (λi=>[(7,.I i)]) (λi=>[]) (λi=>∀j<i,oh ps j=true) sT ?_ ?_
 ·exact lA
 ·intro i hi m;refine s0 ?_;refine aU.cQ (λh=>?_) (λh=>?_)
  ·have c:i<ps.length:=aj
   have hw:IntKind.wrap .i64 ((i:Int)+1)=((i+1:Nat):Int):=eM;have hr:=HP ps[i].who ps[i].cE;have e:=Fw c;have e0:oh ps i=true->∀k<i+1,oh ps k=true:=λp k e=>by
    rcases cq k i with h|h
    ·exact m k h
    ·obtain rfl:k=i:=aj
     exact p
   have l:oh ps i=false->j5 ps=false:=DO c;rcases Nat.eq_zero_or_pos i with rfl|hpos
   ·simp only[go_sem,seval,mP ps c];repeat' with_reducible first|apply And.intro|exact .dq|refine ak.aH (by assumption) ?_|refine ak.aH (hr) ?_|refine gr (λh=>?_) λh=>?_|refine .id ?_|refine af.bF aj ?_ ?_|exact aI|simp only[*,go_sem,seval]
    all_goals first
     |omega
     | (refine e0 ?_;rw[e];simp_all<;>omega)
     |rfl
     | (rw [l ?_]
        ·rfl
        ·cases g:oh ps 0
         ·rfl
         ·exfalso;rw[e]at g;simp at g;first|omega| (simp_all;done)| (simp_all;omega))
   ·obtain⟨j,rfl⟩:∃j,i=j+1:=⟨i-1,by omega⟩
    have n:j<ps.length:=aj
    have hw1:IntKind.wrap .i64 (((j+1:Nat):Int)-1)=(j:Int):=eM;have f:=EV ps[j] ps[j+1].who ps[j+1].cE;have o:ps.getD (j+1-1) ⟨0,0,0⟩=ps[j]:=by simp[n]
    rw[o]at e;simp only[go_sem,seval,mP ps c];repeat' with_reducible first|apply And.intro|exact .dq|refine ak.aH (by assumption) ?_|refine ak.aH (hr) ?_|refine ak.aH (f) ?_|refine gr (λh=>?_) λh=>?_|refine .id ?_|refine af.bF aj ?_ ?_|exact aI|simp only[*,go_sem,seval,mP ps n]
    all_goals first
     |omega
     | (refine e0 ?_;rw[e];simp_all<;>omega)
     |rfl
     | (rw [l ?_]
        ·rfl
        ·cases g:oh ps (j+1)
         ·rfl
         ·exfalso;rw[e]at g;simp at g;first|omega| (simp_all;done)| (simp_all;omega))
  ·obtain rfl:i=ps.length:=aj
   have hc:=AF m;exact Zh
def J8{ps:List kq}{i:Nat}(h:i<ps.length):ps.drop i=ps[i]::ps.drop (i+1):=(drop_eq_getElem_cons h)
def BK{a b:Int}(h:(a==b)=true):a=b:=su h
def PZ{ps qs:List kq}(c:ps.length=qs.length)(h:∀j (h1:j<ps.length) (h2:j<qs.length),ps[j]=qs[j]):ps=qs:=ext_getElem c h
theorem Mb(ps qs:List kq)(hl:ps.length<2^62):Sq 57 [] [.sl 3 (pl ps),.sl 3 (pl qs)] [] (.bool (decide (ps=qs))):=by
 refine aX 54 2 [.tmp 4] mixed func57 ?_;simp only[go_sem,seval];refine aU.fS (λh=>?_) (λh=>?_)
 ·simp only[go_sem,seval];have:ps≠qs:=by rintro rfl;simp at h
  simp[this]
 ·have l:ps.length=qs.length:=by have:=BK h;omega
  simp only[go_sem,seval];refine aF.count ps.length [0,1] [] (λi=>[(5,.int .i64 i)]) (λi=>[]) (λi=>∀j (f:j<ps.length) (g:j<qs.length),j<i->ps[j]=qs[j]) (by simp) ?_ ?_
  ·simp only[go_sem,seval]<;>simp
  ·intro i hi m;simp only[go_sem,seval];refine aU.cQ (λh=>?_) (λh=>?_)
   ·have k:i<ps.length:=aj
    have hi2:i<qs.length:=aj
    have hw:IntKind.wrap .i64 ((i:Int)+1)=((i+1:Nat):Int):=eM;have e0:ps[i].who=qs[i].who->ps[i].cE=qs[i].cE->ps[i].units=qs[i].units->∀j (f:j<ps.length) (g:j<qs.length),j<i+1->ps[j]=qs[j]:=by
     intro a b c j f g n;rcases cq j i with h|h
     ·exact m j f g h
     ·obtain rfl:j=i:=aj
      cases hp:ps[j];cases hq:qs[j];simp_all
    have o:ps[i]≠qs[i]->ps≠qs:=by rintro h rfl;exact h rfl
    simp only[go_sem,seval,mP ps k,mP qs hi2];repeat' with_reducible first|apply And.intro|exact .dq|refine ak.aH (by assumption) ?_|refine gr (λh=>?_) λh=>?_|refine .id ?_|refine af.bF aj ?_ ?_|exact aI|simp only[*,go_sem,seval,mP ps k,mP qs hi2]
    all_goals first
     |omega
     | (refine(kY (o λe=>?_)).symm;rw[e]at h;simp at h;done)
     | (simp only[bne_eq_false_iff_eq]at *;intro j f g n;exact e0 (by assumption) (by assumption) (by assumption) j aj aj n)
   ·obtain rfl:i=ps.length:=aj
    have:=PZ l (λj f g=>m j f g aj);repeat' with_reducible first|apply And.intro|exact .dq|refine ak.aH (by assumption) ?_|refine gr (λh=>?_) λh=>?_|refine .id ?_|refine af.bF aj ?_ ?_|exact aI|simp only[*,go_sem,seval]
    all_goals(simp_all;done)
def AM(ps:List kq)(hl:ps.length<2^30):Sq 90 [] [.sl 3 (pl ps)] [.own 3 (pl ps)] (.ref 0):=by
 refine aX 8 1 [.tmp 2] mixed func90 ?_;refine s0 ?_;refine bO.qg afF rfl aj ?_;intro b c;repeat' with_reducible first|apply And.intro|exact .dq|refine ak.aH (by assumption) ?_|refine gr (λh=>?_) λh=>?_|refine .id ?_|refine af.bF aj ?_ ?_|exact aI|simp only[*,go_sem,seval]
 all_goals first
  |omega
  | (rw[c (by assumption)])
  |skip
def JC{A Z B:List (List D)}{k:Nat}(c:k=A.length)(e:B.length=Z.length):splice (A++Z) k B=A++B:=by
 subst c;unfold splice;rw[take_left,e,<-cT,mT,append_nil]
def JD{A Z:List (List D)}{q:List D}{k:Nat}(c:k=A.length):splice (A++Z) k [q]=(A++[q])++Z.drop 1:=by
 subst c;unfold splice;rw[take_left,drop_append,drop_eq_nil_of_le sT];simp
def half{i j:Nat}(h:i+j<2^63):IntKind.wrap .i64 (vQ .u64 (IntKind.wrap .u64 (IntKind.wrap .i64 ((i:Int)+j))) 1)=(((i+j)/2:Nat):Int):=by
 rw[lF (x:=(i:Int)+j) aj aj];have c:∀x:Int,0<=x->x<18446744073709551616->IntKind.wrap .u64 x=x:=by
  intro x h1 h2;simp[IntKind.wrap,IntKind.signed,IntKind.bits];omega
 rw[c ((i:Int)+j) aj aj];have:vQ .u64 ((i:Int)+j) 1=(((i+j)/2:Nat):Int):=by
  show((i:Int)+j).fdiv (2^1)=_;rw[Int.fdiv_eq_ediv_of_nonneg _ aj];omega
 rw[this,lF aj aj]
def within(a b c:Int):Bool:=decide (b<=a)&&decide (a<=c)
theorem dV(a b c:Int):Sq 142 [] [.int .i64 a,.int .i64 b,.int .i64 c] [] (.bool (within a b c)):=by
 refine Abs.Spec.qu (n:=15) (np:=3) (rs:=[.tmp 6]) mixed func142 rfl rfl rfl rfl rfl sT sT ?_;refine s0 ?_;refine bC.split (λh=>?_) (λh=>?_)<;>simp only[h,go_sem,seval]
 all_goals simp[within,h]
def ints(xs:List Int):List (List D):=xs.map λx=>[.I x]
def bR(x:Int):Bool:=decide (-4611686018427387904<=x)&&decide (x<=4611686018427387904)
def right(xs:List Int):Bool:=xs.all bR
def aL(xs:List Int):(ints xs).length=xs.length:=by simp[ints]
theorem ints_at(xs:List Int){i:Nat}(h:i<xs.length):(ints xs).getD i []=[.int .i64 xs[i]]:=by simp[ints,h]
def wrap64{x:Int}(h:-9223372036854775808<=x)(h':x<=9223372036854775807):IntKind.wrap .i64 x=x:=by
 rw[IntKind.wrap_i64];omega
def dL(xs:List Int)(hl:xs.length<2^62):Sq 82 [] [.sl 1 (ints xs)] [] (.bool (right xs)):=by
 refine Abs.Spec.qu (n:=18) (np:=1) (rs:=[.tmp 2]) mixed func82 rfl rfl rfl rfl rfl sT sT ?_;refine s0 ?_;refine⟨Nat,λi=>[(2,.bool false),(5,.sl 1 (ints xs)),(6,.I xs.length),(7,.I i)],λi=>[],λi=>i<=xs.length/\right (xs.take i)=true,λi=>xs.length-i,0,?_,?_,?_⟩
 ·simp[right]
 ·simp only[go_sem,seval,aL]<;>simp
 ·rintro i ⟨hi,hr⟩;refine s0 ?_;refine aU.split (λh=>?_) (λh=>?_)
  ·have c:i<xs.length:=su h;simp only[go_sem,seval,Int.toNat_natCast,ints_at xs c];refine⟨by simp[aL,c],?_⟩;have bad:bR xs[i]=false->false=right xs:=λf=>by
    symm;simp only[right,all_eq_false];exact⟨xs[i],cZ c,by simp[f]⟩
   refine .fS (λh=>?_) (λh=>?_)<;>simp only[h,go_sem,seval]
   ·refine .split (λe=>?_) (λe=>?_)<;>simp only[e,go_sem,seval]
    ·exact bad (by simp[bR]at e |-;omega)
    ·refine⟨i+1,⟨c,?_⟩,?_,by simp only;omega⟩
     ·rw[right,kM c,all_append];rw[right]at hr;rw[hr];simp[bR]at h e |-;omega
     ·simp only[go_sem,seval,aL];rw[wrap64 aj aj];simp
   ·exact bad (by simp[bR]at h |-;omega)
  ·refine s0 ?_;have:i=xs.length:=by simp at h;omega
   subst this;simpa using hr.symm
structure av where
 a:Int
 b:Int
 c:Int
 d:Int
@[reducible] def av.cells(x:av):List D:=[.I x.a,.I x.b,.I x.c,.I x.d]
def av.ok(x:av):Bool:=within x.a 1 6&&within x.b 0 2&&within x.c 1 1073741824&&within x.d 0 10000
def rL(x:av):Sq 162 [] [.agg x.cells] [] (.bool x.ok):=by
 refine Abs.Spec.qu (n:=21) (np:=1) (rs:=[.tmp 2]) mixed func162 rfl rfl rfl rfl rfl sT sT ?_;simp only[av.cells];refine s0 ?_
 repeat'(with_reducible first
  |apply And.intro
  |refine ak.aH (dV _ _ _) ?_
  |refine bC.fS (λh=>?_) (λh=>?_)
  |refine bC.split (λh=>?_) (λh=>?_)
  |simp only[*,go_sem,seval])
 all_goals simp[av.ok, *]
theorem qT(x:av):Sq 161 [] [.agg x.cells] [] (.int .i64 x.a):=by
 refine Abs.Spec.qu (n:=5) (np:=1) (rs:=[.tmp 2]) mixed func161 rfl rfl rfl rfl rfl sT sT ?_;simp only[av.cells];exact iM
def cD{A:Type}(no:A->Int)(ok:A->Bool)(xs:List A)(i:Nat):Bool:=match xs[i]? with
 |some x=>ok x&&(match i with
  | 0=>true
  |j+1=>match xs[j]? with
   |some y=>decide (no y<no x)
   |none=>true)
 |none=>true
def gf{A:Type}(no:A->Int)(ok:A->Bool)(xs:List A){i:Nat}(c:i<xs.length)(h:¬ 0<i):cD no ok xs i=ok xs[i]:=by
 have:i=0:=aj
 subst this;simp[cD,c]
def gb{A:Type}(no:A->Int)(ok:A->Bool)(xs:List A){i:Nat}(c:i<xs.length)(h:0<i):cD no ok xs i=(ok xs[i]&&decide (no xs[i-1]<no xs[i])):=by
 obtain⟨j,rfl⟩:∃j,i=j+1:=⟨i-1,by omega⟩
 have:j<xs.length:=aj
 simp[cD,c,this]
def gQ{A:Type}(no:A->Int)(ok:A->Bool)(xs:List A):Bool:=(range xs.length).all (cD no ok xs)
def aP{A:Type}{c:A->List D}(xs:List A){i:Nat}(h:i<xs.length):(xs.map c).getD i []=c xs[i]:=by simp[h]
theorem uy{A:Type}{c:A->List D}(xs:List A){i:Nat}(h:i<xs.length):∃x,x=xs[i]/\(xs.map c).getD i []=c x/\(i:Int)<(xs.length:Int):=⟨_,rfl,aP xs h,by omega⟩
def rM(xs:List av)(hl:xs.length<2^62):Sq 160 [] [.sl 4 (xs.map av.cells),.fn 161 [],.fn 162 []] [] (.bool (gQ av.a av.ok xs)):=by
 refine Abs.Spec.qu (n:=38) (np:=3) (rs:=[.tmp 6]) mixed func160 rfl rfl rfl rfl rfl sT sT ?_;refine s0 ?_;refine⟨Nat,λi=>[(6,.bool false),(0,.sl 4 (xs.map av.cells)),(1,.fn 161 []),(2,.fn 162 []),(9,.sl 4 (xs.map av.cells)),(10,.I xs.length),(11,.I i)],λi=>[],λi=>i<=xs.length/\∀j,j<i->cD av.a av.ok xs j=true,λi=>xs.length-i,0,?_,?_,?_⟩
 ·simp
 ·exact lA
 ·rintro i ⟨hi,hr⟩;refine s0 ?_;refine aU.split (λh=>?_) (λh=>?_)
  ·have e:i<xs.length:=su h;have bad:cD av.a av.ok xs i=false->gQ av.a av.ok xs=false:=λk=>by
    simp only[gQ,all_eq_false];exact⟨i,mem_range.2 e,by simp[k]⟩
   simp only[go_sem,seval,Int.toNat_natCast,aP xs e,av.cells];refine⟨by simp[e],?_⟩;have next:cD av.a av.ok xs i=true->∀j,j<i+1->cD av.a av.ok xs j=true:=λk j m=>by
    rcases Nat.lt_succ_iff_lt_or_eq.1 m with h1|rfl
    ·exact hr j h1
    ·exact k
   by_cases l:0<i
   ·have s:IntKind.wrap .i64 ((i:Int)-1)=((i-1:Nat):Int):=by rw[wrap64 aj aj];omega
    have p:i-1<xs.length:=aj
    have g:decide (0<(i:Int))=true:=by simp;omega
    have o:=aP (c:=av.cells) xs p;have f:=gb av.a av.ok xs e l
    repeat'(with_reducible first
     |apply And.intro
     |exact dH.mk (by kernel_rfl)
     |exact tL.mk (by kernel_rfl)
     |refine ak.aH (rL _) ?_
     |refine ak.aH (qT _) ?_
     |refine bC.fS (λh=>?_) (λh=>?_)
     |refine bC.split (λh=>?_) (λh=>?_)
     |refine aU.split (λh=>?_) (λh=>?_)
     |refine dM.id ?_
     |simp only[s,g,o,go_sem,seval, *,Int.toNat_natCast,av.cells])
    ·simp;omega
    ·exact(bad (by rw[f];simp at h;simp;intro _;omega)).symm
    ·refine⟨i+1,⟨e,next (by rw[f];simp at h;simp[*])⟩,?_,by simp only;omega⟩;refine s0 ?_;rw[wrap64 aj aj];simp
   ·have g:decide (0<(i:Int))=false:=by simp;omega
    have f:=gf av.a av.ok xs e l
    repeat'(with_reducible first
     |apply And.intro
     |exact dH.mk (by kernel_rfl)
     |exact tL.mk (by kernel_rfl)
     |refine ak.aH (rL _) ?_
     |refine ak.aH (qT _) ?_
     |refine bC.fS (λh=>?_) (λh=>?_)
     |refine bC.split (λh=>?_) (λh=>?_)
     |refine aU.split (λh=>?_) (λh=>?_)
     |refine dM.id ?_
     |simp only[g,go_sem,seval, *,Int.toNat_natCast,av.cells])
    ·refine⟨i+1,⟨e,next (by rw[f];simp[*])⟩,?_,by simp only;omega⟩;refine s0 ?_;rw[wrap64 aj aj];simp
  ·refine s0 ?_;have:i=xs.length:=by simp at h;omega
   subst this;symm;simpa[gQ]using hr
def Cm:Sq 155 [] [.nil,.fn 144 [],.fn 156 []] [] (.bool true):=by
 refine Abs.Spec.qu (n:=38) (np:=3) (rs:=[.tmp 6]) mixed func155 rfl rfl rfl rfl rfl sT sT ?_;refine s0 ?_;refine⟨Unit,λ_=>[(6,.bool false),(10,.I 0),(11,.I 0)],λ_=>[],λ_=>True,λ_=>0,(),aI,?_,?_⟩
 ·exact iM
 ·intro _ _;simp only[go_sem,seval,Int.lt_irrefl,decide_false]
def FJ:Sq 157 [] [.nil,.fn 158 [],.fn 159 []] [] (.bool true):=by
 refine Abs.Spec.qu (n:=38) (np:=3) (rs:=[.tmp 6]) mixed func157 rfl rfl rfl rfl rfl sT sT ?_;refine s0 ?_;refine⟨Unit,λ_=>[(6,.bool false),(10,.I 0),(11,.I 0)],λ_=>[],λ_=>True,λ_=>0,(),aI,?_,?_⟩
 ·exact iM
 ·intro _ _;simp only[go_sem,seval,Int.lt_irrefl,decide_false]
theorem IP(xs:List av)(c:xs.length<2^62):Sq 66 [] [.agg [.nil,.nil,.sl 4 (xs.map av.cells)]] [] (.int .i64 (if gQ av.a av.ok xs then 0 else 14)):=by
 refine Abs.Spec.qu (n:=19) (np:=1) (rs:=[.tmp 2]) mixed func66 rfl rfl rfl rfl rfl sT sT ?_;refine s0 ?_
 repeat'(with_reducible first
  |apply And.intro
  |exact dH.mk (by kernel_rfl)
  |exact tL.mk (by kernel_rfl)
  |refine ak.aH (rM _ c) ?_
  |refine ak.aH Cm ?_
  |refine ak.aH FJ ?_
  |refine bC.fS (λh=>?_) (λh=>?_)
  |refine bC.split (λh=>?_) (λh=>?_)
  |refine aU.fS (λh=>?_) (λh=>?_)
  |refine aU.split (λh=>?_) (λh=>?_)
  |refine dM.id ?_
  |simp only[*,go_sem,seval])
 all_goals(simp at h;simp[h])
def Ox(a k:Nat)(hk:k<=64):vQ .u64 (a:Int) (k:Int)=((a/2^k:Nat):Int):=by
 unfold vQ;have c:min (Int.toNat (k:Int)) (IntKind.bits .u64)=k:=by simp[IntKind.bits];omega
 rw[c,Int.fdiv_eq_ediv_of_nonneg _ (by exact_mod_cast Nat.zero_le _)];push_cast;rfl
def oz(a:Nat):vQ .u64 (a:Int) 32=((a/4294967296:Nat):Int):=Ox a 32 aj
def Vl(a:Nat):vQ .u64 (a:Int) 16=((a/65536:Nat):Int):=Ox a 16 aj
def aba(a:Nat):vQ .u64 (a:Int) 8=((a/256:Nat):Int):=Ox a 8 aj
def LG:ByteArray:=⟨((List.append (α:=UInt8) [0,1,2,2,3,3,3,3,4,4,4,4,4,4,4,4,5,5,5,5,5,5,5,5,5,5,5,5,5,5,5,5,6,6,6,6,6,6,6,6,6,6,6,6,6,6,6,6,6,6,6,6,6,6,6,6,6,6,6,6,6,6,6,6] [7,7,7,7,7,7,7,7,7,7,7,7,7,7,7,7,7,7,7,7,7,7,7,7,7,7,7,7,7,7,7,7,7,7,7,7,7,7,7,7,7,7,7,7,7,7,7,7,7,7,7,7,7,7,7,7,7,7,7,7,7,7,7,7]).append (List.append (α:=UInt8) [8,8,8,8,8,8,8,8,8,8,8,8,8,8,8,8,8,8,8,8,8,8,8,8,8,8,8,8,8,8,8,8,8,8,8,8,8,8,8,8,8,8,8,8,8,8,8,8,8,8,8,8,8,8,8,8,8,8,8,8,8,8,8,8] [8,8,8,8,8,8,8,8,8,8,8,8,8,8,8,8,8,8,8,8,8,8,8,8,8,8,8,8,8,8,8,8,8,8,8,8,8,8,8,8,8,8,8,8,8,8,8,8,8,8,8,8,8,8,8,8,8,8,8,8,8,8,8,8])).toArray⟩
def abp:=LG.eq_def.symm
def L8(x:Nat):Nat:=((LG[x]?).map (·.toNat)).getD 0
def Te(x:Nat):Nat:=if 256<=x then 8+L8 (x/256)else L8 x
def Tf(x:Nat):Nat:=if 65536<=x then 16+Te (x/65536)else Te x
def MG(x:Nat):Nat:=if 4294967296<=x then 32+Tf (x/4294967296)else Tf x
theorem Th:(range 256).all (λx=>decide (x<2^L8 x)&&(x==0||decide (2^L8 x<=2*x))&&decide (L8 x<=8))=true:=ct
def Ru(x:Nat)(h:x<256):x<2^L8 x/\(0<x->2^L8 x<=2*x)/\L8 x<=8:=by
 have:=cR.1 Th x (mem_range.2 h);simp only[dO,Bool.or_eq_true,bP,gm]at this;refine⟨this.1.1,?_,this.2⟩;intro h0;rcases this.1.2 with h1|h1
 ·omega
 ·exact h1
def ME(x:Nat)(h:x<65536):x<2^Te x/\(0<x->2^Te x<=2*x)/\Te x<=16:=by
 unfold Te;split
 ·obtain⟨e,c,f⟩:=Ru (x/256) aj;have:=c aj;rw[Nat.pow_add];refine⟨by omega,by omega,by omega⟩
 ·obtain⟨e,c,f⟩:=Ru x aj;exact⟨e,c,by omega⟩
def MF(x:Nat)(h:x<4294967296):x<2^Tf x/\(0<x->2^Tf x<=2*x)/\Tf x<=32:=by
 unfold Tf;split
 ·obtain⟨e,c,f⟩:=ME (x/65536) aj;have:=c aj;rw[Nat.pow_add];refine⟨by omega,by omega,by omega⟩
 ·obtain⟨e,c,f⟩:=ME x aj;exact⟨e,c,by omega⟩
def MH(x:Nat)(h:x<18446744073709551616):x<2^MG x/\(0<x->2^MG x<=2*x)/\MG x<=64:=by
 unfold MG;split
 ·obtain⟨e,c,f⟩:=MF (x/4294967296) aj;have:=c aj;rw[Nat.pow_add];refine⟨by omega,by omega,by omega⟩
 ·obtain⟨e,c,f⟩:=MF x aj;exact⟨e,c,by omega⟩
def u8w{x:Int}(h:0<=x)(h':x<256):IntKind.wrap .u8 x=x:=by rw[IntKind.wrap_u8];omega
def w48:IntKind.wrap .i64 48=48:=by decide
def w56:IntKind.wrap .i64 56=56:=by decide
def w40:IntKind.wrap .i64 40=40:=by decide
def w16:IntKind.wrap .i64 16=16:=by decide
def w24:IntKind.wrap .i64 24=24:=by decide
def w8:IntKind.wrap .i64 8=8:=by decide
def l8D{i:Nat}:(((LG[i]?).map λx=>(x.toNat:Int)).getD 0)=(L8 i:Int):=by
 unfold L8;cases LG[i]?<;>simp
theorem YV(i:Nat):L8 i<=255:=by
 unfold L8;cases LG[i]? with
 |none=>simp
 |some b=>simpa using Nat.le_of_lt_succ b.toNat_lt
def wL{c:Int}(h:0<=c/\c<=100)(i:Nat):IntKind.wrap .i64 (c+IntKind.wrap .i64 (L8 i:Int))=c+L8 i:=by
 have:=YV i;rw[wrap64 (x:=(L8 i:Int)) aj aj,wrap64 aj aj]
theorem LH:LG.size=256:=ct
set_option maxRecDepth 20000 in
theorem NJ(x:Nat)(hx:x<18446744073709551616):Sq 263 [] [.int .u64 x] [] (.int .i64 (MG x)):=by
 refine Abs.Spec.qu (n:=25) (np:=1) (rs:=[.tmp 2]) mixed func263 rfl rfl rfl rfl rfl sT sT ?_;refine s0 ?_
 repeat'(with_reducible first
  |apply And.intro
  |refine aU.split (λh=>?_) (λh=>?_)
  |refine dM.id ?_
  |simp only[*,go_sem,seval,oz,Vl,aba,w48,w56,w40,w16,w24,w8,abp])
 all_goals(simp only[bP,iX]at *)
 all_goals first
  | (rw[LH,u8w aj aj];omega)
  |skip
 all_goals(rw[u8w aj aj,Int.toNat_natCast,l8D])
 all_goals(simp only[MG,Tf,Te])
 all_goals(repeat (rw[aE aj]))
 all_goals(repeat (rw[az aj]))
 all_goals(repeat (rw[aE aj]))
 all_goals(repeat (rw[az aj]))
 all_goals(repeat (rw[aE aj]))
 all_goals(rw[wL aj])
 all_goals omega
theorem Qh(x:Nat)(c:x<18446744073709551616):Sq 260 [] [.int .u64 x] [] (.int .i64 ((64-MG x:Nat):Int)):=by
 refine Abs.Spec.qu (n:=6) (np:=1) (rs:=[.tmp 2]) mixed func260 rfl rfl rfl rfl rfl sT sT ?_;refine sc aI (NJ x c) ?_;have:=(MH x c).2.2;rw[wrap64 aj aj];omega
def pz(a:Nat):Uk .u64 (a:Int) 4294967295=((a%4294967296:Nat):Int):=by
 unfold Uk;rw[BitVec.toNat_and,BitVec.toNat_ofInt,BitVec.toNat_ofInt];simp only[IntKind.bits];have h:((4294967295:Int)%((2^64:Nat):Int)).toNat=2^32-1:=aj
 rw[h,Nat.and_two_pow_sub_one_eq_mod,IntKind.wrap_u64];omega
def J4(a b:Nat):(a:Int).tdiv (b:Int)=((a/b:Nat):Int):=by rw[Int.tdiv_eq_ediv_of_nonneg aj];rfl
def aap(a b:Nat):(a:Int).tmod (b:Int)=((a%b:Nat):Int):=by rw[Int.tmod_eq_emod_of_nonneg aj];rfl
set_option maxRecDepth 20000 in
def uM(x y:Nat)(l:x<18446744073709551616)(m:y<18446744073709551616):Sq 171 [] [.int .u64 x,.int .u64 y] [] (.bH [.int .u64 ((x*y/18446744073709551616:Nat):Int),.int .u64 ((x*y%18446744073709551616:Nat):Int)]):=by
 obtain⟨j,k,bw,c⟩:=Lib.mul64_hi x y l m;have ba:=Lib.half_mul_le (a:=x/4294967296) (b:=y/4294967296) aj aj;have bb:=Lib.half_mul_le (a:=x/4294967296) (b:=y%4294967296) aj aj;have bc:=Lib.half_mul_le (a:=x%4294967296) (b:=y/4294967296) aj aj;have e:x/4294967296*(y/4294967296)<18446744073709551616:=aj
 have f:x/4294967296*(y%4294967296)<18446744073709551616:=aj
 have g:x%4294967296*(y/4294967296)<18446744073709551616:=aj
 have h:x/4294967296*(y/4294967296)+(x/4294967296*(y%4294967296)+x%4294967296*(y%4294967296)/4294967296)/4294967296<18446744073709551616:=aj
 have i:x/4294967296*(y/4294967296)+(x/4294967296*(y%4294967296)+x%4294967296*(y%4294967296)/4294967296)/4294967296+((x/4294967296*(y%4294967296)+x%4294967296*(y%4294967296)/4294967296)%4294967296+x%4294967296*(y/4294967296))/4294967296<18446744073709551616:=aj
 refine Abs.Spec.qu (n:=51) (np:=2) (rs:=[.tmp 4,.tmp 5]) mixed func171 rfl rfl rfl rfl rfl sT sT ?_;simp only[pz,oz,go_sem,seval,Mul64.mulN,Mul64.addN,Mul64.wrapN _ j,Mul64.wrapN _ f,Mul64.wrapN _ k,Mul64.wrapN _ g,Mul64.wrapN _ bw,Mul64.wrapN _ e,Mul64.wrapN _ h,Mul64.wrapN _ i,Mul64.wrapM (x*y),c];exact Mul64.wrapN _ (c ▸ i)
def LX{s:Nat}(hs:s<=64):2^(64-s)*2^s=18446744073709551616:=by
 rw[<-Nat.pow_add,show 64-s+s=64 by omega]
def afl(c lo y s:Nat)(m:s<=64)(k:c<y)(l:lo<18446744073709551616) :
  lo/2^(64-s)<2^s/\c*2^s+lo/2^(64-s)<y*2^s/\(c*2^s+lo/2^(64-s))*18446744073709551616+lo*2^s%18446744073709551616=(c*18446744073709551616+lo)*2^s:=by
 have e:=LX m;have f:lo/2^(64-s)<2^s:=by
  rw[Nat.div_lt_iff_lt_mul (Nat.two_pow_pos _),Nat.mul_comm,e];exact l
 refine⟨f,?_,?_⟩
 ·have g:(c+1)*2^s<=y*2^s:=gK _ k;rw[Nat.add_mul,Nat.one_mul]at g;omega
 ·have h:lo*2^s/18446744073709551616=lo/2^(64-s):=by
   rw[<-e,Nat.mul_div_mul_right _ _ (Nat.two_pow_pos s)]
  have i:=Nat.div_add_mod (lo*2^s) 18446744073709551616;rw[h]at i;have j:c*18446744073709551616*2^s=c*2^s*18446744073709551616:=by rw[Nat.mul_assoc,Nat.mul_comm 18446744073709551616,<-Nat.mul_assoc]
  rw[Nat.add_mul,Nat.add_mul,j];omega
structure Iy(un d a b q r:Nat):Prop where
 sum:q*a+r=un
 small:r<4294967296
 top:q<=4294967297
 least:(un*4294967296+d)/(a*4294967296+b)<=q
section
variable{un d a b q r:Nat}
def qv(q a b:Nat):q*(a*4294967296+b)=q*a*4294967296+q*b:=by rw[Nat.mul_add,Nat.mul_assoc]
def Iy.start(ha:2147483648<=a)(ha':a<4294967296)(hb:b<4294967296)(hd:d<4294967296)(hu:un<a*4294967296+b):Iy un d a b (un/a) (un%a):=by
 have c:=Nat.div_add_mod un a;have hl:=Nat.mod_lt un (show 0<a by omega);have e:un/a<=4294967297:=by
  apply Nat.le_of_lt_succ;rw[Nat.div_lt_iff_lt_mul aj];omega
 refine⟨by rw[Nat.mul_comm];exact c,by omega,e,?_⟩;apply Nat.le_of_lt_succ;rw[Nat.div_lt_iff_lt_mul aj,Nat.succ_eq_add_one,qv,Nat.add_mul,Nat.one_mul];have:un/a*a=a*(un/a):=Nat.mul_comm _ _;omega
def Iy.stop(h:Iy un d a b q r)(hv:0<a)(h1:q*b<=4294967296*r+d):q=(un*4294967296+d)/(a*4294967296+b):=by
 refine Nat.le_antisymm ?_ h.least;rw[Nat.le_div_iff_mul_le aj,qv];have:=h.sum;omega
def Iy.step(h:Iy un d a b q r)(hu:un<a*4294967296+b)(hd:d<4294967296)(c:4294967296<=q\/4294967296*r+d<q*b) :
  0<q/\(q-1)*a+(r+a)=un/\q-1<=4294967296/\(un*4294967296+d)/(a*4294967296+b)<=q-1:=by
 have g:0<q:=by
  rcases c with c|c
  ·omega
  ·rcases Nat.eq_zero_or_pos q with e|e
   ·subst e;omega
   ·exact e
 obtain⟨p,rfl⟩:∃p,q=p+1:=⟨q-1,by omega⟩
 have i:=h.sum;rw[Nat.add_mul,Nat.one_mul]at i;have ht:=h.top;refine⟨g,by simp only[Nat.add_sub_cancel];omega,by omega,?_⟩;simp only[Nat.add_sub_cancel];apply Nat.le_of_lt_succ;rw[Nat.div_lt_iff_lt_mul aj,Nat.succ_eq_add_one,qv];have f:(p+1)*a=p*a+a:=by rw[Nat.add_mul,Nat.one_mul]
 have e2:(p+1)*b=p*b+b:=by rw[Nat.add_mul,Nat.one_mul]
 rw[f];rcases c with c|c
 ·have:4294967296*b<=(p+1)*b:=gK _ c;have h2:4294967296*a<=(p+1)*a:=gK _ c;omega
 ·have:=h.small;omega
def Iy.brk(hsum:q*a+r=un)(e:q<=4294967296)(c:(un*4294967296+d)/(a*4294967296+b)<=q)(hb:b<4294967296)(hv:0<a)(hr:4294967296<=r):q=(un*4294967296+d)/(a*4294967296+b):=by
 refine Nat.le_antisymm ?_ c;rw[Nat.le_div_iff_mul_le aj,qv];have h1:q*b<=4294967296*4294967296:=Nat.mul_le_mul e aj;omega
end
def two(N un W v:Nat)(hN:un*18446744073709551616+W=N)(hW:W<18446744073709551616)(e:0<v)(hu:un<v) :
  N/v=(un*4294967296+W/4294967296)/v*4294967296+((un*4294967296+W/4294967296)%v*4294967296+W%4294967296)/v /\
  N%v=((un*4294967296+W/4294967296)%v*4294967296+W%4294967296)%v:=by
 have e1:=Nat.div_add_mod (un*4294967296+W/4294967296) v;have c:N=((un*4294967296+W/4294967296)%v*4294967296+W%4294967296)+v*((un*4294967296+W/4294967296)/v*4294967296):=by
  rw[<-Nat.mul_assoc];omega
 constructor
 ·rw[c,Nat.add_mul_div_left _ _ e,Nat.add_comm]
 ·rw[c,Nat.add_mul_mod_self_left]
def Vk(a k:Nat)(hk:k<=64):Lx .u64 (a:Int) (k:Int)=((a*2^k%18446744073709551616:Nat):Int):=by
 unfold Lx;have c:min (Int.toNat (k:Int)) (IntKind.bits .u64)=k:=by simp[IntKind.bits];omega
 rw[c,IntKind.wrap_u64,Int.natCast_emod,Int.natCast_mul,Int.natCast_pow];rfl
def orN(a b k:Nat)(f:b<2^k)(h:a*2^k+b<18446744073709551616):ior .u64 ((a*2^k:Nat):Int) (b:Int)=((a*2^k+b:Nat):Int):=by
 unfold ior;rw[BitVec.toNat_or,BitVec.toNat_ofInt,BitVec.toNat_ofInt];simp only[IntKind.bits];have c:(((a*2^k:Nat):Int)%((2^64:Nat):Int)).toNat=a*2^k:=aj
 have e:((b:Int)%((2^64:Nat):Int)).toNat=b:=aj
 rw[c,e,Nat.mul_comm a,<-Nat.two_pow_add_eq_or_of_lt f,Nat.mul_comm,IntKind.wrap_u64];omega
def abB(a b X m:Int)(h:X+m=a+b)(c:0<=m)(e:m<18446744073709551616):IntKind.wrap .u64 (IntKind.wrap .u64 (IntKind.wrap .u64 a+b)-IntKind.wrap .u64 X)=m:=by
 simp only[IntKind.wrap_u64];rw[Int.emod_add_emod,<-Int.sub_emod,<-h,show X+m-X=m by omega];exact Int.emod_eq_of_lt c e
def Zw(un w v q m:Nat)(f:q=(un*4294967296+w)/v)(e:m=(un*4294967296+w)%v)(hv:m<v)(hv2:v<18446744073709551616):IntKind.wrap .u64 (IntKind.wrap .u64 (IntKind.wrap .u64 ((un:Int)*4294967296)+(w:Int))-IntKind.wrap .u64 ((q:Int)*(v:Int)))=(m:Int):=by
 have c:=Nat.div_add_mod (un*4294967296+w) v;rw[<-e,<-f,Nat.mul_comm v]at c;refine abB _ _ _ _ ?_ (Int.natCast_nonneg _) ?_
 ·rw[Mul64.mulN];generalize q*v=x at c |-;omega
 ·omega
def aed(q c Q:Nat)(h:q*4294967296+c=Q)(hQ:Q<18446744073709551616):IntKind.wrap .u64 (IntKind.wrap .u64 ((q:Int)*4294967296)+(c:Int))=(Q:Int):=by
 simp only[IntKind.wrap_u64];omega
def Zv{p:Prop} (h:p:=by
 rintro⟨q,r⟩ dg;simp only at dg;have hsm:=dg.small;have htp:=dg.top;have hsum:=dg.sum;have k:IntKind.wrap .u64 (4294967296*(r:Int))=((4294967296*r:Nat):Int):=by rw[IntKind.wrap_u64];omega
 have l:=λ(D:Nat)(h:D<4294967296)=>show IntKind.wrap .u64 (((4294967296*r:Nat):Int)+(D:Int))=((4294967296*r+D:Nat):Int)by rw[IntKind.wrap_u64];omega
 have i:IntKind.wrap .u64 ((r:Int)+((v/4294967296:Nat):Int))=((r+v/4294967296:Nat):Int):=by rw[IntKind.wrap_u64];omega
 have j:=λ(h:0<q)=>show IntKind.wrap .u64 ((q:Int)-1)=((q-1:Nat):Int)by rw[IntKind.wrap_u64];omega
 simp only[pz,oz,go_sem,seval];refine bC.fS (λf=>?_) (λf=>?_)
 ·have hq':q<4294967296:=by simp at f;omega
  have m:q*(v%4294967296)<18446744073709551616:=by
   have:=Nat.mul_le_mul (show q<=4294967295 by omega) (show v%4294967296<=4294967295 by omega);omega
  simp only[pz,oz,go_sem,seval,f,k,l _ hDl,Mul64.mulN,Mul64.wrapN _ m];refine aU.split (λe=>?_) (λe=>?_)
  ·obtain⟨s1,s2,s3,s4⟩:=dg.step hU hDl (.inr (by rw[bP]at e;exact_mod_cast e));simp only[go_sem,seval,j s1,i];refine aU.split (λhr=>?_) (λhr=>?_)
   ·refine s0 ?_;have c:=Iy.brk s2 s3 s4 aj vpos (by rw[bP]at hr;omega);rw[hvr]at c;try rw[<-hq1]at c
    refine⟨(),aI,?_⟩;exact dJ c
   ·refine s0 ?_;refine⟨(q-1,r+v/4294967296),⟨s2,by rw[iX]at hr;omega,by omega,s4⟩,?_,by simp only;omega⟩;exact iM
  ·refine s0 ?_;have c:=dg.stop vpos (by rw[iX]at e;have g:=Int.not_lt.1 e;exact_mod_cast g);rw[hvr]at c;try rw[<-hq1]at c
   refine⟨(),aI,?_⟩;exact dJ c
 ·obtain⟨s1,s2,s3,s4⟩:=dg.step hU hDl (.inl (by simp at f;omega));simp only[pz,oz,go_sem,seval,f,j s1,i];refine aU.split (λhr=>?_) (λhr=>?_)
  ·refine s0 ?_;have c:=Iy.brk s2 s3 s4 aj vpos (by rw[bP]at hr;omega);rw[hvr]at c;try rw[<-hq1]at c
   refine⟨(),aI,?_⟩;exact dJ c
  ·refine s0 ?_;refine⟨(q-1,r+v/4294967296),⟨s2,by rw[iX]at hr;omega,by omega,s4⟩,?_,by simp only;omega⟩
   simp only[go_sem,seval]):p:=h
set_option maxRecDepth 20000 in
set_option maxHeartbeats 1000000 in
def AU(c lo y:Nat)(Z:y<18446744073709551616)(hh:c<y)(hl:lo<18446744073709551616):Sq 255 [] [.int .u64 c,.int .u64 lo,.int .u64 y] [] (.bH [.int .u64 ((c*18446744073709551616+lo)/y:Nat),.int .u64 ((c*18446744073709551616+lo)%y:Nat)]):=by
 have D:((y:Int)==0)=false:=by simp;omega
 have E:decide ((y:Int)<=c)=false:=by simp;omega
 refine Abs.Spec.qu (n:=135) (np:=3) (rs:=[.tmp 6,.tmp 7]) mixed func255 rfl rfl rfl rfl rfl sT sT ?_;simp only[pz,oz,go_sem,seval,D,E];refine aU.split (λh=>?_) (λh=>?_)
 ·simp only[pz,oz,go_sem,seval,D,E,h];have:c=0:=su h;subst this;refine⟨dH.mk (by kernel_rfl),?_,?_,?_,?_⟩
  ·omega
  ·omega
  ·rw[J4,Mul64.wrapN]
   ·simp
   ·exact Nat.lt_of_le_of_lt (Nat.div_le_self _ _) hl
  ·rw[aap];simp
 ·obtain⟨l1,H,l3⟩:=MH y Z;have H:=H aj;obtain⟨s,hs⟩:=aV (64-MG y);have e:s<=64:=aj
  have M:2^MG y*2^s=18446744073709551616:=by rw[<-Nat.pow_add,show MG y+s=64 by omega]
  have j:y*2^s<18446744073709551616:=by rw[<-M];exact Nat.mul_lt_mul_of_pos_right l1 (Nat.two_pow_pos s)
  have C:18446744073709551616<=2*(y*2^s):=by rw[<-M,<-Nat.mul_assoc];exact gK _ H
  obtain⟨p1,P,p3⟩:=afl c lo y s e hh hl;obtain⟨v,o⟩:=aV (y*2^s);obtain⟨un,g⟩:=aV (c*2^s+lo/2^(64-s));obtain⟨W,F⟩:=aV (lo*2^s%18446744073709551616);have t:v<18446744073709551616:=by rw[o];exact j
  have hvg:18446744073709551616<=2*v:=by rw[o];exact C
  have l:un<v:=by rw[g,o];exact P
  have hA:c*2^s<=un:=by rw[g];exact Nat.le_add_right _ _
  have L:W<18446744073709551616:=by rw[F];exact Nat.mod_lt _ (by decide)
  have e1:IntKind.wrap .u64 ((64-MG y:Nat):Int)=(s:Int):=by rw[<-hs,Mul64.wrapN _ aj]
  have e2:Lx .u64 (y:Int) (s:Int)=(v:Int):=by rw[Vk _ _ e,o,Nat.mod_eq_of_lt j]
  have S:IntKind.wrap .u64 (64-(s:Int))=((64-s:Nat):Int):=by rw[IntKind.wrap_u64];omega
  have U:Lx .u64 (c:Int) (s:Int)=((c*2^s:Nat):Int):=by rw[Vk _ _ e,Nat.mod_eq_of_lt (Nat.lt_of_le_of_lt hA (Nat.lt_trans l t))]
  have V:vQ .u64 (lo:Int) ((64-s:Nat):Int)=((lo/2^(64-s):Nat):Int):=Ox _ _ aj;have X:ior .u64 ((c*2^s:Nat):Int) ((lo/2^(64-s):Nat):Int)=(un:Int):=by rw[orN _ _ _ p1 (Nat.lt_trans P j),g]
  have Y:Lx .u64 (lo:Int) (s:Int)=(W:Int):=by rw[Vk _ _ e,F]
  have p:v=v/4294967296*4294967296+v%4294967296:=aj
  have e8:IntKind.wrap .u64 ((un/(v/4294967296):Nat):Int)=((un/(v/4294967296):Nat):Int):=Mul64.wrapN _ (Nat.lt_of_le_of_lt (Nat.div_le_self _ _) aj);have Q:Iy un (W/4294967296) (v/4294967296) (v%4294967296) (un/(v/4294967296)) (un%(v/4294967296)):=Iy.start aj aj aj aj aj;have e9:IntKind.wrap .u64 ((un:Int)-IntKind.wrap .u64 (((un/(v/4294967296):Nat):Int)*((v/4294967296:Nat):Int)))=((un%(v/4294967296):Nat):Int):=by
   have:=Q.sum;rw[Mul64.mulN,Mul64.wrapN _ aj,IntKind.wrap_u64];omega
  simp only[pz,oz,go_sem,seval,D,E,h];refine ak.aH (Qh y Z) ?_;simp only[pz,oz,go_sem,seval,D,E,h,e1,e2,S,U,V,X,Y,J4,e8,e9];repeat (refine And.intro aj ?_)
  have i:∀x:Nat,(c*18446744073709551616+lo)*2^s/v=x->x=(c*18446744073709551616+lo)/y:=λx O=>by
   rw[<-O,o,Nat.mul_div_mul_right _ _ (Nat.two_pow_pos s)]
  have f:∀x:Nat,(c*18446744073709551616+lo)*2^s%v=x->x/2^s=(c*18446744073709551616+lo)%y:=λx O=>by
   rw[<-O,o,Nat.mul_mod_mul_right,Nat.mul_div_cancel _ (Nat.two_pow_pos s)]
  obtain⟨t1,t2⟩:=two ((c*18446744073709551616+lo)*2^s) un W v (by rw[g,F];exact p3) L aj l;have i:=i _ t1;have f:=f _ t2;have N:∀a:Nat,vQ .u64 (a:Int) (s:Int)=((a/2^s:Nat):Int):=λa=>Ox a s e;clear p1 P p3 j C M F g hA e1 e2 S U V X Y l1 H l3 t1 t2 o hs;have vpos:0<v/4294967296:=aj
  obtain⟨m,G⟩:=aV ((un*4294967296+W/4294967296)%v);have A:m<v:=by rw[G];exact Nat.mod_lt _ aj
  have k:m<v/4294967296*4294967296+v%4294967296:=by rw[<-p];exact A
  obtain⟨z,hq1⟩:=aV ((un*4294967296+W/4294967296)/v);rw[<-G,<-hq1]at i;rw[<-G]at f;have B:un<v/4294967296*4294967296+v%4294967296:=by rw[<-p];exact l
  have hvr:=p.symm;refine Gw (T:=Unit) (λ_=>[(2,.int .u64 v),(6,.int .u64 0),(7,.int .u64 0),(8,.int .u64 s),(9,.int .u64 (v/4294967296:Nat)),(10,.int .u64 (v%4294967296:Nat)),(11,.int .u64 un),(13,.int .u64 (W/4294967296:Nat)),(14,.int .u64 (W%4294967296:Nat)),(15,.int .u64 z)]) (λ_=>[]) (λ_=>True) (by rfl) ?_ ?_
  ·rintro⟨⟩ -;have I:=Zw un (W/4294967296) v z m hq1 G A t;have J:IntKind.wrap .u64 ((m/(v/4294967296):Nat):Int)=((m/(v/4294967296):Nat):Int):=Mul64.wrapN _ (Nat.lt_of_le_of_lt (Nat.div_le_self _ _) aj);have R:Iy m (W%4294967296) (v/4294967296) (v%4294967296) (m/(v/4294967296)) (m%(v/4294967296)):=Iy.start aj aj aj aj k;have K:IntKind.wrap .u64 ((m:Int)-IntKind.wrap .u64 (((m/(v/4294967296):Nat):Int)*((v/4294967296:Nat):Int)))=((m%(v/4294967296):Nat):Int):=by
    have:=R.sum;rw[Mul64.mulN,Mul64.wrapN _ aj,IntKind.wrap_u64];omega
   simp only[pz,oz,go_sem,seval,J4,I,J,K];repeat (refine And.intro aj ?_)
   refine Gw (T:=Unit) (λ_=>[(2,.int .u64 v),(8,.int .u64 s),(14,.int .u64 (W%4294967296:Nat)),(15,.int .u64 z),(17,.int .u64 m),(18,.int .u64 ((m*4294967296+W%4294967296)/v:Nat))]) (λ_=>[]) (λ_=>True) (by rfl) ?_ ?_
   ·rintro⟨⟩ -;simp only[pz,oz,go_sem,seval,J4];have g1:IntKind.wrap .u64 (IntKind.wrap .u64 ((z:Int)*4294967296)+(((m*4294967296+W%4294967296)/v:Nat):Int))=(((c*18446744073709551616+lo)/y:Nat):Int):=by
     have hQ:(c*18446744073709551616+lo)/y<18446744073709551616:=by
      rw[Nat.div_lt_iff_lt_mul aj];omega
     exact aed z _ _ i hQ
    have g2:=Zw m (W%4294967296) v ((m*4294967296+W%4294967296)/v) ((m*4294967296+W%4294967296)%v) rfl rfl (Nat.mod_lt _ aj) t;rw[g1,g2,N,f];exact⟨rfl,rfl⟩
   refine⟨Nat×Nat,λx=>[(2,.int .u64 v),(6,.int .u64 0),(7,.int .u64 0),(8,.int .u64 s),(9,.int .u64 (v/4294967296:Nat)),(10,.int .u64 (v%4294967296:Nat)),(14,.int .u64 (W%4294967296:Nat)),(15,.int .u64 z),(17,.int .u64 m),(18,.int .u64 x.1),(16,.int .u64 x.2)],λ_=>[],λx=>Iy m (W%4294967296) (v/4294967296) (v%4294967296) x.1 x.2,λx=>x.1,(m/(v/4294967296),m%(v/4294967296)),R,?_,?_⟩
   ·exact iM
   ·have hU:=k;have hDl:W%4294967296<4294967296:=aj
    exact Zv
  refine⟨Nat×Nat,λx=>[(2,.int .u64 v),(6,.int .u64 0),(7,.int .u64 0),(8,.int .u64 s),(9,.int .u64 (v/4294967296:Nat)),(10,.int .u64 (v%4294967296:Nat)),(11,.int .u64 un),(13,.int .u64 (W/4294967296:Nat)),(14,.int .u64 (W%4294967296:Nat)),(15,.int .u64 x.1),(16,.int .u64 x.2)],λ_=>[],λx=>Iy un (W/4294967296) (v/4294967296) (v%4294967296) x.1 x.2,λx=>x.1,(un/(v/4294967296),un%(v/4294967296)),Q,?_,?_⟩
  ·exact iM
  ·have hU:=B;have hDl:W/4294967296<4294967296:=aj
   exact Zv
def abw{a:Int}:∃u:Nat,IntKind.wrap .u64 a=(u:Int)/\u<18446744073709551616/\(u:Int)=a%18446744073709551616:=by
 refine⟨(a%18446744073709551616).toNat,?_,?_,?_⟩
 ·rw[IntKind.wrap_u64];omega
 ·omega
 ·omega
def hi1(x:Nat)(P:Int)(h:(x:Int)=P)(hP:-85070591730234615865843651857942052864<=P/\P<=85070591730234615865843651857942052864):IntKind.wrap .i64 ((x/18446744073709551616:Nat):Int)=P/18446744073709551616/\((x%18446744073709551616:Nat):Int)=P%18446744073709551616:=by
 rw[IntKind.wrap_i64];omega
def hi2(x:Nat)(P b:Int)(h:(x:Int)=P+18446744073709551616*b)(hP:-85070591730234615865843651857942052864<=P/\P<=85070591730234615865843651857942052864):IntKind.wrap .i64 (IntKind.wrap .u64 (((x/18446744073709551616:Nat):Int)-b%18446744073709551616))=P/18446744073709551616/\((x%18446744073709551616:Nat):Int)=P%18446744073709551616:=by
 rw[IntKind.wrap_i64,IntKind.wrap_u64];omega
def RS(x:Nat)(P a b:Int)(h:(x:Int)=P+18446744073709551616*a+18446744073709551616*b+18446744073709551616*18446744073709551616)(hP:-85070591730234615865843651857942052864<=P/\P<=85070591730234615865843651857942052864) :
  IntKind.wrap .i64 (IntKind.wrap .u64 (IntKind.wrap .u64 (((x/18446744073709551616:Nat):Int)-b%18446744073709551616)-a%18446744073709551616))=P/18446744073709551616/\((x%18446744073709551616:Nat):Int)=P%18446744073709551616:=by
 rw[IntKind.wrap_i64,IntKind.wrap_u64,IntKind.wrap_u64];omega
def SE(a b:Int)(ha:-9223372036854775808<=a/\a<=9223372036854775807)(hb:-9223372036854775808<=b/\b<=9223372036854775807):-85070591730234615865843651857942052864<=a*b/\a*b<=85070591730234615865843651857942052864:=by
 have h1:(a*b).natAbs<=9223372036854775808*9223372036854775808:=by
  rw[Int.natAbs_mul];exact Nat.mul_le_mul aj aj
 omega
section
variable{a b:Int}{u w:Nat}
def SD(hu:(u:Int)=a%18446744073709551616)(hw:(w:Int)=b%18446744073709551616)(ha:-9223372036854775808<=a/\a<=9223372036854775807)(hb:-9223372036854775808<=b/\b<=9223372036854775807)(h1:a<0)(h2:b<0) :
  ((u*w:Nat):Int)=a*b+18446744073709551616*a+18446744073709551616*b+18446744073709551616*18446744073709551616:=by
 have c:(u:Int)=a+18446744073709551616:=aj
 have e2:(w:Int)=b+18446744073709551616:=aj
 rw[Int.natCast_mul,c,e2,Int.add_mul,Int.mul_add,Int.mul_add,Int.mul_comm a 18446744073709551616,Int.add_assoc,Int.add_assoc,Int.add_assoc]
def SC(hu:(u:Int)=a%18446744073709551616)(hw:(w:Int)=b%18446744073709551616)(ha:-9223372036854775808<=a/\a<=9223372036854775807)(hb:-9223372036854775808<=b/\b<=9223372036854775807)(h1:a<0)(h2:¬b<0) :
  ((u*w:Nat):Int)=a*b+18446744073709551616*b:=by
 have c:(u:Int)=a+18446744073709551616:=aj
 have e2:(w:Int)=b:=aj
 rw[Int.natCast_mul,c,e2,Int.add_mul]
def Oi(hu:(u:Int)=a%18446744073709551616)(hw:(w:Int)=b%18446744073709551616)(ha:-9223372036854775808<=a/\a<=9223372036854775807)(hb:-9223372036854775808<=b/\b<=9223372036854775807)(h1:¬a<0)(h2:b<0) :
  ((u*w:Nat):Int)=a*b+18446744073709551616*a:=by
 have c:(u:Int)=a:=aj
 have e2:(w:Int)=b+18446744073709551616:=aj
 rw[Int.natCast_mul,c,e2,Int.mul_add,Int.mul_comm a 18446744073709551616]
def SB(hu:(u:Int)=a%18446744073709551616)(hw:(w:Int)=b%18446744073709551616)(ha:-9223372036854775808<=a/\a<=9223372036854775807)(hb:-9223372036854775808<=b/\b<=9223372036854775807)(h1:¬a<0)(h2:¬b<0) :
  ((u*w:Nat):Int)=a*b:=by
 have c:(u:Int)=a:=aj
 have e2:(w:Int)=b:=aj
 rw[Int.natCast_mul,c,e2]
end
theorem mq(a b:Int)(f:-9223372036854775808<=a/\a<=9223372036854775807)(g:-9223372036854775808<=b/\b<=9223372036854775807):Sq 71 [] [.int .i64 a,.int .i64 b] [] (.agg [.int .i64 (a*b/18446744073709551616),.int .u64 (a*b%18446744073709551616)]):=by
 obtain⟨u,l,j,c⟩:=abw (a:=a);obtain⟨w,m,k,e⟩:=abw (a:=b);refine Abs.Spec.qu (n:=31) (np:=2) (rs:=[.cell 4 133]) mixed func71 rfl rfl rfl rfl rfl sT sT ?_;refine sm (a2 l m) ?_
 repeat'(with_reducible first
  |apply And.intro
  |exact dH.mk (by kernel_rfl)
  |exact tL.mk (by kernel_rfl)
  |refine ak.aH (uM _ _ j k) ?_
  |refine aU.split (λh=>?_) (λh=>?_)
  |refine dM.id ?_
  |simp only[*,go_sem,seval])
 all_goals(simp only[bP,iX]at *)
 all_goals(have i:=SE a b f g)
 all_goals(clear l m)
 all_goals first
  |exact(RS _ _ _ _ (SD c e f g ‹_› ‹_›) i).1
  |exact(RS _ _ _ _ (SD c e f g ‹_› ‹_›) i).2
  |exact(hi2 _ _ _ (SC c e f g ‹_› ‹_›) i).1
  |exact(hi2 _ _ _ (SC c e f g ‹_› ‹_›) i).2
  |exact(hi2 _ _ _ (Oi c e f g ‹_› ‹_›) i).1
  |exact(hi2 _ _ _ (Oi c e f g ‹_› ‹_›) i).2
  |exact(hi1 _ _ (SB c e f g ‹_› ‹_›) i).1
  |exact(hi1 _ _ (SB c e f g ‹_› ‹_›) i).2
def afg(x:Nat)(h:x<18446744073709551616):P7 .u64 (x:Int)=((18446744073709551615-x:Nat):Int):=by
 unfold P7;have c:BitVec.ofInt 64 (if IntKind.signed .u64 then -1 else IntKind.max .u64)=BitVec.allOnes 64:=by decide
 show IntKind.wrap .u64 (((BitVec.ofInt 64 (if IntKind.signed .u64 then -1 else IntKind.max .u64) ^^^ BitVec.ofInt 64 (x:Int)).toNat:Nat):Int)=_;rw[c,BitVec.allOnes_xor,BitVec.toNat_not,BitVec.toNat_ofInt,IntKind.wrap_u64];omega
def B5(P n:Int):Int:=if n<=0 then 0 else if bR (P/n)then P/n else 0
def Oo(P n:Int):Int:=if n<=0 then 0 else if bR (P/n)then P%n else 0
def Dh(P n:Int):Int:=if n<=0 then 2 else if bR (P/n)then 0 else 1
def Vb{P n:Int}(hn:0<n)(h:bR (P/n)=true):B5 P n=P/n/\Oo P n=P%n/\Dh P n=0:=by
 simp[B5,Oo,Dh,h,show ¬n<=0 by omega]
def QK{P n:Int}(hn:0<n)(h:bR (P/n)=false):B5 P n=0/\Oo P n=0/\Dh P n=1:=by
 simp[B5,Oo,Dh,h,show ¬n<=0 by omega]
def mj(x:Int):right [x]=bR x:=by simp[right]
theorem QL(P:Nat)(n:Int)(hn:0<n/\n<=9223372036854775807)(hP:P<170141183460469231731687303715884105728):Sq 253 [] [.agg [.int .i64 ((P/18446744073709551616:Nat):Int),.int .u64 ((P%18446744073709551616:Nat):Int)],.int .i64 n] [] (.bH [.int .i64 (B5 P n),.int .i64 (Oo P n),.int .i64 (Dh P n)]):=by
 obtain⟨N,rfl⟩:∃N:Nat,n=N:=⟨n.toNat,by omega⟩
 obtain⟨H,B⟩:=aV (P/18446744073709551616);obtain⟨L,C⟩:=aV (P%18446744073709551616);have x:0<N:=aj
 have p:H*18446744073709551616+L=P:=aj
 have s:L<18446744073709551616:=aj
 have hHl:H<9223372036854775808:=aj
 rw[<-B,<-C];obtain⟨Q,m⟩:=aV (P/N);obtain⟨R,o⟩:=aV (P%N);have f:(P:Int)/(N:Int)=(Q:Int):=by rw[m];rfl
 have g:(P:Int)%(N:Int)=(R:Int):=by rw[o];rfl
 have hRN:R<N:=by rw[o];exact Nat.mod_lt _ x
 have y:=AU H L N aj;rw[p,<-m,<-o]at y;have i:N<=H->18446744073709551616<=Q:=λh=>by
  rw[m,Nat.le_div_iff_mul_le x];have:=Nat.mul_le_mul_left 18446744073709551616 h;omega
 have c1:decide ((N:Int)<=0)=false:=by simp;omega
 have c2:decide ((H:Int)<0)=false:=by simp
 have c3:IntKind.wrap .u64 (H:Int)=H:=Mul64.wrapN _ aj;have c4:IntKind.wrap .u64 (N:Int)=N:=Mul64.wrapN _ aj;have e:=Vb (P:=P) (n:=N) aj;have c:=QK (P:=P) (n:=N) aj;rw[f]at e c;rw[g]at e;clear m o f g;refine Abs.Spec.qu (n:=59) (np:=2) (rs:=[.tmp 4,.tmp 5,.tmp 6]) mixed func253 rfl rfl rfl rfl rfl (by simp) (by simp) ?_;simp only[go_sem,seval,c1,c2,c3,c4]
 repeat'(with_reducible first
  |apply And.intro
  |exact dH.mk (by kernel_rfl)
  |exact tL.mk (by kernel_rfl)
  |simp only[go_sem,seval,c1,c2,c3,c4])
 refine aU.split (λh=>?_) (λh=>?_)
 ·simp only[go_sem,seval];have h:=i (by rw[bP]at h;omega);obtain⟨j,k,l⟩:=c (by simp[bR];omega);rw[j,k,l];exact⟨rfl,rfl,rfl⟩
 ·have t:H<N:=by rw[iX]at h;omega
  refine sc (a4 c1 c2 c3 c4) (y t s) ?_;refine aU.split (λv=>?_) (λv=>?_)
  ·simp only[go_sem,seval];obtain⟨j,k,l⟩:=c (by rw[bP]at v;simp[bR];omega);rw[j,k,l];exact⟨rfl,rfl,rfl⟩
  ·rw[iX]at v;have z:IntKind.wrap .i64 (Q:Int)=Q:=wrap64 aj aj;have A:IntKind.wrap .i64 (R:Int)=R:=wrap64 aj aj;simp only[go_sem,seval,z,A];first| (refine⟨by decide,?_⟩)|skip
   refine sl aI (dL [(Q:Int)] (by simp)) ?_;have:right [(Q:Int)]=true:=by simp[right,bR];omega
   simp only[go_sem,seval,this];obtain⟨j,k,l⟩:=e (by simp[bR];omega);rw[j,k,l];exact⟨rfl,rfl,rfl⟩
theorem Mc(a b c:Int)(g:0<=a/\a<=9223372036854775807)(h:0<=b/\b<=9223372036854775807)(i:0<c/\c<=9223372036854775807):Sq 242 [] [.int .i64 a,.int .i64 b,.int .i64 c] [] (.bH [.int .i64 (B5 (a*b) c),.int .i64 (Dh (a*b) c)]):=by
 have hP:=SE a b aj aj;have h0:0<=a*b:=Int.mul_nonneg g.1 h.1;obtain⟨P,e⟩:∃P:Nat,a*b=P:=⟨(a*b).toNat,by omega⟩
 have j:=QL P c i aj;have f:=mq a b aj aj;rw[e]at f |-;refine Abs.Spec.qu (n:=22) (np:=3) (rs:=[.tmp 6,.tmp 7]) mixed func242 rfl rfl rfl rfl rfl (by simp) (by simp) ?_;refine sc aI f ?_;exact qt aI j
def av.P(x:av)(u:Int):Int:=u*(10000-x.d)*x.c
def av.fit(x:av)(u:Int):Bool:=x.ok&&decide (0<=u)&&decide (u<=1099511627776)
def av.V(x:av)(u:Int):Int:=if x.fit u then B5 (x.P u) 10000 else 0
def av.E(x:av)(u:Int):Int:=if x.fit u then Dh (x.P u) 10000 else 3
def Es(x:av):gQ av.a av.ok [x]=x.ok:=by simp[gQ,cD,range_succ]
def av.N2(x:av):x.ok=true↔(1<=x.a/\x.a<=6)/\(0<=x.b/\x.b<=2)/\(1<=x.c/\x.c<=1073741824)/\(0<=x.d/\x.d<=10000):=by
 simp[av.ok,within,and_assoc]
theorem JQ(x:av)(u:Int):Sq 207 [] [.agg x.cells,.int .i64 u] [] (.bH [.int .i64 (x.V u),.int .i64 (x.E u)]):=by
 refine Abs.Spec.qu (n:=29) (np:=2) (rs:=[.tmp 4,.tmp 5]) mixed func207 rfl rfl rfl rfl rfl (by simp) (by simp) ?_;simp only[go_sem,seval,av.cells];first| (refine⟨by decide,?_⟩)|skip
 refine sl aI (IP [x] (by simp)) ?_;cases f:x.ok
 ·have e:x.fit u=false:=by simp[av.fit,f]
  have g:x.V u=0:=by simp[av.V,e]
  have e2:x.E u=3:=by simp[av.E,e]
  simp only[go_sem,seval,Es,f,g,e2,Int.reduceBNe]
 ·simp only[go_sem,seval,Es,f,Int.reduceBNe];refine bC.fS (λh=>?_) (λh=>?_)
  ·simp only[go_sem,seval,h];refine aU.split (λi=>?_) (λi=>?_)
   ·have e:x.fit u=false:=by simp[av.fit]at i |-;intros;omega
    have g:x.V u=0:=by simp[av.V,e]
    have e2:x.E u=3:=by simp[av.E,e]
    simp only[go_sem,seval,g,e2]
   ·have e:x.fit u=true:=by simp[av.fit,f]at h i |-;omega
    have g:x.V u=B5 (x.P u) 10000:=by simp[av.V,e]
    have e2:x.E u=Dh (x.P u) 10000:=by simp[av.E,e]
    have hk:=x.N2.1 f;simp only[iX]at h i;have w1:IntKind.wrap .i64 (10000-x.d)=10000-x.d:=wrap64 aj aj;have hb:0<=u*(10000-x.d)/\u*(10000-x.d)<=10995116277760000:=by
     refine⟨Int.mul_nonneg aj aj,?_⟩;exact Int.le_trans (Int.mul_le_mul (show u<=1099511627776 by omega) (show 10000-x.d<=10000 by omega) aj aj) (by decide)
    have k:IntKind.wrap .i64 (u*(10000-x.d))=u*(10000-x.d):=wrap64 aj aj;have j:=Mc (u*(10000-x.d)) x.c 10000 aj aj aj;simp only[go_sem,seval,w1,k];refine ak.aH j ?_;simp only[go_sem,seval,g,e2,av.P]
  ·have e:x.fit u=false:=by simp[av.fit]at h |-;intros;omega
   have g:x.V u=0:=by simp[av.V,e]
   have e2:x.E u=3:=by simp[av.E,e]
   simp only[go_sem,seval,h,g,e2]
structure ah where
 no:Int
 state:Int
 need:Int
@[reducible] def ah.cells(x:ah):List D:=[.I x.no,.I x.state,.I x.need]
def ah.ok(x:ah):Bool:=within x.no 1 16&&within x.state 1 3&&bR x.need&&decide (0<=x.need)
theorem mB(x:ah):Sq 144 [] [.agg x.cells] [] (.int .i64 x.no):=by
 refine aX 5 1 [.tmp 2] mixed func144 ?_;simp only[ah.cells];exact iM
def qo(x:ah):Sq 156 [] [.agg x.cells] [] (.bool x.ok):=by
 have i:=dV x.no 1 16;have j:=dV x.state 1 3;have h:=dL [x.need] sT;rw[mj]at h;simp only[ah.cells];refine aX 22 1 [.tmp 2] mixed func156 ?_;refine sc aI i ?_;cases c:within x.no 1 16
 ·have e:x.ok=false:=by simp[ah.ok,c]
  exact dJ e
 refine sc aI j ?_;cases f:within x.state 1 3
 ·have e:x.ok=false:=by simp[ah.ok,f]
  exact dJ e
 refine sl aI h ?_;cases g:bR x.need
 ·have e:x.ok=false:=by simp[ah.ok,g]
  exact dJ e
 have e:x.ok=decide (0<=x.need):=by simp[ah.ok,c,f,g]
 exact dJ e
structure ay where
 no:Int
 cur:Int
 mult:Int
 add:Int
 set:Int
 cH:Int
 s0:Int
 s1:Int
 s2:Int
 s3:Int
 s4:Int
 s5:Int
@[reducible] def ay.cells(x:ay):List D:=[.I x.no,.I x.cur,.I x.mult,.I x.add,.I x.set,.I x.cH,.I x.s0,.I x.s1,.I x.s2,.I x.s3,.I x.s4,.I x.s5]
def ay.sh(x:ay):Nat->Int
 | 0=>x.s0| 1=>x.s1| 2=>x.s2| 3=>x.s3| 4=>x.s4| _=>x.s5
def ay.Ks(x:ay):Bool:=(range 6).all λi=>within (x.sh i) (-1073741824) 1073741824
def ay.ok(x:ay):Bool:=x.Ks&&within x.no 1 8&&within x.cur 0 2&&within x.mult 1 1024&&within x.add 0 1073741824&&within x.set 0 1073741824&&within x.cH 0 1073741824
theorem sG(x:ay):Sq 158 [] [.agg x.cells] [] (.int .i64 x.no):=by
 refine aX 5 1 [.tmp 2] mixed func158 ?_;simp only[ay.cells];exact iM
def sN(x:ay):Sq 159 [] [.agg x.cells] [] (.bool x.ok):=by
 have p:=dV x.no 1 8;have s:=dV x.cur 0 2;have t:=dV x.mult 1 1024;have v:=dV x.add 0 1073741824;have y:=dV x.set 0 1073741824;have z:=dV x.cH 0 1073741824;simp only[ay.cells];refine aX 42 1 [.tmp 2] mixed func159 ?_;refine s0 ?_;refine aF.count 6 [1,6] [32] (λi=>[(7,.I i)]) (λi=>[]) (λi=>∀j<i,within (x.sh j) (-1073741824) 1073741824=true) sT ?_ ?_
 ·exact iM
 ·intro i hi f;refine s0 ?_;refine aU.cQ (λh=>?_) (λh=>?_)
  ·have c:i<6:=aj
   have k:(drop (i*1) [D.I x.s0,D.I x.s1,D.I x.s2,D.I x.s3,D.I x.s4,D.I x.s5]).headD .undef=.I (x.sh i):=by
    rcases i with _| _| _| _| _| _|i<;>first|rfl|omega
   have B:IntKind.wrap .i64 ((i:Int)+1)=((i+1:Nat):Int):=eM;have A:=dV (x.sh i) (-1073741824) 1073741824;refine sm k ?_;refine⟨by omega,ak.aH A ?_⟩;cases g:within (x.sh i) (-1073741824) 1073741824
   ·have o:x.Ks=false:=by
     cases l:x.Ks
     ·rfl
     ·rw[ay.Ks,cR]at l;rw[l i (mem_range.2 c)]at g;cases g
    have e2:x.ok=false:=by simp[ay.ok,o]
    exact dJ e2
   ·refine sm B ?_;refine af.bF c ?_ ?_
    ·intro j m;rcases cq j i with h|h
     ·exact f j h
     ·obtain rfl:j=i:=aj
      exact g
    ·exact iM
  ·obtain rfl:i=6:=aj
   have n:x.Ks=true:=cR.2 λj m=>f j (mem_range.1 m);have e:x.ok=(within x.no 1 8&&within x.cur 0 2&&within x.mult 1 1024&&within x.add 0 1073741824&&within x.set 0 1073741824&&within x.cH 0 1073741824):=by simp[ay.ok,n]
   rw[e];clear f e n;repeat' with_reducible first|apply And.intro|exact .dq|refine ak.aH (by assumption) ?_|refine ak.aH (p) ?_|refine ak.aH (s) ?_|refine ak.aH (t) ?_|refine ak.aH (v) ?_|refine ak.aH (y) ?_|refine ak.aH (z) ?_|refine gr (λh=>?_) λh=>?_|refine .id ?_|refine af.bF aj ?_ ?_|exact aI|simp only[*,go_sem,seval]
   all_goals(simp_all;done)
def x9(xs:List ah)(hl:xs.length<2^62):Sq 155 [] [.sl 3 (xs.map ah.cells),.fn 144 [],.fn 156 []] [] (.bool (gQ ah.no ah.ok xs)):=by
 refine Abs.Spec.qu (n:=38) (np:=3) (rs:=[.tmp 6]) mixed func155 rfl rfl rfl rfl rfl sT sT ?_;refine s0 ?_;refine⟨Nat,λi=>[(6,.bool false),(0,.sl 3 (xs.map ah.cells)),(1,.fn 144 []),(2,.fn 156 []),(9,.sl 3 (xs.map ah.cells)),(10,.I xs.length),(11,.I i)],λi=>[],λi=>i<=xs.length/\∀j,j<i->cD ah.no ah.ok xs j=true,λi=>xs.length-i,0,?_,?_,?_⟩
 ·simp
 ·exact lA
 ·rintro i ⟨hi,hr⟩;refine s0 ?_;refine aU.split (λh=>?_) (λh=>?_)
  ·have e:i<xs.length:=su h;have bad:cD ah.no ah.ok xs i=false->gQ ah.no ah.ok xs=false:=λk=>by
    simp only[gQ,all_eq_false];exact⟨i,mem_range.2 e,by simp[k]⟩
   simp only[go_sem,seval,Int.toNat_natCast,aP xs e,ah.cells];refine⟨by simp[e],?_⟩;have next:cD ah.no ah.ok xs i=true->∀j,j<i+1->cD ah.no ah.ok xs j=true:=λk j m=>by
    rcases Nat.lt_succ_iff_lt_or_eq.1 m with h1|rfl
    ·exact hr j h1
    ·exact k
   by_cases l:0<i
   ·have s:IntKind.wrap .i64 ((i:Int)-1)=((i-1:Nat):Int):=by rw[wrap64 aj aj];omega
    have p:i-1<xs.length:=aj
    have g:decide (0<(i:Int))=true:=by simp;omega
    have o:=aP (c:=ah.cells) xs p;have f:=gb ah.no ah.ok xs e l
    repeat'(with_reducible first
     |apply And.intro
     |exact dH.mk (by kernel_rfl)
     |exact tL.mk (by kernel_rfl)
     |refine ak.aH (qo _) ?_
     |refine ak.aH (mB _) ?_
     |refine bC.fS (λh=>?_) (λh=>?_)
     |refine bC.split (λh=>?_) (λh=>?_)
     |refine aU.split (λh=>?_) (λh=>?_)
     |refine dM.id ?_
     |simp only[s,g,o,go_sem,seval, *,Int.toNat_natCast,ah.cells])
    ·simp;omega
    ·exact(bad (by rw[f];simp at h;simp;intro _;omega)).symm
    ·refine⟨i+1,⟨e,next (by rw[f];simp at h;simp[*])⟩,?_,by simp only;omega⟩;refine s0 ?_;rw[wrap64 aj aj];simp
   ·have g:decide (0<(i:Int))=false:=by simp;omega
    have f:=gf ah.no ah.ok xs e l
    repeat'(with_reducible first
     |apply And.intro
     |exact dH.mk (by kernel_rfl)
     |exact tL.mk (by kernel_rfl)
     |refine ak.aH (qo _) ?_
     |refine ak.aH (mB _) ?_
     |refine bC.fS (λh=>?_) (λh=>?_)
     |refine bC.split (λh=>?_) (λh=>?_)
     |refine aU.split (λh=>?_) (λh=>?_)
     |refine dM.id ?_
     |simp only[g,go_sem,seval, *,Int.toNat_natCast,ah.cells])
    ·refine⟨i+1,⟨e,next (by rw[f];simp[*])⟩,?_,by simp only;omega⟩;refine s0 ?_;rw[wrap64 aj aj];simp
  ·refine s0 ?_;have:i=xs.length:=by simp at h;omega
   subst this;symm;simpa[gQ]using hr
def Cl(xs:List ay)(hl:xs.length<2^62):Sq 157 [] [.sl 12 (xs.map ay.cells),.fn 158 [],.fn 159 []] [] (.bool (gQ ay.no ay.ok xs)):=by
 refine Abs.Spec.qu (n:=38) (np:=3) (rs:=[.tmp 6]) mixed func157 rfl rfl rfl rfl rfl sT sT ?_;refine s0 ?_;refine⟨Nat,λi=>[(6,.bool false),(0,.sl 12 (xs.map ay.cells)),(1,.fn 158 []),(2,.fn 159 []),(9,.sl 12 (xs.map ay.cells)),(10,.I xs.length),(11,.I i)],λi=>[],λi=>i<=xs.length/\∀j,j<i->cD ay.no ay.ok xs j=true,λi=>xs.length-i,0,?_,?_,?_⟩
 ·simp
 ·exact lA
 ·rintro i ⟨hi,hr⟩;refine s0 ?_;refine aU.split (λh=>?_) (λh=>?_)
  ·have e:i<xs.length:=su h;have bad:cD ay.no ay.ok xs i=false->gQ ay.no ay.ok xs=false:=λk=>by
    simp only[gQ,all_eq_false];exact⟨i,mem_range.2 e,by simp[k]⟩
   simp only[go_sem,seval,Int.toNat_natCast,aP xs e,ay.cells];refine⟨by simp[e],?_⟩;have next:cD ay.no ay.ok xs i=true->∀j,j<i+1->cD ay.no ay.ok xs j=true:=λk j m=>by
    rcases Nat.lt_succ_iff_lt_or_eq.1 m with h1|rfl
    ·exact hr j h1
    ·exact k
   by_cases l:0<i
   ·have s:IntKind.wrap .i64 ((i:Int)-1)=((i-1:Nat):Int):=by rw[wrap64 aj aj];omega
    have p:i-1<xs.length:=aj
    have g:decide (0<(i:Int))=true:=by simp;omega
    have o:=aP (c:=ay.cells) xs p;have f:=gb ay.no ay.ok xs e l
    repeat'(with_reducible first
     |apply And.intro
     |exact dH.mk (by kernel_rfl)
     |exact tL.mk (by kernel_rfl)
     |refine ak.aH (sN _) ?_
     |refine ak.aH (sG _) ?_
     |refine bC.fS (λh=>?_) (λh=>?_)
     |refine bC.split (λh=>?_) (λh=>?_)
     |refine aU.split (λh=>?_) (λh=>?_)
     |refine dM.id ?_
     |simp only[s,g,o,go_sem,seval, *,Int.toNat_natCast,ay.cells])
    ·simp;omega
    ·exact(bad (by rw[f];simp at h;simp;intro _;omega)).symm
    ·refine⟨i+1,⟨e,next (by rw[f];simp at h;simp[*])⟩,?_,by simp only;omega⟩;refine s0 ?_;rw[wrap64 aj aj];simp
   ·have g:decide (0<(i:Int))=false:=by simp;omega
    have f:=gf ay.no ay.ok xs e l
    repeat'(with_reducible first
     |apply And.intro
     |exact dH.mk (by kernel_rfl)
     |exact tL.mk (by kernel_rfl)
     |refine ak.aH (sN _) ?_
     |refine ak.aH (sG _) ?_
     |refine bC.fS (λh=>?_) (λh=>?_)
     |refine bC.split (λh=>?_) (λh=>?_)
     |refine aU.split (λh=>?_) (λh=>?_)
     |refine dM.id ?_
     |simp only[g,go_sem,seval, *,Int.toNat_natCast,ay.cells])
    ·refine⟨i+1,⟨e,next (by rw[f];simp[*])⟩,?_,by simp only;omega⟩;refine s0 ?_;rw[wrap64 aj aj];simp
  ·refine s0 ?_;have:i=xs.length:=by simp at h;omega
   subst this;symm;simpa[gQ]using hr
structure aC where
 ms:List ah
 ns:List ay
 xs:List av
def aC.cells(r:aC):List D:=[.sl 3 (r.ms.map ah.cells),.sl 12 (r.ns.map ay.cells),.sl 4 (r.xs.map av.cells)]
def aC.okB(r:aC):Bool:=gQ ah.no ah.ok r.ms&&gQ ay.no ay.ok r.ns&&gQ av.a av.ok r.xs
def aC.small(r:aC):Prop:=r.ms.length<2^60/\r.ns.length<2^60/\r.xs.length<2^60
theorem gF(r:aC)(k:r.small):Sq 66 [] [.agg r.cells] [] (.int .i64 (if r.okB then 0 else 14)):=by
 obtain⟨l1,l2,l3⟩:=k;have h:=x9 r.ms aj;have i:=Cl r.ns aj;have j:=rM r.xs aj;simp only[aC.cells];refine aX 19 1 [.tmp 2] mixed func66 ?_;refine sc aI h ?_;cases c:gQ ah.no ah.ok r.ms
 ·have e:r.okB=false:=by simp[aC.okB,c]
  exact lG e
 refine sc aI i ?_;cases f:gQ ay.no ay.ok r.ns
 ·have e:r.okB=false:=by simp[aC.okB,f]
  exact lG e
 refine sc aI j ?_;cases g:gQ av.a av.ok r.xs
 ·have e:r.okB=false:=by simp[aC.okB,g]
  exact lG e
 have e:r.okB=true:=by simp[aC.okB,c,f,g]
 exact dJ e
def gL{A:Type}(no:A->Int)(n:Int)(z:A):List A->A
 | []=>z
 |x::r=>if no x=n then x else gL no n z r
def iD{A:Type}(no:A->Int)(n:Int):List A->Int
 | []=>-1
 |x::r=>if no x=n then 0 else if iD no n r<0 then -1 else iD no n r+1
theorem je{A:Type}{no:A->Int}{n:Int}{z:A}:∀{xs:List A} {i:Nat} (h:i<xs.length),(∀j (e:j<xs.length),j<i->no xs[j]≠n)->no xs[i]=n->gL no n z xs=xs[i]/\iD no n xs=i
 | [],i,h,_,_=>by simp at h
 |x::r,0,h,_,c=>by
  have c:no x=n:=c;simp[gL,iD,c]
 |x::r,i+1,h,hn,c=>by
  have f:no x≠n:=hn 0 sT aj;obtain⟨g,k⟩:=je (z:=z) (xs:=r) (i:=i) (su h) (λj e hji=>hn (j+1) (su e) aj) c;simp only[gL,iD,az f,k];refine⟨g,?_⟩;rw[az aj];omega
theorem gC{A:Type}{no:A->Int}{n:Int}{z:A}:∀{xs:List A},(∀j (c:j<xs.length),no xs[j]≠n)->gL no n z xs=z/\iD no n xs = -1
 | [],_=>by simp[gL,iD]
 |x::r,hn=>by
  have e:no x≠n:=hn 0 sT;obtain⟨f,g⟩:=gC (z:=z) (xs:=r) (λj c=>hn (j+1) (su c));simp only[gL,iD,az e,g];exact⟨f,by simp⟩
theorem A9(xs:List av)(n:Int)(hl:xs.length<2^62):Sq 241 [] [.sl 4 (xs.map av.cells),.fn 161 [],.int .i64 n] [] (.bH [.agg (gL av.a n ⟨0,0,0,0⟩ xs).cells,.int .i64 (iD av.a n xs)]):=by
 refine aX 27 3 [.cell 6 156,.tmp 7] mixed func241 ?_;refine s0 ?_;refine aF.count xs.length [1,2,6,11,12] [112,208] (λi=>[(13,.I i)]) (λi=>[]) (λi=>∀j (g:j<xs.length),j<i->xs[j].a≠n) sT ?_ ?_
 ·exact lA
 ·intro i hi o;refine s0 ?_;refine aU.cQ (λh=>?_) (λh=>?_)
  ·have f:i<xs.length:=aj
   have s:IntKind.wrap .i64 ((i:Int)+1)=((i+1:Nat):Int):=eM;have p:=aP (c:=av.cells) xs f;have k:=qT xs[i];simp only[av.cells]at p k |-;refine sm p ?_;refine⟨by omega,ak.aH k ?_⟩;refine s0 ?_;refine aU.split (λe=>?_) (λe=>?_)
   ·have e:xs[i].a=n:=su e;obtain⟨l,m⟩:=je (z:=(⟨0,0,0,0⟩:av)) f o e;rw[l,m];exact iM
   ·have e:xs[i].a≠n:=su e;refine sm s ?_;refine af.bF f ?_ ?_
    ·intro j g hji;rcases cq j i with h|h
     ·exact o j g h
     ·obtain rfl:j=i:=aj
      exact e
    ·exact iM
  ·obtain rfl:i=xs.length:=aj
   obtain⟨l,m⟩:=gC (z:=(⟨0,0,0,0⟩:av)) (λj g=>o j g g);rw[l,m];simp only[go_sem,seval,av.cells]
structure aG where
 kind:Int
 who:Int
 cur:Int
@[reducible] def aG.cells(x:aG):List D:=[.I x.kind,.I x.who,.I x.cur]
def owned(k:Int):Bool:=k==2||k==3
theorem Jf(k:Int):Sq 177 [] [.int .i64 k] [] (.bool (owned k)):=by
 refine aX 9 1 [.tmp 2] mixed func177 ?_;refine s0 ?_
 repeat'(with_reducible first
  |apply And.intro
  |exact dH.mk (by kernel_rfl)
  |exact tL.mk (by kernel_rfl)
  |refine bC.fS (λh=>?_) (λh=>?_)
  |refine bC.split (λh=>?_) (λh=>?_)
  |refine aU.split (λh=>?_) (λh=>?_)
  |refine dM.id ?_
  |simp only[*,go_sem,seval])
 all_goals simp[owned, *]
def aG.right(x:aG):Bool:=if x.kind<1\/6<x.kind\/x.cur<0\/3<=x.cur then false else if owned x.kind then decide (1<=x.who)&&decide (x.who<=16)else x.who==0
def kV(x:aG):Sq 81 [] [.agg x.cells] [] (.bool x.right):=by
 refine aX 37 1 [.tmp 2] mixed func81 ?_;simp only[aG.cells];refine s0 ?_
 repeat'(with_reducible first
  |apply And.intro
  |exact dH.mk (by kernel_rfl)
  |exact tL.mk (by kernel_rfl)
  |refine ak.aH (Jf _) ?_
  |refine bC.fS (λh=>?_) (λh=>?_)
  |refine bC.split (λh=>?_) (λh=>?_)
  |refine aU.split (λh=>?_) (λh=>?_)
  |refine dM.id ?_
  |simp only[*,go_sem,seval])
 all_goals(simp only[bP,iX]at *)
 all_goals(unfold aG.right;simp[*])
def aG.floor(x:aG):Int:=if x.right&&(x.kind==3||x.kind==4)then 0 else -4611686018427387904
theorem rQ(x:aG):Sq 96 [] [.agg x.cells] [] (.int .i64 x.floor):=by
 have hr:=kV x;simp only[aG.cells]at hr;refine aX 15 1 [.tmp 2] mixed func96 ?_;simp only[aG.cells];refine s0 ?_
 repeat'(with_reducible first
  |apply And.intro
  |exact dH.mk (by kernel_rfl)
  |exact tL.mk (by kernel_rfl)
  |refine ak.aH hr ?_
  |refine bC.fS (λh=>?_) (λh=>?_)
  |refine bC.split (λh=>?_) (λh=>?_)
  |refine aU.split (λh=>?_) (λh=>?_)
  |refine dM.id ?_
  |simp only[*,go_sem,seval])
 all_goals(unfold aG.floor;simp[*])
def aG.less(x y:aG):Bool:=if x.kind≠y.kind then decide (x.kind<y.kind)else if x.who≠y.who then decide (x.who<y.who)else decide (x.cur<y.cur)
def oY(x y:aG):Sq 181 [] [.agg x.cells,.agg y.cells] [] (.bool (x.less y)):=by
 refine aX 32 2 [.tmp 4] mixed func181 ?_;simp only[aG.cells];refine s0 ?_
 repeat'(with_reducible first
  |apply And.intro
  |exact dH.mk (by kernel_rfl)
  |exact tL.mk (by kernel_rfl)
  |exact aI
  |refine bC.fS (λh=>?_) (λh=>?_)
  |refine bC.split (λh=>?_) (λh=>?_)
  |refine aU.split (λh=>?_) (λh=>?_)
  |refine dM.id ?_
  |simp only[*,go_sem,seval])
 all_goals(unfold aG.less;simp_all)
def aG.lt(x y:aG):Prop:=x.kind<y.kind\/x.kind=y.kind/\(x.who<y.who\/x.who=y.who/\x.cur<y.cur)
def Fo(x y:aG):x.less y=true↔x.lt y:=by
 unfold aG.less aG.lt;split
 ·simp only[bP];omega
 ·split
  ·simp only[bP];omega
  ·simp only[bP];omega
def NK(x y:aG):x.less y=false↔¬x.lt y:=by rw[<-Fo];simp
def aK:List Int->Int
 | []=>0
 |x::r=>x+aK r
theorem CD(a:List Int)(x:Int):aK (a++[x])=aK a+x:=by
 induction a with
 |nil=>simp[aK]
 |cons y r ih=>simp only[cons_append,aK,ih];omega
theorem CE:∀{l:List Int},right l=true -> -4611686018427387904*l.length<=aK l/\aK l<=4611686018427387904*l.length
 | [],_=>by simp[aK]
 |x::r,h=>by
  simp only[right,all_cons,dO]at h;have h2:=CE (l:=r) h.2;have h1:-4611686018427387904<=x/\x<=4611686018427387904:=by simpa[bR]using h.1
  simp only[aK,length_cons];push_cast;omega
def ID(S n:Int):(S%18446744073709551616+n%18446744073709551616+0)%18446744073709551616=(S+n)%18446744073709551616:=aj
def Tu(S n:Int)(h:-4611686018427387904<=n/\n<=4611686018427387904)(s:Int)(c:s=if 0<=n then 0 else 18446744073709551615) :
  ((S/18446744073709551616)%18446744073709551616+s+(S%18446744073709551616+n%18446744073709551616+0)/18446744073709551616)%18446744073709551616=((S+n)/18446744073709551616)%18446744073709551616:=by
 subst c;split<;>omega
def KE(n:Int)(h:-9223372036854775808<=n/\n<=9223372036854775807):IntKind.wrap .u64 (vQ .i64 n 63)=if 0<=n then 0 else 18446744073709551615:=by
 have:vQ .i64 n 63=n.fdiv (2^63):=rfl;rw[this,Int.fdiv_eq_ediv_of_nonneg _ aj,IntKind.wrap_u64];split<;>omega
theorem kW:Extern.find Tryz.f232=some add64Entry:=ct
theorem kX:Extern.findNext Tryz.f232=none:=ct
def nH(l:List Int):Int:=if right l&&bR (aK l)then aK l else 0
def nG(l:List Int):Int:=if right l then(if bR (aK l)then 0 else 1)else 3
theorem BI(S:Int)(h:-85070591730234615865843651857942052864<=S/\S<=85070591730234615865843651857942052864):Sq 236 [] [.int .u64 ((S/18446744073709551616)%18446744073709551616),.int .u64 (S%18446744073709551616)] [] (.bH [.int .i64 (if bR S then S else 0),.int .i64 (if bR S then 0 else 1)]):=by
 obtain⟨n,i⟩:=aV (IntKind.wrap .i64 (S%18446744073709551616));have c:n=if S%18446744073709551616<9223372036854775808 then S%18446744073709551616 else S%18446744073709551616-18446744073709551616:=by
  rw[i,IntKind.wrap_i64];split<;>omega
 have j:=KE n (by rw[c];split<;>omega);have hr:=dL [n] sT;rw[mj]at hr;refine aX 21 2 [.tmp 4,.tmp 5] mixed func236 ?_;by_cases hS:-9223372036854775808<=S/\S<9223372036854775808
 ·have e:n=S:=by rw[c];split<;>omega
  have g:(S/18446744073709551616%18446744073709551616 != if 0<=n then 0 else 18446744073709551615)=false:=by
   rw[bne_eq_false_iff_eq,e];split<;>omega
  simp only[go_sem,seval,<-i,j,g];refine sl aI hr ?_;rw[e]at hr |-;cases f:bR S
  ·simp only[go_sem,seval,f,jm,if_false]
  ·simp only[go_sem,seval,f,if_true]
 ·have g:(S/18446744073709551616%18446744073709551616 != if 0<=n then 0 else 18446744073709551615)=true:=by
   rw[bne_iff_ne,c];split<;>split<;>omega
  have f:bR S=false:=by simp only[bR,Bool.and_eq_false_iff,iX];omega
  simp only[go_sem,seval,<-i,j,g,f,jm,if_false]
theorem oA(l:List Int)(hl:l.length<2^60):Sq 176 [] [.sl 1 (ints l)] [] (.bH [.int .i64 (nH l),.int .i64 (nG l)]):=by
 have hr:=dL l aj;refine aX 40 1 [.tmp 2,.tmp 3] mixed func176 ?_;refine sc aI hr ?_;cases g:right l
 ·have p:nH l=0:=by simp[nH,g]
  have e2:nG l=3:=by simp[nG,g]
  exact dJ (a2 p e2)
 simp only[go_sem,seval,aL];refine aF.count l.length [12,13] [224] (λi=>[(14,.I i),(4,.int .u64 ((aK (l.take i)/18446744073709551616)%18446744073709551616)),(5,.int .u64 (aK (l.take i)%18446744073709551616))]) (λi=>[]) (λi=>True) trivial ?_ ?_
 ·simp only[go_sem,seval]<;>simp[aK]
 ·intro i hi _;refine s0 ?_;refine aU.cQ (λh=>?_) (λh=>?_)
  ·have c:i<l.length:=aj
   have y:IntKind.wrap .i64 ((i:Int)+1)=((i+1:Nat):Int):=eM;have z:bR l[i]=true:=cR.1 g _ (cZ c);have o:-4611686018427387904<=l[i]/\l[i]<=4611686018427387904:=by simpa[bR]using z
   obtain⟨S,e⟩:=aV (aK (l.take i));obtain⟨n,s⟩:=aV (l[i]);have f:aK (l.take (i+1))=S+n:=by rw[kM c,CD,e,s]
   have x:IntKind.wrap .u64 n=n%18446744073709551616:=IntKind.wrap_u64 n;rw[<-s]at o;have t:=KE n aj;simp only[go_sem,seval,ints_at l c,aL,<-s,<-e,x];refine⟨by omega,?_⟩;refine ak.sem rfl ?_;with_reducible refine bO.vr (k:=232) (fn:=Tryz.f232) (i:=S%18446744073709551616) (j:=n%18446744073709551616) (m:=0) ?_ func232 ?_ ?_ kX kW ?_ ?_ ?_ ?_ ?_ ?_ ?_ ?_ ?_
   iterate 11 (first|rfl|omega)
   refine sm t ?_;refine ak.sem rfl ?_;with_reducible refine bO.vr (k:=232) (fn:=Tryz.f232) (i:=S/18446744073709551616%18446744073709551616) (j:=if 0<=n then 0 else 18446744073709551615) (m:=(S%18446744073709551616+n%18446744073709551616+0)/18446744073709551616) ?_ func232 ?_ ?_ kX kW ?_ ?_ ?_ ?_ ?_ ?_ ?_ ?_ ?_
   iterate 7 (first|rfl|omega)
   ·split<;>omega
   iterate 3 (first|rfl|omega)
   rw[Tu S n o _ rfl,ID];refine sm y ?_;refine af.bF c trivial ?_
   simp only[go_sem,seval,f]
  ·obtain rfl:i=l.length:=aj
   obtain⟨S,e⟩:=aV (aK l);have hSr:=CE g;have v:=BI S (by rw[e];omega);have p:nH l=if bR S then S else 0:=by simp[nH,g,e]
   have e2:nG l=if bR S then 0 else 1:=by simp[nG,g,e]
   rw[p,e2];simp only[go_sem,seval,ef,<-e];exact qt aI v
theorem sP(r:aC)(n:Int)(e:r.small):Sq 206 [] [.agg r.cells,.int .i64 n] [] (.bH [.agg (gL av.a n ⟨0,0,0,0⟩ r.xs).cells,.bool (decide (0<=iD av.a n r.xs))]):=by
 have c:=A9 r.xs n (by have:=e.2.2;omega);simp only[av.cells]at c |-;simp only[aC.cells,av.cells];refine aX 18 2 [.cell 4 156,.tmp 5] mixed func206 ?_;exact qt aI c
structure bn where
 kind:Int
 who:Int
 cur:Int
 sum:Int
@[reducible] def bn.cells(x:bn):List D:=[.I x.kind,.I x.who,.I x.cur,.I x.sum]
def bn.aO(x:bn):aG:=⟨x.kind,x.who,x.cur⟩
structure bS where
 last:Int
 bs:List bn
def bS.cells(l:bS):List D:=[.I l.last,.sl 4 (l.bs.map bn.cells)]
def Lv(a:aG)(b:bn):Bool:=b.kind==a.kind&&(b.who==a.who&&b.cur==a.cur)
def m0(a:aG):List bn->Int
 | []=>0
 |b::r=>if Lv a b then b.sum else m0 a r
theorem I5(l:bS)(a:aG)(hl:l.bs.length<2^60):Sq 205 [] [.agg l.cells,.agg a.cells] [] (.int .i64 (m0 a l.bs)):=by
 simp only[bS.cells,aG.cells];refine aX 21 2 [.tmp 4] mixed func205 ?_;refine s0 ?_;refine aF.count l.bs.length [3,8,9] [48,64,160] (λi=>[(10,.I i)]) (λi=>[]) (λi=>m0 a (l.bs.drop i)=m0 a l.bs) sT ?_ ?_
 ·exact lA
 ·intro i hi e;refine s0 ?_;refine aU.cQ (λh=>?_) (λh=>?_)
  ·have f:i<l.bs.length:=aj
   have k:IntKind.wrap .i64 ((i:Int)+1)=((i+1:Nat):Int):=eM;have j:=aP (c:=bn.cells) l.bs f;rw[drop_eq_getElem_cons f]at e;simp only[m0]at e;simp only[bn.cells]at j;refine sm j ?_;refine⟨by omega,?_⟩;refine aU.split (λg=>?_) (λg=>?_)
   ·rw[aE (show Lv a l.bs[i]=true from g)]at e;exact dJ e
   ·rw[show Lv a l.bs[i]=false from g]at e;simp only[jm,if_false]at e;refine sm k ?_;refine af.bF f e ?_
    exact iM
  ·obtain rfl:i=l.bs.length:=aj
   simp only[mT,m0]at e;exact dJ e
def gA(c:Int)(bs:List bn):List Int:=(bs.filter λb=>b.cur==c).map bn.sum
def La(c:Int)(bs:List bn){i:Nat}(h:i<bs.length):gA c (bs.take (i+1))=if bs[i].cur==c then gA c (bs.take i)++[bs[i].sum]else gA c (bs.take i):=by
 simp only[gA];rw[kM h,rR,jH];cases e:bs[i].cur==c<;>simp[filter,e]
def Gv(c:Int)(bs:List bn):(gA c bs).length<=bs.length:=by
 simp only[gA,mY];exact length_filter_le _ _
theorem AG(x:Int):Sq 184 [] [.int .i64 x] [] (.bool true):=by
 refine aX 3 1 [.tmp 2] mixed func184 ?_;exact iM
theorem Mj(l:bS)(c:Int)(hl:l.bs.length<2^30):Sq 183 [] [.agg l.cells,.int .i64 c,.fn 184 []] [.own 1 (ints (gA c l.bs))] (.ref 0):=by
 simp only[bS.cells];refine aX 36 3 [.tmp 6] mixed func183 ?_;refine s0 ?_;refine aF.count l.bs.length [1,2,11,12] [64,208] (λi=>[(13,.I i),(7,.ref 544)]) (λi=>[(544,.own 1 (ints (gA c (l.bs.take i))))]) (λi=>True) trivial ?_ ?_
 ·simp only[go_sem,seval]<;>simp[gA,ints]
 ·intro i hi _;refine s0 ?_;refine aU.cQ (λh=>?_) (λh=>?_)
  ·have e:i<l.bs.length:=aj
   have k:IntKind.wrap .i64 ((i:Int)+1)=((i+1:Nat):Int):=eM;have j:=aP (c:=bn.cells) l.bs e;have f:=La c l.bs e;have hlen:=Gv c (l.bs.take i);have hlt:(l.bs.take i).length<=l.bs.length:=by simp;omega
   simp only[bn.cells]at j;refine sm j ?_;refine⟨by omega,?_⟩;cases g:l.bs[i].cur==c
   ·rw[g]at f;simp only[jm,if_false]at f;refine sm k ?_;refine af.bF e trivial ?_
    exact dJ f
   ·rw[g,aE rfl]at f;have m:=AG l.bs[i].kind;refine sc aI m ?_;simp only[go_sem,seval,k,aL];refine⟨by omega,af.bF e trivial ?_⟩;simp only[go_sem,seval,f]<;>simp[ints]
  ·obtain rfl:i=l.bs.length:=aj
   simp only[go_sem,seval,ef]
def k8(b:bn):Bool:=b.aO.right&&(bR b.sum&&(b.sum != 0&&!decide (b.sum<b.aO.floor)))
def mK(bs:List bn)(i:Nat):Bool:=
 match bs[i]? with
 |none=>true
 |some b=>k8 b&&(match i with
  | 0=>true
  |j+1=>match bs[j]? with
   |some q=>q.aO.less b.aO
   |none=>true)
def me{bs:List bn}(h:0<bs.length):mK bs 0=k8 bs[0]:=by simp[mK,h]
def ke{bs:List bn}{j:Nat}(h:j+1<bs.length):mK bs (j+1)=(k8 bs[j+1]&&(bs[j]'aj).aO.less bs[j+1].aO):=by
 have c:j<bs.length:=aj
 simp[mK,h,c]
def iK(bs:List bn):Bool:=(range bs.length).all (mK bs)
def vX{bs:List bn}{i:Nat}(h:i<bs.length)(c:mK bs i=false):iK bs=false:=by
 cases e:iK bs
 ·rfl
 ·rw[cR.1 e i (mem_range.2 h)]at c;cases c
def pq{bs:List bn}(h:∀i<bs.length,mK bs i=true):iK bs=true:=cR.2 λi c=>h i (mem_range.1 c)
def jZ(bs:List bn)(c:Int):Bool:=nG (gA c bs)==0&&nH (gA c bs)==0
def bS.okB(l:bS):Bool:=decide (0<=l.last)&&iK l.bs&&(jZ l.bs 0&&jZ l.bs 1&&jZ l.bs 2)
theorem pg(l:bS)(Q:l.bs.length<2^30):Sq 94 [] [.agg l.cells] [] (.int .i64 (if l.okB then 0 else 14)):=by
 have f:=λc=>Mj l c Q;simp only[bS.cells]at f |-;refine aX 78 1 [.tmp 2] mixed func94 ?_;refine s0 ?_;rcases Int.lt_or_le l.last 0 with t|t
 ·have C:decide (l.last<0)=true:=su t;have e:l.okB=false:=by simp[bS.okB];omega
  exact lG (a2 C e)
 have C:decide (l.last<0)=false:=su t;refine sm C ?_;refine aF.count l.bs.length [1,12,13] [32,224] (λi=>[(14,.I i)]) (λi=>[]) (λi=>∀j<i,mK l.bs j=true) sT ?_ ?_
 ·exact lA
 ·intro i hi G;refine s0 ?_;refine aU.cQ (λh=>?_) (λh=>?_)
  ·have n:i<l.bs.length:=aj
   have H:IntKind.wrap .i64 ((i:Int)+1)=((i+1:Nat):Int):=eM;have F:=aP (c:=bn.cells) l.bs n;have M:=kV l.bs[i].aO;have D:Sq 82 [] [.sl 1 [[.I l.bs[i].sum]]] [] (.bool (right [l.bs[i].sum])):=dL [l.bs[i].sum] sT;have N:=rQ l.bs[i].aO;rw[mj]at D;have e0:mK l.bs i=true->∀k<i+1,mK l.bs k=true:=λt k g=>by
    rcases cq k i with h|h
    ·exact G k h
    ·obtain rfl:k=i:=aj
     exact t
   have s:mK l.bs i=false->l.okB=false:=λz=>by simp[bS.okB,vX n z]
   simp only[bn.cells,aG.cells,bn.aO]at F M N;rcases Nat.eq_zero_or_pos i with rfl|hpos
   ·have g:=me n;simp only[k8,bn.aO]at g;clear f;refine sm F ?_;repeat' with_reducible first|apply And.intro|exact .dq|refine ak.aH (by assumption) ?_|(refine ak.fk [] [] true (by simp) ?_;simp only[go_sem,seval];refine bX.fV D ?_)|refine gr (λh=>?_) λh=>?_|refine .id ?_|refine af.bF aj ?_ ?_|exact aI|simp only[*,go_sem,seval]
    all_goals first
     |omega
     |rfl
     | (refine e0 ?_;clear e0 s;rw[g];clear g;simp[bne, *];done)
     | (rw [s ?_]
        ·rfl
        ·clear e0 s;rw[g];clear g;simp[bne, *];done)
   ·obtain⟨j,rfl⟩:∃j,i=j+1:=⟨i-1,by omega⟩
    have P:j<l.bs.length:=aj
    have hw1:IntKind.wrap .i64 (((j+1:Nat):Int)-1)=(j:Int):=eM;have g:=ke n;simp only[k8,bn.aO]at g;have x:=aP (c:=bn.cells) l.bs P;have O:=oY l.bs[j].aO l.bs[j+1].aO;simp only[bn.cells,aG.cells,bn.aO]at x O;clear f;refine sm F ?_;repeat' with_reducible first|apply And.intro|exact .dq|refine ak.aH (by assumption) ?_|(refine ak.fk [] [] true (by simp) ?_;simp only[go_sem,seval];refine bX.fV D ?_)|refine gr (λh=>?_) λh=>?_|refine .id ?_|refine af.bF aj ?_ ?_|exact aI|simp only[*,go_sem,seval,x]
    all_goals first
     |omega
     |rfl
     | (refine e0 ?_;clear e0 s;rw[g];clear g;simp[bne, *];done)
     | (rw [s ?_]
        ·rfl
        ·clear e0 s;rw[g];clear g;simp[bne, *];done)
  ·obtain rfl:i=l.bs.length:=aj
   have R:=pq G;refine s0 ?_;refine aF.count 3 [1] [32] (λi=>[(61,.I i)]) (λi=>[]) (λi=>∀c<i,jZ l.bs (c:Nat)=true) sT ?_ ?_
   ·exact lA
   ·intro c hc A;refine s0 ?_;refine aU.cQ (λh=>?_) (λh=>?_)
    ·have E:c<3:=aj
     have H:IntKind.wrap .i64 ((c:Int)+1)=((c+1:Nat):Int):=eM;have hlen:=Gv c l.bs;have y:=oA (gA c l.bs) aj;have o:jZ l.bs c=false->l.okB=false:=λz=>by
      obtain rfl|rfl|rfl:c=0\/c=1\/c=2:=aj
      ·have:jZ l.bs 0=false:=z;simp[bS.okB,this]
      ·have:jZ l.bs 1=false:=z;simp[bS.okB,this]
      ·have:jZ l.bs 2=false:=z;simp[bS.okB,this]
     refine so aI (f c) ?_;refine sl aI y ?_;cases v:nG (gA c l.bs)==0
     ·have e:l.okB=false:=o (by simp[jZ,v]);have m:(nG (gA c l.bs) != 0)=true:=by simp[bne,v]
      exact lG (a2 m e)
     have m:(nG (gA c l.bs) != 0)=false:=by simp[bne,v]
     cases B:nH (gA c l.bs)==0
     ·have e:l.okB=false:=o (by simp[jZ,v,B]);have p:(nH (gA c l.bs) != 0)=true:=by simp[bne,B]
      exact lG (a3 m p e)
     have p:(nH (gA c l.bs) != 0)=false:=by simp[bne,B]
     refine sm (a3 m p H) ?_;refine af.bF E ?_ ?_
     ·intro k g;rcases cq k c with h|h
      ·exact A k h
      ·obtain rfl:k=c:=aj
       simp[jZ,v,B]
     ·exact iM
    ·obtain rfl:c=3:=aj
     have J:jZ l.bs 0=true:=A 0 aj;have K:jZ l.bs 1=true:=A 1 aj;have L:jZ l.bs 2=true:=A 2 aj;have e:l.okB=true:=by simp[bS.okB,R,J,K,L,t]
     exact lG e
def fY{x:Int}:bR x=true ↔ -4611686018427387904<=x/\x<=4611686018427387904:=by simp[bR]
def sD(a b:Int):Int:=if bR a&&(bR b&&bR (a-b))then a-b else 0
def ug(a b:Int):Int:=if bR a&&bR b then(if bR (a-b)then 0 else 1)else 3
theorem Fv(a b:Int):Sq 126 [] [.int .i64 a,.int .i64 b] [] (.bH [.int .i64 (sD a b),.int .i64 (ug a b)]):=by
 have i:Sq 82 [] [.sl 1 [[.int .i64 a],[.int .i64 b]]] [] (.bool (right [a,b])):=dL [a,b] (by simp);have l:right [a,b]=(bR a&&bR b):=by simp[right]
 rw[l]at i;refine aX 20 2 [.tmp 4,.tmp 5] mixed func126 ?_;refine sl aI i ?_;cases c:bR a&&bR b
 ·have e2:sD a b=0:=by
   simp only[sD];rw[<-Bool.and_assoc,c];simp
  have e:ug a b=3:=by simp[ug,c]
  simp only[go_sem,seval,e2,e]
 have hr:(-4611686018427387904<=a/\a<=4611686018427387904)/\(-4611686018427387904<=b/\b<=4611686018427387904):=by
  simp only[dO,fY]at c;exact c
 have k:bR (IntKind.wrap .i64 (a-b))=bR (a-b)/\(bR (a-b)=true->IntKind.wrap .i64 (a-b)=a-b):=by
  by_cases hx:a-b<9223372036854775808
  ·rw[lF aj aj];exact⟨rfl,λ_=>rfl⟩
  ·have g:a-b=9223372036854775808:=aj
   rw[g];exact⟨by decide,λh=>by revert h;decide⟩
 have j:Sq 82 [] [.sl 1 [[.int .i64 (IntKind.wrap .i64 (a-b))]]] [] (.bool (right [IntKind.wrap .i64 (a-b)])):=dL [IntKind.wrap .i64 (a-b)] (by simp);rw[mj,k.1]at j;refine sl aI j ?_;cases f:bR (a-b)
 ·have e2:sD a b=0:=by simp[sD,f]
  have e:ug a b=1:=by simp[ug,c,f]
  simp only[go_sem,seval,e2,e]
 ·have e2:sD a b=a-b:=by
   simp only[sD];rw[<-Bool.and_assoc,c,f];simp
  have e:ug a b=0:=by simp[ug,c,f]
  simp only[go_sem,seval,e2,e,k.2 f]
def wd(S:Int):List D:=[.I (S/18446744073709551616),.int .u64 (S%18446744073709551616)]
def Vm(n:Int)(h:-9223372036854775808<=n/\n<=9223372036854775807):vQ .i64 n 63=n/18446744073709551616:=by
 have:vQ .i64 n 63=n.fdiv (2^63):=rfl;rw[this,Int.fdiv_eq_ediv_of_nonneg _ aj];omega
theorem yV(n:Int)(h:-9223372036854775808<=n/\n<=9223372036854775807):Sq 170 [] [.int .i64 n] [] (.agg (wd n)):=by
 have c:=Vm n h;have e:IntKind.wrap .u64 n=n%18446744073709551616:=IntKind.wrap_u64 n;refine aX 8 1 [.cell 2 133] mixed func170 ?_;simp only[go_sem,seval,c,e,wd]
theorem uW(n:Int)(h:-9223372036854775808<=n/\n<=9223372036854775807):Sq 203 [] [.int .i64 n] [] (.agg (wd n)):=by
 have c:IntKind.wrap .u64 n=n%18446744073709551616:=IntKind.wrap_u64 n;refine aX 11 1 [.cell 2 133] mixed func203 ?_;rcases Int.lt_or_le n 0 with hn|hn
 ·have d:decide (n<0)=true:=gJ hn;have e:n/18446744073709551616 = -1:=aj
  simp only[go_sem,seval,d,c,wd,e]
 ·have d:decide (n<0)=false:=kR;have e:n/18446744073709551616=0:=aj
  simp only[go_sem,seval,d,c,wd,e]
theorem nI(S:Int):Sq 70 [] [.agg (wd S)] [] (.bH [.int .i64 (if bR S then S else 0),.int .i64 (if bR S then 0 else 1)]):=by
 obtain⟨n,k⟩:=aV (IntKind.wrap .i64 (S%18446744073709551616));have c:n=if S%18446744073709551616<9223372036854775808 then S%18446744073709551616 else S%18446744073709551616-18446744073709551616:=by
  rw[k,IntKind.wrap_i64];split<;>omega
 have g:-9223372036854775808<=n/\n<=9223372036854775807:=by rw[c];split<;>omega
 have i:=yV n g;have hr:Sq 82 [] [.sl 1 [[.I n]]] [] (.bool (right [n])):=dL [n] sT;rw[mj]at hr;have j:(S%18446744073709551616==n%18446744073709551616)=true:=by rw[gm,c];split<;>omega
 simp only[wd]at i |-;refine aX 19 1 [.tmp 2,.tmp 3] mixed func70 ?_;simp only[go_sem,seval,<-k];refine⟨dH.mk (by kernel_rfl),tL.mk (by kernel_rfl),ak.aH i ?_⟩;by_cases hS:-9223372036854775808<=S/\S<9223372036854775808
 ·have e:n=S:=by rw[c];split<;>omega
  have h:(S/18446744073709551616==n/18446744073709551616)=true:=by rw[e];exact beq_self_eq_true _
  refine sm (a2 j h) ?_;refine⟨tL.mk (by kernel_rfl),?_⟩;refine sl aI hr ?_;rw[e];cases f:bR S
  ·simp only[go_sem,seval,f,jm,if_false]
  ·simp only[go_sem,seval,f,if_true]
 ·have h:(S/18446744073709551616==n/18446744073709551616)=false:=by
   rw[beq_eq_false_iff_ne,c];split<;>omega
  have f:bR S=false:=by simp only[bR,Bool.and_eq_false_iff,iX];omega
  simp only[go_sem,seval,j,h,f,jm,if_false]
theorem jS(n:Int):Sq 189 [] [.int .i64 n] [] (.bool (bR n)):=by
 refine aX 9 1 [.tmp 2] mixed func189 ?_;refine s0 ?_;repeat' with_reducible first|apply And.intro|exact .dq|refine ak.aH (by assumption) ?_|refine gr (λh=>?_) λh=>?_|refine .id ?_|refine af.bF aj ?_ ?_|exact aI|simp only[*,go_sem,seval]
 all_goals(rw[gI];simp[bR];omega)
theorem mQ(S:Int):Sq 201 [] [.agg (wd S)] [] (.bH [.int .i64 (if bR S then S else 0),.bool (bR S)]):=by
 obtain⟨n,k⟩:=aV (IntKind.wrap .i64 (S%18446744073709551616));have c:n=if S%18446744073709551616<9223372036854775808 then S%18446744073709551616 else S%18446744073709551616-18446744073709551616:=by
  rw[k,IntKind.wrap_i64];split<;>omega
 have g:-9223372036854775808<=n/\n<=9223372036854775807:=by rw[c];split<;>omega
 have i:=uW n g;have hr:=jS n;have j:(n%18446744073709551616==S%18446744073709551616)=true:=by rw[gm,c];split<;>omega
 simp only[wd]at i |-;refine aX 18 1 [.tmp 2,.tmp 3] mixed func201 ?_;simp only[go_sem,seval,<-k];refine⟨dH.mk (by kernel_rfl),ak.aH i ?_⟩;by_cases hS:-9223372036854775808<=S/\S<9223372036854775808
 ·have e:n=S:=by rw[c];split<;>omega
  have h:(n/18446744073709551616==S/18446744073709551616)=true:=by rw[e];exact beq_self_eq_true _
  refine sm (a2 j h) ?_;refine⟨tL.mk (by kernel_rfl),ak.aH hr ?_⟩;rw[e];cases f:bR S
  ·simp only[go_sem,seval,f,jm,if_false]
  ·simp only[go_sem,seval,f,if_true]
 ·have h:(n/18446744073709551616==S/18446744073709551616)=false:=by
   rw[beq_eq_false_iff_ne,c];split<;>omega
  have f:bR S=false:=by simp only[bR,Bool.and_eq_false_iff,iX];omega
  simp only[go_sem,seval,j,h,f,jm,if_false];exact tL.mk (by kernel_rfl)
def fP(n:Int):Prop:=-9223372036854775808<=n/\n<=9223372036854775807
structure aN where
 who:Int
 inst:Int
 eN:Int
 cost:Int
deriving DecidableEq
@[reducible] def aN.cells(x:aN):List D:=[.I x.who,.I x.inst,.I x.eN,.I x.cost]
def aN.gE(x:aN):Prop:=fP x.who/\fP x.inst/\fP x.eN/\fP x.cost
def Nh(r:List D)(h:eG [.int .i64,.int .i64,.int .i64,.int .i64] r):∃x:aN,x.gE/\r=x.cells:=by
 simp only[eG,Fit]at h;obtain⟨_,_,rfl,⟨c,rfl,e⟩,_,_,rfl,⟨a1,rfl,r1⟩,_,_,rfl,⟨a2,rfl,r2⟩,_,_,rfl,⟨a3,rfl,r3⟩,rfl⟩:=h;exact⟨⟨c,a1,a2,a3⟩,⟨e,r1,r2,r3⟩,rfl⟩
structure aR where
 no:Int
 rE:Int
 m9:Int
 inst:Int
 eN:Int
 cH:Int
 off:Bool
deriving DecidableEq
@[reducible] def aR.cells(x:aR):List D:=[.I x.no,.I x.rE,.I x.m9,.I x.inst,.I x.eN,.I x.cH,.bool x.off]
def aR.gE(x:aR):Prop:=fP x.no/\fP x.rE/\fP x.m9/\fP x.inst/\fP x.eN/\fP x.cH
def IV(r:List D)(h:eG [.int .i64,.int .i64,.int .i64,.int .i64,.int .i64,.int .i64,.bool] r):∃x:aR,x.gE/\r=x.cells:=by
 simp only[eG,Fit]at h;obtain⟨_,_,rfl,⟨c,rfl,e⟩,_,_,rfl,⟨a1,rfl,r1⟩,_,_,rfl,⟨a2,rfl,r2⟩,_,_,rfl,⟨a3,rfl,r3⟩,_,_,rfl,⟨a4,rfl,r4⟩,_,_,rfl,⟨a5,rfl,r5⟩,_,_,rfl,⟨a6,rfl⟩,rfl⟩:=h;exact⟨⟨c,a1,a2,a3,a4,a5,a6⟩,⟨e,r1,r2,r3,r4,r5⟩,rfl⟩
structure aB where
 who:Int
 cur:Int
 cw:Int
deriving DecidableEq
@[reducible] def aB.cells(x:aB):List D:=[.I x.who,.I x.cur,.I x.cw]
def aB.gE(x:aB):Prop:=fP x.who/\fP x.cur/\fP x.cw
def Ng(r:List D)(h:eG [.int .i64,.int .i64,.int .i64] r):∃x:aB,x.gE/\r=x.cells:=by
 simp only[eG,Fit]at h;obtain⟨_,_,rfl,⟨c,rfl,e⟩,_,_,rfl,⟨a1,rfl,r1⟩,_,_,rfl,⟨a2,rfl,r2⟩,rfl⟩:=h;exact⟨⟨c,a1,a2⟩,⟨e,r1,r2⟩,rfl⟩
structure aq where
 who:Int
 cur:Int
 cw:Int
 till:Int
deriving DecidableEq
@[reducible] def aq.cells(x:aq):List D:=[.I x.who,.I x.cur,.I x.cw,.I x.till]
def aq.gE(x:aq):Prop:=fP x.who/\fP x.cur/\fP x.cw/\fP x.till
def Lk(r:List D)(h:eG [.int .i64,.int .i64,.int .i64,.int .i64] r):∃x:aq,x.gE/\r=x.cells:=by
 simp only[eG,Fit]at h;obtain⟨_,_,rfl,⟨c,rfl,e⟩,_,_,rfl,⟨a1,rfl,r1⟩,_,_,rfl,⟨a2,rfl,r2⟩,_,_,rfl,⟨a3,rfl,r3⟩,rfl⟩:=h;exact⟨⟨c,a1,a2,a3⟩,⟨e,r1,r2,r3⟩,rfl⟩
structure iW where
 who:Int
 inst:Int
 src:Int
 eN:Int
 cH:Int
deriving DecidableEq
@[reducible] def iW.cells(x:iW):List D:=[.I x.who,.I x.inst,.I x.src,.I x.eN,.I x.cH]
def iW.gE(x:iW):Prop:=fP x.who/\fP x.inst/\fP x.src/\fP x.eN/\fP x.cH
def Nf(r:List D)(h:eG [.int .i64,.int .i64,.int .i64,.int .i64,.int .i64] r):∃x:iW,x.gE/\r=x.cells:=by
 simp only[eG,Fit]at h;obtain⟨_,_,rfl,⟨c,rfl,e⟩,_,_,rfl,⟨a1,rfl,r1⟩,_,_,rfl,⟨a2,rfl,r2⟩,_,_,rfl,⟨a3,rfl,r3⟩,_,_,rfl,⟨a4,rfl,r4⟩,rfl⟩:=h;exact⟨⟨c,a1,a2,a3,a4⟩,⟨e,r1,r2,r3,r4⟩,rfl⟩
structure dZ where
 cur:Int
 LJ:Int
 c0:Int
 c1:Int
 c2:Int
 c3:Int
 c4:Int
 rest:Int
deriving DecidableEq
@[reducible] def dZ.cells(x:dZ):List D:=[.I x.cur,.I x.LJ,.I x.c0,.I x.c1,.I x.c2,.I x.c3,.I x.c4,.I x.rest]
def dZ.gE(x:dZ):Prop:=fP x.cur/\fP x.LJ/\fP x.c0/\fP x.c1/\fP x.c2/\fP x.c3/\fP x.c4/\fP x.rest
def Ll(r:List D)(h:eG [.int .i64,.int .i64,.int .i64,.int .i64,.int .i64,.int .i64,.int .i64,.int .i64] r):∃x:dZ,x.gE/\r=x.cells:=by
 simp only[eG,Fit]at h;obtain⟨_,_,rfl,⟨c,rfl,e⟩,_,_,rfl,⟨a1,rfl,r1⟩,_,_,rfl,⟨a2,rfl,r2⟩,_,_,rfl,⟨a3,rfl,r3⟩,_,_,rfl,⟨a4,rfl,r4⟩,_,_,rfl,⟨a5,rfl,r5⟩,_,_,rfl,⟨a6,rfl,r6⟩,_,_,rfl,⟨a7,rfl,r7⟩,rfl⟩:=h;exact⟨⟨c,a1,a2,a3,a4,a5,a6,a7⟩,⟨e,r1,r2,r3,r4,r5,r6,r7⟩,rfl⟩
def ah.gE(x:ah):Prop:=fP x.no/\fP x.state/\fP x.need
def GB(r:List D)(h:eG [.int .i64,.int .i64,.int .i64] r):∃x:ah,x.gE/\r=x.cells:=by
 simp only[eG,Fit]at h;obtain⟨_,_,rfl,⟨c,rfl,e⟩,_,_,rfl,⟨a1,rfl,r1⟩,_,_,rfl,⟨a2,rfl,r2⟩,rfl⟩:=h;exact⟨⟨c,a1,a2⟩,⟨e,r1,r2⟩,rfl⟩
def ay.gE(x:ay):Prop:=fP x.no/\fP x.cur/\fP x.mult/\fP x.add/\fP x.set/\fP x.cH/\fP x.s0/\fP x.s1/\fP x.s2/\fP x.s3/\fP x.s4/\fP x.s5
def Lm(r:List D)(h:eG [.int .i64,.int .i64,.int .i64,.int .i64,.int .i64,.int .i64,.int .i64,.int .i64,.int .i64,.int .i64,.int .i64,.int .i64] r):∃x:ay,x.gE/\r=x.cells:=by
 simp only[eG,Fit]at h;obtain⟨_,_,rfl,⟨c,rfl,e⟩,_,_,rfl,⟨a1,rfl,r1⟩,_,_,rfl,⟨a2,rfl,r2⟩,_,_,rfl,⟨a3,rfl,r3⟩,_,_,rfl,⟨a4,rfl,r4⟩,_,_,rfl,⟨a5,rfl,r5⟩,_,_,rfl,⟨a6,rfl,r6⟩,_,_,rfl,⟨a7,rfl,r7⟩,_,_,rfl,⟨a8,rfl,r8⟩,_,_,rfl,⟨a9,rfl,r9⟩,_,_,rfl,⟨a10,rfl,r10⟩,_,_,rfl,⟨a11,rfl,r11⟩,rfl⟩:=h;exact⟨⟨c,a1,a2,a3,a4,a5,a6,a7,a8,a9,a10,a11⟩,⟨e,r1,r2,r3,r4,r5,r6,r7,r8,r9,r10,r11⟩,rfl⟩
def av.gE(x:av):Prop:=fP x.a/\fP x.b/\fP x.c/\fP x.d
def IU(r:List D)(h:eG [.int .i64,.int .i64,.int .i64,.int .i64] r):∃x:av,x.gE/\r=x.cells:=by
 simp only[eG,Fit]at h;obtain⟨_,_,rfl,⟨c,rfl,e⟩,_,_,rfl,⟨a1,rfl,r1⟩,_,_,rfl,⟨a2,rfl,r2⟩,_,_,rfl,⟨a3,rfl,r3⟩,rfl⟩:=h;exact⟨⟨c,a1,a2,a3⟩,⟨e,r1,r2,r3⟩,rfl⟩
def bn.gE(x:bn):Prop:=fP x.kind/\fP x.who/\fP x.cur/\fP x.sum
def Nd(r:List D)(h:eG [.int .i64,.int .i64,.int .i64,.int .i64] r):∃x:bn,x.gE/\r=x.cells:=by
 simp only[eG,Fit]at h;obtain⟨_,_,rfl,⟨c,rfl,e⟩,_,_,rfl,⟨a1,rfl,r1⟩,_,_,rfl,⟨a2,rfl,r2⟩,_,_,rfl,⟨a3,rfl,r3⟩,rfl⟩:=h;exact⟨⟨c,a1,a2,a3⟩,⟨e,r1,r2,r3⟩,rfl⟩
def kq.gE(x:kq):Prop:=fP x.who/\fP x.cE/\fP x.units
def P0(r:List D)(h:eG [.int .i64,.int .i64,.int .i64] r):∃x:kq,x.gE/\r=x.cells:=by
 simp only[eG,Fit]at h;obtain⟨_,_,rfl,⟨c,rfl,e⟩,_,_,rfl,⟨a1,rfl,r1⟩,_,_,rfl,⟨a2,rfl,r2⟩,rfl⟩:=h;exact⟨⟨c,a1,a2⟩,⟨e,r1,r2⟩,rfl⟩
structure gT where
 code:Int
 no:Int
 cw:Int
 xC:List aB
 falls:List dZ
deriving DecidableEq
@[reducible] def gT.cells(x:gT):List D:=[.I x.code,.I x.no,.I x.cw,.sl 3 (x.xC.map aB.cells),.sl 8 (x.falls.map dZ.cells)]
def gT.fits(x:gT):Prop:=24*x.xC.length<=140737488355328/\64*x.falls.length<=140737488355328
def gT.gE(x:gT):Prop:=True/\True/\True/\True/\True/\x.fits
structure aS where
 client:Int
 seq:Int
 r:gT
deriving DecidableEq
@[reducible] def aS.cells(x:aS):List D:=[.I x.client,.I x.seq,.I x.r.code,.I x.r.no,.I x.r.cw,.sl 3 (x.r.xC.map aB.cells),.sl 8 (x.r.falls.map dZ.cells)]
def aS.gE(x:aS):Prop:=fP x.client/\fP x.seq/\x.r.gE
structure bI where
 next:Int
 ts:List aR
 qs:List aN
@[reducible] def bI.cells(b:bI):List D:=[.I b.next,.sl 7 (b.ts.map aR.cells),.sl 4 (b.qs.map aN.cells)]
structure au where
 now:Int
 day:Int
 phase:Int
 aA:aC
 book:bI
 cL:bS
 ps:List kq
 calls:List aq
 bQ:List iW
 aM:List aS
@[reducible] def au.cells(s:au):List D:=[.I s.now,.I s.day,.I s.phase,.sl 3 (s.aA.ms.map ah.cells),.sl 12 (s.aA.ns.map ay.cells),.sl 4 (s.aA.xs.map av.cells),.I s.book.next,.sl 7 (s.book.ts.map aR.cells),.sl 4 (s.book.qs.map aN.cells),
 .I s.cL.last,.sl 4 (s.cL.bs.map bn.cells),.sl 3 (pl s.ps),.sl 4 (s.calls.map aq.cells),.sl 5 (s.bQ.map iW.cells),.sl 7 (s.aM.map aS.cells)]
structure au.gE(s:au):Prop where
 now:fP s.now
 day:fP s.day
 phase:fP s.phase
 ms:∀x∈s.aA.ms,x.gE
 ns:∀x∈s.aA.ns,x.gE
 xs:∀x∈s.aA.xs,x.gE
 next:fP s.book.next
 ts:∀x∈s.book.ts,x.gE
 qs:∀x∈s.book.qs,x.gE
 last:fP s.cL.last
 bs:∀x∈s.cL.bs,x.gE
 ps:∀x∈s.ps,x.gE
 calls:∀x∈s.calls,x.gE
 bQ:∀x∈s.bQ,x.gE
 aM:∀x∈s.aM,x.gE
def Ln(r:List D)(h:eG [.int .i64,.int .i64,.int .i64,.int .i64,.int .i64,.sl 3 [.int .i64,.int .i64,.int .i64],.sl 8 [.int .i64,.int .i64,.int .i64,.int .i64,.int .i64,.int .i64,.int .i64,.int .i64]] r):∃x:aS,x.gE/\r=x.cells:=by
 obtain⟨_,_,rfl,⟨a,rfl,n⟩,_,_,rfl,⟨b,rfl,r1⟩,_,_,rfl,⟨c,rfl,r2⟩,_,_,rfl,⟨d,rfl,r3⟩,_,_,rfl,⟨e,rfl,r4⟩,_,_,rfl,⟨ds,rfl,f⟩,_,_,rfl,⟨j,rfl,g⟩,rfl⟩:=h;obtain⟨k,f⟩:=f;obtain⟨l,g⟩:=g;obtain⟨ds,rfl,r5⟩:=jy (c:=aB.cells) Ng f;obtain⟨j,rfl,r6⟩:=jy (c:=dZ.cells) Ll g;have m:AA [.int .i64,.int .i64,.int .i64]=24:=rfl;have e2:AA [.int .i64,.int .i64,.int .i64,.int .i64,.int .i64,.int .i64,.int .i64,.int .i64]=64:=rfl;have i:reachBytes=140737488351232:=rfl;rw[m,i,mY]at k;rw[e2,i,mY]at l;exact⟨⟨a,b,c,d,e,ds,j⟩,⟨n,r1,aI,aI,aI,aI,aI,by simp only;omega,by simp only;omega⟩,rfl⟩
def Lo{ds:List D}(h:eG [.int .i64,.int .i64,.int .i64,.sl 3 [.int .i64,.int .i64,.int .i64],.sl 12 [.int .i64,.int .i64,.int .i64,.int .i64,.int .i64,.int .i64,.int .i64,.int .i64,.int .i64,.int .i64,.int .i64,.int .i64],.sl 4 [.int .i64,.int .i64,.int .i64,.int .i64],.int .i64,.sl 7 [.int .i64,.int .i64,.int .i64,.int .i64,.int .i64,.int .i64,.bool],.sl 4 [.int .i64,.int .i64,.int .i64,.int .i64],.int .i64,.sl 4 [.int .i64,.int .i64,.int .i64,.int .i64],.sl 3 [.int .i64,.int .i64,.int .i64],.sl 4 [.int .i64,.int .i64,.int .i64,.int .i64],.sl 5 [.int .i64,.int .i64,.int .i64,.int .i64,.int .i64],.sl 7 [.int .i64,.int .i64,.int .i64,.int .i64,.int .i64,.sl 3 [.int .i64,.int .i64,.int .i64],.sl 8 [.int .i64,.int .i64,.int .i64,.int .i64,.int .i64,.int .i64,.int .i64,.int .i64]]] ds):∃x:au,x.gE/\ds=x.cells:=by
 obtain⟨_,_,rfl,⟨t,rfl,v⟩,_,_,rfl,⟨a1,rfl,r1⟩,_,_,rfl,⟨a2,rfl,r2⟩,_,_,rfl,⟨a3,rfl,q3⟩,_,_,rfl,⟨a4,rfl,q4⟩,_,_,rfl,⟨a5,rfl,q5⟩,_,_,rfl,⟨a6,rfl,r6⟩,_,_,rfl,⟨p,rfl,q7⟩,_,_,rfl,⟨s,rfl,q8⟩,_,_,rfl,⟨a9,rfl,r9⟩,_,_,rfl,⟨e,rfl,q10⟩,_,_,rfl,⟨f,rfl,q11⟩,_,_,rfl,⟨g,rfl,q12⟩,_,_,rfl,⟨i,rfl,q13⟩,_,_,rfl,⟨j,rfl,q14⟩,rfl⟩:=h;obtain⟨a3,rfl,r3⟩:=jy (c:=ah.cells) GB q3.2;obtain⟨a4,rfl,r4⟩:=jy (c:=ay.cells) Lm q4.2;obtain⟨a5,rfl,r5⟩:=jy (c:=av.cells) IU q5.2;obtain⟨p,rfl,y⟩:=jy (c:=aR.cells) IV q7.2;obtain⟨s,rfl,z⟩:=jy (c:=aN.cells) Nh q8.2;obtain⟨e,rfl,k⟩:=jy (c:=bn.cells) Nd q10.2;obtain⟨f,rfl,l⟩:=jy (c:=kq.cells) P0 q11.2;obtain⟨g,rfl,m⟩:=jy (c:=aq.cells) Lk q12.2;obtain⟨i,rfl,n⟩:=jy (c:=iW.cells) Nf q13.2;obtain⟨j,rfl,o⟩:=jy (c:=aS.cells) Ln q14.2;exact⟨⟨t,a1,a2,⟨a3,a4,a5⟩,⟨a6,p,s⟩,⟨a9,e⟩,f,g,i,j⟩,⟨v,r1,r2,r3,r4,r5,r6,y,z,r9,k,l,m,n,o⟩,rfl⟩
theorem mS:∀l m:List Int,aK (l++m)=aK l+aK m
 | [],m=>by simp[aK]
 |x::l,m=>by simp only[cons_append,aK,mS l m];omega
def vk{A:Type}(no:A->Int)(n:Int)(f:A->A):List A->List A
 | []=>[]
 |x::r=>if no x=n then f x::r else x::vk no n f r
theorem xd{A:Type}{no:A->Int}{n:Int}{f:A->A}:∀{xs:List A} {i:Nat} (h:i<xs.length),(∀j (e:j<xs.length),j<i->no xs[j]≠n)->no xs[i]=n->vk no n f xs=xs.set i (f xs[i])
 | [],i,h,_,_=>by simp at h
 |x::r,0,h,_,c=>by
  have c:no x=n:=c;simp[vk,c]
 |x::r,i+1,h,hn,c=>by
  have g:no x≠n:=hn 0 sT aj;have k:=xd (f:=f) (xs:=r) (i:=i) (su h) (λj e hji=>hn (j+1) (su e) aj) c;simp only[vk,az g,k,getElem_cons_succ,set_cons_succ]
def Lj{A:Type}{no:A->Int}{n:Int}{xs:List A}{i:Nat}(e:∀j (c:j<xs.length),j<i->no xs[j]≠n)(h:i<xs.length)(f:(no xs[i]==n)=false):∀j (c:j<xs.length),j<i+1->no xs[j]≠n:=by
 intro j c hji;rcases cq j i with h|h
 ·exact e j c h
 ·obtain rfl:j=i:=aj
  simpa using f
def ay.told(p:Int)(x:ay):ay:={ x with set:=p }
def gd(g:Nat):List D:=[.int .u64 ((g/18446744073709551616:Nat):Int),.int .u64 ((g%18446744073709551616:Nat):Int)]
structure Rr where
 src:Int
 eN:Int
 cH:Int
deriving DecidableEq
@[reducible] def Rr.cells(x:Rr):List D:=[.I x.src,.I x.eN,.I x.cH]
def ahead(c:Bool)(a b:iW):Bool:=if a.cH==b.cH then decide (a.src<b.src)else decide (b.cH<a.cH)==c
def abt(l:List ByteArray):List (List D):=l.map λs=>[.str s]
theorem abu(l:List ByteArray):(abt l).length=l.length:=by simp[abt]
def afc(s1 s2 s3 s4 s5 y z A B h i j k:ByteArray)(l m n o p s t v x c e f g:Bool):List (ByteArray×Bool):=[(s1,l),(s2,m),(s3,n),(s4,o),(s5,p),(y,s),(z,t),(A,v),(B,x),(h,c),(i,e),(j,f),(k,g)]
deriving instance DecidableEq for ah,ay,av,bn,aG
def parts(a b:au):List (ByteArray×Bool):=afc ⟨#[67,108,111,99,107]⟩ ⟨#[77,101,109,98,101,114,115]⟩ ⟨#[73,110,115,116,115]⟩ ⟨#[65,115,115,101,116,115]⟩ ⟨#[78,101,120,116]⟩ ⟨#[84,114,97,100,101,115]⟩ ⟨#[80,111,115,115]⟩ ⟨#[76,97,115,116]⟩ ⟨#[66,97,108,97,110,99,101,115]⟩ ⟨#[80,108,101,100,103,101,115]⟩ ⟨#[67,97,108,108,115]⟩ ⟨#[66,105,100,115]⟩ ⟨#[83,101,97,116,115]⟩ (a.now==b.now&&(a.day==b.day&&a.phase==b.phase)) (decide (a.aA.ms=b.aA.ms)) (decide (a.aA.ns=b.aA.ns)) (decide (a.aA.xs=b.aA.xs)) (a.book.next==b.book.next) (decide (a.book.ts=b.book.ts)) (decide (a.book.qs=b.book.qs)) (a.cL.last==b.cL.last) (decide (a.cL.bs=b.cL.bs)) (decide (a.ps=b.ps)) (decide (a.calls=b.calls)) (decide (a.bQ=b.bQ)) (decide (a.aM=b.aM))
@[reducible] def aht(x:Int):List D:=[.I x]
structure YP where
 client:Int
 seq:Int
 kind:Int
 who:Int
 other:Int
 no:Int
 inst:Int
 cur:Int
 eN:Int
 cH:Int
 cw:Int
 s0:Int
 s1:Int
 s2:Int
 s3:Int
 s4:Int
 s5:Int
deriving DecidableEq
@[reducible] def YP.cells(x:YP):List D:=[.I x.client,.I x.seq,.I x.kind,.I x.who,.I x.other,.I x.no,.I x.inst,.I x.cur,.I x.eN,.I x.cH,.I x.cw,.I x.s0,.I x.s1,.I x.s2,.I x.s3,.I x.s4,.I x.s5]

attribute [go_sem] abu