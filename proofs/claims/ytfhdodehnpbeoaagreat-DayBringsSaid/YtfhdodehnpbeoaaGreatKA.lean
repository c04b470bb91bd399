/- Parts. -/
import Derived.Test.YtfhdodehnpbeoaaGreatTY
import Derived.Test.YtfhdodehnpbeoaaGreatAC
import Derived.Test.YtfhdodehnpbeoaaGreatAB
import Derived.Shelf.Bits.Mul64
set_option linter.all false
set_option maxHeartbeats 4000000
set_option maxRecDepth 16000
namespace Go.Proofs.YtfhdodehnpbeoaaGreat
open Go.Abs Tryz
open List hiding lt min
section
variable{α:Type}
def xS(p:Nat->Bool)(i j:Nat):Nat:=if i<j then(if p ((i+j)/2)then xS p ((i+j)/2+1) j else xS p i ((i+j)/2))else i
termination_by j-i
def P6{p:Nat->Bool}{i j:Nat}(h:i<j):xS p i j=if p ((i+j)/2)then xS p ((i+j)/2+1) j else xS p i ((i+j)/2):=by rw[xS,au h]
def Dl{p:Nat->Bool}{i j:Nat}(h:¬i<j):xS p i j=i:=by rw[xS,aq h]
def P7{p:Nat->Bool}{i j h:Nat}(c:i<j)(e:h=(i+j)/2)(f:p h=true):xS p (h+1) j=xS p i j:=by
 subst e;rw[P6 c,f];rfl
def Vy{p:Nat->Bool}{i j h:Nat}(c:i<j)(e:h=(i+j)/2)(f:p h=false):xS p i h=xS p i j:=by
 subst e;rw[P6 c,f];rfl
theorem Gb{p:Nat->Bool}{lo:Nat}(l:∀a b,lo<=a->a<=b->p b=true->p a=true):∀(n i j:Nat),lo<=i->j-i<=n->i<=j->i<=xS p i j/\xS p i j<=j/\(∀k,i<=k->k<xS p i j->p k=true)/\(∀k,xS p i j<=k->k<j->p k=false)
 | 0,i,j,hlo,h,hij=>by
  have:i=j:=aj
  subst this;rw[Dl aj];exact⟨fO _,fO _,λk e f=>by omega,λk e f=>by omega⟩
 |n+1,i,j,hlo,h,hij=>by
  by_cases g:i<j
  ·rw[P6 g];have e:i<=(i+j)/2:=aj
   have f:(i+j)/2<j:=aj
   generalize (i+j)/2=c at e f;cases m:p c with
   |true =>
    obtain⟨s,a2,a3,a4⟩:=Gb l n (c+1) j aj aj aj;simp only[if_true];refine⟨by omega,a2,λk k1 k2=>?_,a4⟩;rcases dN c k with hk|hk
    ·exact a3 k hk k2
    ·exact l k c aj hk m
   |false =>
    obtain⟨s,a2,a3,a4⟩:=Gb l n i c hlo aj e;simp only[iI,if_false];refine⟨s,by omega,a3,λk k1 k2=>?_⟩;rcases dN k c with hk|hk
    ·exact a4 k k1 hk
    ·cases o:p k with
     |false=>rfl
     |true=>rw[l c k aj hk o]at m;cases m
  ·rw[Dl g];exact⟨fO _,hij,λk e f=>by omega,λk e f=>by omega⟩
theorem Jr{p:Nat->Bool}:∀(n i j:Nat),j-i<=n->i<=j->i<=xS p i j/\xS p i j<=j
 | 0,i,j,h,hij=>by
  rw[Dl aj];exact⟨fO _,hij⟩
 |n+1,i,j,h,hij=>by
  by_cases e:i<j
  ·rw[P6 e];have f:i<=(i+j)/2:=aj
   have g:(i+j)/2<j:=aj
   generalize (i+j)/2=c at f g;split
   ·have:=Jr (p:=p) n (c+1) j aj aj;omega
   ·have:=Jr (p:=p) n i c aj aj;omega
  ·rw[Dl e];exact⟨fO _,hij⟩
def t2(q:α->α->Bool)(x y:Option α):Bool:=match x,y with
 |some x,some y=>q x y
 | _,_=>false
def cutAt(lt:α->α->Bool)(X Y:List α):Nat:=
 xS (λc=>t2 (λy x=>!lt y x) Y[(X.length+Y.length)/2-1-c]? X[c]?) (if X.length>(X.length+Y.length)/2 then(X.length+Y.length)/2-Y.length else 0) (if X.length>(X.length+Y.length)/2 then(X.length+Y.length)/2 else X.length)
def Eu(lt:α->α->Bool)(X Y:List α):cutAt lt X Y<=X.length/\cutAt lt X Y<=(X.length+Y.length)/2/\(X.length+Y.length)/2-cutAt lt X Y<=Y.length:=by
 have key:∀p,xS p (if X.length>(X.length+Y.length)/2 then(X.length+Y.length)/2-Y.length else 0) (if X.length>(X.length+Y.length)/2 then(X.length+Y.length)/2 else X.length)<=X.length /\
   xS p (if X.length>(X.length+Y.length)/2 then(X.length+Y.length)/2-Y.length else 0) (if X.length>(X.length+Y.length)/2 then(X.length+Y.length)/2 else X.length)<=(X.length+Y.length)/2 /\
   (X.length+Y.length)/2-xS p (if X.length>(X.length+Y.length)/2 then(X.length+Y.length)/2-Y.length else 0) (if X.length>(X.length+Y.length)/2 then(X.length+Y.length)/2 else X.length)<=Y.length:=by
  intro p;split
  ·have:=Jr (p:=p) _ ((X.length+Y.length)/2-Y.length) ((X.length+Y.length)/2) (fO _) aj;omega
  ·have:=Jr (p:=p) _ 0 X.length (fO _) aj;omega
 exact key _
def I2(lt:α->α->Bool):Nat->List α->List α->List α
 | 0,X,Y=>X++Y
 |n+1,X,Y =>
  if X.length=0\/Y.length=0 then X++Y
  else if X.length=1 then Y.take (xS (λc=>t2 lt Y[c]? X[0]?) 0 Y.length)++X++Y.drop (xS (λc=>t2 lt Y[c]? X[0]?) 0 Y.length)
  else if Y.length=1 then X.take (xS (λc=>t2 (λy x=>!lt y x) Y[0]? X[c]?) 0 X.length)++Y++X.drop (xS (λc=>t2 (λy x=>!lt y x) Y[0]? X[c]?) 0 X.length)
  else I2 lt n (X.take (cutAt lt X Y)) (Y.take ((X.length+Y.length)/2-cutAt lt X Y))++I2 lt n (X.drop (cutAt lt X Y)) (Y.drop ((X.length+Y.length)/2-cutAt lt X Y))
def xP(lt:α->α->Bool)(l:List α):Prop:=l.Pairwise λx y=>lt y x=false
structure Ord(lt:α->α->Bool):Prop where
 asy:∀x y,lt x y=true->lt y x=false
 Ye:∀x y z,lt y x=false->lt z y=false->lt z x=false
def xP.at{lt:α->α->Bool}{l:List α}(h:xP lt l){i j:Nat}{x y:α}(c:i<j)(g:l[i]?=some x)(k:l[j]?=some y):lt y x=false:=by
 obtain⟨e,rfl⟩:=ia.1 g;obtain⟨f,rfl⟩:=ia.1 k;exact Ay.1 h i j e f c
theorem Ord.refl{lt:α->α->Bool}(c:Ord lt)(x:α):lt x x=false:=by
 cases h:lt x x with
 |false=>rfl
 |true=>rw[c.asy x x h]at h;cases h
def xP.Yw{lt:α->α->Bool}(f:Ord lt){l:List α}(h:xP lt l){i j:Nat}{x y:α}(hij:i<=j)(e:l[i]?=some x)(c:l[j]?=some y):lt y x=false:=by
 rcases dN i j with hlt|hge
 ·exact h.at hlt e c
 ·obtain rfl:i=j:=aj
  rw[e]at c;cases c;exact f.refl x
def mH{l:List α}{n:Nat}{x:α}(h:x∈l.take n):∃i,i<n/\l[i]?=some x:=by
 obtain⟨i,c⟩:=mem_iff_getElem?.1 h;rw[getElem?_take]at c;split at c
 ·exact⟨i,by assumption,c⟩
 ·cases c
def jX{l:List α}{n:Nat}{x:α}(h:x∈l.drop n):∃i,n<=i/\l[i]?=some x:=by
 obtain⟨i,c⟩:=mem_iff_getElem?.1 h;rw[getElem?_drop]at c;exact⟨n+i,by omega,c⟩
def ld{l:List α}{i:Nat}(h:i<l.length):∃x,l[i]?=some x:=⟨l[i],gF h⟩
def ff{l:List α}{i:Nat}{x:α}(h:l[i]?=some x):i<l.length:=(ia.1 h).1
def Vk(lt:α->α->Bool)(p:α->Bool):Prop:=∀a b,p a=true->p b=true->lt a b=false
theorem A0{lt:α->α->Bool}{p:α->Bool}(i:Vk lt p){A B:List α}(h:∀a∈A,∀b∈B,lt b a=true):(B++A).filter p=(A++B).filter p:=by
 rw[pL,pL];cases f:A.filter p with
 |nil=>simp
 |cons a r =>
  cases g:B.filter p with
  |nil=>simp
  |cons b t =>
   have c:=mem_filter.1 (f ▸ mem_cons_self:a∈A.filter p);have e:=mem_filter.1 (g ▸ mem_cons_self:b∈B.filter p);have:=i b a e.2 c.2;rw[h a c.1 b e.1]at this;cases this
theorem Fy{lt:α->α->Bool}(m:Ord lt):∀(n:Nat)(X Y:List α),X.length+Y.length<=n->xP lt X->xP lt Y->xP lt (I2 lt n X Y)/\(I2 lt n X Y).Perm (X++Y)/\∀p,Vk lt p->(I2 lt n X Y).filter p=(X++Y).filter p
 | 0,X,Y,h,hX,hY=>by
  have:X=[]:=length_eq_zero_iff.1 aj;subst this;simp only[I2,nil_append];exact⟨hY,.refl _,λ_ _=>by first|rfl|trivial⟩
 |n+1,X,Y,h,hX,hY=>by
  unfold I2;split
  ·rename_i t;refine⟨?_,.refl _,λ_ _=>rfl⟩;rcases t with t|t<;>rw[length_eq_zero_iff]at t<;>subst t<;>simpa
  rename_i t;split
  ·rename_i D;obtain⟨x,rfl⟩:=length_eq_one_iff.1 D
   have f:=Gb (p:=λc=>t2 lt Y[c]? [x][0]?) (lo:=0) (by
    intro a b _ J f;simp only[getElem?_cons_zero]at f |-;cases O:Y[b]? with
    |none=>simp[t2,O]at f
    |some y =>
     simp only[t2,O]at f;obtain⟨z,R⟩:=ld (l:=Y) (i:=a) (by have:=ff O;omega);simp only[R,t2];cases H:lt z x with
     |true=>rfl
     |false=>rw[m.Ye x z y H (hY.Yw m J R O)]at f;cases f) _ 0 Y.length (fO _) (fO _) aj
   generalize xS (λc=>t2 lt Y[c]? [x][0]?) 0 Y.length=p at f;obtain⟨-,b2,M,N⟩:=f;simp only[getElem?_cons_zero]at M N;refine⟨?_,?_,λq H=>?_⟩
   ·unfold xP;rw[dS,pairwise_append];refine⟨hY.sublist (take_sublist _ _),?_,?_⟩
    ·rw[singleton_append,jR];refine⟨λy O=>?_,hY.sublist (drop_sublist _ _)⟩;obtain⟨i,E,g⟩:=jX O;have:=N i E (ff g);simpa[t2,g]using this
    ·intro a o b f;obtain⟨i,E,g⟩:=mH o;rw[singleton_append,mem_cons]at f;rcases f with rfl|f
     ·have:=M i aj E;simp only[t2,g]at this;exact m.asy _ _ this
     ·obtain⟨j,T,G⟩:=jX f;exact hY.Yw m aj g G
   ·have D:(Y.take p++[x]++Y.drop p).Perm ([x]++Y.take p++Y.drop p):=Perm.append_right _ perm_append_comm;refine D.trans ?_;rw[dS,n5]
   ·have:=A0 H (A:=[x]) (B:=Y.take p) λa o b f=>by
     obtain rfl:=iD.1 o;obtain⟨i,E,g⟩:=mH f;have:=M i aj E;simpa[t2,g]using this
    rw[pL,this,<-pL,dS,n5]
  rename_i D;split
  ·rename_i F;obtain⟨y,rfl⟩:=length_eq_one_iff.1 F
   have f:=Gb (p:=λc=>t2 (λy x=>!lt y x) [y][0]? X[c]?) (lo:=0) (by
    intro a b _ J f;simp only[getElem?_cons_zero]at f |-;cases I:X[b]? with
    |none=>simp[t2,I]at f
    |some x =>
     simp only[t2,I,iN]at f;obtain⟨z,R⟩:=ld (l:=X) (i:=a) (by have:=ff I;omega);simp only[R,t2,iN]
     exact m.Ye z x y (hX.Yw m J R I) f) _ 0 X.length (fO _) (fO _) aj
   generalize xS (λc=>t2 (λy x=>!lt y x) [y][0]? X[c]?) 0 X.length=p at f;obtain⟨-,b2,M,N⟩:=f;simp only[getElem?_cons_zero]at M N;refine⟨?_,?_,λq H=>?_⟩
   ·unfold xP;rw[dS,pairwise_append];refine⟨hX.sublist (take_sublist _ _),?_,?_⟩
    ·rw[singleton_append,jR];refine⟨λx I=>?_,hX.sublist (drop_sublist _ _)⟩;obtain⟨i,E,g⟩:=jX I;have:=N i E (ff g);simp only[t2,g,Bool.not_eq_false']at this;exact m.asy _ _ this
    ·intro a o b f;obtain⟨i,E,g⟩:=mH o;rw[singleton_append,mem_cons]at f;rcases f with rfl|f
     ·have:=M i aj E;simpa[t2,g]using this
     ·obtain⟨j,T,G⟩:=jX f;exact hX.Yw m aj g G
   ·have D:(X.take p++[y]++X.drop p).Perm (X.take p++(X.drop p++[y])):=by
     rw[dS];exact Perm.append_left _ perm_append_comm
    refine D.trans ?_;rw[<-dS,n5]
   ·have:=A0 H (A:=X.drop p) (B:=[y]) λa o b f=>by
     obtain rfl:=iD.1 f;obtain⟨i,E,g⟩:=jX o;have:=N i E (ff g);simpa[t2,g]using this
    rw[dS,pL,this,<-pL,<-dS,n5]
  rename_i F;obtain⟨c1,c2,c3⟩:=Eu lt X Y;have hl0:X.length≠0/\Y.length≠0:=aj
  have Q:∀a b,(X.length>(X.length+Y.length)/2->(X.length+Y.length)/2-Y.length<=a)->a<=b->t2 (λy x=>!lt y x) Y[(X.length+Y.length)/2-1-b]? X[b]?=true->t2 (λy x=>!lt y x) Y[(X.length+Y.length)/2-1-a]? X[a]?=true:=by
   intro a b o J f;cases I:X[b]? with
   |none=>simp[t2,I]at f
   |some x =>
    have hbx:=ff I;cases O:Y[(X.length+Y.length)/2-1-b]? with
    |none=>simp[t2,I,O]at f
    |some y =>
     simp only[t2,I,O,iN]at f;obtain⟨z,R⟩:=ld (l:=X) (i:=a) aj
     obtain⟨u,P⟩:=ld (l:=Y) (i:=(X.length+Y.length)/2-1-a) (by
      rcases dN ((X.length+Y.length)/2) X.length with hlt|hge
      ·have:=o hlt;omega
      ·omega)
     simp only[R,P,t2,iN];exact m.Ye z y u (m.Ye z x y (hX.Yw m J R I) f) (hY.Yw m aj O P)
  -- what the cut tells
  have K:(∀k,(X.length>(X.length+Y.length)/2->(X.length+Y.length)/2-Y.length<=k)->k<cutAt lt X Y->t2 (λy x=>!lt y x) Y[(X.length+Y.length)/2-1-k]? X[k]?=true) /\
    (∀k,cutAt lt X Y<=k->k<(X.length+Y.length)/2->k<X.length->t2 (λy x=>!lt y x) Y[(X.length+Y.length)/2-1-k]? X[k]?=false):=by
   unfold cutAt;split
   ·rename_i C;obtain⟨-,-,M,N⟩:=Gb (p:=λc=>t2 (λy x=>!lt y x) Y[(X.length+Y.length)/2-1-c]? X[c]?) (lo:=(X.length+Y.length)/2-Y.length) (λa b D F S=>Q a b (λ_=>D) F S) _ ((X.length+Y.length)/2-Y.length) ((X.length+Y.length)/2) (fO _) (fO _) aj;exact⟨λk D F=>M k (D C) F,λk D F S=>N k D F⟩
   ·rename_i C;obtain⟨-,-,M,N⟩:=Gb (p:=λc=>t2 (λy x=>!lt y x) Y[(X.length+Y.length)/2-1-c]? X[c]?) (lo:=0) (λa b D F S=>Q a b (λh=>(C h).elim) F S) _ 0 X.length (fO _) (fO _) aj;exact⟨λk D F=>M k aj F,λk D F S=>N k D S⟩
  have L:X.length>(X.length+Y.length)/2->(X.length+Y.length)/2-Y.length<=cutAt lt X Y:=by
   intro C;unfold cutAt;rw[au C,au C];exact(Jr _ _ _ (fO _) aj).1
  generalize cutAt lt X Y=s at c1 c2 c3 K L;generalize hh:(X.length+Y.length)/2=t at c2 c3 K L;obtain⟨ac,ad⟩:=K;have Z:=hX.sublist (take_sublist s X);have W:=hX.sublist (drop_sublist s X);have ab:=hY.sublist (take_sublist (t-s) Y);have aa:=hY.sublist (drop_sublist (t-s) Y);obtain⟨r1,r2,r5⟩:=Fy m n (X.take s) (Y.take (t-s)) (by simp only[gh];omega) Z ab;obtain⟨r3,r4,r6⟩:=Fy m n (X.drop s) (Y.drop (t-s)) (by simp only[iC];omega) W aa;have V:∀a∈X.drop s,∀b∈Y.take (t-s),lt b a=true:=by
   intro b f a o;obtain⟨i,E,g⟩:=mH o;obtain⟨j,T,G⟩:=jX f;have hjx:=ff G;have hiy:=ff g;have H:=ad s (fO _) aj aj;obtain⟨u,P⟩:=ld (l:=X) (i:=s) aj;obtain⟨v,U⟩:=ld (l:=Y) (i:=t-1-s) aj;simp only[t2,P,U,Bool.not_eq_false']at H;cases hc:lt a b with
   |true=>rfl
   |false=>rw[m.Ye u a v (m.Ye u b a (hX.Yw m T P G) hc) (hY.Yw m aj g U)]at H;cases H
  refine⟨?_,?_,λp hp=>?_⟩
  ·unfold xP;rw[pairwise_append];refine⟨r1,r3,?_⟩;intro a o b f;have o:=r2.mem_iff.1 o;have f:=r4.mem_iff.1 f;rw[mem_append]at o f;rcases o with o|o<;>rcases f with f|f
   ·obtain⟨i,E,g⟩:=mH o;obtain⟨j,T,G⟩:=jX f;exact hX.Yw m aj g G
   ·obtain⟨i,E,g⟩:=mH o;obtain⟨j,T,G⟩:=jX f;have hjy:=ff G
    -- the last of the front of X against the first of the back of Y
    have H:=ac (s-1) (λC=>by have:=L C;omega) aj;obtain⟨u,P⟩:=ld (l:=X) (i:=s-1) aj;cases U:Y[t-1-(s-1)]? with
    |none=>simp[t2,P,U]at H
    |some v =>
     simp only[t2,P,U,iN]at H;exact m.Ye a u b (hX.Yw m aj g P) (m.Ye u v b H (hY.Yw m aj U G))
   ·exact m.asy _ _ (V b f a o)
   ·obtain⟨i,E,g⟩:=mH o;obtain⟨j,T,G⟩:=jX f;exact hY.Yw m aj g G
  ·refine(r2.append r4).trans ?_;have e1:(X.take s++Y.take (t-s)++(X.drop s++Y.drop (t-s))).Perm (X.take s++(X.drop s++Y.take (t-s))++Y.drop (t-s)):=by
    simp only[dS];refine Perm.append_left _ ?_;rw[<-dS,<-dS];exact Perm.append_right _ perm_append_comm
   refine e1.trans (Perm.of_eq ?_);rw[<-dS,n5,dS,n5]
  ·rw[pL,r5 p hp,r6 p hp,<-pL];have e:X++Y=X.take s++(X.drop s++Y.take (t-s))++Y.drop (t-s):=by
    rw[<-dS,n5,dS,n5]
   have w:=A0 hp V;rw[pL,pL]at w;rw[e];simp only[pL,dS]at w |-;rw[<-dS ((Y.take (t-s)).filter p),w,dS]
def CI(lt:α->α->Bool)(x:α):List α->List α
 | []=>[x]
 |y::R=>if lt x y then y::CI lt x R else x::y::R
theorem Gn(lt:α->α->Bool)(x:α):∀R:List α,(CI lt x R).Perm (x::R)
 | []=>.refl _
 |y::R=>by
  unfold CI;split
  ·exact((Gn lt x R).cons y).trans (Perm.swap _ _ _)
  ·exact .refl _
theorem Th{lt:α->α->Bool}(g:Ord lt)(x:α):∀R:List α,R.Pairwise (λa b=>lt a b=false)->(CI lt x R).Pairwise (λa b=>lt a b=false)
 | [],_=>by simp[CI]
 |y::R,h=>by
  have f:=jR.1 h;unfold CI;split
  ·rename_i c;rw[jR];refine⟨λb e=>?_,Th g x R f.2⟩;rcases mem_cons.1 ((Gn lt x R).mem_iff.1 e)with rfl|e
   ·exact g.asy _ _ c
   ·exact f.1 b e
  ·rename_i c;have c:lt x y=false:=by simpa using c
   rw[jR];refine⟨λb e=>?_,h⟩;rcases mem_cons.1 e with rfl|e
   ·exact c
   ·exact g.Ye b y x (f.1 b e) c
def xg(lt:α->α->Bool)(R:List α):List α->List α
 | []=>R
 |x::X=>xg lt (CI lt x R) X
def Dy(lt:α->α->Bool)(X:List α):List α:=(xg lt [] X).reverse
theorem Gm(lt:α->α->Bool):∀(X R:List α),(xg lt R X).Perm (X++R)
 | [],R=>.refl _
 |x::X,R=>by
  simp only[xg];refine(Gm lt X _).trans ?_;refine((Gn lt x R).append_left X).trans ?_;simp only[cons_append];exact perm_middle
theorem Td{lt:α->α->Bool}(c:Ord lt):∀(X R:List α),R.Pairwise (λa b=>lt a b=false)->(xg lt R X).Pairwise (λa b=>lt a b=false)
 | [],R,h=>h
 |x::X,R,h=>Td c X _ (Th c x R h)
def Tc(lt:α->α->Bool)(X R:List α):(xg lt R X).length=X.length+R.length:=by rw[(Gm lt X R).length_eq,ct]
def Cc(lt:α->α->Bool)(X:List α):(Dy lt X).Perm X:=by
 refine(reverse_perm _).trans ?_;simpa using Gm lt X []
def Kb{lt:α->α->Bool}(c:Ord lt)(X:List α):xP lt (Dy lt X):=by
 unfold xP Dy;rw[pairwise_reverse];exact Td c X [] Pairwise.nil
def Bi(lt:α->α->Bool)(X:List α):(Dy lt X).length=X.length:=(Cc lt X).length_eq
theorem Fx(lt:α->α->Bool):∀(n:Nat)(X Y:List α),(I2 lt n X Y).Perm (X++Y)
 | 0,X,Y=>.refl _
 |n+1,X,Y=>by
  unfold I2;split
  ·exact .refl _
  split
  ·generalize xS _ 0 Y.length=p;have c:(Y.take p++X++Y.drop p).Perm (X++Y.take p++Y.drop p):=Perm.append_right _ perm_append_comm;refine c.trans ?_;rw[dS,n5]
  split
  ·generalize xS _ 0 X.length=p;have c:(X.take p++Y++X.drop p).Perm (X.take p++(X.drop p++Y)):=by
    rw[dS];exact Perm.append_left _ perm_append_comm
   refine c.trans ?_;rw[<-dS,n5]
  generalize cutAt lt X Y=s;generalize (X.length+Y.length)/2=h0;refine((Fx lt n _ _).append (Fx lt n _ _)).trans ?_;have e:(X.take s++Y.take (h0-s)++(X.drop s++Y.drop (h0-s))).Perm (X.take s++(X.drop s++Y.take (h0-s))++Y.drop (h0-s)):=by
   simp only[dS];refine Perm.append_left _ ?_;rw[<-dS,<-dS];exact Perm.append_right _ perm_append_comm
  refine e.trans (Perm.of_eq ?_);rw[<-dS,n5,dS,n5]
def afS(lt:α->α->Bool)(n:Nat)(X Y:List α):(I2 lt n X Y).length=X.length+Y.length:=by rw[(Fx lt n X Y).length_eq,ct]
theorem Fw(lt:α->α->Bool):∀(n m:Nat)(X Y:List α),X.length+Y.length<=n->X.length+Y.length<=m->I2 lt n X Y=I2 lt m X Y
 | 0,m,X,Y,h,_=>by
  have c:X=[]:=length_eq_zero_iff.1 aj;have e:Y=[]:=length_eq_zero_iff.1 aj;subst c;subst e;cases m<;>simp[I2]
 |n+1,0,X,Y,_,h=>by
  have c:X=[]:=length_eq_zero_iff.1 aj;have e:Y=[]:=length_eq_zero_iff.1 aj;subst c;subst e;simp[I2]
 |n+1,m+1,X,Y,h,h'=>by
  by_cases f:X.length=0\/Y.length=0
  ·simp only[I2,au f]
  by_cases c:X.length=1
  ·simp only[I2,aq f,au c]
  by_cases e:Y.length=1
  ·simp only[I2,aq f,aq c,au e]
  simp only[I2,aq f,aq c,aq e];obtain⟨c1,c2,c3⟩:=Eu lt X Y;rw[Fw lt n m _ _ (by simp only[gh];omega) (by simp only[gh];omega),Fw lt n m (X.drop _) _ (by simp only[iC];omega) (by simp only[iC];omega)]
def Eb(lt:α->α->Bool)(X Y:List α):List α:=I2 lt (X.length+Y.length) X Y
def Fz(lt:α->α->Bool)(X Y:List α):(Eb lt X Y).length=X.length+Y.length:=afS _ _ _ _
def UN(lt:α->α->Bool)(X Y:List α):(Eb lt X Y).Perm (X++Y):=Fx _ _ _ _
def RC{lt:α->α->Bool}(f:Ord lt){X Y:List α}(c:xP lt X)(e:xP lt Y):xP lt (Eb lt X Y):=(Fy f _ X Y (fO _) c e).1
def LX(lt:α->α->Bool)(Y:List α):Eb lt [] Y=Y:=by unfold Eb;cases h:([]:List α).length+Y.length<;>simp[I2]
def UM(lt:α->α->Bool)(X:List α):Eb lt X []=X:=by unfold Eb;cases h:X.length+([]:List α).length<;>simp[I2]
theorem afT(lt:α->α->Bool)(x:α){Y:List α}(hY:Y.length≠0):Eb lt [x] Y=Y.take (xS (λc=>t2 lt Y[c]? (some x)) 0 Y.length)++[x]++Y.drop (xS (λc=>t2 lt Y[c]? (some x)) 0 Y.length):=by
 unfold Eb;rw[show[x].length+Y.length=Y.length+1 by simp;omega];rw[I2,aq (by simp only[length_cons,length_nil];omega),au (by simp)];simp
theorem ac8(lt:α->α->Bool){X:List α}(hX:X.length≠0)(e:X.length≠1)(y:α):Eb lt X [y]=X.take (xS (λc=>t2 (λy x=>!lt y x) (some y) X[c]?) 0 X.length)++[y]++X.drop (xS (λc=>t2 (λy x=>!lt y x) (some y) X[c]?) 0 X.length):=by
 unfold Eb;rw[show X.length+[y].length=X.length+1 by simp];rw[I2,aq (by simp only[length_cons,length_nil];omega),aq e,au (by simp)];simp
def afU(lt:α->α->Bool){X Y:List α}(h1:2<=X.length)(h2:2<=Y.length):Eb lt X Y=Eb lt (X.take (cutAt lt X Y)) (Y.take ((X.length+Y.length)/2-cutAt lt X Y))++Eb lt (X.drop (cutAt lt X Y)) (Y.drop ((X.length+Y.length)/2-cutAt lt X Y)):=by
 obtain⟨c1,c2,c3⟩:=Eu lt X Y;obtain⟨n,c⟩:∃n,X.length+Y.length=n+1:=⟨X.length+Y.length-1,by omega⟩
 unfold Eb;rw[c,I2,aq aj,aq aj,aq aj,<-c];rw[Fw lt n _ (X.take _) _ (by simp only[gh];omega) (fO _),Fw lt n _ (X.drop _) _ (by simp only[iC];omega) (fO _)]
def CD(lt:α->α->Bool):Nat->List α->List α
 | 0,l=>Dy lt l
 |n+1,l=>if 20<=l.length then Dy lt (l.take 20)++CD lt n (l.drop 20)else Dy lt l
def pg(lt:α->α->Bool)(bs:Nat):Nat->List α->List α
 | 0,l=>l
 |n+1,l=>if 2*bs<=l.length then Eb lt (l.take bs) ((l.drop bs).take bs)++pg lt bs n (l.drop (2*bs))else if bs<l.length then Eb lt (l.take bs) (l.drop bs)else l
def Ev(lt:α->α->Bool):Nat->Nat->List α->List α
 | 0,_,l=>l
 |n+1,bs,l=>if bs<l.length then Ev lt n (2*bs) (pg lt bs l.length l)else l
def DZ(lt:α->α->Bool)(l:List α):List α:=Ev lt l.length 20 (CD lt l.length l)
theorem Ga(lt:α->α->Bool):∀(n:Nat)(l:List α),(CD lt n l).Perm l
 | 0,l=>Cc lt l
 |n+1,l=>by
  unfold CD;split
  ·refine((Cc lt _).append (Ga lt n _)).trans ?_;rw[n5]
  ·exact Cc lt l
theorem DI(lt:α->α->Bool)(bs:Nat):∀(n:Nat)(l:List α),(pg lt bs n l).Perm l
 | 0,l=>.refl _
 |n+1,l=>by
  unfold pg;split
  ·refine((UN lt _ _).append (DI lt bs n _)).trans (Perm.of_eq ?_);rw[dS,show l.drop (2*bs)=(l.drop bs).drop bs by rw[drop_drop];congr 1;omega,n5,n5]
  split
  ·refine(UN lt _ _).trans ?_;rw[n5]
  ·exact .refl _
theorem N0(lt:α->α->Bool):∀(n bs:Nat)(l:List α),(Ev lt n bs l).Perm l
 | 0,_,l=>.refl _
 |n+1,bs,l=>by
  unfold Ev;split
  ·exact(N0 lt n _ _).trans (DI lt bs _ l)
  ·exact .refl _
def yO(lt:α->α->Bool)(l:List α):(DZ lt l).Perm l:=(N0 lt _ _ _).trans (Ga lt _ _)
def aa8(lt:α->α->Bool)(n:Nat)(l:List α):(CD lt n l).length=l.length:=(Ga lt n l).length_eq
def yx(lt:α->α->Bool)(bs n:Nat)(l:List α):(pg lt bs n l).length=l.length:=(DI lt bs n l).length_eq
def RI(lt:α->α->Bool)(l:List α):(DZ lt l).length=l.length:=(yO lt l).length_eq
inductive Vn(lt:α->α->Bool)(bs:Nat):List α->Prop
 |last (l:List α):l.length<=bs->xP lt l->Vn lt bs l
 |more (A B:List α):A.length=bs->xP lt A->Vn lt bs B->Vn lt bs (A++B)
theorem Jm{lt:α->α->Bool}(c:Ord lt):∀(n:Nat)(l:List α),l.length<=n->Vn lt 20 (CD lt n l)
 | 0,l,h=>.last _ (by simp only[CD,Bi];omega) (Kb c _)
 |n+1,l,h=>by
  unfold CD;split
  ·exact .more _ _ (by rw[Bi,gh];omega) (Kb c _) (Jm c n _ (by simp only[iC];omega))
  ·exact .last _ (by rw[Bi];omega) (Kb c _)
theorem GI{lt:α->α->Bool}(f:Ord lt){bs:Nat}(j:0<bs):∀(n:Nat)(l:List α),l.length<=n->Vn lt bs l->Vn lt (2*bs) (pg lt bs n l)
 | 0,l,h,c=>by
  have:l=[]:=length_eq_zero_iff.1 aj;subst this;exact .last _ (by simp[pg]) (by simp[pg,xP])
 |n+1,l,h,c=>by
  unfold pg;cases c with
  |last _ h1 h2 =>
   rw[aq aj,aq aj];exact .last _ aj h2
  |more A B h1 h2 i =>
   have k:(A++B).take bs=A:=by rw[<-h1];simp
   have t2:(A++B).drop bs=B:=by rw[<-h1];simp
   have t3:(A++B).drop (2*bs)=B.drop bs:=by rw[show 2*bs=bs+bs by omega,<-drop_drop,t2]
   rw[k,t2,t3];cases i with
   |last _ k1 k2 =>
    split
    ·rename_i c;have:B.length=bs:=by rw[ct]at c;omega
     rw[take_of_length_le aj,drop_of_length_le aj];have e:pg lt bs n ([]:List α)=[]:=length_eq_zero_iff.1 (by rw[yx];rfl);rw[e,append_nil];exact .last _ (by rw[Fz];omega) (RC f h2 k2)
    split
    ·exact .last _ (by rw[Fz];omega) (RC f h2 k2)
    ·rename_i c g;rw[ct]at g;have:B=[]:=length_eq_zero_iff.1 aj;subst this;rw[append_nil];exact .last _ aj h2
   |more B C k1 k2 k3 =>
    rw[au (by simp only[ct];omega)];rw[show(B++C).take bs=B by rw[<-k1];simp,show(B++C).drop bs=C by rw[<-k1];simp];exact .more _ _ (by rw[Fz];omega) (RC f h2 k2) (GI f j n C (by simp only[ct]at h;omega) k3)
theorem Vn.srt{lt:α->α->Bool}{bs:Nat}{l:List α}(h:Vn lt bs l)(c:l.length<=bs):xP lt l:=by
 cases h with
 |last _ h1 h2=>exact h2
 |more A B h1 h2 h3 =>
  rw[ct]at c;have:B=[]:=length_eq_zero_iff.1 aj;subst this;rwa[append_nil]
theorem SB{lt:α->α->Bool}(c:Ord lt):∀(n bs:Nat)(l:List α),0<bs->l.length<=n+bs->Vn lt bs l->xP lt (Ev lt n bs l)
 | 0,bs,l,_,hl,h=>h.srt aj
 |n+1,bs,l,hb,hl,h=>by
  unfold Ev;split
  ·exact SB c n _ _ aj (by rw[yx];omega) (GI c hb _ l (fO _) h)
  ·exact h.srt aj
def I3{lt:α->α->Bool}(c:Ord lt)(l:List α):xP lt (DZ lt l):=SB c _ _ _ aj (by rw[aa8];omega) (Jm c _ l (fO _))
def WM(L U M V R:List α)(i:Nat):List α:=L++(V.take i++U.drop i)++M++(U.take i++V.drop i)++R
def adl(L U M V R:List α):WM L U M V R 0=L++U++M++V++R:=by simp[WM]
def af2(L U M V R:List α)(h:U.length=V.length):WM L U M V R U.length=L++V++M++U++R:=by
 have c:V.take U.length=V:=by rw[h];exact eU
 have e:V.drop U.length=[]:=by rw[h];exact jJ
 simp[WM,c,e]
def AI(P:List α)(u:α)(Q:List α){k:Nat}(h:k=P.length):(P++u::Q)[k]?=some u:=by subst h;simp
def Cs(P:List α)(u v:α)(Q:List α){k:Nat}(h:k=P.length):(P++u::Q).set k v=P++v::Q:=by subst h;simp
def adk(L U M V R:List α)(h:U.length=V.length){a b:Nat}(ha:a=L.length)(hb:b=L.length+U.length+M.length){i:Nat}(g:i<U.length) :
  (WM L U M V R i).length=L.length+U.length+M.length+V.length+R.length/\∃u v,(WM L U M V R i)[a+i]?=some u/\(WM L U M V R i)[b+i]?=some v/\WM L U M V R (i+1)=((WM L U M V R i).set (a+i) v).set (b+i) u:=by
 have c:i<V.length:=aj
 refine⟨by simp only[WM,ct,gh,iC];omega,U[i],V[i],?_⟩;have e:WM L U M V R i=(L++V.take i)++U[i]::((U.drop (i+1)++M++U.take i)++V[i]::(V.drop (i+1)++R)):=by
  simp only[WM,drop_eq_getElem_cons g,drop_eq_getElem_cons c,dS,cons_append]
 have e2:WM L U M V R (i+1)=(L++V.take i)++V[i]::((U.drop (i+1)++M++U.take i)++U[i]::(V.drop (i+1)++R)):=by
  simp only[WM,j7 g,j7 c,dS,cons_append,nil_append]
 have k1:a+i=(L++V.take i).length:=by simp only[ct,gh];omega
 have k2:∀x,b+i=(L++V.take i++x::(U.drop (i+1)++M++U.take i)).length:=by
  intro x;simp only[ct,length_cons,gh,iC];omega
 have f:∀x y,(L++V.take i)++x::((U.drop (i+1)++M++U.take i)++y::(V.drop (i+1)++R))=(L++V.take i++x::(U.drop (i+1)++M++U.take i))++y::(V.drop (i+1)++R):=by
  intro x y;simp only[dS,cons_append]
 refine⟨?_,?_,?_⟩
 ·rw[e];exact AI _ _ _ k1
 ·rw[e,f];exact AI _ _ _ (k2 _)
 ·rw[e,Cs _ _ _ _ k1,f,Cs _ _ _ _ (k2 _),e2,f]
def pP(L:List α)(x:α)(P R:List α)(i:Nat):List α:=L++P.take (P.length-i)++x::(P.drop (P.length-i)++R)
def JQ(L:List α)(x:α)(P R:List α){i:Nat}(hi:i<P.length){a b:Nat}(ha:a=L.length+P.length-i)(hb:b+1=a) :
  ∃v,(pP L x P R i)[a]?=some x/\(pP L x P R i)[b]?=some v/\P[P.length-i-1]?=some v/\pP L x P R (i+1)=((pP L x P R i).set a v).set b x:=by
 obtain⟨k,g⟩:∃k,P.length-i=k+1:=⟨P.length-i-1,by omega⟩
 have c:k<P.length:=aj
 refine⟨P[k],?_⟩;have e:pP L x P R i=(L++P.take k)++P[k]::x::(P.drop (k+1)++R):=by
  simp only[pP,g,j7 c,dS,cons_append,nil_append]
 have e2:pP L x P R (i+1)=(L++P.take k)++x::P[k]::(P.drop (k+1)++R):=by
  simp only[pP,show P.length-(i+1)=k by omega,drop_eq_getElem_cons c,dS,cons_append]
 have k1:b=(L++P.take k).length:=by simp only[ct,gh];omega
 have k2:∀y,a=(L++P.take k++[y]).length:=by intro y;simp only[ct,gh,length_cons,length_nil];omega
 have f:∀y z,(L++P.take k)++y::z::(P.drop (k+1)++R)=(L++P.take k++[y])++z::(P.drop (k+1)++R):=by
  intro y z;simp only[dS,cons_append,nil_append]
 refine⟨?_,?_,?_,?_⟩
 ·rw[e,f];exact AI _ _ _ (k2 _)
 ·rw[e];exact AI _ _ _ k1
 ·rw[g];exact gF c
 ·rw[e,f,Cs _ _ _ _ (k2 _),<-f,Cs _ _ _ _ k1,e2]
def JR(L:List α)(x:α)(P R:List α):pP L x P R 0=L++P++x::R:=by simp[pP]
def YP(L:List α)(x:α)(P R:List α):pP L x P R P.length=L++x::(P++R):=by simp[pP]
def YQ(L:List α)(x:α)(P R:List α)(i:Nat):(pP L x P R i).length=L.length+P.length+R.length+1:=by
 simp only[pP,ct,length_cons,gh,iC];omega
def Vb(L:List α)(x:α)(P R:List α)(i:Nat):List α:=L++P.take i++x::(P.drop i++R)
def adA(L:List α)(x:α)(P R:List α){i:Nat}(f:i<P.length){a b:Nat}(ha:a=L.length+i)(hb:b=a+1) :
  ∃v,(Vb L x P R i)[a]?=some x/\(Vb L x P R i)[b]?=some v/\Vb L x P R (i+1)=((Vb L x P R i).set a v).set b x:=by
 refine⟨P[i],?_⟩;have c:Vb L x P R i=(L++P.take i)++x::P[i]::(P.drop (i+1)++R):=by
  simp only[Vb,drop_eq_getElem_cons f,dS,cons_append]
 have e2:Vb L x P R (i+1)=(L++P.take i)++P[i]::x::(P.drop (i+1)++R):=by
  simp only[Vb,j7 f,dS,cons_append,nil_append]
 have k1:a=(L++P.take i).length:=by simp only[ct,gh];omega
 have k2:∀y,b=(L++P.take i++[y]).length:=by intro y;simp only[ct,gh,length_cons,length_nil];omega
 have e:∀y z,(L++P.take i)++y::z::(P.drop (i+1)++R)=(L++P.take i++[y])++z::(P.drop (i+1)++R):=by
  intro y z;simp only[dS,cons_append,nil_append]
 refine⟨?_,?_,?_⟩
 ·rw[c];exact AI _ _ _ k1
 ·rw[c,e];exact AI _ _ _ (k2 _)
 ·rw[c,Cs _ _ _ _ k1,e,Cs _ _ _ _ (k2 _),e2,e]
def adB(L:List α)(x:α)(P R:List α):Vb L x P R 0=L++x::(P++R):=by simp[Vb]
def agb(L:List α)(x:α)(P R:List α):Vb L x P R P.length=L++P++x::R:=by simp[Vb]
def agc(L:List α)(x:α)(P R:List α)(i:Nat):(Vb L x P R i).length=L.length+P.length+R.length+1:=by
 simp only[Vb,ct,length_cons,gh,iC];omega
theorem Xx(lt:α->α->Bool)(x:α):∀(Q:List α)(i:Nat),i<=Q.length->(∀j v,j<i->Q[j]?=some v->lt x v=true)->(∀v,Q[i]?=some v->lt x v=false)->CI lt x Q=Q.take i++x::Q.drop i
 | [],i,h,_,_=>by
  have:i=0:=by simpa using h
  subst this;rfl
 |y::Q,0,_,_,h=>by
  have:=h y rfl;simp[CI,this]
 |y::Q,i+1,hl,h1,h2=>by
  have e:=h1 0 y aj rfl;have f:=Xx lt x Q i (by simpa using hl) (λj v hj c=>h1 (j+1) v aj (by simpa using c)) (λv c=>h2 v (by simpa using c));simp[CI,e,f]
theorem Ow(lt:α->α->Bool):∀(X R:List α)(k:Nat)(h:k<X.length),xg lt R (X.take (k+1))=CI lt X[k] (xg lt R (X.take k))
 | [],_,k,h=>by simp at h
 |x::X,R,0,h=>by simp[xg]
 |x::X,R,k+1,h=>by
  simp only[take_succ_cons,xg,getElem_cons_succ];exact Ow lt X _ k (by simpa using h)
def H9(lt:α->α->Bool)(L X R:List α)(k:Nat):List α:=L++(xg lt [] (X.take k)).reverse++X.drop k++R
theorem abP(lt:α->α->Bool)(L X R:List α):H9 lt L X R 1=L++X++R:=by
 cases X with
 |nil=>simp[H9,xg]
 |cons x X=>simp[H9,xg,CI]
def abN(lt:α->α->Bool)(L X R:List α){k:Nat}(h:X.length<=k):H9 lt L X R k=L++Dy lt X++R:=by
 simp[H9,Dy,take_of_length_le h,drop_of_length_le h]
def abO(lt:α->α->Bool)(L X R:List α)(k:Nat):(H9 lt L X R k).length=L.length+X.length+R.length:=by
 simp only[H9,ct,length_reverse,Tc,gh,iC,length_nil];omega
def Y7(lt:α->α->Bool)(L X R:List α){k:Nat}(h:k<X.length):H9 lt L X R k=pP L X[k] (xg lt [] (X.take k)).reverse (X.drop (k+1)++R) 0:=by
 rw[JR];simp only[H9,drop_eq_getElem_cons h,dS,cons_append]
def Y8(lt:α->α->Bool)(L X R:List α){k:Nat}(h:k<X.length){P:List α}(m:P=(xg lt [] (X.take k)).reverse){i:Nat}(e:i<=P.length)(g:∀j v,j<i->P[P.length-j-1]?=some v->lt X[k] v=true)(l:i<P.length->∀v,P[P.length-i-1]?=some v->lt X[k] v=false) :
  H9 lt L X R (k+1)=pP L X[k] P (X.drop (k+1)++R) i:=by
 subst m;generalize n:xg lt [] (X.take k)=Q at *;have hr:∀j,j<Q.length->Q.reverse[Q.reverse.length-j-1]?=Q[j]?:=by
  intro j f;rw[length_reverse,getElem?_reverse aj];congr 1;omega
 have o:=Xx lt X[k] Q i (by simpa using e) (λj v f c=>g j v f (by rw[hr j (ff c)];exact c)) (λv c=>l (by rw[length_reverse];exact ff c) v (by rw[hr i (ff c)];exact c));have hil:i<=Q.length:=by simpa using e
 simp only[H9,Ow lt X [] k h,n,o,pP,reverse_append,reverse_cons,length_reverse];have p:Q.reverse.take (Q.length-i)=(Q.drop i).reverse:=by rw[take_reverse];congr 2;omega
 have t2:Q.reverse.drop (Q.length-i)=(Q.take i).reverse:=by rw[drop_reverse];congr 2;omega
 rw[p,t2];simp only[dS,cons_append,nil_append]
end
structure iu where
 who:Int
 bV:Int
 units:Int
 deriving DecidableEq
def gx{x:Int}(c:-9223372036854775808<=x)(e:x<9223372036854775808):IntKind.i64.wrap x=x:=CA c e
def iu.key(p:iu):Int:=p.who*8+p.bV
def jH(w a:Int):Bool:=decide (1<=w)&&decide (w<=16)&&decide (1<=a)&&decide (a<=6)
def iu.ok(p:iu):Prop:=jH p.who p.bV=true/\1<=p.units/\p.units<=1099511627776
def sW{w a:Int}:jH w a=true↔1<=w/\w<=16/\1<=a/\a<=6:=by
 simp only[jH,cU,bO];omega
def Qf(p:iu)(w a:Int):Int:=if p.who≠w then IntKind.wrap .i64 (p.who-w)else IntKind.wrap .i64 (p.bV-a)
def JH{p:iu}{w a:Int}(c:jH p.who p.bV=true)(h:jH w a=true):Qf p w a=if p.who≠w then p.who-w else p.bV-a:=by
 rw[sW]at c h;unfold Qf;rw[gx aj aj,gx aj aj]
def Qg{p:iu}{w a:Int}(c:jH p.who p.bV=true)(h:jH w a=true):Qf p w a<0↔p.key<w*8+a:=by
 rw[JH c h];rw[sW]at c h;unfold iu.key;split<;>omega
def key_inj{p:iu}{w a:Int}(c:jH p.who p.bV=true)(h:jH w a=true):p.key=w*8+a↔p.who=w/\p.bV=a:=by
 rw[sW]at c h;unfold iu.key;omega
def vD(ps:List iu)(i:Nat):Bool:=
 match ps[i]? with
 |none=>true
 |some p=>jH p.who p.bV&&decide (1<=p.units)&&decide (p.units<=1099511627776)&&(match i with
  | 0=>true
  |j+1=>match ps[j]? with
   |some q=>decide (Qf q p.who p.bV<0)
   |none=>true)
def kf(ps:List iu):Bool:=(range ps.length).all (vD ps)
def Good(ps:List iu):Prop:=(∀p∈ps,p.ok)/\ps.Pairwise (λp q=>p.key<q.key)
def lN{ps:List iu}:kf ps=true↔Good ps:=by
 have l:∀i (h:i<ps.length),vD ps i=true↔ps[i].ok/\∀j,(f:j+1=i)->Qf (ps[j]'aj) ps[i].who ps[i].bV<0:=by
  intro i h;unfold vD;rw[gF h];cases i with
  |zero=>simp[iu.ok,and_assoc]
  |succ i =>
   simp only[gF (show i<ps.length by omega),cU,bO,iu.ok];constructor
   ·rintro⟨⟨⟨c,m⟩,s⟩,h4⟩;exact⟨⟨c,m,s⟩,λj f=>(show j=i by omega) ▸ h4⟩
   ·rintro⟨⟨c,m,s⟩,h4⟩;exact⟨⟨⟨c,m⟩,s⟩,h4 i rfl⟩
 constructor
 ·intro v;have g:∀i (h:i<ps.length),vD ps i=true:=by
   intro i h;exact cg.1 v i (mem_range.2 h)
  have o:∀i (h:i<ps.length),ps[i].ok:=λi h=>((l i h).1 (g i h)).1;refine⟨?_,?_⟩
  ·intro p x;obtain⟨i,k,rfl⟩:=mem_iff_getElem.1 x;exact o i k
  ·rw[Ay];have key:∀d i (f:i+d+1<ps.length),ps[i].key<ps[i+d+1].key:=by
    intro d;induction d with
    |zero =>
     intro i f;have c:=((l (i+1) f).1 (g _ f)).2 i rfl;rw[Qg (o i aj).1 (o (i+1) f).1]at c;exact c
    |succ d ih =>
     intro i f;have t:=ih i aj;have c:=((l (i+d+1+1) f).1 (g _ f)).2 (i+d+1) rfl;rw[Qg (o (i+d+1) aj).1 (o (i+d+1+1) f).1]at c;exact Int.lt_trans t c
   intro i j k f hij;have:=key (j-i-1) i aj;have e:i+(j-i-1)+1=j:=aj
   simpa only[e]using this
 ·rintro⟨c,m⟩;rw[Ay]at m;refine cg.2 λi k=>?_;have k:=mem_range.1 k;rw[l i k];refine⟨c _ (dH k),?_⟩;intro j f;have n:j<ps.length:=aj
  rw[Qg (c _ (dH n)).1 (c _ (dH k)).1];exact m j i n k aj
def pos(K:Int):List iu->Nat
 | []=>0
 |p::r=>if p.key<K then pos K r+1 else 0
def NW(w a n:Int):List iu->List iu
 | []=>if n>0 then[⟨w,a,n⟩]else[]
 |p::r=>if p.key<w*8+a then p::NW w a n r else if p.key=w*8+a then(if n>0 then⟨w,a,n⟩::r else r)else(if n>0 then⟨w,a,n⟩::p::r else p::r)
def eT(w a:Int):List iu->Int
 | []=>0
 |p::r=>if p.who=w/\p.bV=a then p.units else eT w a r
theorem IG{w a n:Int}:∀{ps:List iu} {q:iu},q∈NW w a n ps->q∈ps\/(q=⟨w,a,n⟩/\n>0)
 | [],q,h=>by
  simp only[NW]at h;split at h
  ·simp at h;exact .inr ⟨h,by assumption⟩
  ·simp at h
 |p::r,q,h=>by
  simp only[NW]at h;split at h
  ·rcases mem_cons.1 h with h|h
   ·exact .inl (by simp[h])
   ·rcases IG h with h|h
    ·exact .inl (by simp[h])
    ·exact .inr h
  ·split at h
   ·split at h
    ·rcases mem_cons.1 h with h|h
     ·exact .inr ⟨h,by assumption⟩
     ·exact .inl (by simp[h])
    ·exact .inl (by simp[h])
   ·split at h
    ·rcases mem_cons.1 h with h|h
     ·exact .inr ⟨h,by assumption⟩
     ·exact .inl h
    ·exact .inl h
def Sr{w a n:Int}(hr:jH w a=true)(j:n<=1099511627776){ps:List iu}(g:Good ps):Good (NW w a n ps):=by
 refine⟨?_,?_⟩
 ·intro q e;rcases IG e with h| ⟨rfl,h⟩
  ·exact g.1 q h
  ·exact⟨hr,by show 1<=n;omega,j⟩
 ·have c:=g.2;clear g;induction ps with
  |nil=>simp only[NW];split<;>simp
  |cons p r ih =>
   rw[jR]at c;simp only[NW];split
   ·rename_i h;rw[jR];refine⟨?_,ih c.2⟩;intro q e;rcases IG e with f| ⟨rfl,_⟩
    ·exact c.1 q f
    ·exact h
   ·split
    ·split
     ·rename_i i f _;rw[jR];refine⟨?_,c.2⟩;intro q e;have:=c.1 q e;show w*8+a<q.key;omega
     ·exact c.2
    ·split
     ·rename_i i f _;rw[jR,jR];refine⟨?_,c⟩;intro q e;show w*8+a<q.key;rcases mem_cons.1 e with rfl|e
      ·omega
      ·have:=c.1 q e;omega
     ·rw[jR];exact c
theorem D8{w a:Int}:∀{ps:List iu},(∀p∈ps,¬(p.who=w/\p.bV=a))->eT w a ps=0
 | [],_=>rfl
 |p::r,h=>by simp only[eT,aq (h p sT)];exact D8 λq c=>h q (by simp[c])
theorem PA{w a n:Int}(hr:jH w a=true)(m:0<=n):∀{ps:List iu},Good ps->eT w a (NW w a n ps)=n
 | [],_=>by
  simp only[NW];split
  ·simp[eT]
  ·simp[eT];omega
 |p::r,hg=>by
  have o:=(hg.1 p sT).1;have i:Good r:=⟨λq g=>hg.1 q (by simp[g]),(jR.1 hg.2).2⟩
  have j:=(jR.1 hg.2).1;have e:=key_inj o hr;have c:w*8+a<=p.key->∀q∈r,¬(q.who=w/\q.bV=a):=by
   intro hle q g f;have l:=(key_inj (hg.1 q (by simp[g])).1 hr).2 f;have k:=j q g;omega
  simp only[NW];split
  ·rename_i h;have:¬(p.who=w/\p.bV=a):=λf=>by have:=e.2 f;omega
   simp only[eT,aq this];exact PA hr m i
  ·split
   ·split
    ·simp[eT]
    ·rw[D8 (c aj)];omega
   ·rename_i l k;have:¬(p.who=w/\p.bV=a):=λf=>k (e.2 f);split
    ·simp[eT]
    ·simp only[eT,aq this];rw[D8 (c aj)];omega
theorem HL{w a n w' f:Int}(c:¬(w'=w/\f=a))(hr:jH w a=true):∀{ps:List iu},Good ps->eT w' f (NW w a n ps)=eT w' f ps
 | [],_=>by
  have:¬(w=w'/\a=f):=λh=>c ⟨h.1.symm,h.2.symm⟩;simp only[NW];split
  ·simp[eT,this]
  ·rfl
 |p::r,hg=>by
  have l:=(hg.1 p sT).1;have i:Good r:=⟨λq m=>hg.1 q (by simp[m]),(jR.1 hg.2).2⟩
  have j:¬(w=w'/\a=f):=λh=>c ⟨h.1.symm,h.2.symm⟩;have g:=key_inj l hr;simp only[NW];split
  ·simp only[eT,HL c hr i]
  ·split
   ·rename_i h1 k;have e:=g.1 k;have:¬(p.who=w'/\p.bV=f):=λh=>c ⟨by rw[<-h.1,e.1],by rw[<-h.2,e.2]⟩;split
    ·simp[eT,j,this]
    ·simp[eT,this]
   ·split
    ·simp[eT,j]
    ·rfl
def iu.cells(p:iu):List D:=[.I p.who,.I p.bV,.I p.units]
def pl(ps:List iu):List (List D):=ps.map iu.cells
theorem pK(ps:List iu):(pl ps).length=ps.length:=by simp[pl]
theorem oA(ps:List iu){i:Nat}(h:i<ps.length):(pl ps).getD i []=[.I ps[i].who,.I ps[i].bV,.I ps[i].units]:=by simp[pl,h,iu.cells]
attribute [go_sem] pK
def Ut(w a:Int):Sq 205 [] [.I w,.I a] [] (.bool (jH w a)):=by
 refine aX 19 2 [.tmp 4] mixed func205 ?_;refine s0 ?_;repeat' with_reducible first|apply And.intro|exact .dq|refine az.aP (by assumption) ?_|refine mW (λh=>?_) λh=>?_|refine .id ?_|refine ah.eI aj ?_ ?_|exact aK|simp only[*,go_sem,seval]
 all_goals(simp only[jH];simp<;>omega)
def Qh(p:iu)(w a:Int):Sq 206 [] [.agg [.I p.who,.I p.bV,.I p.units],.I w,.I a] [] (.I (Qf p w a)):=by
 refine aX 19 3 [.tmp 6] mixed func206 ?_;refine s0 ?_;repeat' with_reducible first|apply And.intro|exact .dq|refine az.aP (by assumption) ?_|refine mW (λh=>?_) λh=>?_|refine .id ?_|refine ah.eI aj ?_ ?_|exact aK|simp only[*,go_sem,seval]
 all_goals(simp only[Qf];simp_all)
theorem QN{ps:List iu}{i:Nat}(h:i<ps.length):vD ps i=(jH ps[i].who ps[i].bV&&decide (1<=ps[i].units)&&decide (ps[i].units<=1099511627776)&&(decide (i=0)||decide (Qf (ps.getD (i-1) ⟨0,0,0⟩) ps[i].who ps[i].bV<0))):=by
 unfold vD;rw[gF h];cases i with
 |zero=>simp
 |succ i =>
  have c:i<ps.length:=aj
  simp[gF c,getD_eq_getElem?_getD]
def NV{ps:List iu}{i:Nat}(h:i<ps.length)(c:vD ps i=false):kf ps=false:=by
 cases e:kf ps
 ·rfl
 ·rw[cg.1 e i (mem_range.2 h)]at c;cases c
def Jw{ps:List iu}(h:∀i<ps.length,vD ps i=true):kf ps=true:=cg.2 λi c=>h i (mem_range.1 c)
def OW(ps:List iu)(hl:ps.length<2^62):Sq 96 [] [.sl 3 (pl ps)] [] (.I (if kf ps then 0 else 14)):=by
 refine aX 46 1 [.tmp 2] mixed func96 ?_;refine s0 ?_;refine aG.count ps.length [0,5,6] [112] (λi=>[(7,.I i)]) (λi=>[]) (λi=>∀j<i,vD ps j=true) sT ?_ ?_
 ·exact jh
 ·intro i hi m;refine s0 ?_;refine bK.fP (λh=>?_) (λh=>?_)
  ·have c:i<ps.length:=aj
   have hw:IntKind.wrap .i64 ((i:Int)+1)=((i+1:Nat):Int):=fU;have hr:=Ut ps[i].who ps[i].bV;have e:=QN c;have e0:vD ps i=true->∀k<i+1,vD ps k=true:=λp k e=>by
    rcases dN k i with h|h
    ·exact m k h
    ·obtain rfl:k=i:=aj
     exact p
   have l:vD ps i=false->kf ps=false:=NV c;rcases Nat.eq_zero_or_pos i with rfl|hpos
   ·simp only[go_sem,seval,oA ps c];repeat' with_reducible first|apply And.intro|exact .dq|refine az.aP (by assumption) ?_|refine az.aP (hr) ?_|refine mW (λh=>?_) λh=>?_|refine .id ?_|refine ah.eI aj ?_ ?_|exact aK|simp only[*,go_sem,seval]
    all_goals first
     |omega
     | (refine e0 ?_;rw[e];simp_all<;>omega)
     |rfl
     | (rw [l ?_]
        ·rfl
        ·cases g:vD ps 0
         ·rfl
         ·exfalso;rw[e]at g;simp at g;first|omega| (simp_all;done)| (simp_all;omega))
   ·obtain⟨j,rfl⟩:∃j,i=j+1:=⟨i-1,by omega⟩
    have n:j<ps.length:=aj
    have hw1:IntKind.wrap .i64 (((j+1:Nat):Int)-1)=(j:Int):=fU;have f:=Qh ps[j] ps[j+1].who ps[j+1].bV;have o:ps.getD (j+1-1) ⟨0,0,0⟩=ps[j]:=by simp[n]
    rw[o]at e;simp only[go_sem,seval,oA ps c];repeat' with_reducible first|apply And.intro|exact .dq|refine az.aP (by assumption) ?_|refine az.aP (hr) ?_|refine az.aP (f) ?_|refine mW (λh=>?_) λh=>?_|refine .id ?_|refine ah.eI aj ?_ ?_|exact aK|simp only[*,go_sem,seval,oA ps n]
    all_goals first
     |omega
     | (refine e0 ?_;rw[e];simp_all<;>omega)
     |rfl
     | (rw [l ?_]
        ·rfl
        ·cases g:vD ps (j+1)
         ·rfl
         ·exfalso;rw[e]at g;simp at g;first|omega| (simp_all;done)| (simp_all;omega))
  ·obtain rfl:i=ps.length:=aj
   have hc:=Jw m;exact ato
def Qr{ps:List iu}{i:Nat}(h:i<ps.length):ps.drop i=ps[i]::ps.drop (i+1):=(drop_eq_getElem_cons h)
def KM{a b:Int}(h:(a==b)=true):a=b:=su h
def JE(ps:List iu)(hl:ps.length<2^30):Sq 142 [] [.sl 3 (pl ps)] [.own 3 (pl ps)] (.ref 0):=by
 refine aX 8 1 [.tmp 2] mixed func142 ?_;refine s0 ?_;refine fG.By aqq rfl aj ?_;intro b c;repeat' with_reducible first|apply And.intro|exact .dq|refine az.aP (by assumption) ?_|refine mW (λh=>?_) λh=>?_|refine .id ?_|refine ah.eI aj ?_ ?_|exact aK|simp only[*,go_sem,seval]
 all_goals first
  |omega
  | (rw[c (by assumption)])
  |skip
def half{i j:Nat}(h:i+j<2^63):IntKind.wrap .i64 (Bl .u64 (IntKind.wrap .u64 (IntKind.wrap .i64 ((i:Int)+j))) 1)=(((i+j)/2:Nat):Int):=by
 rw[gx (x:=(i:Int)+j) aj aj];have c:∀x:Int,0<=x->x<18446744073709551616->IntKind.wrap .u64 x=x:=by
  intro x h1 h2;simp[IntKind.wrap,IntKind.signed,IntKind.bits];omega
 rw[c ((i:Int)+j) aj aj];have:Bl .u64 ((i:Int)+j) 1=(((i+j)/2:Nat):Int):=by
  show((i:Int)+j).fdiv (2^1)=_;rw[Int.fdiv_eq_ediv_of_nonneg _ aj];omega
 rw[this,gx aj aj]
def iy(ps:List iu)(w a u:Int):Int:=
 if kf ps=false then 14 else if(jH w a&&decide (-1099511627776<=u)&&decide (u<=1099511627776))=false then 3 else
  if eT w a ps+u<0 then 13 else if eT w a ps+u>1099511627776 then 1 else 0
def gy(ps:List iu)(w a u:Int):List iu:=if iy ps w a u=0 then NW w a (eT w a ps+u) ps else[]
theorem FJ{w a:Int}:∀{ps:List iu},(∀p∈ps,p.ok)->0<=eT w a ps/\eT w a ps<=1099511627776
 | [],_=>by simp[eT]
 |p::r,h=>by
  have h1:=(h p sT).2;have h2:=FJ (w:=w) (a:=a) (ps:=r) λq c=>h q (by simp[c]);simp only[eT];split<;>omega
def within(a b c:Int):Bool:=decide (b<=a)&&decide (a<=c)
def iM(a b c:Int):Sq 178 [] [.I a,.I b,.I c] [] (.bool (within a b c)):=by
 refine Abs.Spec.yN (n:=15) (np:=3) (rs:=[.tmp 6]) mixed func178 rfl rfl rfl rfl rfl sT sT ?_;refine s0 ?_;refine dh.split (λh=>?_) (λh=>?_)<;>simp only[h,go_sem,seval]
 all_goals simp[within,h]
def ints(xs:List Int):List (List D):=xs.map λx=>[.I x]
def bA(x:Int):Bool:=decide (-4611686018427387904<=x)&&decide (x<=4611686018427387904)
def right(xs:List Int):Bool:=xs.all bA
def aA(xs:List Int):(ints xs).length=xs.length:=by simp[ints]
def ints_at(xs:List Int){i:Nat}(h:i<xs.length):(ints xs).getD i []=[.I xs[i]]:=by simp[ints,h]
def wrap64{x:Int}(h:-9223372036854775808<=x)(h':x<=9223372036854775807):IntKind.wrap .i64 x=x:=by
 rw[IntKind.wrap_i64];omega
def eH(xs:List Int)(hl:xs.length<2^62):Sq 106 [] [.sl 1 (ints xs)] [] (.bool (right xs)):=by
 refine Abs.Spec.yN (n:=18) (np:=1) (rs:=[.tmp 2]) mixed func106 rfl rfl rfl rfl rfl sT sT ?_;refine s0 ?_;refine⟨Nat,λi=>[(2,.bool false),(5,.sl 1 (ints xs)),(6,.I xs.length),(7,.I i)],λi=>[],λi=>i<=xs.length/\right (xs.take i)=true,λi=>xs.length-i,0,?_,?_,?_⟩
 ·simp[right]
 ·simp only[go_sem,seval,aA]<;>simp
 ·rintro i ⟨hi,hr⟩;refine s0 ?_;refine bK.split (λh=>?_) (λh=>?_)
  ·have c:i<xs.length:=su h;simp only[go_sem,seval,Int.toNat_natCast,ints_at xs c];refine⟨by simp[aA,c],?_⟩;have bad:bA xs[i]=false->false=right xs:=λf=>by
    symm;simp only[right,all_eq_false];exact⟨xs[i],dH c,by simp[f]⟩
   refine .kB (λh=>?_) (λh=>?_)<;>simp only[h,go_sem,seval]
   ·refine .split (λe=>?_) (λe=>?_)<;>simp only[e,go_sem,seval]
    ·exact bad (by simp[bA]at e |-;omega)
    ·refine⟨i+1,⟨c,?_⟩,?_,by simp only;omega⟩
     ·rw[right,j7 c,all_append];rw[right]at hr;rw[hr];simp[bA]at h e |-;omega
     ·simp only[go_sem,seval,aA];rw[wrap64 aj aj];simp
   ·exact bad (by simp[bA]at h |-;omega)
  ·refine s0 ?_;have:i=xs.length:=by simp at h;omega
   subst this;simpa using hr.symm
structure aD where
 a:Int
 b:Int
 c:Int
 d:Int
@[reducible] def aD.cells(x:aD):List D:=[.I x.a,.I x.b,.I x.c,.I x.d]
def aD.ok(x:aD):Bool:=within x.a 1 6&&within x.b 0 2&&within x.c 1 1073741824&&within x.d 0 10000
def As(x:aD):Sq 197 [] [.agg x.cells] [] (.bool x.ok):=by
 refine Abs.Spec.yN (n:=21) (np:=1) (rs:=[.tmp 2]) mixed func197 rfl rfl rfl rfl rfl sT sT ?_;simp only[aD.cells];refine s0 ?_
 repeat'(with_reducible first
  |apply And.intro
  |refine az.aP (iM _ _ _) ?_
  |refine dh.kB (λh=>?_) (λh=>?_)
  |refine dh.split (λh=>?_) (λh=>?_)
  |simp only[*,go_sem,seval])
 all_goals simp[aD.ok, *]
def zu(x:aD):Sq 196 [] [.agg x.cells] [] (.I x.a):=by
 refine Abs.Spec.yN (n:=5) (np:=1) (rs:=[.tmp 2]) mixed func196 rfl rfl rfl rfl rfl sT sT ?_;simp only[aD.cells];exact iB
def fQ{A:Type}(no:A->Int)(ok:A->Bool)(xs:List A)(i:Nat):Bool:=match xs[i]? with
 |some x=>ok x&&(match i with
  | 0=>true
  |j+1=>match xs[j]? with
   |some y=>decide (no y<no x)
   |none=>true)
 |none=>true
def lF{A:Type}(no:A->Int)(ok:A->Bool)(xs:List A){i:Nat}(c:i<xs.length)(h:¬ 0<i):fQ no ok xs i=ok xs[i]:=by
 have:i=0:=aj
 subst this;simp[fQ,c]
def lE{A:Type}(no:A->Int)(ok:A->Bool)(xs:List A){i:Nat}(c:i<xs.length)(h:0<i):fQ no ok xs i=(ok xs[i]&&decide (no xs[i-1]<no xs[i])):=by
 obtain⟨j,rfl⟩:∃j,i=j+1:=⟨i-1,by omega⟩
 have:j<xs.length:=aj
 simp[fQ,c,this]
def mL{A:Type}(no:A->Int)(ok:A->Bool)(xs:List A):Bool:=(range xs.length).all (fQ no ok xs)
def aM{A:Type}{c:A->List D}(xs:List A){i:Nat}(h:i<xs.length):(xs.map c).getD i []=c xs[i]:=by simp[h]
def At(xs:List aD)(hl:xs.length<2^62):Sq 195 [] [.sl 4 (xs.map aD.cells),.fn 196 [],.fn 197 []] [] (.bool (mL aD.a aD.ok xs)):=by
 refine Abs.Spec.yN (n:=38) (np:=3) (rs:=[.tmp 6]) mixed func195 rfl rfl rfl rfl rfl sT sT ?_;refine s0 ?_;refine⟨Nat,λi=>[(6,.bool false),(0,.sl 4 (xs.map aD.cells)),(1,.fn 196 []),(2,.fn 197 []),(9,.sl 4 (xs.map aD.cells)),(10,.I xs.length),(11,.I i)],λi=>[],λi=>i<=xs.length/\∀j,j<i->fQ aD.a aD.ok xs j=true,λi=>xs.length-i,0,?_,?_,?_⟩
 ·simp
 ·exact jh
 ·rintro i ⟨hi,hr⟩;refine s0 ?_;refine bK.split (λh=>?_) (λh=>?_)
  ·have e:i<xs.length:=su h;have bad:fQ aD.a aD.ok xs i=false->mL aD.a aD.ok xs=false:=λk=>by
    simp only[mL,all_eq_false];exact⟨i,mem_range.2 e,by simp[k]⟩
   simp only[go_sem,seval,Int.toNat_natCast,aM xs e,aD.cells];refine⟨by simp[e],?_⟩;have next:fQ aD.a aD.ok xs i=true->∀j,j<i+1->fQ aD.a aD.ok xs j=true:=λk j m=>by
    rcases Nat.lt_succ_iff_lt_or_eq.1 m with h1|rfl
    ·exact hr j h1
    ·exact k
   by_cases l:0<i
   ·have s:IntKind.wrap .i64 ((i:Int)-1)=((i-1:Nat):Int):=by rw[wrap64 aj aj];omega
    have p:i-1<xs.length:=aj
    have g:decide (0<(i:Int))=true:=by simp;omega
    have o:=aM (c:=aD.cells) xs p;have f:=lE aD.a aD.ok xs e l
    repeat'(with_reducible first
     |apply And.intro
     |exact gY.mk (by kernel_rfl)
     |exact B6.mk (by kernel_rfl)
     |refine az.aP (As _) ?_
     |refine az.aP (zu _) ?_
     |refine dh.kB (λh=>?_) (λh=>?_)
     |refine dh.split (λh=>?_) (λh=>?_)
     |refine bK.split (λh=>?_) (λh=>?_)
     |refine gK.id ?_
     |simp only[s,g,o,go_sem,seval, *,Int.toNat_natCast,aD.cells])
    ·simp;omega
    ·exact(bad (by rw[f];simp at h;simp;intro _;omega)).symm
    ·refine⟨i+1,⟨e,next (by rw[f];simp at h;simp[*])⟩,?_,by simp only;omega⟩;refine s0 ?_;rw[wrap64 aj aj];simp
   ·have g:decide (0<(i:Int))=false:=by simp;omega
    have f:=lF aD.a aD.ok xs e l
    repeat'(with_reducible first
     |apply And.intro
     |exact gY.mk (by kernel_rfl)
     |exact B6.mk (by kernel_rfl)
     |refine az.aP (As _) ?_
     |refine az.aP (zu _) ?_
     |refine dh.kB (λh=>?_) (λh=>?_)
     |refine dh.split (λh=>?_) (λh=>?_)
     |refine bK.split (λh=>?_) (λh=>?_)
     |refine gK.id ?_
     |simp only[g,go_sem,seval, *,Int.toNat_natCast,aD.cells])
    ·refine⟨i+1,⟨e,next (by rw[f];simp[*])⟩,?_,by simp only;omega⟩;refine s0 ?_;rw[wrap64 aj aj];simp
  ·refine s0 ?_;have:i=xs.length:=by simp at h;omega
   subst this;symm;simpa[mL]using hr
def aaa(a k:Nat)(hk:k<=64):Bl .u64 (a:Int) (k:Int)=((a/2^k:Nat):Int):=by
 unfold Bl;have c:min (Int.toNat (k:Int)) (IntKind.bits .u64)=k:=by simp[IntKind.bits];omega
 rw[c,Int.fdiv_eq_ediv_of_nonneg _ (by exact_mod_cast Nat.zero_le _)];push_cast;rfl
def rN(a:Nat):Bl .u64 (a:Int) 32=((a/4294967296:Nat):Int):=aaa a 32 aj
def aks(a:Nat):Bl .u64 (a:Int) 16=((a/65536:Nat):Int):=aaa a 16 aj
def ap6(a:Nat):Bl .u64 (a:Int) 8=((a/256:Nat):Int):=aaa a 8 aj
def Zh:ByteArray:=⟨((List.append (α:=UInt8) [0,1,2,2,3,3,3,3,4,4,4,4,4,4,4,4,5,5,5,5,5,5,5,5,5,5,5,5,5,5,5,5,6,6,6,6,6,6,6,6,6,6,6,6,6,6,6,6,6,6,6,6,6,6,6,6,6,6,6,6,6,6,6,6] [7,7,7,7,7,7,7,7,7,7,7,7,7,7,7,7,7,7,7,7,7,7,7,7,7,7,7,7,7,7,7,7,7,7,7,7,7,7,7,7,7,7,7,7,7,7,7,7,7,7,7,7,7,7,7,7,7,7,7,7,7,7,7,7]).append (List.append (α:=UInt8) [8,8,8,8,8,8,8,8,8,8,8,8,8,8,8,8,8,8,8,8,8,8,8,8,8,8,8,8,8,8,8,8,8,8,8,8,8,8,8,8,8,8,8,8,8,8,8,8,8,8,8,8,8,8,8,8,8,8,8,8,8,8,8,8] [8,8,8,8,8,8,8,8,8,8,8,8,8,8,8,8,8,8,8,8,8,8,8,8,8,8,8,8,8,8,8,8,8,8,8,8,8,8,8,8,8,8,8,8,8,8,8,8,8,8,8,8,8,8,8,8,8,8,8,8,8,8,8,8])).toArray⟩
theorem aql:ByteArray.mk (((List.append (α:=UInt8) [0,1,2,2,3,3,3,3,4,4,4,4,4,4,4,4,5,5,5,5,5,5,5,5,5,5,5,5,5,5,5,5,6,6,6,6,6,6,6,6,6,6,6,6,6,6,6,6,6,6,6,6,6,6,6,6,6,6,6,6,6,6,6,6] [7,7,7,7,7,7,7,7,7,7,7,7,7,7,7,7,7,7,7,7,7,7,7,7,7,7,7,7,7,7,7,7,7,7,7,7,7,7,7,7,7,7,7,7,7,7,7,7,7,7,7,7,7,7,7,7,7,7,7,7,7,7,7,7]).append (List.append (α:=UInt8) [8,8,8,8,8,8,8,8,8,8,8,8,8,8,8,8,8,8,8,8,8,8,8,8,8,8,8,8,8,8,8,8,8,8,8,8,8,8,8,8,8,8,8,8,8,8,8,8,8,8,8,8,8,8,8,8,8,8,8,8,8,8,8,8] [8,8,8,8,8,8,8,8,8,8,8,8,8,8,8,8,8,8,8,8,8,8,8,8,8,8,8,8,8,8,8,8,8,8,8,8,8,8,8,8,8,8,8,8,8,8,8,8,8,8,8,8,8,8,8,8,8,8,8,8,8,8,8,8])).toArray)=Zh:=rfl
def L8(x:Nat):Nat:=((Zh[x]?).map (·.toNat)).getD 0
def L16(x:Nat):Nat:=if 256<=x then 8+L8 (x/256)else L8 x
def L32(x:Nat):Nat:=if 65536<=x then 16+L16 (x/65536)else L16 x
def L64(x:Nat):Nat:=if 4294967296<=x then 32+L32 (x/4294967296)else L32 x
theorem ah6:(range 256).all (λx=>decide (x<2^L8 x)&&(x==0||decide (2^L8 x<=2*x))&&decide (L8 x<=8))=true:=cY
def agv(x:Nat)(h:x<256):x<2^L8 x/\(0<x->2^L8 x<=2*x)/\L8 x<=8:=by
 have:=cg.1 ah6 x (mem_range.2 h);simp only[cU,Bool.or_eq_true,bO,fE]at this;refine⟨this.1.1,?_,this.2⟩;intro h0;rcases this.1.2 with h1|h1
 ·omega
 ·exact h1
def aaM(x:Nat)(h:x<65536):x<2^L16 x/\(0<x->2^L16 x<=2*x)/\L16 x<=16:=by
 unfold L16;split
 ·obtain⟨e,c,f⟩:=agv (x/256) aj;have:=c aj;rw[Nat.pow_add];refine⟨by omega,by omega,by omega⟩
 ·obtain⟨e,c,f⟩:=agv x aj;exact⟨e,c,by omega⟩
def aaN(x:Nat)(h:x<4294967296):x<2^L32 x/\(0<x->2^L32 x<=2*x)/\L32 x<=32:=by
 unfold L32;split
 ·obtain⟨e,c,f⟩:=aaM (x/65536) aj;have:=c aj;rw[Nat.pow_add];refine⟨by omega,by omega,by omega⟩
 ·obtain⟨e,c,f⟩:=aaM x aj;exact⟨e,c,by omega⟩
def aaP(x:Nat)(h:x<18446744073709551616):x<2^L64 x/\(0<x->2^L64 x<=2*x)/\L64 x<=64:=by
 unfold L64;split
 ·obtain⟨e,c,f⟩:=aaN (x/4294967296) aj;have:=c aj;rw[Nat.pow_add];refine⟨by omega,by omega,by omega⟩
 ·obtain⟨e,c,f⟩:=aaN x aj;exact⟨e,c,by omega⟩
def u8w{x:Int}(h:0<=x)(h':x<256):IntKind.wrap .u8 x=x:=by rw[IntKind.wrap_u8];omega
def w48:IntKind.wrap .i64 48=48:=by decide
def w56:IntKind.wrap .i64 56=56:=by decide
def w40:IntKind.wrap .i64 40=40:=by decide
def w16:IntKind.wrap .i64 16=16:=by decide
def w24:IntKind.wrap .i64 24=24:=by decide
def w8:IntKind.wrap .i64 8=8:=by decide
def l8D{i:Nat}:(((Zh[i]?).map λx=>(x.toNat:Int)).getD 0)=(L8 i:Int):=by
 unfold L8;cases Zh[i]?<;>simp
theorem anV(i:Nat):L8 i<=255:=by
 unfold L8;cases Zh[i]? with
 |none=>simp
 |some b=>simpa using Nat.le_of_lt_succ b.toNat_lt
def wL{c:Int}(h:0<=c/\c<=100)(i:Nat):IntKind.wrap .i64 (c+IntKind.wrap .i64 (L8 i:Int))=c+L8 i:=by
 have:=anV i;rw[wrap64 (x:=(L8 i:Int)) aj aj,wrap64 aj aj]
theorem Zi:Zh.size=256:=cY
set_option maxRecDepth 20000 in
def ab3(x:Nat)(hx:x<18446744073709551616):Sq 362 [] [.int .u64 x] [] (.I (L64 x)):=by
 refine Abs.Spec.yN (n:=25) (np:=1) (rs:=[.tmp 2]) mixed func362 rfl rfl rfl rfl rfl sT sT ?_;refine s0 ?_
 repeat'(with_reducible first
  |apply And.intro
  |refine bK.split (λh=>?_) (λh=>?_)
  |refine gK.id ?_
  |simp only[*,go_sem,seval,rN,aks,ap6,w48,w56,w40,w16,w24,w8,aql])
 all_goals(simp only[bO,gP]at *)
 all_goals first
  | (rw[Zi,u8w aj aj];omega)
  |skip
 all_goals(rw[u8w aj aj,Int.toNat_natCast,l8D])
 all_goals(simp only[L64,L32,L16])
 all_goals(repeat (rw[au aj]))
 all_goals(repeat (rw[aq aj]))
 all_goals(repeat (rw[au aj]))
 all_goals(repeat (rw[aq aj]))
 all_goals(repeat (rw[au aj]))
 all_goals(rw[wL aj])
 all_goals omega
def ae8(x:Nat)(c:x<18446744073709551616):Sq 345 [] [.int .u64 x] [] (.I ((64-L64 x:Nat):Int)):=by
 refine Abs.Spec.yN (n:=6) (np:=1) (rs:=[.tmp 2]) mixed func345 rfl rfl rfl rfl rfl sT sT ?_;refine sc aK (ab3 x c) ?_;have:=(aaP x c).2.2;rw[wrap64 aj aj];omega
def sO(a:Nat):aeT .u64 (a:Int) 4294967295=((a%4294967296:Nat):Int):=by
 unfold aeT;rw[BitVec.toNat_and,BitVec.toNat_ofInt,BitVec.toNat_ofInt];simp only[IntKind.bits];have h:((4294967295:Int)%((2^64:Nat):Int)).toNat=2^32-1:=aj
 rw[h,Nat.and_two_pow_sub_one_eq_mod,IntKind.wrap_u64];omega
def Xk(a b:Nat):(a:Int).tdiv (b:Int)=((a/b:Nat):Int):=by rw[Int.tdiv_eq_ediv_of_nonneg aj];rfl
def ape(a b:Nat):(a:Int).tmod (b:Int)=((a%b:Nat):Int):=by rw[Int.tmod_eq_emod_of_nonneg aj];rfl
set_option maxRecDepth 20000 in
def zn(x y:Nat)(l:x<18446744073709551616)(m:y<18446744073709551616):Sq 150 [] [.int .u64 x,.int .u64 y] [] (.bD [.int .u64 ((x*y/18446744073709551616:Nat):Int),.int .u64 ((x*y%18446744073709551616:Nat):Int)]):=by
 obtain⟨j,k,bw,c⟩:=Lib.mul64_hi x y l m;have ba:=Lib.half_mul_le (a:=x/4294967296) (b:=y/4294967296) aj aj;have bb:=Lib.half_mul_le (a:=x/4294967296) (b:=y%4294967296) aj aj;have bc:=Lib.half_mul_le (a:=x%4294967296) (b:=y/4294967296) aj aj;have e:x/4294967296*(y/4294967296)<18446744073709551616:=aj
 have f:x/4294967296*(y%4294967296)<18446744073709551616:=aj
 have g:x%4294967296*(y/4294967296)<18446744073709551616:=aj
 have h:x/4294967296*(y/4294967296)+(x/4294967296*(y%4294967296)+x%4294967296*(y%4294967296)/4294967296)/4294967296<18446744073709551616:=aj
 have i:x/4294967296*(y/4294967296)+(x/4294967296*(y%4294967296)+x%4294967296*(y%4294967296)/4294967296)/4294967296+((x/4294967296*(y%4294967296)+x%4294967296*(y%4294967296)/4294967296)%4294967296+x%4294967296*(y/4294967296))/4294967296<18446744073709551616:=aj
 refine Abs.Spec.yN (n:=51) (np:=2) (rs:=[.tmp 4,.tmp 5]) mixed func150 rfl rfl rfl rfl rfl sT sT ?_;simp only[sO,rN,go_sem,seval,Mul64.mulN,Mul64.addN,Mul64.wrapN _ j,Mul64.wrapN _ f,Mul64.wrapN _ k,Mul64.wrapN _ g,Mul64.wrapN _ bw,Mul64.wrapN _ e,Mul64.wrapN _ h,Mul64.wrapN _ i,Mul64.wrapM (x*y),c];exact Mul64.wrapN _ (c ▸ i)
def ZL{s:Nat}(hs:s<=64):2^(64-s)*2^s=18446744073709551616:=by
 rw[<-Nat.pow_add,show 64-s+s=64 by omega]
def auo(c lo y s:Nat)(m:s<=64)(k:c<y)(l:lo<18446744073709551616) :
  lo/2^(64-s)<2^s/\c*2^s+lo/2^(64-s)<y*2^s/\(c*2^s+lo/2^(64-s))*18446744073709551616+lo*2^s%18446744073709551616=(c*18446744073709551616+lo)*2^s:=by
 have e:=ZL m;have f:lo/2^(64-s)<2^s:=by
  rw[Nat.div_lt_iff_lt_mul (Nat.two_pow_pos _),Nat.mul_comm,e];exact l
 refine⟨f,?_,?_⟩
 ·have g:(c+1)*2^s<=y*2^s:=pH _ k;rw[Nat.add_mul,Nat.one_mul]at g;omega
 ·have h:lo*2^s/18446744073709551616=lo/2^(64-s):=by
   rw[<-e,Nat.mul_div_mul_right _ _ (Nat.two_pow_pos s)]
  have i:=Nat.div_add_mod (lo*2^s) 18446744073709551616;rw[h]at i;have j:c*18446744073709551616*2^s=c*2^s*18446744073709551616:=by rw[Nat.mul_assoc,Nat.mul_comm 18446744073709551616,<-Nat.mul_assoc]
  rw[Nat.add_mul,Nat.add_mul,j];omega
structure RV(un d a b q r:Nat):Prop where
 sum:q*a+r=un
 small:r<4294967296
 top:q<=4294967297
 least:(un*4294967296+d)/(a*4294967296+b)<=q
section
variable{un d a b q r:Nat}
def qv(q a b:Nat):q*(a*4294967296+b)=q*a*4294967296+q*b:=by rw[Nat.mul_add,Nat.mul_assoc]
def RV.start(ha:2147483648<=a)(ha':a<4294967296)(hb:b<4294967296)(hd:d<4294967296)(hu:un<a*4294967296+b):RV un d a b (un/a) (un%a):=by
 have c:=Nat.div_add_mod un a;have hl:=Nat.mod_lt un (show 0<a by omega);have e:un/a<=4294967297:=by
  apply Nat.le_of_lt_succ;rw[Nat.div_lt_iff_lt_mul aj];omega
 refine⟨by rw[Nat.mul_comm];exact c,by omega,e,?_⟩;apply Nat.le_of_lt_succ;rw[Nat.div_lt_iff_lt_mul aj,Nat.succ_eq_add_one,qv,Nat.add_mul,Nat.one_mul];have:un/a*a=a*(un/a):=Nat.mul_comm _ _;omega
def RV.stop(h:RV un d a b q r)(hv:0<a)(h1:q*b<=4294967296*r+d):q=(un*4294967296+d)/(a*4294967296+b):=by
 refine Nat.le_antisymm ?_ h.least;rw[Nat.le_div_iff_mul_le aj,qv];have:=h.sum;omega
def RV.step(h:RV un d a b q r)(hu:un<a*4294967296+b)(hd:d<4294967296)(c:4294967296<=q\/4294967296*r+d<q*b) :
  0<q/\(q-1)*a+(r+a)=un/\q-1<=4294967296/\(un*4294967296+d)/(a*4294967296+b)<=q-1:=by
 have g:0<q:=by
  rcases c with c|c
  ·omega
  ·rcases Nat.eq_zero_or_pos q with e|e
   ·subst e;omega
   ·exact e
 obtain⟨p,rfl⟩:∃p,q=p+1:=⟨q-1,by omega⟩
 have i:=h.sum;rw[Nat.add_mul,Nat.one_mul]at i;have ht:=h.top;refine⟨g,by simp only[Nat.add_sub_cancel];omega,by omega,?_⟩;simp only[Nat.add_sub_cancel];apply Nat.le_of_lt_succ;rw[Nat.div_lt_iff_lt_mul aj,Nat.succ_eq_add_one,qv];have f:(p+1)*a=p*a+a:=by rw[Nat.add_mul,Nat.one_mul]
 have e2:(p+1)*b=p*b+b:=by rw[Nat.add_mul,Nat.one_mul]
 rw[f];rcases c with c|c
 ·have:4294967296*b<=(p+1)*b:=pH _ c;have h2:4294967296*a<=(p+1)*a:=pH _ c;omega
 ·have:=h.small;omega
def RV.brk(hsum:q*a+r=un)(e:q<=4294967296)(c:(un*4294967296+d)/(a*4294967296+b)<=q)(hb:b<4294967296)(hv:0<a)(hr:4294967296<=r):q=(un*4294967296+d)/(a*4294967296+b):=by
 refine Nat.le_antisymm ?_ c;rw[Nat.le_div_iff_mul_le aj,qv];have h1:q*b<=4294967296*4294967296:=Nat.mul_le_mul e aj;omega
end
def two(N un W v:Nat)(hN:un*18446744073709551616+W=N)(hW:W<18446744073709551616)(e:0<v)(hu:un<v) :
  N/v=(un*4294967296+W/4294967296)/v*4294967296+((un*4294967296+W/4294967296)%v*4294967296+W%4294967296)/v /\
  N%v=((un*4294967296+W/4294967296)%v*4294967296+W%4294967296)%v:=by
 have e1:=Nat.div_add_mod (un*4294967296+W/4294967296) v;have c:N=((un*4294967296+W/4294967296)%v*4294967296+W%4294967296)+v*((un*4294967296+W/4294967296)/v*4294967296):=by
  rw[<-Nat.mul_assoc];omega
 constructor
 ·rw[c,Nat.add_mul_div_left _ _ e,Nat.add_comm]
 ·rw[c,Nat.add_mul_mod_self_left]
def aqt{a:Int}:∃u:Nat,IntKind.wrap .u64 a=(u:Int)/\u<18446744073709551616/\(u:Int)=a%18446744073709551616:=by
 refine⟨(a%18446744073709551616).toNat,?_,?_,?_⟩
 ·rw[IntKind.wrap_u64];omega
 ·omega
 ·omega
def hi1(x:Nat)(P:Int)(h:(x:Int)=P)(hP:-85070591730234615865843651857942052864<=P/\P<=85070591730234615865843651857942052864):IntKind.wrap .i64 ((x/18446744073709551616:Nat):Int)=P/18446744073709551616/\((x%18446744073709551616:Nat):Int)=P%18446744073709551616:=by
 rw[IntKind.wrap_i64];omega
def hi2(x:Nat)(P b:Int)(h:(x:Int)=P+18446744073709551616*b)(hP:-85070591730234615865843651857942052864<=P/\P<=85070591730234615865843651857942052864):IntKind.wrap .i64 (IntKind.wrap .u64 (((x/18446744073709551616:Nat):Int)-b%18446744073709551616))=P/18446744073709551616/\((x%18446744073709551616:Nat):Int)=P%18446744073709551616:=by
 rw[IntKind.wrap_i64,IntKind.wrap_u64];omega
def hi3(x:Nat)(P a b:Int)(h:(x:Int)=P+18446744073709551616*a+18446744073709551616*b+18446744073709551616*18446744073709551616)(hP:-85070591730234615865843651857942052864<=P/\P<=85070591730234615865843651857942052864) :
  IntKind.wrap .i64 (IntKind.wrap .u64 (IntKind.wrap .u64 (((x/18446744073709551616:Nat):Int)-b%18446744073709551616)-a%18446744073709551616))=P/18446744073709551616/\((x%18446744073709551616:Nat):Int)=P%18446744073709551616:=by
 rw[IntKind.wrap_i64,IntKind.wrap_u64,IntKind.wrap_u64];omega
def ahy(a b:Int)(ha:-9223372036854775808<=a/\a<=9223372036854775807)(hb:-9223372036854775808<=b/\b<=9223372036854775807):-85070591730234615865843651857942052864<=a*b/\a*b<=85070591730234615865843651857942052864:=by
 have h1:(a*b).natAbs<=9223372036854775808*9223372036854775808:=by
  rw[Int.natAbs_mul];exact Nat.mul_le_mul aj aj
 omega
section
variable{a b:Int}{u w:Nat}
def ahx(hu:(u:Int)=a%18446744073709551616)(hw:(w:Int)=b%18446744073709551616)(ha:-9223372036854775808<=a/\a<=9223372036854775807)(hb:-9223372036854775808<=b/\b<=9223372036854775807)(h1:a<0)(h2:b<0) :
  ((u*w:Nat):Int)=a*b+18446744073709551616*a+18446744073709551616*b+18446744073709551616*18446744073709551616:=by
 have c:(u:Int)=a+18446744073709551616:=aj
 have e2:(w:Int)=b+18446744073709551616:=aj
 rw[Int.natCast_mul,c,e2,Int.add_mul,Int.mul_add,Int.mul_add,Int.mul_comm a 18446744073709551616,Int.add_assoc,Int.add_assoc,Int.add_assoc]
def ahw(hu:(u:Int)=a%18446744073709551616)(hw:(w:Int)=b%18446744073709551616)(ha:-9223372036854775808<=a/\a<=9223372036854775807)(hb:-9223372036854775808<=b/\b<=9223372036854775807)(h1:a<0)(h2:¬b<0) :
  ((u*w:Nat):Int)=a*b+18446744073709551616*b:=by
 have c:(u:Int)=a+18446744073709551616:=aj
 have e2:(w:Int)=b:=aj
 rw[Int.natCast_mul,c,e2,Int.add_mul]
def acP(hu:(u:Int)=a%18446744073709551616)(hw:(w:Int)=b%18446744073709551616)(ha:-9223372036854775808<=a/\a<=9223372036854775807)(hb:-9223372036854775808<=b/\b<=9223372036854775807)(h1:¬a<0)(h2:b<0) :
  ((u*w:Nat):Int)=a*b+18446744073709551616*a:=by
 have c:(u:Int)=a:=aj
 have e2:(w:Int)=b+18446744073709551616:=aj
 rw[Int.natCast_mul,c,e2,Int.mul_add,Int.mul_comm a 18446744073709551616]
def ahv(hu:(u:Int)=a%18446744073709551616)(hw:(w:Int)=b%18446744073709551616)(ha:-9223372036854775808<=a/\a<=9223372036854775807)(hb:-9223372036854775808<=b/\b<=9223372036854775807)(h1:¬a<0)(h2:¬b<0) :
  ((u*w:Nat):Int)=a*b:=by
 have c:(u:Int)=a:=aj
 have e2:(w:Int)=b:=aj
 rw[Int.natCast_mul,c,e2]
end
def oG(a b:Int)(f:-9223372036854775808<=a/\a<=9223372036854775807)(g:-9223372036854775808<=b/\b<=9223372036854775807):Sq 124 [] [.I a,.I b] [] (.agg [.I (a*b/18446744073709551616),.int .u64 (a*b%18446744073709551616)]):=by
 obtain⟨u,l,j,c⟩:=aqt (a:=a);obtain⟨w,m,k,e⟩:=aqt (a:=b);refine Abs.Spec.yN (n:=31) (np:=2) (rs:=[.cell 4 135]) mixed func124 rfl rfl rfl rfl rfl sT sT ?_;refine sm (a2 l m) ?_
 repeat'(with_reducible first
  |apply And.intro
  |exact gY.mk (by kernel_rfl)
  |exact B6.mk (by kernel_rfl)
  |refine az.aP (zn _ _ j k) ?_
  |refine bK.split (λh=>?_) (λh=>?_)
  |refine gK.id ?_
  |simp only[*,go_sem,seval])
 all_goals(simp only[bO,gP]at *)
 all_goals(have i:=ahy a b f g)
 all_goals(clear l m)
 all_goals first
  |exact(hi3 _ _ _ _ (ahx c e f g ‹_› ‹_›) i).1
  |exact(hi3 _ _ _ _ (ahx c e f g ‹_› ‹_›) i).2
  |exact(hi2 _ _ _ (ahw c e f g ‹_› ‹_›) i).1
  |exact(hi2 _ _ _ (ahw c e f g ‹_› ‹_›) i).2
  |exact(hi2 _ _ _ (acP c e f g ‹_› ‹_›) i).1
  |exact(hi2 _ _ _ (acP c e f g ‹_› ‹_›) i).2
  |exact(hi1 _ _ (ahv c e f g ‹_› ‹_›) i).1
  |exact(hi1 _ _ (ahv c e f g ‹_› ‹_›) i).2
def auj(x:Nat)(h:x<18446744073709551616):aeY .u64 (x:Int)=((18446744073709551615-x:Nat):Int):=by
 unfold aeY;have c:BitVec.ofInt 64 (if IntKind.signed .u64 then -1 else IntKind.max .u64)=BitVec.allOnes 64:=by decide
 show IntKind.wrap .u64 (((BitVec.ofInt 64 (if IntKind.signed .u64 then -1 else IntKind.max .u64) ^^^ BitVec.ofInt 64 (x:Int)).toNat:Nat):Int)=_;rw[c,BitVec.allOnes_xor,BitVec.toNat_not,BitVec.toNat_ofInt,IntKind.wrap_u64];omega
def Le(P n:Int):Int:=if n<=0 then 0 else if bA (P/n)then P/n else 0
def Ld(P n:Int):Int:=if n<=0 then 2 else if bA (P/n)then 0 else 1
def sX(x:Int):right [x]=bA x:=by simp[right]
def aD.P(x:aD)(u:Int):Int:=u*(10000-x.d)*x.c
def aD.fit(x:aD)(u:Int):Bool:=x.ok&&decide (0<=u)&&decide (u<=1099511627776)
def aD.V(x:aD)(u:Int):Int:=if x.fit u then Le (x.P u) 10000 else 0
def aD.E(x:aD)(u:Int):Int:=if x.fit u then Ld (x.P u) 10000 else 3
def aD.acq(x:aD):x.ok=true↔(1<=x.a/\x.a<=6)/\(0<=x.b/\x.b<=2)/\(1<=x.c/\x.c<=1073741824)/\(0<=x.d/\x.d<=10000):=by
 simp[aD.ok,within,and_assoc]
theorem Qd(w a n:Int):∀ps:List iu,(NW w a n ps).length<=ps.length+1
 | []=>by simp only[NW];split<;>simp
 |p::r=>by
  have:=Qd w a n r;simp only[NW];split
  ·simp;exact this
  ·split<;>split<;>simp<;>omega
def YE{ps:List iu}{w a u:Int}(h:iy ps w a u=0):Good ps/\jH w a=true /\ -1099511627776<=u/\u<=1099511627776/\0<=eT w a ps+u/\eT w a ps+u<=1099511627776:=by
 unfold iy at h;split at h
 ·cases h
 ·rename_i e;have f:=lN.1 (su e);split at h
  ·cases h
  ·rename_i c;simp only[Bool.not_eq_false,cU,bO]at c;split at h
   ·cases h
   ·split at h
    ·cases h
    ·refine⟨f,c.1.1,c.1.2,c.2,by omega,by omega⟩
structure av where
 no:Int
 state:Int
 need:Int
@[reducible] def av.cells(x:av):List D:=[.I x.no,.I x.state,.I x.need]
def av.ok(x:av):Bool:=within x.no 1 16&&within x.state 1 3&&bA x.need&&decide (0<=x.need)
def tF(x:av):Sq 180 [] [.agg x.cells] [] (.I x.no):=by
 refine aX 5 1 [.tmp 2] mixed func180 ?_;simp only[av.cells];exact iB
def yH(x:av):Sq 191 [] [.agg x.cells] [] (.bool x.ok):=by
 have i:=iM x.no 1 16;have j:=iM x.state 1 3;have h:=eH [x.need] sT;rw[sX]at h;simp only[av.cells];refine aX 22 1 [.tmp 2] mixed func191 ?_;refine sc aK i ?_;cases c:within x.no 1 16
 ·have e:x.ok=false:=by simp[av.ok,c]
  exact eo e
 refine sc aK j ?_;cases f:within x.state 1 3
 ·have e:x.ok=false:=by simp[av.ok,f]
  exact eo e
 refine sl aK h ?_;cases g:bA x.need
 ·have e:x.ok=false:=by simp[av.ok,g]
  exact eo e
 have e:x.ok=decide (0<=x.need):=by simp[av.ok,c,f,g]
 exact eo e
structure aF where
 no:Int
 cur:Int
 mult:Int
 add:Int
 set:Int
 aS:Int
 s0:Int
 s1:Int
 s2:Int
 s3:Int
 s4:Int
 s5:Int
@[reducible] def aF.cells(x:aF):List D:=[.I x.no,.I x.cur,.I x.mult,.I x.add,.I x.set,.I x.aS,.I x.s0,.I x.s1,.I x.s2,.I x.s3,.I x.s4,.I x.s5]
def aF.sh(x:aF):Nat->Int
 | 0=>x.s0| 1=>x.s1| 2=>x.s2| 3=>x.s3| 4=>x.s4| _=>x.s5
def aF.RR(x:aF):Bool:=(range 6).all λi=>within (x.sh i) (-1073741824) 1073741824
def aF.ok(x:aF):Bool:=x.RR&&within x.no 1 8&&within x.cur 0 2&&within x.mult 1 1024&&within x.add 0 1073741824&&within x.set 0 1073741824&&within x.aS 0 1073741824
def Bz(x:aF):Sq 193 [] [.agg x.cells] [] (.I x.no):=by
 refine aX 5 1 [.tmp 2] mixed func193 ?_;simp only[aF.cells];exact iB
def BR(x:aF):Sq 194 [] [.agg x.cells] [] (.bool x.ok):=by
 have p:=iM x.no 1 8;have s:=iM x.cur 0 2;have t:=iM x.mult 1 1024;have v:=iM x.add 0 1073741824;have y:=iM x.set 0 1073741824;have z:=iM x.aS 0 1073741824;simp only[aF.cells];refine aX 42 1 [.tmp 2] mixed func194 ?_;refine s0 ?_;refine aG.count 6 [1,6] [32] (λi=>[(7,.I i)]) (λi=>[]) (λi=>∀j<i,within (x.sh j) (-1073741824) 1073741824=true) sT ?_ ?_
 ·exact iB
 ·intro i hi f;refine s0 ?_;refine bK.fP (λh=>?_) (λh=>?_)
  ·have c:i<6:=aj
   have k:(drop (i*1) [D.I x.s0,D.I x.s1,D.I x.s2,D.I x.s3,D.I x.s4,D.I x.s5]).headD .undef=.I (x.sh i):=by
    rcases i with _| _| _| _| _| _|i<;>first|rfl|omega
   have C:IntKind.wrap .i64 ((i:Int)+1)=((i+1:Nat):Int):=fU;have B:=iM (x.sh i) (-1073741824) 1073741824;refine sm k ?_;refine⟨by omega,az.aP B ?_⟩;cases g:within (x.sh i) (-1073741824) 1073741824
   ·have o:x.RR=false:=by
     cases l:x.RR
     ·rfl
     ·rw[aF.RR,cg]at l;rw[l i (mem_range.2 c)]at g;cases g
    have e2:x.ok=false:=by simp[aF.ok,o]
    exact eo e2
   ·refine sm C ?_;refine ah.eI c ?_ ?_
    ·intro j m;rcases dN j i with h|h
     ·exact f j h
     ·obtain rfl:j=i:=aj
      exact g
    ·exact iB
  ·obtain rfl:i=6:=aj
   have n:x.RR=true:=cg.2 λj m=>f j (mem_range.1 m);have e:x.ok=(within x.no 1 8&&within x.cur 0 2&&within x.mult 1 1024&&within x.add 0 1073741824&&within x.set 0 1073741824&&within x.aS 0 1073741824):=by simp[aF.ok,n]
   rw[e];clear f e n;repeat' with_reducible first|apply And.intro|exact .dq|refine az.aP (by assumption) ?_|refine az.aP (p) ?_|refine az.aP (s) ?_|refine az.aP (t) ?_|refine az.aP (v) ?_|refine az.aP (y) ?_|refine az.aP (z) ?_|refine mW (λh=>?_) λh=>?_|refine .id ?_|refine ah.eI aj ?_ ?_|exact aK|simp only[*,go_sem,seval]
   all_goals(simp_all;done)
def GU(xs:List av)(hl:xs.length<2^62):Sq 190 [] [.sl 3 (xs.map av.cells),.fn 180 [],.fn 191 []] [] (.bool (mL av.no av.ok xs)):=by
 refine Abs.Spec.yN (n:=38) (np:=3) (rs:=[.tmp 6]) mixed func190 rfl rfl rfl rfl rfl sT sT ?_;refine s0 ?_;refine⟨Nat,λi=>[(6,.bool false),(0,.sl 3 (xs.map av.cells)),(1,.fn 180 []),(2,.fn 191 []),(9,.sl 3 (xs.map av.cells)),(10,.I xs.length),(11,.I i)],λi=>[],λi=>i<=xs.length/\∀j,j<i->fQ av.no av.ok xs j=true,λi=>xs.length-i,0,?_,?_,?_⟩
 ·simp
 ·exact jh
 ·rintro i ⟨hi,hr⟩;refine s0 ?_;refine bK.split (λh=>?_) (λh=>?_)
  ·have e:i<xs.length:=su h;have bad:fQ av.no av.ok xs i=false->mL av.no av.ok xs=false:=λk=>by
    simp only[mL,all_eq_false];exact⟨i,mem_range.2 e,by simp[k]⟩
   simp only[go_sem,seval,Int.toNat_natCast,aM xs e,av.cells];refine⟨by simp[e],?_⟩;have next:fQ av.no av.ok xs i=true->∀j,j<i+1->fQ av.no av.ok xs j=true:=λk j m=>by
    rcases Nat.lt_succ_iff_lt_or_eq.1 m with h1|rfl
    ·exact hr j h1
    ·exact k
   by_cases l:0<i
   ·have s:IntKind.wrap .i64 ((i:Int)-1)=((i-1:Nat):Int):=by rw[wrap64 aj aj];omega
    have p:i-1<xs.length:=aj
    have g:decide (0<(i:Int))=true:=by simp;omega
    have o:=aM (c:=av.cells) xs p;have f:=lE av.no av.ok xs e l
    repeat'(with_reducible first
     |apply And.intro
     |exact gY.mk (by kernel_rfl)
     |exact B6.mk (by kernel_rfl)
     |refine az.aP (yH _) ?_
     |refine az.aP (tF _) ?_
     |refine dh.kB (λh=>?_) (λh=>?_)
     |refine dh.split (λh=>?_) (λh=>?_)
     |refine bK.split (λh=>?_) (λh=>?_)
     |refine gK.id ?_
     |simp only[s,g,o,go_sem,seval, *,Int.toNat_natCast,av.cells])
    ·simp;omega
    ·exact(bad (by rw[f];simp at h;simp;intro _;omega)).symm
    ·refine⟨i+1,⟨e,next (by rw[f];simp at h;simp[*])⟩,?_,by simp only;omega⟩;refine s0 ?_;rw[wrap64 aj aj];simp
   ·have g:decide (0<(i:Int))=false:=by simp;omega
    have f:=lF av.no av.ok xs e l
    repeat'(with_reducible first
     |apply And.intro
     |exact gY.mk (by kernel_rfl)
     |exact B6.mk (by kernel_rfl)
     |refine az.aP (yH _) ?_
     |refine az.aP (tF _) ?_
     |refine dh.kB (λh=>?_) (λh=>?_)
     |refine dh.split (λh=>?_) (λh=>?_)
     |refine bK.split (λh=>?_) (λh=>?_)
     |refine gK.id ?_
     |simp only[g,go_sem,seval, *,Int.toNat_natCast,av.cells])
    ·refine⟨i+1,⟨e,next (by rw[f];simp[*])⟩,?_,by simp only;omega⟩;refine s0 ?_;rw[wrap64 aj aj];simp
  ·refine s0 ?_;have:i=xs.length:=by simp at h;omega
   subst this;symm;simpa[mL]using hr
def LC(xs:List aF)(hl:xs.length<2^62):Sq 192 [] [.sl 12 (xs.map aF.cells),.fn 193 [],.fn 194 []] [] (.bool (mL aF.no aF.ok xs)):=by
 refine Abs.Spec.yN (n:=38) (np:=3) (rs:=[.tmp 6]) mixed func192 rfl rfl rfl rfl rfl sT sT ?_;refine s0 ?_;refine⟨Nat,λi=>[(6,.bool false),(0,.sl 12 (xs.map aF.cells)),(1,.fn 193 []),(2,.fn 194 []),(9,.sl 12 (xs.map aF.cells)),(10,.I xs.length),(11,.I i)],λi=>[],λi=>i<=xs.length/\∀j,j<i->fQ aF.no aF.ok xs j=true,λi=>xs.length-i,0,?_,?_,?_⟩
 ·simp
 ·exact jh
 ·rintro i ⟨hi,hr⟩;refine s0 ?_;refine bK.split (λh=>?_) (λh=>?_)
  ·have e:i<xs.length:=su h;have bad:fQ aF.no aF.ok xs i=false->mL aF.no aF.ok xs=false:=λk=>by
    simp only[mL,all_eq_false];exact⟨i,mem_range.2 e,by simp[k]⟩
   simp only[go_sem,seval,Int.toNat_natCast,aM xs e,aF.cells];refine⟨by simp[e],?_⟩;have next:fQ aF.no aF.ok xs i=true->∀j,j<i+1->fQ aF.no aF.ok xs j=true:=λk j m=>by
    rcases Nat.lt_succ_iff_lt_or_eq.1 m with h1|rfl
    ·exact hr j h1
    ·exact k
   by_cases l:0<i
   ·have s:IntKind.wrap .i64 ((i:Int)-1)=((i-1:Nat):Int):=by rw[wrap64 aj aj];omega
    have p:i-1<xs.length:=aj
    have g:decide (0<(i:Int))=true:=by simp;omega
    have o:=aM (c:=aF.cells) xs p;have f:=lE aF.no aF.ok xs e l
    repeat'(with_reducible first
     |apply And.intro
     |exact gY.mk (by kernel_rfl)
     |exact B6.mk (by kernel_rfl)
     |refine az.aP (BR _) ?_
     |refine az.aP (Bz _) ?_
     |refine dh.kB (λh=>?_) (λh=>?_)
     |refine dh.split (λh=>?_) (λh=>?_)
     |refine bK.split (λh=>?_) (λh=>?_)
     |refine gK.id ?_
     |simp only[s,g,o,go_sem,seval, *,Int.toNat_natCast,aF.cells])
    ·simp;omega
    ·exact(bad (by rw[f];simp at h;simp;intro _;omega)).symm
    ·refine⟨i+1,⟨e,next (by rw[f];simp at h;simp[*])⟩,?_,by simp only;omega⟩;refine s0 ?_;rw[wrap64 aj aj];simp
   ·have g:decide (0<(i:Int))=false:=by simp;omega
    have f:=lF aF.no aF.ok xs e l
    repeat'(with_reducible first
     |apply And.intro
     |exact gY.mk (by kernel_rfl)
     |exact B6.mk (by kernel_rfl)
     |refine az.aP (BR _) ?_
     |refine az.aP (Bz _) ?_
     |refine dh.kB (λh=>?_) (λh=>?_)
     |refine dh.split (λh=>?_) (λh=>?_)
     |refine bK.split (λh=>?_) (λh=>?_)
     |refine gK.id ?_
     |simp only[g,go_sem,seval, *,Int.toNat_natCast,aF.cells])
    ·refine⟨i+1,⟨e,next (by rw[f];simp[*])⟩,?_,by simp only;omega⟩;refine s0 ?_;rw[wrap64 aj aj];simp
  ·refine s0 ?_;have:i=xs.length:=by simp at h;omega
   subst this;symm;simpa[mL]using hr
structure ay where
 ms:List av
 ns:List aF
 xs:List aD
def ay.cells(r:ay):List D:=[.sl 3 (r.ms.map av.cells),.sl 12 (r.ns.map aF.cells),.sl 4 (r.xs.map aD.cells)]
def ay.okB(r:ay):Bool:=mL av.no av.ok r.ms&&mL aF.no aF.ok r.ns&&mL aD.a aD.ok r.xs
def ay.small(r:ay):Prop:=r.ms.length<2^60/\r.ns.length<2^60/\r.xs.length<2^60
def kr(r:ay)(k:r.small):Sq 93 [] [.agg r.cells] [] (.I (if r.okB then 0 else 14)):=by
 obtain⟨l1,l2,l3⟩:=k;have h:=GU r.ms aj;have i:=LC r.ns aj;have j:=At r.xs aj;simp only[ay.cells];refine aX 19 1 [.tmp 2] mixed func93 ?_;refine sc aK h ?_;cases c:mL av.no av.ok r.ms
 ·have e:r.okB=false:=by simp[ay.okB,c]
  exact gH e
 refine sc aK i ?_;cases f:mL aF.no aF.ok r.ns
 ·have e:r.okB=false:=by simp[ay.okB,f]
  exact gH e
 refine sc aK j ?_;cases g:mL aD.a aD.ok r.xs
 ·have e:r.okB=false:=by simp[ay.okB,g]
  exact gH e
 have e:r.okB=true:=by simp[ay.okB,c,f,g]
 exact eo e
def jS{A:Type}(no:A->Int)(n:Int)(z:A):List A->A
 | []=>z
 |x::r=>if no x=n then x else jS no n z r
def lT{A:Type}(no:A->Int)(n:Int):List A->Int
 | []=>-1
 |x::r=>if no x=n then 0 else if lT no n r<0 then -1 else lT no n r+1
theorem nj{A:Type}{no:A->Int}{n:Int}{z:A}:∀{xs:List A} {i:Nat} (h:i<xs.length),(∀j (e:j<xs.length),j<i->no xs[j]≠n)->no xs[i]=n->jS no n z xs=xs[i]/\lT no n xs=i
 | [],i,h,_,_=>by simp at h
 |x::r,0,h,_,c=>by
  have c:no x=n:=c;simp[jS,lT,c]
 |x::r,i+1,h,hn,c=>by
  have f:no x≠n:=hn 0 sT aj;obtain⟨g,k⟩:=nj (z:=z) (xs:=r) (i:=i) (su h) (λj e hji=>hn (j+1) (su e) aj) c;simp only[jS,lT,aq f,k];refine⟨g,?_⟩;rw[aq aj];omega
theorem kY{A:Type}{no:A->Int}{n:Int}{z:A}:∀{xs:List A},(∀j (c:j<xs.length),no xs[j]≠n)->jS no n z xs=z/\lT no n xs = -1
 | [],_=>by simp[jS,lT]
 |x::r,hn=>by
  have e:no x≠n:=hn 0 sT;obtain⟨f,g⟩:=kY (z:=z) (xs:=r) (λj c=>hn (j+1) (su c));simp only[jS,lT,aq e,g];exact⟨f,by simp⟩
def JW(xs:List aD)(n:Int)(hl:xs.length<2^62):Sq 275 [] [.sl 4 (xs.map aD.cells),.fn 196 [],.I n] [] (.bD [.agg (jS aD.a n ⟨0,0,0,0⟩ xs).cells,.I (lT aD.a n xs)]):=by
 refine aX 27 3 [.cell 6 156,.tmp 7] mixed func275 ?_;refine s0 ?_;refine aG.count xs.length [1,2,6,11,12] [112,208] (λi=>[(13,.I i)]) (λi=>[]) (λi=>∀j (g:j<xs.length),j<i->xs[j].a≠n) sT ?_ ?_
 ·exact jh
 ·intro i hi o;refine s0 ?_;refine bK.fP (λh=>?_) (λh=>?_)
  ·have f:i<xs.length:=aj
   have s:IntKind.wrap .i64 ((i:Int)+1)=((i+1:Nat):Int):=fU;have p:=aM (c:=aD.cells) xs f;have k:=zu xs[i];simp only[aD.cells]at p k |-;refine sm p ?_;refine⟨by omega,az.aP k ?_⟩;refine s0 ?_;refine bK.split (λe=>?_) (λe=>?_)
   ·have e:xs[i].a=n:=su e;obtain⟨l,m⟩:=nj (z:=(⟨0,0,0,0⟩:aD)) f o e;rw[l,m];exact iB
   ·have e:xs[i].a≠n:=su e;refine sm s ?_;refine ah.eI f ?_ ?_
    ·intro j g hji;rcases dN j i with h|h
     ·exact o j g h
     ·obtain rfl:j=i:=aj
      exact e
    ·exact iB
  ·obtain rfl:i=xs.length:=aj
   obtain⟨l,m⟩:=kY (z:=(⟨0,0,0,0⟩:aD)) (λj g=>o j g g);rw[l,m];simp only[go_sem,seval,aD.cells]
structure aI where
 kind:Int
 who:Int
 cur:Int
@[reducible] def aI.cells(x:aI):List D:=[.I x.kind,.I x.who,.I x.cur]
def owned(k:Int):Bool:=k==2||k==3
def Wd(k:Int):Sq 255 [] [.I k] [] (.bool (owned k)):=by
 refine aX 9 1 [.tmp 2] mixed func255 ?_;refine s0 ?_
 repeat'(with_reducible first
  |apply And.intro
  |exact gY.mk (by kernel_rfl)
  |exact B6.mk (by kernel_rfl)
  |refine dh.kB (λh=>?_) (λh=>?_)
  |refine dh.split (λh=>?_) (λh=>?_)
  |refine bK.split (λh=>?_) (λh=>?_)
  |refine gK.id ?_
  |simp only[*,go_sem,seval])
 all_goals simp[owned, *]
def aI.right(x:aI):Bool:=if x.kind<1\/6<x.kind\/x.cur<0\/3<=x.cur then false else if owned x.kind then decide (1<=x.who)&&decide (x.who<=16)else x.who==0
def qU(x:aI):Sq 134 [] [.agg x.cells] [] (.bool x.right):=by
 refine aX 37 1 [.tmp 2] mixed func134 ?_;simp only[aI.cells];refine s0 ?_
 repeat'(with_reducible first
  |apply And.intro
  |exact gY.mk (by kernel_rfl)
  |exact B6.mk (by kernel_rfl)
  |refine az.aP (Wd _) ?_
  |refine dh.kB (λh=>?_) (λh=>?_)
  |refine dh.split (λh=>?_) (λh=>?_)
  |refine bK.split (λh=>?_) (λh=>?_)
  |refine gK.id ?_
  |simp only[*,go_sem,seval])
 all_goals(simp only[bO,gP]at *)
 all_goals(unfold aI.right;simp[*])
def aI.floor(x:aI):Int:=if x.right&&(x.kind==3||x.kind==4)then 0 else -4611686018427387904
def AF(x:aI):Sq 147 [] [.agg x.cells] [] (.I x.floor):=by
 have hr:=qU x;simp only[aI.cells]at hr;refine aX 15 1 [.tmp 2] mixed func147 ?_;simp only[aI.cells];refine s0 ?_
 repeat'(with_reducible first
  |apply And.intro
  |exact gY.mk (by kernel_rfl)
  |exact B6.mk (by kernel_rfl)
  |refine az.aP hr ?_
  |refine dh.kB (λh=>?_) (λh=>?_)
  |refine dh.split (λh=>?_) (λh=>?_)
  |refine bK.split (λh=>?_) (λh=>?_)
  |refine gK.id ?_
  |simp only[*,go_sem,seval])
 all_goals(unfold aI.floor;simp[*])
def aI.less(x y:aI):Bool:=if x.kind≠y.kind then decide (x.kind<y.kind)else if x.who≠y.who then decide (x.who<y.who)else decide (x.cur<y.cur)
def wV(x y:aI):Sq 202 [] [.agg x.cells,.agg y.cells] [] (.bool (x.less y)):=by
 refine aX 32 2 [.tmp 4] mixed func202 ?_;simp only[aI.cells];refine s0 ?_
 repeat'(with_reducible first
  |apply And.intro
  |exact gY.mk (by kernel_rfl)
  |exact B6.mk (by kernel_rfl)
  |exact aK
  |refine dh.kB (λh=>?_) (λh=>?_)
  |refine dh.split (λh=>?_) (λh=>?_)
  |refine bK.split (λh=>?_) (λh=>?_)
  |refine gK.id ?_
  |simp only[*,go_sem,seval])
 all_goals(unfold aI.less;simp_all)
def aI.lt(x y:aI):Prop:=x.kind<y.kind\/x.kind=y.kind/\(x.who<y.who\/x.who=y.who/\x.cur<y.cur)
def QG(x y:aI):x.less y=true↔x.lt y:=by
 unfold aI.less aI.lt;split
 ·simp only[bO];omega
 ·split
  ·simp only[bO];omega
  ·simp only[bO];omega
def ab4(x y:aI):x.less y=false↔¬x.lt y:=by rw[<-QG];simp
def aeM(x:aI):(x.floor==0)=(x.right&&(x.kind==3||x.kind==4)):=by
 unfold aI.floor;split
 ·rename_i h;simp[h]
 ·rename_i h;simp at h;cases hr:x.right<;>simp[hr]at h |-;exact h
def aC:List Int->Int
 | []=>0
 |x::r=>x+aC r
theorem rO(a:List Int)(x:Int):aC (a++[x])=aC a+x:=by
 induction a with
 |nil=>simp[aC]
 |cons y r ih=>simp only[cons_append,aC,ih];omega
theorem D2:∀{l:List Int},right l=true -> -4611686018427387904*l.length<=aC l/\aC l<=4611686018427387904*l.length
 | [],_=>by simp[aC]
 |x::r,h=>by
  simp only[right,all_cons,cU]at h;have h2:=D2 (l:=r) h.2;have h1:-4611686018427387904<=x/\x<=4611686018427387904:=by simpa[bA]using h.1
  simp only[aC,length_cons];push_cast;omega
def PV(S n:Int):(S%18446744073709551616+n%18446744073709551616+0)%18446744073709551616=(S+n)%18446744073709551616:=aj
def aik(S n:Int)(h:-4611686018427387904<=n/\n<=4611686018427387904)(s:Int)(c:s=if 0<=n then 0 else 18446744073709551615) :
  ((S/18446744073709551616)%18446744073709551616+s+(S%18446744073709551616+n%18446744073709551616+0)/18446744073709551616)%18446744073709551616=((S+n)/18446744073709551616)%18446744073709551616:=by
 subst c;split<;>omega
def X5(n:Int)(h:-9223372036854775808<=n/\n<=9223372036854775807):IntKind.wrap .u64 (Bl .i64 n 63)=if 0<=n then 0 else 18446744073709551615:=by
 have:Bl .i64 n 63=n.fdiv (2^63):=rfl;rw[this,Int.fdiv_eq_ediv_of_nonneg _ aj,IntKind.wrap_u64];split<;>omega
theorem m0:Extern.find Tryz.f149=some add64Entry:=cY
theorem m9:Extern.findNext Tryz.f149=none:=cY
def pY(l:List Int):Int:=if right l&&bA (aC l)then aC l else 0
def oF(l:List Int):Int:=if right l then(if bA (aC l)then 0 else 1)else 3
def KI(S:Int)(h:-85070591730234615865843651857942052864<=S/\S<=85070591730234615865843651857942052864):Sq 220 [] [.int .u64 ((S/18446744073709551616)%18446744073709551616),.int .u64 (S%18446744073709551616)] [] (.bD [.I (if bA S then S else 0),.I (if bA S then 0 else 1)]):=by
 obtain⟨n,i⟩:=aL (IntKind.wrap .i64 (S%18446744073709551616));have c:n=if S%18446744073709551616<9223372036854775808 then S%18446744073709551616 else S%18446744073709551616-18446744073709551616:=by
  rw[i,IntKind.wrap_i64];split<;>omega
 have j:=X5 n (by rw[c];split<;>omega);have hr:=eH [n] sT;rw[sX]at hr;refine aX 21 2 [.tmp 4,.tmp 5] mixed func220 ?_;by_cases hS:-9223372036854775808<=S/\S<9223372036854775808
 ·have e:n=S:=by rw[c];split<;>omega
  have g:(S/18446744073709551616%18446744073709551616 != if 0<=n then 0 else 18446744073709551615)=false:=by
   rw[bne_eq_false_iff_eq,e];split<;>omega
  simp only[go_sem,seval,<-i,j,g];refine sl aK hr ?_;rw[e]at hr |-;cases f:bA S
  ·simp only[go_sem,seval,f,iI,if_false]
  ·simp only[go_sem,seval,f,if_true]
 ·have g:(S/18446744073709551616%18446744073709551616 != if 0<=n then 0 else 18446744073709551615)=true:=by
   rw[bne_iff_ne,c];split<;>split<;>omega
  have f:bA S=false:=by simp only[bA,Bool.and_eq_false_iff,gP];omega
  simp only[go_sem,seval,<-i,j,g,f,iI,if_false]
def ju(l:List Int)(hl:l.length<2^60):Sq 109 [] [.sl 1 (ints l)] [] (.bD [.I (pY l),.I (oF l)]):=by
 have hr:=eH l aj;refine aX 40 1 [.tmp 2,.tmp 3] mixed func109 ?_;refine sc aK hr ?_;cases g:right l
 ·have p:pY l=0:=by simp[pY,g]
  have e2:oF l=3:=by simp[oF,g]
  exact eo (a2 p e2)
 simp only[go_sem,seval,aA];refine aG.count l.length [12,13] [224] (λi=>[(14,.I i),(4,.int .u64 ((aC (l.take i)/18446744073709551616)%18446744073709551616)),(5,.int .u64 (aC (l.take i)%18446744073709551616))]) (λi=>[]) (λi=>True) trivial ?_ ?_
 ·simp only[go_sem,seval]<;>simp[aC]
 ·intro i hi _;refine s0 ?_;refine bK.fP (λh=>?_) (λh=>?_)
  ·have c:i<l.length:=aj
   have y:IntKind.wrap .i64 ((i:Int)+1)=((i+1:Nat):Int):=fU;have z:bA l[i]=true:=cg.1 g _ (dH c);have o:-4611686018427387904<=l[i]/\l[i]<=4611686018427387904:=by simpa[bA]using z
   obtain⟨S,e⟩:=aL (aC (l.take i));obtain⟨n,s⟩:=aL (l[i]);have f:aC (l.take (i+1))=S+n:=by rw[j7 c,rO,e,s]
   have x:IntKind.wrap .u64 n=n%18446744073709551616:=IntKind.wrap_u64 n;rw[<-s]at o;have t:=X5 n aj;simp only[go_sem,seval,ints_at l c,aA,<-s,<-e,x];refine⟨by omega,?_⟩;refine az.sem rfl ?_;with_reducible refine fG.zY (k:=149) (fn:=Tryz.f149) (i:=S%18446744073709551616) (j:=n%18446744073709551616) (m:=0) ?_ func149 ?_ ?_ m9 m0 ?_ ?_ ?_ ?_ ?_ ?_ ?_ ?_ ?_
   iterate 11 (first|rfl|omega)
   refine sm t ?_;refine az.sem rfl ?_;with_reducible refine fG.zY (k:=149) (fn:=Tryz.f149) (i:=S/18446744073709551616%18446744073709551616) (j:=if 0<=n then 0 else 18446744073709551615) (m:=(S%18446744073709551616+n%18446744073709551616+0)/18446744073709551616) ?_ func149 ?_ ?_ m9 m0 ?_ ?_ ?_ ?_ ?_ ?_ ?_ ?_ ?_
   iterate 7 (first|rfl|omega)
   ·split<;>omega
   iterate 3 (first|rfl|omega)
   rw[aik S n o _ rfl,PV];refine sm y ?_;refine ah.eI c trivial ?_
   simp only[go_sem,seval,f]
  ·obtain rfl:i=l.length:=aj
   obtain⟨S,e⟩:=aL (aC l);have hSr:=D2 g;have v:=KI S (by rw[e];omega);have p:pY l=if bA S then S else 0:=by simp[pY,g,e]
   have e2:oF l=if bA S then 0 else 1:=by simp[oF,g,e]
   rw[p,e2];simp only[go_sem,seval,eU,<-e];exact lX aK v
def vM(r:ay)(n:Int)(e:r.small):Sq 212 [] [.agg r.cells,.I n] [] (.bD [.agg (jS aD.a n ⟨0,0,0,0⟩ r.xs).cells,.bool (decide (0<=lT aD.a n r.xs))]):=by
 have c:=JW r.xs n (by have:=e.2.2;omega);simp only[aD.cells]at c |-;simp only[ay.cells,aD.cells];refine aX 18 2 [.cell 4 156,.tmp 5] mixed func212 ?_;exact lX aK c
structure bY where
 kind:Int
 who:Int
 cur:Int
 sum:Int
@[reducible] def bY.cells(x:bY):List D:=[.I x.kind,.I x.who,.I x.cur,.I x.sum]
def bY.br(x:bY):aI:=⟨x.kind,x.who,x.cur⟩
structure bu where
 last:Int
 bs:List bY
def bu.cells(l:bu):List D:=[.I l.last,.sl 4 (l.bs.map bY.cells)]
def VU(a:aI)(b:bY):Bool:=b.kind==a.kind&&(b.who==a.who&&b.cur==a.cur)
def gw(a:aI):List bY->Int
 | []=>0
 |b::r=>if VU a b then b.sum else gw a r
def l6(c:Int)(bs:List bY):List Int:=(bs.filter λb=>b.cur==c).map bY.sum
def YH(c:Int)(bs:List bY){i:Nat}(h:i<bs.length):l6 c (bs.take (i+1))=if bs[i].cur==c then l6 c (bs.take i)++[bs[i].sum]else l6 c (bs.take i):=by
 simp only[l6];rw[j7 h,pL,jv];cases e:bs[i].cur==c<;>simp[filter,e]
def Sw(c:Int)(bs:List bY):(l6 c bs).length<=bs.length:=by
 simp only[l6,qO];exact length_filter_le _ _
def Jx(x:Int):Sq 204 [] [.I x] [] (.bool true):=by
 refine aX 3 1 [.tmp 2] mixed func204 ?_;exact iB
def aak(l:bu)(c:Int)(hl:l.bs.length<2^30):Sq 203 [] [.agg l.cells,.I c,.fn 204 []] [.own 1 (ints (l6 c l.bs))] (.ref 0):=by
 simp only[bu.cells];refine aX 36 3 [.tmp 6] mixed func203 ?_;refine s0 ?_;refine aG.count l.bs.length [1,2,11,12] [64,208] (λi=>[(13,.I i),(7,.ref 544)]) (λi=>[(544,.own 1 (ints (l6 c (l.bs.take i))))]) (λi=>True) trivial ?_ ?_
 ·simp only[go_sem,seval]<;>simp[l6,ints]
 ·intro i hi _;refine s0 ?_;refine bK.fP (λh=>?_) (λh=>?_)
  ·have e:i<l.bs.length:=aj
   have k:IntKind.wrap .i64 ((i:Int)+1)=((i+1:Nat):Int):=fU;have j:=aM (c:=bY.cells) l.bs e;have f:=YH c l.bs e;have hlen:=Sw c (l.bs.take i);have hlt:(l.bs.take i).length<=l.bs.length:=by simp;omega
   simp only[bY.cells]at j;refine sm j ?_;refine⟨by omega,?_⟩;cases g:l.bs[i].cur==c
   ·rw[g]at f;simp only[iI,if_false]at f;refine sm k ?_;refine ah.eI e trivial ?_
    exact eo f
   ·rw[g,au rfl]at f;have m:=Jx l.bs[i].kind;refine sc aK m ?_;simp only[go_sem,seval,k,aA];refine⟨by omega,ah.eI e trivial ?_⟩;simp only[go_sem,seval,f]<;>simp[ints]
  ·obtain rfl:i=l.bs.length:=aj
   simp only[go_sem,seval,eU]
def o8(b:bY):Bool:=b.br.right&&(bA b.sum&&(b.sum != 0&&!decide (b.sum<b.br.floor)))
def tP(bs:List bY)(i:Nat):Bool:=
 match bs[i]? with
 |none=>true
 |some b=>o8 b&&(match i with
  | 0=>true
  |j+1=>match bs[j]? with
   |some q=>q.br.less b.br
   |none=>true)
def qu{bs:List bY}(h:0<bs.length):tP bs 0=o8 bs[0]:=by simp[tP,h]
def oq{bs:List bY}{j:Nat}(h:j+1<bs.length):tP bs (j+1)=(o8 bs[j+1]&&(bs[j]'aj).br.less bs[j+1].br):=by
 have c:j<bs.length:=aj
 simp[tP,h,c]
def nI(bs:List bY):Bool:=(range bs.length).all (tP bs)
def EO{bs:List bY}{i:Nat}(h:i<bs.length)(c:tP bs i=false):nI bs=false:=by
 cases e:nI bs
 ·rfl
 ·rw[cg.1 e i (mem_range.2 h)]at c;cases c
def xm{bs:List bY}(h:∀i<bs.length,tP bs i=true):nI bs=true:=cg.2 λi c=>h i (mem_range.1 c)
def qm(bs:List bY)(c:Int):Bool:=oF (l6 c bs)==0&&pY (l6 c bs)==0
def bu.okB(l:bu):Bool:=decide (0<=l.last)&&nI l.bs&&(qm l.bs 0&&qm l.bs 1&&qm l.bs 2)
def tE(l:bu)(R:l.bs.length<2^30):Sq 95 [] [.agg l.cells] [] (.I (if l.okB then 0 else 14)):=by
 have f:=λc=>aak l c R;simp only[bu.cells]at f |-;refine aX 78 1 [.tmp 2] mixed func95 ?_;refine s0 ?_;rcases Int.lt_or_le l.last 0 with t|t
 ·have D:decide (l.last<0)=true:=su t;have e:l.okB=false:=by simp[bu.okB];omega
  exact gH (a2 D e)
 have D:decide (l.last<0)=false:=su t;refine sm D ?_;refine aG.count l.bs.length [1,12,13] [32,224] (λi=>[(14,.I i)]) (λi=>[]) (λi=>∀j<i,tP l.bs j=true) sT ?_ ?_
 ·exact jh
 ·intro i hi H;refine s0 ?_;refine bK.fP (λh=>?_) (λh=>?_)
  ·have n:i<l.bs.length:=aj
   have J:IntKind.wrap .i64 ((i:Int)+1)=((i+1:Nat):Int):=fU;have G:=aM (c:=bY.cells) l.bs n;have N:=qU l.bs[i].br;have E:Sq 106 [] [.sl 1 [[.I l.bs[i].sum]]] [] (.bool (right [l.bs[i].sum])):=eH [l.bs[i].sum] sT;have O:=AF l.bs[i].br;rw[sX]at E;have e0:tP l.bs i=true->∀k<i+1,tP l.bs k=true:=λt k g=>by
    rcases dN k i with h|h
    ·exact H k h
    ·obtain rfl:k=i:=aj
     exact t
   have s:tP l.bs i=false->l.okB=false:=λz=>by simp[bu.okB,EO n z]
   simp only[bY.cells,aI.cells,bY.br]at G N O;rcases Nat.eq_zero_or_pos i with rfl|hpos
   ·have g:=qu n;simp only[o8,bY.br]at g;clear f;refine sm G ?_;repeat' with_reducible first|apply And.intro|exact .dq|refine az.aP (by assumption) ?_|(refine az.iw [] [] true sT ?_;simp only[go_sem,seval];refine dL.ij E ?_)|refine mW (λh=>?_) λh=>?_|refine .id ?_|refine ah.eI aj ?_ ?_|exact aK|simp only[*,go_sem,seval]
    all_goals first
     |omega
     |rfl
     | (refine e0 ?_;clear e0 s;rw[g];clear g;simp[bne, *];done)
     | (rw [s ?_]
        ·rfl
        ·clear e0 s;rw[g];clear g;simp[bne, *];done)
   ·obtain⟨j,rfl⟩:∃j,i=j+1:=⟨i-1,by omega⟩
    have Q:j<l.bs.length:=aj
    have hw1:IntKind.wrap .i64 (((j+1:Nat):Int)-1)=(j:Int):=fU;have g:=oq n;simp only[o8,bY.br]at g;have x:=aM (c:=bY.cells) l.bs Q;have P:=wV l.bs[j].br l.bs[j+1].br;simp only[bY.cells,aI.cells,bY.br]at x P;clear f;refine sm G ?_;repeat' with_reducible first|apply And.intro|exact .dq|refine az.aP (by assumption) ?_|(refine az.iw [] [] true sT ?_;simp only[go_sem,seval];refine dL.ij E ?_)|refine mW (λh=>?_) λh=>?_|refine .id ?_|refine ah.eI aj ?_ ?_|exact aK|simp only[*,go_sem,seval,x]
    all_goals first
     |omega
     |rfl
     | (refine e0 ?_;clear e0 s;rw[g];clear g;simp[bne, *];done)
     | (rw [s ?_]
        ·rfl
        ·clear e0 s;rw[g];clear g;simp[bne, *];done)
  ·obtain rfl:i=l.bs.length:=aj
   have S:=xm H;refine s0 ?_;refine aG.count 3 [1] [32] (λi=>[(61,.I i)]) (λi=>[]) (λi=>∀c<i,qm l.bs (c:Nat)=true) sT ?_ ?_
   ·exact jh
   ·intro c hc B;refine s0 ?_;refine bK.fP (λh=>?_) (λh=>?_)
    ·have F:c<3:=aj
     have J:IntKind.wrap .i64 ((c:Int)+1)=((c+1:Nat):Int):=fU;have hlen:=Sw c l.bs;have y:=ju (l6 c l.bs) aj;have o:qm l.bs c=false->l.okB=false:=λz=>by
      obtain rfl|rfl|rfl:c=0\/c=1\/c=2:=aj
      ·have:qm l.bs 0=false:=z;simp[bu.okB,this]
      ·have:qm l.bs 1=false:=z;simp[bu.okB,this]
      ·have:qm l.bs 2=false:=z;simp[bu.okB,this]
     refine so aK (f c) ?_;refine sl aK y ?_;cases v:oF (l6 c l.bs)==0
     ·have e:l.okB=false:=o (by simp[qm,v]);have m:(oF (l6 c l.bs) != 0)=true:=by simp[bne,v]
      exact gH (a2 m e)
     have m:(oF (l6 c l.bs) != 0)=false:=by simp[bne,v]
     cases C:pY (l6 c l.bs)==0
     ·have e:l.okB=false:=o (by simp[qm,v,C]);have p:(pY (l6 c l.bs) != 0)=true:=by simp[bne,C]
      exact gH (a3 m p e)
     have p:(pY (l6 c l.bs) != 0)=false:=by simp[bne,C]
     refine sm (a3 m p J) ?_;refine ah.eI F ?_ ?_
     ·intro k g;rcases dN k c with h|h
      ·exact B k h
      ·obtain rfl:k=c:=aj
       simp[qm,v,C]
     ·exact iB
    ·obtain rfl:c=3:=aj
     have K:qm l.bs 0=true:=B 0 aj;have L:qm l.bs 1=true:=B 1 aj;have M:qm l.bs 2=true:=B 2 aj;have e:l.okB=true:=by simp[bu.okB,S,K,L,M,t]
     exact gH e
def G7(r:ay)(x:iu):aD:=jS aD.a x.bV ⟨0,0,0,0⟩ r.xs
def SZ(r:ay)(w c:Int)(x:iu):Bool:=decide (0<=lT aD.a x.bV r.xs)&&(x.who==w&&(G7 r x).b==c)
def lS(r:ay)(w c:Int)(ps:List iu):List Int:=(ps.filter (SZ r w c)).map λx=>(G7 r x).V x.units
def iV(r:ay)(w c:Int):List iu->Int
 | []=>0
 |x::l=>if SZ r w c x&&(G7 r x).E x.units != 0 then(G7 r x).E x.units else iV r w c l
def Mh(r:ay)(w c:Int)(ps:List iu){i:Nat}(h:i<ps.length):lS r w c (ps.take (i+1))=if SZ r w c ps[i]then lS r w c (ps.take i)++[(G7 r ps[i]).V ps[i].units]else lS r w c (ps.take i):=by
 simp only[lS];rw[j7 h,pL,jv];cases e:SZ r w c ps[i]<;>simp[filter,e]
def Cy(r:ay)(w c:Int)(ps:List iu):(lS r w c ps).length<=ps.length:=by
 simp only[lS,qO];exact length_filter_le _ _
def uN(l:bu)(r:ay)(ps:List iu):Int:=if l.okB&&r.okB&&kf ps then 0 else 14
def CK(l:bu)(r:ay)(ps:List iu)(w c:Int):Int:=
 if uN l r ps != 0 then uN l r ps else if iV r w c ps != 0 then iV r w c ps else oF (gw ⟨2,w,c⟩ l.bs::lS r w c ps)
def Ci(l:bu)(r:ay)(ps:List iu)(w c:Int):Int:=
 if uN l r ps != 0 then 0 else if iV r w c ps != 0 then 0 else pY (gw ⟨2,w,c⟩ l.bs::lS r w c ps)
def aoF(r:ay)(w c:Int)(x:iu):Int:=if SZ r w c x then(G7 r x).V x.units else 0
def af1(r:ay)(w c:Int):List iu->Int
 | []=>0
 |x::l=>aoF r w c x+af1 r w c l
theorem Yc(r:ay)(w c:Int):∀ps:List iu,aC (lS r w c ps)=af1 r w c ps
 | []=>rfl
 |x::l=>by
  have e:=Yc r w c l;simp only[lS]at e;simp only[af1,aoF,lS,filter];cases hb:SZ r w c x
  ·simp only[iI,if_false,e];omega
  ·simp only[map_cons,aC,if_true,e]
def bf{x:Int}:bA x=true ↔ -4611686018427387904<=x/\x<=4611686018427387904:=by simp[bA]
def Ai(a b:Int):Int:=if bA a&&(bA b&&bA (a-b))then a-b else 0
def Bq(a b:Int):Int:=if bA a&&bA b then(if bA (a-b)then 0 else 1)else 3
def wd(S:Int):List D:=[.I (S/18446744073709551616),.int .u64 (S%18446744073709551616)]
def akt(n:Int)(h:-9223372036854775808<=n/\n<=9223372036854775807):Bl .i64 n 63=n/18446744073709551616:=by
 have:Bl .i64 n 63=n.fdiv (2^63):=rfl;rw[this,Int.fdiv_eq_ediv_of_nonneg _ aj];omega
def HN(n:Int)(h:-9223372036854775808<=n/\n<=9223372036854775807):Sq 250 [] [.I n] [] (.agg (wd n)):=by
 have c:=akt n h;have e:IntKind.wrap .u64 n=n%18446744073709551616:=IntKind.wrap_u64 n;refine aX 8 1 [.cell 2 135] mixed func250 ?_;simp only[go_sem,seval,c,e,wd]
def zM(n:Int)(h:-9223372036854775808<=n/\n<=9223372036854775807):Sq 153 [] [.I n] [] (.agg (wd n)):=by
 have c:IntKind.wrap .u64 n=n%18446744073709551616:=IntKind.wrap_u64 n;refine aX 11 1 [.cell 2 135] mixed func153 ?_;rcases Int.lt_or_le n 0 with hn|hn
 ·have d:decide (n<0)=true:=dw hn;have e:n/18446744073709551616 = -1:=aj
  simp only[go_sem,seval,d,c,wd,e]
 ·have d:decide (n<0)=false:=lJ;have e:n/18446744073709551616=0:=aj
  simp only[go_sem,seval,d,c,wd,e]
def oZ(S:Int):Sq 123 [] [.agg (wd S)] [] (.bD [.I (if bA S then S else 0),.I (if bA S then 0 else 1)]):=by
 obtain⟨n,k⟩:=aL (IntKind.wrap .i64 (S%18446744073709551616));have c:n=if S%18446744073709551616<9223372036854775808 then S%18446744073709551616 else S%18446744073709551616-18446744073709551616:=by
  rw[k,IntKind.wrap_i64];split<;>omega
 have g:-9223372036854775808<=n/\n<=9223372036854775807:=by rw[c];split<;>omega
 have i:=HN n g;have hr:Sq 106 [] [.sl 1 [[.I n]]] [] (.bool (right [n])):=eH [n] sT;rw[sX]at hr;have j:(S%18446744073709551616==n%18446744073709551616)=true:=by rw[fE,c];split<;>omega
 simp only[wd]at i |-;refine aX 19 1 [.tmp 2,.tmp 3] mixed func123 ?_;simp only[go_sem,seval,<-k];refine⟨gY.mk (by kernel_rfl),B6.mk (by kernel_rfl),az.aP i ?_⟩;by_cases hS:-9223372036854775808<=S/\S<9223372036854775808
 ·have e:n=S:=by rw[c];split<;>omega
  have h:(S/18446744073709551616==n/18446744073709551616)=true:=by rw[e];exact beq_self_eq_true _
  refine sm (a2 j h) ?_;refine⟨B6.mk (by kernel_rfl),?_⟩;refine sl aK hr ?_;rw[e];cases f:bA S
  ·simp only[go_sem,seval,f,iI,if_false]
  ·simp only[go_sem,seval,f,if_true]
 ·have h:(S/18446744073709551616==n/18446744073709551616)=false:=by
   rw[beq_eq_false_iff_ne,c];split<;>omega
  have f:bA S=false:=by simp only[bA,Bool.and_eq_false_iff,gP];omega
  simp only[go_sem,seval,j,h,f,iI,if_false]
def sC(l:List Int):List (List D):=l.map wd
theorem FM(l:List Int):(sC l).length=l.length:=by simp[sC]
theorem B4(l:List Int){i:Nat}(h:i<l.length):(sC l).getD i []=[.I (l[i]/18446744073709551616),.int .u64 (l[i]%18446744073709551616)]:=by simp[sC,h,wd]
def xK(S:Int):Bool:=decide (-170141183460469231731687303715884105728<=S)&&decide (S<170141183460469231731687303715884105728)
def QI(S n:Int):((S/18446744073709551616)%18446744073709551616+(n/18446744073709551616)%18446744073709551616+(S%18446744073709551616+n%18446744073709551616+0)/18446744073709551616)%18446744073709551616=((S+n)/18446744073709551616)%18446744073709551616:=by
 have c:(S+n)/18446744073709551616=S/18446744073709551616+n/18446744073709551616+(S%18446744073709551616+n%18446744073709551616+0)/18446744073709551616:=aj
 rw[c];omega
def af8(A B c s:Int)(hc:0<=c/\c<=1)(hB:-9223372036854775808<=B/\B<=9223372036854775807)(f:s=if 0<=B then 0 else 18446744073709551615) :
  ((A/18446744073709551616)%18446744073709551616+s+(A%18446744073709551616+B%18446744073709551616+c)/18446744073709551616)%18446744073709551616=((A+B+c)/18446744073709551616)%18446744073709551616:=by
 have e:(A+B+c)/18446744073709551616=A/18446744073709551616+B/18446744073709551616+(A%18446744073709551616+B%18446744073709551616+c)/18446744073709551616:=aj
 rw[e,f];split<;>omega
def div_add(S n:Int):S/18446744073709551616+n/18446744073709551616+(S%18446744073709551616+n%18446744073709551616+0)/18446744073709551616=(S+n)/18446744073709551616:=aj
theorem Cu:∀{l:List Int},(∀n∈l,xK n=true) -> -170141183460469231731687303715884105728*(l.length:Int)<=aC l/\aC l<=170141183460469231731687303715884105728*(l.length:Int)
 | [],_=>by simp[aC]
 |x::r,h=>by
  have h2:=Cu (l:=r) λn e=>h n (by simp[e]);have c:=h x sT;simp only[xK,cU,bO]at c;simp only[aC,length_cons];push_cast;omega
attribute [go_sem] FM
def zX(l:List Int)(hl:l.length<2^60)(hr:∀n∈l,xK n=true):Sq 249 [] [.sl 2 (sC l)] [] (.bD [.agg (wd (if xK (aC l)then aC l else 0)),.I (if xK (aC l)then 0 else 1)]):=by
 refine aX 54 1 [.cell 2 135,.tmp 3] mixed func249 ?_;refine s0 ?_;refine aG.count l.length [2,10,11] [48,192] (λi=>[(12,.I i),(4,.int .u64 (aC (l.take i)%18446744073709551616)),(5,.int .u64 ((aC (l.take i)/18446744073709551616)%18446744073709551616)),(6,.int .u64 ((aC (l.take i)/18446744073709551616/18446744073709551616)%18446744073709551616))]) (λi=>[]) (λi=>True) trivial ?_ ?_
 ·simp only[go_sem,seval]<;>simp[aC]
 ·intro i e _;refine s0 ?_;refine bK.fP (λh=>?_) (λh=>?_)
  ·have c:i<l.length:=aj
   have N:IntKind.wrap .i64 ((i:Int)+1)=((i+1:Nat):Int):=fU;have L:=hr l[i] (dH c);obtain⟨S,K⟩:=aL (aC (l.take i));obtain⟨n,z⟩:=aL (l[i]);have o:aC (l.take (i+1))=S+n:=by rw[j7 c,rO,K,z]
   rw[<-z]at L;simp only[xK,cU,bO]at L;obtain⟨B,J⟩:=aL (n/18446744073709551616);have p:-9223372036854775808<=B/\B<=9223372036854775807:=aj
   have M:IntKind.wrap .u64 B=B%18446744073709551616:=IntKind.wrap_u64 B;have D:=X5 B p;have F:=af8 (S/18446744073709551616) B ((S%18446744073709551616+n%18446744073709551616+0)/18446744073709551616) _ aj p rfl;have E:=QI S n;have G:=div_add S n;rw[<-J]at E G;rw[G]at F;simp only[go_sem,seval,B4 l c,<-z,<-K,<-J];refine⟨by omega,?_⟩;refine az.sem rfl ?_;with_reducible refine fG.zY (k:=149) (fn:=Tryz.f149) (i:=S%18446744073709551616) (j:=n%18446744073709551616) (m:=0) ?_ func149 ?_ ?_ m9 m0 ?_ ?_ ?_ ?_ ?_ ?_ ?_ ?_ ?_
   iterate 11 (first|rfl|omega)
   refine sm M ?_;refine az.sem rfl ?_;with_reducible refine fG.zY (k:=149) (fn:=Tryz.f149) (i:=S/18446744073709551616%18446744073709551616) (j:=B%18446744073709551616) (m:=(S%18446744073709551616+n%18446744073709551616+0)/18446744073709551616) ?_ func149 ?_ ?_ m9 m0 ?_ ?_ ?_ ?_ ?_ ?_ ?_ ?_ ?_
   iterate 11 (first|rfl|omega)
   refine sm D ?_;refine az.sem rfl ?_;with_reducible refine fG.zY (k:=149) (fn:=Tryz.f149) (i:=S/18446744073709551616/18446744073709551616%18446744073709551616) (j:=if 0<=B then 0 else 18446744073709551615) (m:=(S/18446744073709551616%18446744073709551616+B%18446744073709551616+(S%18446744073709551616+n%18446744073709551616+0)/18446744073709551616)/18446744073709551616) ?_ func149 ?_ ?_ m9 m0 ?_ ?_ ?_ ?_ ?_ ?_ ?_ ?_ ?_
   iterate 7 (first|rfl|omega)
   ·split<;>omega
   iterate 3 (first|rfl|omega)
   rw[F,E,PV];refine sm N ?_;refine ah.eI c trivial ?_
   simp only[go_sem,seval,o]
  ·obtain rfl:i=l.length:=aj
   obtain⟨T,t⟩:=aL (aC l);have v:=Cu hr;rw[<-t]at v |-;obtain⟨A,H⟩:=aL (T/18446744073709551616);have hAr:-85070591730234615865843651857942052864<=A/\A<=85070591730234615865843651857942052864:=aj
   obtain⟨m,x⟩:=aL (IntKind.wrap .i64 (A%18446744073709551616));have f:m=if A%18446744073709551616<9223372036854775808 then A%18446744073709551616 else A%18446744073709551616-18446744073709551616:=by
    rw[x,IntKind.wrap_i64];split<;>omega
   have C:=X5 m (by rw[f];split<;>omega);by_cases e:xK T=true
   ·have hi2:=e;simp only[xK,cU,bO]at hi2;have g:m=A:=by rw[f];split<;>omega
    have s:(A/18446744073709551616%18446744073709551616 != if 0<=m then 0 else 18446744073709551615)=false:=by
     rw[bne_eq_false_iff_eq,g];split<;>omega
    rw[au e,au e];rw[g]at C s;have y:IntKind.wrap .i64 (A%18446744073709551616)=A:=by rw[<-x,g]
    simp only[go_sem,seval,eU,<-t,<-H,y,C,s,wd]
   ·have hi2:¬(-170141183460469231731687303715884105728<=T/\T<170141183460469231731687303715884105728):=by
     simpa only[xK,cU,bO]using e
    have s:(A/18446744073709551616%18446744073709551616 != if 0<=m then 0 else 18446744073709551615)=true:=by
     rw[bne_iff_ne,f];split<;>split<;>omega
    rw[aq e,aq e];simp only[go_sem,seval,eU,<-t,<-H,<-x,C,s,wd];try exact⟨by decide,by decide⟩
def gE(n:Int):Sq 82 [] [.I n] [] (.bool (bA n)):=by
 refine aX 9 1 [.tmp 2] mixed func82 ?_;refine s0 ?_;repeat' with_reducible first|apply And.intro|exact .dq|refine az.aP (by assumption) ?_|refine mW (λh=>?_) λh=>?_|refine .id ?_|refine ah.eI aj ?_ ?_|exact aK|simp only[*,go_sem,seval]
 all_goals(rw[lZ];simp[bA];omega)
def qH(S:Int):Sq 56 [] [.agg (wd S)] [] (.bD [.I (if bA S then S else 0),.bool (bA S)]):=by
 obtain⟨n,k⟩:=aL (IntKind.wrap .i64 (S%18446744073709551616));have c:n=if S%18446744073709551616<9223372036854775808 then S%18446744073709551616 else S%18446744073709551616-18446744073709551616:=by
  rw[k,IntKind.wrap_i64];split<;>omega
 have g:-9223372036854775808<=n/\n<=9223372036854775807:=by rw[c];split<;>omega
 have i:=zM n g;have hr:=gE n;have j:(n%18446744073709551616==S%18446744073709551616)=true:=by rw[fE,c];split<;>omega
 simp only[wd]at i |-;refine aX 18 1 [.tmp 2,.tmp 3] mixed func56 ?_;simp only[go_sem,seval,<-k];refine⟨gY.mk (by kernel_rfl),az.aP i ?_⟩;by_cases hS:-9223372036854775808<=S/\S<9223372036854775808
 ·have e:n=S:=by rw[c];split<;>omega
  have h:(n/18446744073709551616==S/18446744073709551616)=true:=by rw[e];exact beq_self_eq_true _
  refine sm (a2 j h) ?_;refine⟨B6.mk (by kernel_rfl),az.aP hr ?_⟩;rw[e];cases f:bA S
  ·simp only[go_sem,seval,f,iI,if_false]
  ·simp only[go_sem,seval,f,if_true]
 ·have h:(n/18446744073709551616==S/18446744073709551616)=false:=by
   rw[beq_eq_false_iff_ne,c];split<;>omega
  have f:bA S=false:=by simp only[bA,Bool.and_eq_false_iff,gP];omega
  simp only[go_sem,seval,j,h,f,iI,if_false];exact B6.mk (by kernel_rfl)
def jB(n:Int):Prop:=-9223372036854775808<=n/\n<=9223372036854775807
structure aE where
 who:Int
 inst:Int
 aQ:Int
 cost:Int
deriving DecidableEq
@[reducible] def aE.cells(x:aE):List D:=[.I x.who,.I x.inst,.I x.aQ,.I x.cost]
def aE.gq(x:aE):Prop:=jB x.who/\jB x.inst/\jB x.aQ/\jB x.cost
structure aT where
 no:Int
 lg:Int
 iH:Int
 inst:Int
 aQ:Int
 aS:Int
 off:Bool
deriving DecidableEq
@[reducible] def aT.cells(x:aT):List D:=[.I x.no,.I x.lg,.I x.iH,.I x.inst,.I x.aQ,.I x.aS,.bool x.off]
def aT.gq(x:aT):Prop:=jB x.no/\jB x.lg/\jB x.iH/\jB x.inst/\jB x.aQ/\jB x.aS
structure aH where
 who:Int
 cur:Int
 bT:Int
deriving DecidableEq
@[reducible] def aH.cells(x:aH):List D:=[.I x.who,.I x.cur,.I x.bT]
def aH.gq(x:aH):Prop:=jB x.who/\jB x.cur/\jB x.bT
structure aB where
 who:Int
 cur:Int
 bT:Int
 till:Int
deriving DecidableEq
@[reducible] def aB.cells(x:aB):List D:=[.I x.who,.I x.cur,.I x.bT,.I x.till]
def aB.gq(x:aB):Prop:=jB x.who/\jB x.cur/\jB x.bT/\jB x.till
structure bn where
 who:Int
 inst:Int
 src:Int
 aQ:Int
 aS:Int
deriving DecidableEq
@[reducible] def bn.cells(x:bn):List D:=[.I x.who,.I x.inst,.I x.src,.I x.aQ,.I x.aS]
def bn.gq(x:bn):Prop:=jB x.who/\jB x.inst/\jB x.src/\jB x.aQ/\jB x.aS
structure eu where
 cur:Int
 bJ:Int
 c0:Int
 c1:Int
 c2:Int
 c3:Int
 c4:Int
 rest:Int
deriving DecidableEq
@[reducible] def eu.cells(x:eu):List D:=[.I x.cur,.I x.bJ,.I x.c0,.I x.c1,.I x.c2,.I x.c3,.I x.c4,.I x.rest]
def eu.gq(x:eu):Prop:=jB x.cur/\jB x.bJ/\jB x.c0/\jB x.c1/\jB x.c2/\jB x.c3/\jB x.c4/\jB x.rest
def av.gq(x:av):Prop:=jB x.no/\jB x.state/\jB x.need
def aF.gq(x:aF):Prop:=jB x.no/\jB x.cur/\jB x.mult/\jB x.add/\jB x.set/\jB x.aS/\jB x.s0/\jB x.s1/\jB x.s2/\jB x.s3/\jB x.s4/\jB x.s5
def aD.gq(x:aD):Prop:=jB x.a/\jB x.b/\jB x.c/\jB x.d
def bY.gq(x:bY):Prop:=jB x.kind/\jB x.who/\jB x.cur/\jB x.sum
def iu.gq(x:iu):Prop:=jB x.who/\jB x.bV/\jB x.units
structure bH where
 code:Int
 no:Int
 bT:Int
 SH:List aH
 falls:List eu
deriving DecidableEq
@[reducible] def bH.cells(x:bH):List D:=[.I x.code,.I x.no,.I x.bT,.sl 3 (x.SH.map aH.cells),.sl 8 (x.falls.map eu.cells)]
def bH.fits(x:bH):Prop:=24*x.SH.length<=140737488355328/\64*x.falls.length<=140737488355328
def bH.gq(x:bH):Prop:=True/\True/\True/\True/\True/\x.fits
structure bZ where
 client:Int
 seq:Int
 r:bH
deriving DecidableEq
@[reducible] def bZ.cells(x:bZ):List D:=[.I x.client,.I x.seq,.I x.r.code,.I x.r.no,.I x.r.bT,.sl 3 (x.r.SH.map aH.cells),.sl 8 (x.r.falls.map eu.cells)]
def bZ.gq(x:bZ):Prop:=jB x.client/\jB x.seq/\x.r.gq
structure aJ where
 next:Int
 ts:List aT
 qs:List aE
@[reducible] def aJ.cells(b:aJ):List D:=[.I b.next,.sl 7 (b.ts.map aT.cells),.sl 4 (b.qs.map aE.cells)]
structure af where
 now:Int
 day:Int
 phase:Int
 ak:ay
 book:aJ
 bp:bu
 ps:List iu
 calls:List aB
 aZ:List bn
 aR:List bZ
@[reducible] def af.cells(s:af):List D:=[.I s.now,.I s.day,.I s.phase,.sl 3 (s.ak.ms.map av.cells),.sl 12 (s.ak.ns.map aF.cells),.sl 4 (s.ak.xs.map aD.cells),.I s.book.next,.sl 7 (s.book.ts.map aT.cells),.sl 4 (s.book.qs.map aE.cells),
 .I s.bp.last,.sl 4 (s.bp.bs.map bY.cells),.sl 3 (pl s.ps),.sl 4 (s.calls.map aB.cells),.sl 5 (s.aZ.map bn.cells),.sl 7 (s.aR.map bZ.cells)]
structure af.gq(s:af):Prop where
 now:jB s.now
 day:jB s.day
 phase:jB s.phase
 ms:∀x∈s.ak.ms,x.gq
 ns:∀x∈s.ak.ns,x.gq
 xs:∀x∈s.ak.xs,x.gq
 next:jB s.book.next
 ts:∀x∈s.book.ts,x.gq
 qs:∀x∈s.book.qs,x.gq
 last:jB s.bp.last
 bs:∀x∈s.bp.bs,x.gq
 ps:∀x∈s.ps,x.gq
 calls:∀x∈s.calls,x.gq
 aZ:∀x∈s.aZ,x.gq
 aR:∀x∈s.aR,x.gq
def pO{A:Type}(ok:A->Bool)(lt:A->A->Bool)(xs:List A)(i:Nat):Bool:=
 match xs[i]? with
 |none=>true
 |some b=>ok b&&(match i with
  | 0=>true
  |j+1=>match xs[j]? with
   |some q=>lt q b
   |none=>true)
def nQ{A:Type}(ok:A->Bool)(lt:A->A->Bool)(xs:List A):Bool:=(range xs.length).all (pO ok lt xs)
section
variable{A:Type}{ok:A->Bool}{lt:A->A->Bool}{xs:List A}
def j8(h:0<xs.length):pO ok lt xs 0=ok xs[0]:=by simp[pO,h]
def jy{j:Nat}(h:j+1<xs.length):pO ok lt xs (j+1)=(ok xs[j+1]&&lt (xs[j]'aj) xs[j+1]):=by
 have c:j<xs.length:=aj
 simp[pO,h,c]
def wX{i:Nat}(h:i<xs.length)(c:pO ok lt xs i=false):nQ ok lt xs=false:=by
 cases e:nQ ok lt xs
 ·rfl
 ·rw[cg.1 e i (mem_range.2 h)]at c;cases c
def q9(h:∀i<xs.length,pO ok lt xs i=true):nQ ok lt xs=true:=cg.2 λi c=>h i (mem_range.1 c)
def aba(h:nQ ok lt xs=true){i:Nat}(c:i<xs.length):pO ok lt xs i=true:=cg.1 h i (mem_range.2 c)
theorem Qc(h:nQ ok lt xs=true){i:Nat}(c:i<xs.length):ok xs[i]=true:=by
 have:=aba h c;cases i with
 |zero=>rwa[j8 c]at this
 |succ j=>rw[jy c,cU]at this;exact this.1
def tB{i:Nat}(e:∀j<i,pO ok lt xs j=true)(c:pO ok lt xs i=true):∀k<i+1,pO ok lt xs k=true:=λk hk=>by
 rcases dN k i with h|h
 ·exact e k h
 ·obtain rfl:k=i:=aj
  exact c
end
def vv(w n:Int):Bool:=within w 1 16&&within n 1 8
def MU(a b c d:Int):Bool:=decide (a<c)||(a==c&&decide (b<d))
def tJ(w n:Int):Sq 198 [] [.agg [.I w,.I n]] [] (.bool (vv w n)):=by
 refine aX 21 1 [.tmp 2] mixed func198 ?_;refine s0 ?_;repeat' with_reducible first|apply And.intro|exact .dq|refine az.aP (by assumption) ?_|refine mW (λh=>?_) λh=>?_|refine .id ?_|refine ah.eI aj ?_ ?_|exact aK|simp only[*,go_sem,seval]
 all_goals(simp_all[vv,within];try omega)
def Qx(a b c d:Int):Sq 199 [] [.agg [.I a,.I b],.agg [.I c,.I d]] [] (.bool (MU a b c d)):=by
 refine aX 24 2 [.tmp 4] mixed func199 ?_;refine s0 ?_;repeat' with_reducible first|apply And.intro|exact .dq|refine az.aP (by assumption) ?_|refine mW (λh=>?_) λh=>?_|refine .id ?_|refine ah.eI aj ?_ ?_|exact aK|simp only[*,go_sem,seval]
 all_goals(simp only[MU];simp_all)
def aT.okB(t:aT):Bool:=within t.aQ 1 1048576&&(within t.aS 1 1073741824&&(t.lg != t.iH&&(vv t.lg t.inst&&vv t.iH t.inst)))
def It(t:aT):Sq 200 [] [.agg t.cells] [] (.bool t.okB):=by
 have c:=tJ t.lg t.inst;have e:=tJ t.iH t.inst;simp only[aT.cells];refine aX 44 1 [.tmp 2] mixed func200 ?_;refine s0 ?_;repeat' with_reducible first|apply And.intro|exact .dq|refine az.aP (by assumption) ?_|refine az.aP (c) ?_|refine az.aP (e) ?_|refine mW (λh=>?_) λh=>?_|refine .id ?_|refine ah.eI aj ?_ ?_|exact aK|simp only[*,go_sem,seval]
 all_goals first
  | (simp_all[aT.okB,within,bne];done)
  | (rw[lZ];simp_all[aT.okB,within];omega)
def aE.okB(p:aE):Bool:=vv p.who p.inst&&(within p.aQ (-1099511627776) 1099511627776&&(bA p.cost&&!(p.aQ==0&&p.cost==0)))
def lC(a b:aE):Bool:=MU a.who a.inst b.who b.inst
def fB(n:Int)(l:List aE):List Int:=(l.filter (·.inst==n)).map aE.aQ
def rz(n:Int)(l:List aE):Bool:=oF (fB n l)==0&&pY (fB n l)==0
def qw(l:List aE):Bool:=(range 8).all λi=>rz ((i:Int)+1) l
def Lc(n:Int)(l:List aE){i:Nat}(h:i<l.length):fB n (l.take (i+1))=if l[i].inst==n then fB n (l.take i)++[l[i].aQ]else fB n (l.take i):=by
 simp only[fB];rw[j7 h,pL,jv];cases c:l[i].inst==n<;>simp[filter,c]
def Co(n:Int)(l:List aE):(fB n l).length<=l.length:=by
 simp only[fB,qO];exact length_filter_le _ _
def Ky(l:List aE)(hl:l.length<2^30):Sq 201 [] [.sl 4 (l.map aE.cells)] [] (.bool (qw l)):=by
 refine aX 41 1 [.tmp 2] mixed func201 ?_;refine s0 ?_;refine aG.count 8 [0] [] (λi=>[(3,.I ((i:Int)+1))]) (λi=>[]) (λi=>∀j<i,rz ((j:Int)+1) l=true) sT ?_ ?_
 ·exact jh
 intro c hc D;rcases dN c 8 with hc'|hc'
 case inr =>
  obtain rfl:c=8:=aj
  have e:qw l=true:=cg.2 λj F=>D j (mem_range.1 F);exact gH e
 obtain⟨n,B⟩:=aL ((c:Int)+1);have H:decide (n<=8)=true:=jw;have K:IntKind.wrap .i64 (n+1)=((c+1:Nat):Int)+1:=fU;rw[<-B];refine sm H ?_;refine aG.wv l.length [0,3,13,14] [240] (λi=>[(15,.I i),(4,.ref 464)]) (λi=>[(464,.own 1 (ints (fB n (l.take i))))]) ?_ ?_ ?_
 ·simp only[go_sem,seval]<;>simp[fB,ints]
 ·intro i _ x y s _;have G:=aM (c:=aE.cells) l x;have o:=Lc n l x;have m:=Co n (l.take i);have hlt:(l.take i).length<=l.length:=by simp;omega
  simp only[aE.cells]at G;refine sm (a2 y G) ?_;refine⟨by omega,?_⟩;cases E:l[i].inst==n
  ·rw[E]at o;simp only[iI,if_false]at o;refine sm s ?_;refine ah.v x ?_;exact eo o
  ·rw[E,au rfl]at o;simp only[go_sem,seval,s,aA];refine⟨by omega,ah.v x ?_⟩;simp only[go_sem,seval,o]<;>simp[ints]
 ·intro _ z _;have m:=Co n l;have p:=ju (fB n l) aj;have f:rz n l=false->qw l=false:=λC=>by
   cases J:qw l
   ·rfl
   ·have:=cg.1 J c (mem_range.2 hc');rw[<-B,C]at this;cases this
  have g:rz n l=true->∀j<c+1,rz ((j:Int)+1) l=true:=λC j F=>by
   rcases dN j c with h|h
   ·exact D j h
   ·obtain rfl:j=c:=aj
    rw[<-B];exact C
  simp only[go_sem,seval,z,eU];refine sl aK p ?_;cases k:oF (fB n l)==0
  ·simp only[go_sem,seval,bne,k,f (by simp[rz,k])]
  cases t:pY (fB n l)==0
  ·simp only[go_sem,seval,bne,k,t,f (by simp[rz,k,t])]
  refine sm (a4 dV k t K) ?_;refine ah.eI hc' (g (by simp[rz,k,t])) ?_
  exact iB
def ji(n:Int)(t:aT):Bool:=t.okB&&(!decide (t.no<1)&&!decide (n<t.no))
def iR(a b:aT):Bool:=decide (a.no<b.no)
def aJ.okB(b:aJ):Bool:=nQ aE.okB lC b.qs&&(nQ (ji b.next) iR b.ts&&(qw b.qs&&(!decide (128<(b.ts.length:Int))&&(!decide (b.next<0)&&!decide (1099511627776<b.next)))))
def aJ.small(b:aJ):Prop:=b.ts.length<2^30/\b.qs.length<2^30
def oc(b:aJ)(hl:b.small):Sq 94 [] [.agg b.cells] [] (.I (if b.okB then 0 else 14)):=by
 obtain⟨hl1,hl2⟩:=hl;have g:=Ky b.qs aj;simp only[aJ.cells];refine aX 124 1 [.tmp 2] mixed func94 ?_;refine s0 ?_;refine aG.count b.qs.length [1,8,9] [32,160] (λi=>[(10,.I i)]) (λi=>[]) (λi=>∀j<i,pO aE.okB lC b.qs j=true) sT ?_ ?_
 ·exact jh
 ·intro i E n;refine s0 ?_;refine bK.fP (λh=>?_) (λh=>?_)
  ·have f:i<b.qs.length:=aj
   have F:IntKind.wrap .i64 ((i:Int)+1)=((i+1:Nat):Int):=fU;have l:=aM (c:=aE.cells) b.qs f;have m:=tJ b.qs[i].who b.qs[i].inst;have t:Sq 106 [] [.sl 1 [[.I b.qs[i].cost]]] [] (.bool (right [b.qs[i].cost])):=eH [b.qs[i].cost] sT;rw[sX]at t;have e0:=tB (i:=i) n;have e1:pO aE.okB lC b.qs i=false->b.okB=false:=λy=>by simp[aJ.okB,wX f y]
   simp only[aE.cells]at l;rcases Nat.eq_zero_or_pos i with rfl|hpos
   ·have hk:=j8 (ok:=aE.okB) (lt:=lC) f;simp only[aE.okB,within]at hk;clear g;refine sm l ?_;repeat' with_reducible first|apply And.intro|exact .dq|refine az.aP (by assumption) ?_|refine az.aP (m) ?_|(refine az.iw [] [] true sT ?_;simp only[go_sem,seval];refine dL.ij t ?_)|refine mW (λh=>?_) λh=>?_|refine .id ?_|refine ah.eI aj ?_ ?_|exact aK|simp only[*,go_sem,seval]
    all_goals exact Mr
   ·obtain⟨j,rfl⟩:∃j,i=j+1:=⟨i-1,by omega⟩
    have v:j<b.qs.length:=aj
    have x:IntKind.wrap .i64 (((j+1:Nat):Int)-1)=(j:Int):=fU;have hk:=jy (ok:=aE.okB) (lt:=lC) f;simp only[aE.okB,within,lC]at hk;have k:=aM (c:=aE.cells) b.qs v;have D:=Qx b.qs[j].who b.qs[j].inst b.qs[j+1].who b.qs[j+1].inst;simp only[aE.cells]at k;clear g;refine sm l ?_;repeat' with_reducible first|apply And.intro|exact .dq|refine az.aP (by assumption) ?_|refine az.aP (m) ?_|refine az.aP (D) ?_|(refine az.iw [] [] true sT ?_;simp only[go_sem,seval];refine dL.ij t ?_)|refine mW (λh=>?_) λh=>?_|refine .id ?_|refine ah.eI aj ?_ ?_|exact aK|simp only[*,go_sem,seval,k]
    all_goals exact Mr
  ·obtain rfl:i=b.qs.length:=aj
   have p:=q9 n;refine s0 ?_;refine aG.count b.ts.length [1,65,66] [32,1072] (λi=>[(67,.I i)]) (λi=>[]) (λi=>∀j<i,pO (ji b.next) iR b.ts j=true) sT ?_ ?_
   ·exact jh
   ·intro i E n;refine s0 ?_;refine bK.fP (λh=>?_) (λh=>?_)
    ·have f:i<b.ts.length:=aj
     have F:IntKind.wrap .i64 ((i:Int)+1)=((i+1:Nat):Int):=fU;have l:=aM (c:=aT.cells) b.ts f;have m:=It b.ts[i];have e0:=tB (i:=i) n;have e1:pO (ji b.next) iR b.ts i=false->b.okB=false:=λy=>by simp[aJ.okB,wX f y]
     simp only[aT.cells]at l m;rcases Nat.eq_zero_or_pos i with rfl|hpos
     ·have hk:=j8 (ok:=ji b.next) (lt:=iR) f;simp only[ji]at hk;clear g p;refine sm l ?_;repeat' with_reducible first|apply And.intro|exact .dq|refine az.aP (by assumption) ?_|refine az.aP (m) ?_|refine mW (λh=>?_) λh=>?_|refine .id ?_|refine ah.eI aj ?_ ?_|exact aK|simp only[*,go_sem,seval]
      all_goals exact Mr
     ·obtain⟨j,rfl⟩:∃j,i=j+1:=⟨i-1,by omega⟩
      have v:j<b.ts.length:=aj
      have x:IntKind.wrap .i64 (((j+1:Nat):Int)-1)=(j:Int):=fU;have hk:=jy (ok:=ji b.next) (lt:=iR) f;simp only[ji,iR]at hk;have k:=aM (c:=aT.cells) b.ts v;simp only[aT.cells]at k;clear g p;refine sm l ?_;repeat' with_reducible first|apply And.intro|exact .dq|refine az.aP (by assumption) ?_|refine az.aP (m) ?_|refine mW (λh=>?_) λh=>?_|refine .id ?_|refine ah.eI aj ?_ ?_|exact aK|simp only[*,go_sem,seval,k]
      all_goals exact Mr
    ·obtain rfl:i=b.ts.length:=aj
     have B:=q9 n;have e:b.okB=(qw b.qs&&(!decide (128<(b.ts.length:Int))&&(!decide (b.next<0)&&!decide (1099511627776<b.next)))):=by simp[aJ.okB,p,B]
     rw[e];clear e p B n;refine sc aK g ?_;cases o:qw b.qs
     ·exact gH o
     cases s:decide (128<(b.ts.length:Int))
     case true=>simp only[go_sem,seval,o,s]<;>simp
     cases z:decide (b.next<0)
     case true=>simp only[go_sem,seval,o,s,z]<;>simp
     cases C:decide (1099511627776<b.next)<;>simp only[go_sem,seval,o,s,z,C]<;>simp
def apj{x:Int}(h:0<=x)(h':x<18446744073709551616):aeY .u64 x=18446744073709551615-x:=by
 have:=auj x.toNat aj;rw[Int.toNat_of_nonneg h]at this;rw[this];omega
def apd(a:Int)(h:jB a):Sq 151 [] [.I a] [] (.int .u64 (a.natAbs:Nat)):=by
 obtain⟨h1,h2⟩:=h;refine aX 10 1 [.tmp 2] mixed func151 ?_;rcases Int.lt_or_le a 0 with hn|hn
 ·have d:decide (a<0)=true:=dw hn;have e:IntKind.wrap .u64 (0-IntKind.wrap .u64 a)=(a.natAbs:Nat):=by rw[IntKind.wrap_u64,IntKind.wrap_u64];omega
  exact eo (a2 d e)
 ·have d:decide (a<0)=false:=lJ;have e:IntKind.wrap .u64 a=(a.natAbs:Nat):=by rw[IntKind.wrap_u64];omega
  exact eo (a2 d e)
def ajS(W:Int):(18446744073709551615-W%18446744073709551616+1+0)%18446744073709551616=(-W)%18446744073709551616:=aj
def ajR(W:Int)(h:-85070591730234615865843651857942052864<=W/\W<=85070591730234615865843651857942052864) :
  IntKind.wrap .i64 ((18446744073709551615-(W/18446744073709551616)%18446744073709551616+0+(18446744073709551615-W%18446744073709551616+1+0)/18446744073709551616)%18446744073709551616)=(-W)/18446744073709551616:=by
 obtain⟨q,i⟩:=aL (W/18446744073709551616);obtain⟨l,g⟩:=aL (W%18446744073709551616);obtain⟨c,f⟩:=aL ((18446744073709551615-l+1+0)/18446744073709551616);have e:(-W)/18446744073709551616 = -q-1+c:=aj
 have h2:-4611686018427387904<=q/\q<=4611686018427387904:=aj
 have h3:0<=c/\c<=1:=aj
 rw[<-i,<-g,<-f,e,IntKind.wrap_i64];clear i g f e h;obtain⟨x,j⟩:=aL ((18446744073709551615-q%18446744073709551616+0+c)%18446744073709551616);rw[<-j];rcases Int.lt_or_le x 9223372036854775808 with h|h<;>omega
def aph(W:Int)(h:-85070591730234615865843651857942052864<=W/\W<=85070591730234615865843651857942052864):Sq 152 [] [.agg (wd W)] [] (.agg (wd (-W))):=by
 have c:=apj (x:=W%18446744073709551616) aj aj;have g:IntKind.wrap .u64 (W/18446744073709551616)=(W/18446744073709551616)%18446744073709551616:=IntKind.wrap_u64 _;have e:=apj (x:=(W/18446744073709551616)%18446744073709551616) aj aj;have f:=ajS W;have e2:=ajR W h;simp only[wd];refine aX 27 1 [.cell 2 135] mixed func152 ?_;refine sm c ?_;refine az.sem rfl ?_;with_reducible refine fG.zY (k:=149) (fn:=Tryz.f149) (i:=18446744073709551615-W%18446744073709551616) (j:=1) (m:=0) ?_ func149 ?_ ?_ m9 m0 ?_ ?_ ?_ ?_ ?_ ?_ ?_ ?_ ?_
 iterate 11 (first|rfl|omega)
 refine sm (a2 g e) ?_;refine az.sem rfl ?_;with_reducible refine fG.zY (k:=149) (fn:=Tryz.f149) (i:=18446744073709551615-(W/18446744073709551616)%18446744073709551616) (j:=0) (m:=(18446744073709551615-W%18446744073709551616+1+0)/18446744073709551616) ?_ func149 ?_ ?_ m9 m0 ?_ ?_ ?_ ?_ ?_ ?_ ?_ ?_ ?_
 iterate 11 (first|rfl|omega)
 exact eo (a2 f e2)
def Ie(a b:Int):((a.natAbs*b.natAbs:Nat):Int)=if(decide (a<0) != decide (b<0))=true then -(a*b)else a*b:=by
 rw[Int.natCast_mul];rcases Int.lt_or_le a 0 with ha|ha<;>rcases Int.lt_or_le b 0 with hb|hb
 ·have f:(a.natAbs:Int) = -a:=aj
  have e2:(b.natAbs:Int) = -b:=aj
  have c:decide (a<0)=true:=dw ha;have e:decide (b<0)=true:=dw hb;rw[f,e2,c,e,Int.neg_mul_neg];rfl
 ·have f:(a.natAbs:Int) = -a:=aj
  have e2:(b.natAbs:Int)=b:=aj
  have c:decide (a<0)=true:=dw ha;have e:decide (b<0)=false:=lJ;rw[f,e2,c,e,Int.neg_mul];rfl
 ·have f:(a.natAbs:Int)=a:=aj
  have e2:(b.natAbs:Int) = -b:=aj
  have c:decide (a<0)=false:=lJ;have e:decide (b<0)=true:=dw hb;rw[f,e2,c,e,Int.mul_neg];rfl
 ·have f:(a.natAbs:Int)=a:=aj
  have e2:(b.natAbs:Int)=b:=aj
  have c:decide (a<0)=false:=lJ;have e:decide (b<0)=false:=lJ;rw[f,e2,c,e];rfl
def sV(a b:Int)(i:jB a)(j:jB b):Sq 55 [] [.I a,.I b] [] (.agg (wd (a*b))):=by
 have m:=apd a i;have n:=apd b j;obtain⟨ha1,ha2⟩:=i;obtain⟨hb1,hb2⟩:=j;have h:=zn a.natAbs b.natAbs aj aj;obtain⟨P,o⟩:=aL (a.natAbs*b.natAbs);have hPb:P<=85070591730234615865843651857942052864:=by
  have:a.natAbs*b.natAbs<=9223372036854775808*9223372036854775808:=Nat.mul_le_mul aj aj;omega
 have c:=Ie a b;rw[<-o]at h c;have l:IntKind.wrap .i64 ((P/18446744073709551616:Nat):Int)=(P:Int)/18446744073709551616:=by rw[IntKind.wrap_i64];omega
 have k:((P%18446744073709551616:Nat):Int)=(P:Int)%18446744073709551616:=aj
 have e:=aph (P:Int) aj;simp only[wd]at e |-;refine aX 28 2 [.cell 4 135] mixed func55 ?_;refine sc aK m ?_;refine sc aK n ?_;refine az.aP h ?_;cases f:(decide (a<0)==decide (b<0))
 ·rw[bne,f,au (by rfl)]at c;have g:a*b = -(P:Int):=aj
  exact lX (a4 l k f g) e
 ·rw[bne,f,aq sT]at c;exact eo (a4 l k f c)
def aF.zero:aF:=⟨0,0,0,0,0,0,0,0,0,0,0,0⟩
def MJ(xs:List aF)(n:Int)(hl:xs.length<2^62):Sq 216 [] [.sl 12 (xs.map aF.cells),.fn 193 [],.I n] [] (.bD [.agg (jS aF.no n aF.zero xs).cells,.I (lT aF.no n xs)]):=by
 refine aX 27 3 [.cell 6 52,.tmp 7] mixed func216 ?_;refine s0 ?_;refine aG.count xs.length [1,2,6,11,12] [112,208] (λi=>[(13,.I i)]) (λi=>[]) (λi=>∀j (g:j<xs.length),j<i->xs[j].no≠n) sT ?_ ?_
 ·exact jh
 ·intro i hi o;refine s0 ?_;refine bK.fP (λh=>?_) (λh=>?_)
  ·have f:i<xs.length:=aj
   have s:IntKind.wrap .i64 ((i:Int)+1)=((i+1:Nat):Int):=fU;have p:=aM (c:=aF.cells) xs f;have k:=Bz xs[i];simp only[aF.cells]at p k |-;refine sm p ?_;refine⟨by omega,az.aP k ?_⟩;refine s0 ?_;refine bK.split (λe=>?_) (λe=>?_)
   ·have e:xs[i].no=n:=su e;obtain⟨l,m⟩:=nj (z:=aF.zero) f o e;rw[l,m];exact iB
   ·have e:xs[i].no≠n:=su e;refine sm s ?_;refine ah.eI f ?_ ?_
    ·intro j g hji;rcases dN j i with h|h
     ·exact o j g h
     ·obtain rfl:j=i:=aj
      exact e
    ·exact iB
  ·obtain rfl:i=xs.length:=aj
   obtain⟨l,m⟩:=kY (z:=aF.zero) (λj g=>o j g g);rw[l,m];simp only[go_sem,seval,aF.cells,aF.zero]
def aU(r:ay)(n:Int):aF:=jS aF.no n aF.zero r.ns
def bE(r:ay)(n:Int):Bool:=decide (0<=lT aF.no n r.ns)
def pX(r:ay)(n:Int)(e:r.small):Sq 101 [] [.agg r.cells,.I n] [] (.bD [.agg (aU r n).cells,.bool (bE r n)]):=by
 have h:=MJ r.ns n (by have:=e.2.1;omega);obtain⟨g,c⟩:=aL (jS aF.no n aF.zero r.ns);simp only[aU,bE];rw[<-c]at h |-;simp only[aF.cells]at h |-;simp only[ay.cells];refine aX 18 2 [.cell 4 52,.tmp 5] mixed func101 ?_;exact lX aK h
structure jk where
 i:aF
 q:Int
@[reducible] def jk.cells(x:jk):List D:=[.I x.i.no,.I x.i.cur,.I x.i.mult,.I x.i.add,.I x.i.set,.I x.i.aS,.I x.i.s0,.I x.i.s1,.I x.i.s2,.I x.i.s3,.I x.i.s4,.I x.i.s5,.I x.q]
def KT(r:ay)(w c:Int)(p:aE):Bool:=bE r p.inst&&(p.who==w&&(aU r p.inst).cur==c)
def pq(r:ay)(w c:Int)(qs:List aE):List jk:=(qs.filter (KT r w c)).map λp=>⟨aU r p.inst,p.aQ⟩
def vJ(p:aE):Bool:=!decide (p.aQ < -1099511627776)&&!decide (1099511627776<p.aQ)
def IW(r:ay)(qs:List aE):Int:=if r.okB then(if qs.all vJ then 0 else 3)else 14
def KU(r:ay)(w c:Int)(l:List aE){i:Nat}(h:i<l.length):pq r w c (l.take (i+1))=if KT r w c l[i]then pq r w c (l.take i)++[⟨aU r l[i].inst,l[i].aQ⟩]else pq r w c (l.take i):=by
 simp only[pq];rw[j7 h,pL,jv];cases e:KT r w c l[i]<;>simp[filter,e]
def zF(r:ay)(w c:Int)(l:List aE):(pq r w c l).length<=l.length:=by
 simp only[pq,qO];exact length_filter_le _ _
def Spec.frozen{P:Program}{f:FuncId}{ds c:List D}{d:D}(h:Abs.Spec P f [] ds c d)(fz:List Nat){l:List D}{y:D}(K:(iY fz (uT [(0,d)] (vT 0 c))).t 0=y)(M:∀r,(iY fz (uT [(0,d)] (vT 0 c))).o r=l.getD r .undef):Abs.Spec P f [] ds l y:=by
 refine⟨h.1,?_⟩;intro w C x m E vs z n J p hr k;refine(h.2 w C x m E vs z n J p hr k).mono ?_;rintro e w' ⟨v,rfl,o⟩;refine⟨v,rfl,o.os,o.tape,o.output,o.size,o.old,o.part,?_⟩;obtain⟨lev,own,S,F,G,H,I,_⟩:=o.rep;have L:Inv w C x S w' lev own S (uT [(0,d)] (vT 0 c)) (λj=>if j=0 then v else Go.undef):=by
  refine⟨⟨o.os,z⟩,o.tape,o.output,o.size,o.old,o.part,F,G,λ_ _ _=>rfl,?_,?_⟩
  ·intro s;show aO _ _ (Abs.look [(0,d)] s);by_cases B:s=0
   ·subst B;simpa[Abs.look]using H
   ·simp only[Abs.look,aq B];exact .undef _
  ·intro r;show n8 _ _ _ _ _ _ r (Abs.look (vT 0 c) r);rw[rC];simpa using I r
 obtain⟨lev',S',g⟩:=Inv.abv fz L (λ_ _=>trivial);refine⟨lev',own,S',g.priv,g.mT,?_,?_,λi h=>by cases h⟩
 ·have:=g.rP 0;rw[K]at this;simpa using this
 ·intro r;have:=g.objs r;rwa[M]at this
def ay.jQ(r:ay):Prop:=r.ms.length<2^30/\r.ns.length<2^30/\r.xs.length<2^30
def ay.jQ.small{r:ay}(h:r.jQ):r.small:=⟨by have:=h.1;omega,by have:=h.2.1;omega,by have:=h.2.2;omega⟩
def tL(r:ay)(hr:r.jQ):Sq 246 [] [.agg r.cells] [.own 3 (r.ms.map av.cells),.own 12 (r.ns.map aF.cells),.own 4 (r.xs.map aD.cells)] (.agg [.ref 0,.ref 1,.ref 2]):=by
 obtain⟨l1,l2,l3⟩:=hr;simp only[ay.cells];refine aX 23 1 [.cell 2 29] mixed func246 ?_;refine s0 ?_;omega
def xI(b:aJ)(c:b.small):Sq 247 [] [.agg b.cells] [.own 7 (b.ts.map aT.cells),.own 4 (b.qs.map aE.cells)] (.agg [.I b.next,.ref 0,.ref 1]):=by
 obtain⟨l1,l2⟩:=c;simp only[aJ.cells];refine aX 20 1 [.cell 2 33] mixed func247 ?_;refine s0 ?_;omega
def RP(l:bu)(hl:l.bs.length<2^30):Sq 248 [] [.agg l.cells] [.own 4 (l.bs.map bY.cells)] (.agg [.I l.last,.ref 0]):=by
 simp only[bu.cells];refine aX 14 1 [.cell 2 36] mixed func248 ?_;refine s0 ?_;omega
def Me(x:bH)(h:x.fits):Sq 120 [] [.agg x.cells] [.own 3 (x.SH.map aH.cells),.own 8 (x.falls.map eu.cells)] (.agg [.I x.code,.I x.no,.I x.bT,.ref 0,.ref 1]):=by
 obtain⟨h1,h2⟩:=h;simp only[bH.cells];refine aX 24 1 [.cell 2 121] mixed func120 ?_;refine s0 ?_;omega
def th(x:bH)(h:x.fits):Sq 120 [] [.agg x.cells] [] (.agg x.cells):=by
 refine Spec.frozen (Me x h) [0,1] ?_ ?_
 ·simp only[bH.cells];rfl
 ·intro r;rcases r with _| _|r
  ·rfl
  ·rfl
  ·rfl
structure af.small(s:af):Prop where
 ak:s.ak.jQ
 book:s.book.small
 bp:s.bp.bs.length<2^30
 ps:s.ps.length<2^30
 calls:s.calls.length<2^30
 aZ:s.aZ.length<2^30
 aR:s.aR.length<2^30
 rs:∀x∈s.aR,x.r.fits
def L3(s:af):List D:=[.I s.now,.I s.day,.I s.phase,.ref 0,.ref 1,.ref 2,.I s.book.next,.ref 3,.ref 4,.I s.bp.last,.ref 5,.ref 6,.ref 7,.ref 8,.ref 9]
def UQ(s:af):List D:=[.own 3 (s.ak.ms.map av.cells),.own 12 (s.ak.ns.map aF.cells),.own 4 (s.ak.xs.map aD.cells),.own 7 (s.book.ts.map aT.cells),.own 4 (s.book.qs.map aE.cells),.own 4 (s.bp.bs.map bY.cells),.own 3 (pl s.ps),.own 4 (s.calls.map aB.cells),.own 5 (s.aZ.map bn.cells),.own 7 (s.aR.map bZ.cells)]
def vS(s:af)(e:s.small):Sq 118 [] [.agg s.cells] (UQ s) (.agg (L3 s)):=by
 have m:=tL s.ak e.ak;have n:=xI s.book e.book;have o:=RP s.bp e.bp;have e1:=e.ps;have e2:=e.calls;have e3:=e.aZ;have e4:=e.aR;simp only[ay.cells]at m;simp only[aJ.cells]at n;simp only[bu.cells]at o;simp only[af.cells,UQ,L3];refine aX 68 1 [.cell 2 42] mixed func118 ?_;refine so aK m ?_;refine so aK n ?_;refine so aK o ?_;refine aV ?_;refine aG.rT (S:=Unit) s.aR.length [1,2,3] [32,48,160,161,162,208,209,256,352,448,544] (λi _=>[(4,.I i)])
  (λi _=>[(64,.box [.I s.now,.I s.day,.I s.phase,.ref 160,.ref 161,.ref 162,.I s.book.next,.ref 208,.ref 209,.I s.bp.last,.ref 256,.ref 352,.ref 448,.ref 544,.ref 1056]),(1056,.own 7 ((s.aR.take i).map bZ.cells))]) (λ_ _=>True) () trivial ?_ ?_ ?_
 ·exact jh
 ·intro i _ g h l _;have p:=aM (c:=bZ.cells) s.aR g;have hr:=th s.aR[i].r (e.rs _ (dH g));have f:(s.aR.take (i+1)).map bZ.cells=(s.aR.take i).map bZ.cells++[s.aR[i].cells]:=by
   rw[j7 g,jv,map_cons,map_nil]
  have k:((s.aR.take i).map bZ.cells).length=i:=by simp;omega
  simp only[bZ.cells]at p;simp only[bH.cells]at hr;refine sc (a4 h p l k) hr ?_;refine aV ?_;refine ah.v g ?_;simp only[go_sem,seval,f,bZ.cells]
 ·intro _ j _;have t:(s.aR.take s.aR.length).map bZ.cells=s.aR.map bZ.cells:=by rw[eU]
  exact eo (a2 j t)
def aI.same(x y:aI):Bool:=x.kind==y.kind&&(x.who==y.who&&x.cur==y.cur)
def tS{x y:aI}:x.less y=true↔x.kind<y.kind\/(x.kind=y.kind/\(x.who<y.who\/(x.who=y.who/\x.cur<y.cur))):=by
 unfold aI.less;split
 ·simp;omega
 ·split<;>simp<;>omega
def Ft{x y:aI}:x.same y=true↔x.kind=y.kind/\x.who=y.who/\x.cur=y.cur:=by simp[aI.same]
def TZ{bs:List bY}(h:nI bs=true):bs.Pairwise (λx y=>x.br.less y.br=true):=by
 rw[Ay];have step:∀k (c:k+1<bs.length),bs[k].br.less bs[k+1].br=true:=λk c=>by
  have:=cg.1 h (k+1) (mem_range.2 c);rw[oq c,cU]at this;exact this.2
 have key:∀d k (c:k+d+1<bs.length),bs[k].br.less bs[k+d+1].br=true:=by
  intro d;induction d with
  |zero=>intro k c;exact step k c
  |succ d ih =>
   intro k c;have h1:=tS.1 (ih k aj);have h2:=tS.1 (step (k+d+1) c);have f:bs[k].br.less bs[k+d+1+1].br=true:=tS.2 aj;exact f
 intro i j hi hj hij;have:=key (j-i-1) i aj;have e:i+(j-i-1)+1=j:=aj
 simpa only[e]using this
def ajF{l:bu}(h:l.okB=true):nI l.bs=true/\∀z∈l.bs,bA z.sum=true:=by
 simp only[bu.okB,cU]at h;refine⟨h.1.2,λz f=>?_⟩;obtain⟨i,c,rfl⟩:=mem_iff_getElem.1 f;have:=cg.1 h.1.2 i (mem_range.2 c);have e:o8 l.bs[i]=true:=by
  rcases Nat.eq_zero_or_pos i with rfl|hp
  ·rwa[qu c]at this
  ·obtain⟨j,rfl⟩:∃j,i=j+1:=⟨i-1,by omega⟩
   rw[oq c,cU]at this;exact this.1
 simp only[o8,cU]at e;exact e.2.1
deriving instance DecidableEq for av,aF,aD,bY,aI
theorem gO:∀l m:List Int,aC (l++m)=aC l+aC m
 | [],m=>by simp[aC]
 |x::l,m=>by simp only[cons_append,aC,gO l m];omega
def gd(g:Nat):List D:=[.int .u64 ((g/18446744073709551616:Nat):Int),.int .u64 ((g%18446744073709551616:Nat):Int)]
structure af.mid(s:af):Prop where
 small:s.small
 bs:s.bp.bs.length<2^20
 qs:s.book.qs.length<2^20
 ns:s.ak.ns.length<2^20
def aqo(l:List ByteArray):List (List D):=l.map λs=>[.str s]
theorem aqp(l:List ByteArray):(aqo l).length=l.length:=by simp[aqo]
def aug(s1 s2 s3 s4 s5 y z B C h i j k:ByteArray)(l m n o p s t v x c e f g:Bool):List (ByteArray×Bool):=[(s1,l),(s2,m),(s3,n),(s4,o),(s5,p),(y,s),(z,t),(B,v),(C,x),(h,c),(i,e),(j,f),(k,g)]
def parts(a b:af):List (ByteArray×Bool):=aug ⟨#[67,108,111,99,107]⟩ ⟨#[77,101,109,98,101,114,115]⟩ ⟨#[73,110,115,116,115]⟩ ⟨#[65,115,115,101,116,115]⟩ ⟨#[78,101,120,116]⟩ ⟨#[84,114,97,100,101,115]⟩ ⟨#[80,111,115,115]⟩ ⟨#[76,97,115,116]⟩ ⟨#[66,97,108,97,110,99,101,115]⟩ ⟨#[80,108,101,100,103,101,115]⟩ ⟨#[67,97,108,108,115]⟩ ⟨#[66,105,100,115]⟩ ⟨#[83,101,97,116,115]⟩ (a.now==b.now&&(a.day==b.day&&a.phase==b.phase)) (decide (a.ak.ms=b.ak.ms)) (decide (a.ak.ns=b.ak.ns)) (decide (a.ak.xs=b.ak.xs)) (a.book.next==b.book.next) (decide (a.book.ts=b.book.ts)) (decide (a.book.qs=b.book.qs)) (a.bp.last==b.bp.last) (decide (a.bp.bs=b.bp.bs)) (decide (a.ps=b.ps)) (decide (a.calls=b.calls)) (decide (a.aZ=b.aZ)) (decide (a.aR=b.aR))
@[reducible] def awO(x:Int):List D:=[.I x]
def aox(n0 n1 c e f:Int)(g r1 r2 r3 r4 r5 r6 h i j:List (List D)):(iY [0,1,2,3,4,5,6,7,8,9] (uT [(0,.agg [.I n0,.I n1,.I c,.ref 0,.ref 1,.ref 2,.I e,.ref 3,.ref 4,.I f,.ref 5,.ref 6,.ref 7,.ref 8,.ref 9])] (vT 0 [.own 3 g,.own 12 r1,.own 4 r2,.own 7 r3,.own 4 r4,.own 4 r5,.own 3 r6,.own 4 h,.own 5 i,.own 7 j]))).t 0=.agg [.I n0,.I n1,.I c,.sl 3 g,.sl 12 r1,.sl 4 r2,.I e,.sl 7 r3,.sl 4 r4,.I f,.sl 4 r5,.sl 3 r6,.sl 4 h,.sl 5 i,.sl 7 j]:=by
 kernel_rfl
def ajc(d:D)(c r1 r2 r3 r4 r5 r6 e f g:List (List D))(r:Nat):(iY [0,1,2,3,4,5,6,7,8,9] (uT [(0,d)] (vT 0 [.own 3 c,.own 12 r1,.own 4 r2,.own 7 r3,.own 4 r4,.own 4 r5,.own 3 r6,.own 4 e,.own 5 f,.own 7 g]))).o r=[].getD r .undef:=by
 rcases r with _| _| _| _| _| _| _| _| _| _|r<;>kernel_rfl
def bg(s:af)(c:s.small):Sq 118 [] [.agg s.cells] [] (.agg s.cells):=by
 have h:=vS s c;simp only[UQ,L3]at h;simp only[af.cells];simp only[af.cells]at h;exact Spec.frozen h [0,1,2,3,4,5,6,7,8,9] (aox ..) (λr=>ajc ..)
structure Tf{T U:Type}(f:T->U):Prop where

attribute [go_sem] aqp