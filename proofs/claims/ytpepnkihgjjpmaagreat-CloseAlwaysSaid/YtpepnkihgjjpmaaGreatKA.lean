/- Parts. -/
import Derived.Test.YtpepnkihgjjpmaaGreatTY
import Derived.Test.YtpepnkihgjjpmaaGreatAB
import Derived.Shelf.Bits.Mul64
set_option linter.all false
set_option maxHeartbeats 4000000
set_option maxRecDepth 16000
namespace Go.Proofs.YtpepnkihgjjpmaaGreat
open Go.Abs Tryz
open List hiding lt max min
section
variable{α:Type}
def vC(p:Nat->Bool)(i j:Nat):Nat:=if i<j then(if p ((i+j)/2)then vC p ((i+j)/2+1) j else vC p i ((i+j)/2))else i
termination_by j-i
def Mm{p:Nat->Bool}{i j:Nat}(h:i<j):vC p i j=if p ((i+j)/2)then vC p ((i+j)/2+1) j else vC p i ((i+j)/2):=by rw[vC,aq h]
def AR{p:Nat->Bool}{i j:Nat}(h:¬i<j):vC p i j=i:=by rw[vC,au h]
def Mn{p:Nat->Bool}{i j h:Nat}(c:i<j)(e:h=(i+j)/2)(f:p h=true):vC p (h+1) j=vC p i j:=by
 subst e;rw[Mm c,f];rfl
def Rx{p:Nat->Bool}{i j h:Nat}(c:i<j)(e:h=(i+j)/2)(f:p h=false):vC p i h=vC p i j:=by
 subst e;rw[Mm c,f];rfl
theorem Dv{p:Nat->Bool}{lo:Nat}(l:∀a b,lo<=a->a<=b->p b=true->p a=true):∀(n i j:Nat),lo<=i->j-i<=n->i<=j->i<=vC p i j/\vC p i j<=j/\(∀k,i<=k->k<vC p i j->p k=true)/\(∀k,vC p i j<=k->k<j->p k=false)
 | 0,i,j,hlo,h,hij=>by
  have:i=j:=ak
  subst this;rw[AR ak];exact⟨fS _,fS _,λk e f=>by omega,λk e f=>by omega⟩
 |n+1,i,j,hlo,h,hij=>by
  by_cases g:i<j
  ·rw[Mm g];have e:i<=(i+j)/2:=ak
   have f:(i+j)/2<j:=ak
   generalize (i+j)/2=c at e f;cases m:p c with
   |true =>
    obtain⟨s,a2,a3,a4⟩:=Dv l n (c+1) j ak ak ak;simp only[if_true];refine⟨by omega,a2,λk t v=>?_,a4⟩;rcases dN c k with hk|hk
    ·exact a3 k hk v
    ·exact l k c ak hk m
   |false =>
    obtain⟨s,a2,a3,a4⟩:=Dv l n i c hlo ak e;simp only[iM,if_false];refine⟨s,by omega,a3,λk t v=>?_⟩;rcases dN k c with hk|hk
    ·exact a4 k t hk
    ·cases o:p k with
     |false=>rfl
     |true=>rw[l c k ak hk o]at m;cases m
  ·rw[AR g];exact⟨fS _,hij,λk e f=>by omega,λk e f=>by omega⟩
theorem Gp{p:Nat->Bool}:∀(n i j:Nat),j-i<=n->i<=j->i<=vC p i j/\vC p i j<=j
 | 0,i,j,h,hij=>by
  rw[AR ak];exact⟨fS _,hij⟩
 |n+1,i,j,h,hij=>by
  by_cases e:i<j
  ·rw[Mm e];have f:i<=(i+j)/2:=ak
   have g:(i+j)/2<j:=ak
   generalize (i+j)/2=c at f g;split
   ·have:=Gp (p:=p) n (c+1) j ak ak;omega
   ·have:=Gp (p:=p) n i c ak ak;omega
  ·rw[AR e];exact⟨fS _,hij⟩
def t2(q:α->α->Bool)(x y:Option α):Bool:=match x,y with
 |some x,some y=>q x y
 | _,_=>false
def cutAt(lt:α->α->Bool)(X Y:List α):Nat:=
 vC (λc=>t2 (λy x=>!lt y x) Y[(X.length+Y.length)/2-1-c]? X[c]?) (if X.length>(X.length+Y.length)/2 then(X.length+Y.length)/2-Y.length else 0) (if X.length>(X.length+Y.length)/2 then(X.length+Y.length)/2 else X.length)
def B6(lt:α->α->Bool)(X Y:List α):cutAt lt X Y<=X.length/\cutAt lt X Y<=(X.length+Y.length)/2/\(X.length+Y.length)/2-cutAt lt X Y<=Y.length:=by
 have key:∀p,vC p (if X.length>(X.length+Y.length)/2 then(X.length+Y.length)/2-Y.length else 0) (if X.length>(X.length+Y.length)/2 then(X.length+Y.length)/2 else X.length)<=X.length /\
   vC p (if X.length>(X.length+Y.length)/2 then(X.length+Y.length)/2-Y.length else 0) (if X.length>(X.length+Y.length)/2 then(X.length+Y.length)/2 else X.length)<=(X.length+Y.length)/2 /\
   (X.length+Y.length)/2-vC p (if X.length>(X.length+Y.length)/2 then(X.length+Y.length)/2-Y.length else 0) (if X.length>(X.length+Y.length)/2 then(X.length+Y.length)/2 else X.length)<=Y.length:=by
  intro p;split
  ·have:=Gp (p:=p) _ ((X.length+Y.length)/2-Y.length) ((X.length+Y.length)/2) (fS _) ak;omega
  ·have:=Gp (p:=p) _ 0 X.length (fS _) ak;omega
 exact key _
def F0(lt:α->α->Bool):Nat->List α->List α->List α
 | 0,X,Y=>X++Y
 |n+1,X,Y =>
  if X.length=0\/Y.length=0 then X++Y
  else if X.length=1 then Y.take (vC (λc=>t2 lt Y[c]? X[0]?) 0 Y.length)++X++Y.drop (vC (λc=>t2 lt Y[c]? X[0]?) 0 Y.length)
  else if Y.length=1 then X.take (vC (λc=>t2 (λy x=>!lt y x) Y[0]? X[c]?) 0 X.length)++Y++X.drop (vC (λc=>t2 (λy x=>!lt y x) Y[0]? X[c]?) 0 X.length)
  else F0 lt n (X.take (cutAt lt X Y)) (Y.take ((X.length+Y.length)/2-cutAt lt X Y))++F0 lt n (X.drop (cutAt lt X Y)) (Y.drop ((X.length+Y.length)/2-cutAt lt X Y))
def xH(lt:α->α->Bool)(l:List α):Prop:=l.Pairwise λx y=>lt y x=false
structure Ord(lt:α->α->Bool):Prop where
 asy:∀x y,lt x y=true->lt y x=false
 Wv:∀x y z,lt y x=false->lt z y=false->lt z x=false
def xH.at{lt:α->α->Bool}{l:List α}(h:xH lt l){i j:Nat}{x y:α}(c:i<j)(g:l[i]?=some x)(k:l[j]?=some y):lt y x=false:=by
 obtain⟨e,rfl⟩:=gU.1 g;obtain⟨f,rfl⟩:=gU.1 k;exact Gg.1 h i j e f c
theorem Ord.refl{lt:α->α->Bool}(c:Ord lt)(x:α):lt x x=false:=by
 cases h:lt x x with
 |false=>rfl
 |true=>rw[c.asy x x h]at h;cases h
def xH.UA{lt:α->α->Bool}(f:Ord lt){l:List α}(h:xH lt l){i j:Nat}{x y:α}(hij:i<=j)(e:l[i]?=some x)(c:l[j]?=some y):lt y x=false:=by
 rcases dN i j with hlt|hge
 ·exact h.at hlt e c
 ·obtain rfl:i=j:=ak
  rw[e]at c;cases c;exact f.refl x
def kJ{l:List α}{n:Nat}{x:α}(h:x∈l.take n):∃i,i<n/\l[i]?=some x:=by
 obtain⟨i,c⟩:=mem_iff_getElem?.1 h;rw[getElem?_take]at c;split at c
 ·exact⟨i,by assumption,c⟩
 ·cases c
def iW{l:List α}{n:Nat}{x:α}(h:x∈l.drop n):∃i,n<=i/\l[i]?=some x:=by
 obtain⟨i,c⟩:=mem_iff_getElem?.1 h;rw[getElem?_drop]at c;exact⟨n+i,by omega,c⟩
def mm{l:List α}{i:Nat}(h:i<l.length):∃x,l[i]?=some x:=⟨l[i],fj h⟩
def dJ{l:List α}{i:Nat}{x:α}(h:l[i]?=some x):i<l.length:=(gU.1 h).1
def Rg(lt:α->α->Bool)(p:α->Bool):Prop:=∀a b,p a=true->p b=true->lt a b=false
theorem yx{lt:α->α->Bool}{p:α->Bool}(i:Rg lt p){A B:List α}(h:∀a∈A,∀b∈B,lt b a=true):(B++A).filter p=(A++B).filter p:=by
 rw[nK,nK];cases f:A.filter p with
 |nil=>simp
 |cons a r =>
  cases g:B.filter p with
  |nil=>simp
  |cons b t =>
   have c:=mem_filter.1 (f ▸ mem_cons_self:a∈A.filter p);have e:=mem_filter.1 (g ▸ mem_cons_self:b∈B.filter p);have:=i b a e.2 c.2;rw[h a c.1 b e.1]at this;cases this
theorem CZ{lt:α->α->Bool}(m:Ord lt):∀(n:Nat)(X Y:List α),X.length+Y.length<=n->xH lt X->xH lt Y->xH lt (F0 lt n X Y)/\(F0 lt n X Y).Perm (X++Y)/\∀p,Rg lt p->(F0 lt n X Y).filter p=(X++Y).filter p
 | 0,X,Y,h,hX,hY=>by
  have:X=[]:=length_eq_zero_iff.1 ak;subst this;simp only[F0,nil_append];exact⟨hY,.refl _,λ_ _=>by first|rfl|trivial⟩
 |n+1,X,Y,h,hX,hY=>by
  unfold F0;split
  ·rename_i t;refine⟨?_,.refl _,λ_ _=>rfl⟩;rcases t with t|t<;>rw[length_eq_zero_iff]at t<;>subst t<;>simpa
  rename_i t;split
  ·rename_i D;obtain⟨x,rfl⟩:=length_eq_one_iff.1 D
   have f:=Dv (p:=λc=>t2 lt Y[c]? [x][0]?) (lo:=0) (by
    intro a b _ J f;simp only[getElem?_cons_zero]at f |-;cases O:Y[b]? with
    |none=>simp[t2,O]at f
    |some y =>
     simp only[t2,O]at f;obtain⟨z,R⟩:=mm (l:=Y) (i:=a) (by have:=dJ O;omega);simp only[R,t2];cases H:lt z x with
     |true=>rfl
     |false=>rw[m.Wv x z y H (hY.UA m J R O)]at f;cases f) _ 0 Y.length (fS _) (fS _) ak
   generalize vC (λc=>t2 lt Y[c]? [x][0]?) 0 Y.length=p at f;obtain⟨-,b2,M,N⟩:=f;simp only[getElem?_cons_zero]at M N;refine⟨?_,?_,λq H=>?_⟩
   ·unfold xH;rw[dz,pairwise_append];refine⟨hY.sublist (take_sublist _ _),?_,?_⟩
    ·rw[singleton_append,kB];refine⟨λy O=>?_,hY.sublist (drop_sublist _ _)⟩;obtain⟨i,E,g⟩:=iW O;have:=N i E (dJ g);simpa[t2,g]using this
    ·intro a o b f;obtain⟨i,E,g⟩:=kJ o;rw[singleton_append,mem_cons]at f;rcases f with rfl|f
     ·have:=M i ak E;simp only[t2,g]at this;exact m.asy _ _ this
     ·obtain⟨j,T,G⟩:=iW f;exact hY.UA m ak g G
   ·have D:(Y.take p++[x]++Y.drop p).Perm ([x]++Y.take p++Y.drop p):=Perm.append_right _ perm_append_comm;refine D.trans ?_;rw[dz,mj]
   ·have:=yx H (A:=[x]) (B:=Y.take p) λa o b f=>by
     obtain rfl:=gV.1 o;obtain⟨i,E,g⟩:=kJ f;have:=M i ak E;simpa[t2,g]using this
    rw[nK,this,<-nK,dz,mj]
  rename_i D;split
  ·rename_i F;obtain⟨y,rfl⟩:=length_eq_one_iff.1 F
   have f:=Dv (p:=λc=>t2 (λy x=>!lt y x) [y][0]? X[c]?) (lo:=0) (by
    intro a b _ J f;simp only[getElem?_cons_zero]at f |-;cases I:X[b]? with
    |none=>simp[t2,I]at f
    |some x =>
     simp only[t2,I,gD]at f;obtain⟨z,R⟩:=mm (l:=X) (i:=a) (by have:=dJ I;omega);simp only[R,t2,gD]
     exact m.Wv z x y (hX.UA m J R I) f) _ 0 X.length (fS _) (fS _) ak
   generalize vC (λc=>t2 (λy x=>!lt y x) [y][0]? X[c]?) 0 X.length=p at f;obtain⟨-,b2,M,N⟩:=f;simp only[getElem?_cons_zero]at M N;refine⟨?_,?_,λq H=>?_⟩
   ·unfold xH;rw[dz,pairwise_append];refine⟨hX.sublist (take_sublist _ _),?_,?_⟩
    ·rw[singleton_append,kB];refine⟨λx I=>?_,hX.sublist (drop_sublist _ _)⟩;obtain⟨i,E,g⟩:=iW I;have:=N i E (dJ g);simp only[t2,g,Bool.not_eq_false']at this;exact m.asy _ _ this
    ·intro a o b f;obtain⟨i,E,g⟩:=kJ o;rw[singleton_append,mem_cons]at f;rcases f with rfl|f
     ·have:=M i ak E;simpa[t2,g]using this
     ·obtain⟨j,T,G⟩:=iW f;exact hX.UA m ak g G
   ·have D:(X.take p++[y]++X.drop p).Perm (X.take p++(X.drop p++[y])):=by
     rw[dz];exact Perm.append_left _ perm_append_comm
    refine D.trans ?_;rw[<-dz,mj]
   ·have:=yx H (A:=X.drop p) (B:=[y]) λa o b f=>by
     obtain rfl:=gV.1 f;obtain⟨i,E,g⟩:=iW o;have:=N i E (dJ g);simpa[t2,g]using this
    rw[dz,nK,this,<-nK,<-dz,mj]
  rename_i F;obtain⟨c1,c2,c3⟩:=B6 lt X Y;have hl0:X.length≠0/\Y.length≠0:=ak
  have Q:∀a b,(X.length>(X.length+Y.length)/2->(X.length+Y.length)/2-Y.length<=a)->a<=b->t2 (λy x=>!lt y x) Y[(X.length+Y.length)/2-1-b]? X[b]?=true->t2 (λy x=>!lt y x) Y[(X.length+Y.length)/2-1-a]? X[a]?=true:=by
   intro a b o J f;cases I:X[b]? with
   |none=>simp[t2,I]at f
   |some x =>
    have hbx:=dJ I;cases O:Y[(X.length+Y.length)/2-1-b]? with
    |none=>simp[t2,I,O]at f
    |some y =>
     simp only[t2,I,O,gD]at f;obtain⟨z,R⟩:=mm (l:=X) (i:=a) ak
     obtain⟨u,P⟩:=mm (l:=Y) (i:=(X.length+Y.length)/2-1-a) (by
      rcases dN ((X.length+Y.length)/2) X.length with hlt|hge
      ·have:=o hlt;omega
      ·omega)
     simp only[R,P,t2,gD];exact m.Wv z y u (m.Wv z x y (hX.UA m J R I) f) (hY.UA m ak O P)
  -- what the cut tells
  have K:(∀k,(X.length>(X.length+Y.length)/2->(X.length+Y.length)/2-Y.length<=k)->k<cutAt lt X Y->t2 (λy x=>!lt y x) Y[(X.length+Y.length)/2-1-k]? X[k]?=true) /\
    (∀k,cutAt lt X Y<=k->k<(X.length+Y.length)/2->k<X.length->t2 (λy x=>!lt y x) Y[(X.length+Y.length)/2-1-k]? X[k]?=false):=by
   unfold cutAt;split
   ·rename_i C;obtain⟨-,-,M,N⟩:=Dv (p:=λc=>t2 (λy x=>!lt y x) Y[(X.length+Y.length)/2-1-c]? X[c]?) (lo:=(X.length+Y.length)/2-Y.length) (λa b D F S=>Q a b (λ_=>D) F S) _ ((X.length+Y.length)/2-Y.length) ((X.length+Y.length)/2) (fS _) (fS _) ak;exact⟨λk D F=>M k (D C) F,λk D F S=>N k D F⟩
   ·rename_i C;obtain⟨-,-,M,N⟩:=Dv (p:=λc=>t2 (λy x=>!lt y x) Y[(X.length+Y.length)/2-1-c]? X[c]?) (lo:=0) (λa b D F S=>Q a b (λh=>(C h).elim) F S) _ 0 X.length (fS _) (fS _) ak;exact⟨λk D F=>M k ak F,λk D F S=>N k D S⟩
  have L:X.length>(X.length+Y.length)/2->(X.length+Y.length)/2-Y.length<=cutAt lt X Y:=by
   intro C;unfold cutAt;rw[aq C,aq C];exact(Gp _ _ _ (fS _) ak).1
  generalize cutAt lt X Y=s at c1 c2 c3 K L;generalize hh:(X.length+Y.length)/2=t at c2 c3 K L;obtain⟨ac,ad⟩:=K;have Z:=hX.sublist (take_sublist s X);have W:=hX.sublist (drop_sublist s X);have ab:=hY.sublist (take_sublist (t-s) Y);have aa:=hY.sublist (drop_sublist (t-s) Y);obtain⟨r1,r2,r5⟩:=CZ m n (X.take s) (Y.take (t-s)) (by simp only[fZ];omega) Z ab;obtain⟨r3,r4,r6⟩:=CZ m n (X.drop s) (Y.drop (t-s)) (by simp only[iN];omega) W aa;have V:∀a∈X.drop s,∀b∈Y.take (t-s),lt b a=true:=by
   intro b f a o;obtain⟨i,E,g⟩:=kJ o;obtain⟨j,T,G⟩:=iW f;have hjx:=dJ G;have hiy:=dJ g;have H:=ad s (fS _) ak ak;obtain⟨u,P⟩:=mm (l:=X) (i:=s) ak;obtain⟨v,U⟩:=mm (l:=Y) (i:=t-1-s) ak;simp only[t2,P,U,Bool.not_eq_false']at H;cases hc:lt a b with
   |true=>rfl
   |false=>rw[m.Wv u a v (m.Wv u b a (hX.UA m T P G) hc) (hY.UA m ak g U)]at H;cases H
  refine⟨?_,?_,λp hp=>?_⟩
  ·unfold xH;rw[pairwise_append];refine⟨r1,r3,?_⟩;intro a o b f;have o:=r2.mem_iff.1 o;have f:=r4.mem_iff.1 f;rw[mem_append]at o f;rcases o with o|o<;>rcases f with f|f
   ·obtain⟨i,E,g⟩:=kJ o;obtain⟨j,T,G⟩:=iW f;exact hX.UA m ak g G
   ·obtain⟨i,E,g⟩:=kJ o;obtain⟨j,T,G⟩:=iW f;have hjy:=dJ G
    -- the last of the front of X against the first of the back of Y
    have H:=ac (s-1) (λC=>by have:=L C;omega) ak;obtain⟨u,P⟩:=mm (l:=X) (i:=s-1) ak;cases U:Y[t-1-(s-1)]? with
    |none=>simp[t2,P,U]at H
    |some v =>
     simp only[t2,P,U,gD]at H;exact m.Wv a u b (hX.UA m ak g P) (m.Wv u v b H (hY.UA m ak U G))
   ·exact m.asy _ _ (V b f a o)
   ·obtain⟨i,E,g⟩:=kJ o;obtain⟨j,T,G⟩:=iW f;exact hY.UA m ak g G
  ·refine(r2.append r4).trans ?_;have e1:(X.take s++Y.take (t-s)++(X.drop s++Y.drop (t-s))).Perm (X.take s++(X.drop s++Y.take (t-s))++Y.drop (t-s)):=by
    simp only[dz];refine Perm.append_left _ ?_;rw[<-dz,<-dz];exact Perm.append_right _ perm_append_comm
   refine e1.trans (Perm.of_eq ?_);rw[<-dz,mj,dz,mj]
  ·rw[nK,r5 p hp,r6 p hp,<-nK];have e:X++Y=X.take s++(X.drop s++Y.take (t-s))++Y.drop (t-s):=by
    rw[<-dz,mj,dz,mj]
   have w:=yx hp V;rw[nK,nK]at w;rw[e];simp only[nK,dz]at w |-;rw[<-dz ((Y.take (t-s)).filter p),w,dz]
def Ac(lt:α->α->Bool)(x:α):List α->List α
 | []=>[x]
 |y::R=>if lt x y then y::Ac lt x R else x::y::R
theorem DI(lt:α->α->Bool)(x:α):∀R:List α,(Ac lt x R).Perm (x::R)
 | []=>.refl _
 |y::R=>by
  unfold Ac;split
  ·exact((DI lt x R).cons y).trans (Perm.swap _ _ _)
  ·exact .refl _
theorem Pa{lt:α->α->Bool}(g:Ord lt)(x:α):∀R:List α,R.Pairwise (λa b=>lt a b=false)->(Ac lt x R).Pairwise (λa b=>lt a b=false)
 | [],_=>by simp[Ac]
 |y::R,h=>by
  have f:=kB.1 h;unfold Ac;split
  ·rename_i c;rw[kB];refine⟨λb e=>?_,Pa g x R f.2⟩;rcases mem_cons.1 ((DI lt x R).mem_iff.1 e)with rfl|e
   ·exact g.asy _ _ c
   ·exact f.1 b e
  ·rename_i c;have c:lt x y=false:=by simpa using c
   rw[kB];refine⟨λb e=>?_,h⟩;rcases mem_cons.1 e with rfl|e
   ·exact c
   ·exact g.Wv b y x (f.1 b e) c
theorem O9{lt:α->α->Bool}{p:α->Bool}(c:Rg lt p)(x:α):∀R:List α,(Ac lt x R).filter p=(x::R).filter p
 | []=>rfl
 |y::R=>by
  unfold Ac;split
  ·rename_i h;have:=yx c (A:=[y]) (B:=[x]) λa e b f=>by rw[gV.1 e,gV.1 f];exact h
   rw[show y::Ac lt x R=[y]++Ac lt x R from rfl,nK,O9 c x R,show x::y::R=([x]++[y])++R from rfl,nK,this,<-nK,<-nK];rfl
  ·rfl
def u0(lt:α->α->Bool)(R:List α):List α->List α
 | []=>R
 |x::X=>u0 lt (Ac lt x R) X
def Bb(lt:α->α->Bool)(X:List α):List α:=(u0 lt [] X).reverse
theorem DH(lt:α->α->Bool):∀(X R:List α),(u0 lt R X).Perm (X++R)
 | [],R=>.refl _
 |x::X,R=>by
  simp only[u0];refine(DH lt X _).trans ?_;refine((DI lt x R).append_left X).trans ?_;simp only[cons_append];exact perm_middle
theorem O8{lt:α->α->Bool}(c:Ord lt):∀(X R:List α),R.Pairwise (λa b=>lt a b=false)->(u0 lt R X).Pairwise (λa b=>lt a b=false)
 | [],R,h=>h
 |x::X,R,h=>O8 c X _ (Pa c x R h)
def O7(lt:α->α->Bool)(X R:List α):(u0 lt R X).length=X.length+R.length:=by rw[(DH lt X R).length_eq,cR]
theorem O6{lt:α->α->Bool}{p:α->Bool}(c:Rg lt p):∀(X R:List α),(u0 lt R X).filter p=(X.reverse++R).filter p
 | [],R=>rfl
 |x::X,R=>by
  simp only[u0,reverse_cons,dz];rw[O6 c X,nK,O9 c,<-nK];rfl
def Hf{lt:α->α->Bool}{p:α->Bool}(c:Rg lt p)(X:List α):(Bb lt X).filter p=X.filter p:=by
 rw[Bb,filter_reverse,O6 c,append_nil,filter_reverse,reverse_reverse]
def zH(lt:α->α->Bool)(X:List α):(Bb lt X).Perm X:=by
 refine(reverse_perm _).trans ?_;simpa using DH lt X []
def Hg{lt:α->α->Bool}(c:Ord lt)(X:List α):xH lt (Bb lt X):=by
 unfold xH Bb;rw[pairwise_reverse];exact O8 c X [] Pairwise.nil
def yE(lt:α->α->Bool)(X:List α):(Bb lt X).length=X.length:=(zH lt X).length_eq
theorem CY(lt:α->α->Bool):∀(n:Nat)(X Y:List α),(F0 lt n X Y).Perm (X++Y)
 | 0,X,Y=>.refl _
 |n+1,X,Y=>by
  unfold F0;split
  ·exact .refl _
  split
  ·generalize vC _ 0 Y.length=p;have c:(Y.take p++X++Y.drop p).Perm (X++Y.take p++Y.drop p):=Perm.append_right _ perm_append_comm;refine c.trans ?_;rw[dz,mj]
  split
  ·generalize vC _ 0 X.length=p;have c:(X.take p++Y++X.drop p).Perm (X.take p++(X.drop p++Y)):=by
    rw[dz];exact Perm.append_left _ perm_append_comm
   refine c.trans ?_;rw[<-dz,mj]
  generalize cutAt lt X Y=s;generalize (X.length+Y.length)/2=h0;refine((CY lt n _ _).append (CY lt n _ _)).trans ?_;have e:(X.take s++Y.take (h0-s)++(X.drop s++Y.drop (h0-s))).Perm (X.take s++(X.drop s++Y.take (h0-s))++Y.drop (h0-s)):=by
   simp only[dz];refine Perm.append_left _ ?_;rw[<-dz,<-dz];exact Perm.append_right _ perm_append_comm
  refine e.trans (Perm.of_eq ?_);rw[<-dz,mj,dz,mj]
def abI(lt:α->α->Bool)(n:Nat)(X Y:List α):(F0 lt n X Y).length=X.length+Y.length:=by rw[(CY lt n X Y).length_eq,cR]
theorem CX(lt:α->α->Bool):∀(n m:Nat)(X Y:List α),X.length+Y.length<=n->X.length+Y.length<=m->F0 lt n X Y=F0 lt m X Y
 | 0,m,X,Y,h,_=>by
  have c:X=[]:=length_eq_zero_iff.1 ak;have e:Y=[]:=length_eq_zero_iff.1 ak;subst c;subst e;cases m<;>simp[F0]
 |n+1,0,X,Y,_,h=>by
  have c:X=[]:=length_eq_zero_iff.1 ak;have e:Y=[]:=length_eq_zero_iff.1 ak;subst c;subst e;simp[F0]
 |n+1,m+1,X,Y,h,h'=>by
  by_cases f:X.length=0\/Y.length=0
  ·simp only[F0,aq f]
  by_cases c:X.length=1
  ·simp only[F0,au f,aq c]
  by_cases e:Y.length=1
  ·simp only[F0,au f,au c,aq e]
  simp only[F0,au f,au c,au e];obtain⟨c1,c2,c3⟩:=B6 lt X Y;rw[CX lt n m _ _ (by simp only[fZ];omega) (by simp only[fZ];omega),CX lt n m (X.drop _) _ (by simp only[iN];omega) (by simp only[iN];omega)]
def BK(lt:α->α->Bool)(X Y:List α):List α:=F0 lt (X.length+Y.length) X Y
def C0(lt:α->α->Bool)(X Y:List α):(BK lt X Y).length=X.length+Y.length:=abI _ _ _ _
def QL(lt:α->α->Bool)(X Y:List α):(BK lt X Y).Perm (X++Y):=CY _ _ _ _
def NJ{lt:α->α->Bool}(f:Ord lt){X Y:List α}(c:xH lt X)(e:xH lt Y):xH lt (BK lt X Y):=(CZ f _ X Y (fS _) c e).1
def NI{lt:α->α->Bool}(f:Ord lt){p:α->Bool}(g:Rg lt p){X Y:List α}(c:xH lt X)(e:xH lt Y):(BK lt X Y).filter p=(X++Y).filter p:=(CZ f _ X Y (fS _) c e).2.2 p g
def IW(lt:α->α->Bool)(Y:List α):BK lt [] Y=Y:=by unfold BK;cases h:([]:List α).length+Y.length<;>simp[F0]
def QK(lt:α->α->Bool)(X:List α):BK lt X []=X:=by unfold BK;cases h:X.length+([]:List α).length<;>simp[F0]
theorem abJ(lt:α->α->Bool)(x:α){Y:List α}(hY:Y.length≠0):BK lt [x] Y=Y.take (vC (λc=>t2 lt Y[c]? (some x)) 0 Y.length)++[x]++Y.drop (vC (λc=>t2 lt Y[c]? (some x)) 0 Y.length):=by
 unfold BK;rw[show[x].length+Y.length=Y.length+1 by simp;omega];rw[F0,au (by simp only[length_cons,length_nil];omega),aq (by simp)];simp
theorem Za(lt:α->α->Bool){X:List α}(hX:X.length≠0)(e:X.length≠1)(y:α):BK lt X [y]=X.take (vC (λc=>t2 (λy x=>!lt y x) (some y) X[c]?) 0 X.length)++[y]++X.drop (vC (λc=>t2 (λy x=>!lt y x) (some y) X[c]?) 0 X.length):=by
 unfold BK;rw[show X.length+[y].length=X.length+1 by simp];rw[F0,au (by simp only[length_cons,length_nil];omega),au e,aq (by simp)];simp
def abK(lt:α->α->Bool){X Y:List α}(h1:2<=X.length)(h2:2<=Y.length):BK lt X Y=BK lt (X.take (cutAt lt X Y)) (Y.take ((X.length+Y.length)/2-cutAt lt X Y))++BK lt (X.drop (cutAt lt X Y)) (Y.drop ((X.length+Y.length)/2-cutAt lt X Y)):=by
 obtain⟨c1,c2,c3⟩:=B6 lt X Y;obtain⟨n,c⟩:∃n,X.length+Y.length=n+1:=⟨X.length+Y.length-1,by omega⟩
 unfold BK;rw[c,F0,au ak,au ak,au ak,<-c];rw[CX lt n _ (X.take _) _ (by simp only[fZ];omega) (fS _),CX lt n _ (X.drop _) _ (by simp only[iN];omega) (fS _)]
def zY(lt:α->α->Bool):Nat->List α->List α
 | 0,l=>Bb lt l
 |n+1,l=>if 20<=l.length then Bb lt (l.take 20)++zY lt n (l.drop 20)else Bb lt l
def nr(lt:α->α->Bool)(bs:Nat):Nat->List α->List α
 | 0,l=>l
 |n+1,l=>if 2*bs<=l.length then BK lt (l.take bs) ((l.drop bs).take bs)++nr lt bs n (l.drop (2*bs))else if bs<l.length then BK lt (l.take bs) (l.drop bs)else l
def B7(lt:α->α->Bool):Nat->Nat->List α->List α
 | 0,_,l=>l
 |n+1,bs,l=>if bs<l.length then B7 lt n (2*bs) (nr lt bs l.length l)else l
def LQ(lt:α->α->Bool)(l:List α):List α:=B7 lt l.length 20 (zY lt l.length l)
theorem Du(lt:α->α->Bool):∀(n:Nat)(l:List α),(zY lt n l).Perm l
 | 0,l=>zH lt l
 |n+1,l=>by
  unfold zY;split
  ·refine((zH lt _).append (Du lt n _)).trans ?_;rw[mj]
  ·exact zH lt l
theorem Bj(lt:α->α->Bool)(bs:Nat):∀(n:Nat)(l:List α),(nr lt bs n l).Perm l
 | 0,l=>.refl _
 |n+1,l=>by
  unfold nr;split
  ·refine((QL lt _ _).append (Bj lt bs n _)).trans (Perm.of_eq ?_);rw[dz,show l.drop (2*bs)=(l.drop bs).drop bs by rw[drop_drop];congr 1;omega,mj,mj]
  split
  ·refine(QL lt _ _).trans ?_;rw[mj]
  ·exact .refl _
theorem KC(lt:α->α->Bool):∀(n bs:Nat)(l:List α),(B7 lt n bs l).Perm l
 | 0,_,l=>.refl _
 |n+1,bs,l=>by
  unfold B7;split
  ·exact(KC lt n _ _).trans (Bj lt bs _ l)
  ·exact .refl _
def zl(lt:α->α->Bool)(l:List α):(LQ lt l).Perm l:=(KC lt _ _ _).trans (Du lt _ _)
def Xp(lt:α->α->Bool)(n:Nat)(l:List α):(zY lt n l).length=l.length:=(Du lt n l).length_eq
def vV(lt:α->α->Bool)(bs n:Nat)(l:List α):(nr lt bs n l).length=l.length:=(Bj lt bs n l).length_eq
def Uf(lt:α->α->Bool)(l:List α):(LQ lt l).length=l.length:=(zl lt l).length_eq
inductive WS(lt:α->α->Bool)(bs:Nat):List α->Prop
 |last (l:List α):l.length<=bs->xH lt l->WS lt bs l
 |more (A B:List α):A.length=bs->xH lt A->WS lt bs B->WS lt bs (A++B)
theorem Gm{lt:α->α->Bool}(c:Ord lt):∀(n:Nat)(l:List α),l.length<=n->WS lt 20 (zY lt n l)
 | 0,l,h=>.last _ (by simp only[zY,yE];omega) (Hg c _)
 |n+1,l,h=>by
  unfold zY;split
  ·exact .more _ _ (by rw[yE,fZ];omega) (Hg c _) (Gm c n _ (by simp only[iN];omega))
  ·exact .last _ (by rw[yE];omega) (Hg c _)
theorem DW{lt:α->α->Bool}(f:Ord lt){bs:Nat}(j:0<bs):∀(n:Nat)(l:List α),l.length<=n->WS lt bs l->WS lt (2*bs) (nr lt bs n l)
 | 0,l,h,c=>by
  have:l=[]:=length_eq_zero_iff.1 ak;subst this;exact .last _ (by simp[nr]) (by simp[nr,xH])
 |n+1,l,h,c=>by
  unfold nr;cases c with
  |last _ h1 h2 =>
   rw[au ak,au ak];exact .last _ ak h2
  |more A B h1 h2 i =>
   have k:(A++B).take bs=A:=by rw[<-h1];simp
   have t2:(A++B).drop bs=B:=by rw[<-h1];simp
   have t3:(A++B).drop (2*bs)=B.drop bs:=by rw[show 2*bs=bs+bs by omega,<-drop_drop,t2]
   rw[k,t2,t3];cases i with
   |last _ k1 k2 =>
    split
    ·rename_i c;have:B.length=bs:=by rw[cR]at c;omega
     rw[take_of_length_le ak,drop_of_length_le ak];have e:nr lt bs n ([]:List α)=[]:=length_eq_zero_iff.1 (by rw[vV];rfl);rw[e,append_nil];exact .last _ (by rw[C0];omega) (NJ f h2 k2)
    split
    ·exact .last _ (by rw[C0];omega) (NJ f h2 k2)
    ·rename_i c g;rw[cR]at g;have:B=[]:=length_eq_zero_iff.1 ak;subst this;rw[append_nil];exact .last _ ak h2
   |more B C k1 k2 k3 =>
    rw[aq (by simp only[cR];omega)];rw[show(B++C).take bs=B by rw[<-k1];simp,show(B++C).drop bs=C by rw[<-k1];simp];exact .more _ _ (by rw[C0];omega) (NJ f h2 k2) (DW f j n C (by simp only[cR]at h;omega) k3)
theorem Od{lt:α->α->Bool}{p:α->Bool}(c:Rg lt p):∀(n:Nat)(l:List α),(zY lt n l).filter p=l.filter p
 | 0,l=>Hf c l
 |n+1,l=>by
  unfold zY;split
  ·rw[nK,Hf c,Od c n,<-nK,mj]
  ·exact Hf c l
theorem DX{lt:α->α->Bool}(c:Ord lt){p:α->Bool}(f:Rg lt p){bs:Nat}:∀(n:Nat)(l:List α),WS lt bs l->(nr lt bs n l).filter p=l.filter p
 | 0,l,g=>rfl
 |n+1,l,g=>by
  unfold nr;cases g with
  |last _ h1 h2 =>
   split
   ·have:l.length=0\/l.length≠0:=ak
    have i:l=[]:=length_eq_zero_iff.1 ak;subst i;simp only[take_nil,drop_nil,IW,nil_append];exact DX c f n _ (.last _ (by simp) (by simp[xH]))
   ·rw[au ak]
  |more A B h1 h2 h =>
   have j:(A++B).take bs=A:=by rw[<-h1];simp
   have t2:(A++B).drop bs=B:=by rw[<-h1];simp
   have t3:(A++B).drop (2*bs)=B.drop bs:=by rw[show 2*bs=bs+bs by omega,<-drop_drop,t2]
   rw[j,t2,t3];cases h with
   |last _ k1 k2 =>
    split
    ·rename_i g;have:B.length=bs:=by rw[cR]at g;omega
     rw[take_of_length_le ak,drop_of_length_le ak];have e:nr lt bs n ([]:List α)=[]:=length_eq_zero_iff.1 (by rw[vV];rfl);rw[e,append_nil,NI c f h2 k2]
    split
    ·rw[NI c f h2 k2]
    ·rfl
   |more B C k1 k2 k3 =>
    rw[aq (by simp only[cR];omega)];rw[show(B++C).take bs=B by rw[<-k1];simp,show(B++C).drop bs=C by rw[<-k1];simp];rw[nK,NI c f h2 k2,DX c f n C k3,<-nK,dz]
theorem WS.srt{lt:α->α->Bool}{bs:Nat}{l:List α}(h:WS lt bs l)(c:l.length<=bs):xH lt l:=by
 cases h with
 |last _ h1 h2=>exact h2
 |more A B h1 h2 h3 =>
  rw[cR]at c;have:B=[]:=length_eq_zero_iff.1 ak;subst this;rwa[append_nil]
theorem OE{lt:α->α->Bool}(c:Ord lt):∀(n bs:Nat)(l:List α),0<bs->l.length<=n+bs->WS lt bs l->xH lt (B7 lt n bs l)
 | 0,bs,l,_,hl,h=>h.srt ak
 |n+1,bs,l,hb,hl,h=>by
  unfold B7;split
  ·exact OE c n _ _ ak (by rw[vV];omega) (DW c hb _ l (fS _) h)
  ·exact h.srt ak
theorem OD{lt:α->α->Bool}(c:Ord lt){p:α->Bool}(e:Rg lt p):∀(n bs:Nat)(l:List α),0<bs->WS lt bs l->(B7 lt n bs l).filter p=l.filter p
 | 0,bs,l,_,h=>rfl
 |n+1,bs,l,hb,h=>by
  unfold B7;split
  ·rw[OD c e n _ _ ak (DW c hb _ l (fS _) h),DX c e _ l h]
  ·rfl
def Ue{lt:α->α->Bool}(c:Ord lt){p:α->Bool}(e:Rg lt p)(l:List α):(LQ lt l).filter p=l.filter p:=by
 rw[LQ,OD c e _ _ _ ak (Gm c _ l (fS _)),Od e]
def NN{lt:α->α->Bool}(c:Ord lt)(l:List α):xH lt (LQ lt l):=OE c _ _ _ ak (by rw[Xp];omega) (Gm c _ l (fS _))
theorem agq{lt:α->α->Bool}(g:Ord lt):∀{l m:List α},xH lt l->xH lt m->(∀p,Rg lt p->l.filter p=m.filter p)->l=m:=by
 have n:∀x,Rg lt λa=>!lt a x&&!lt x a:=λx a b j k=>by
  simp only[bQ,gD]at j k;exact g.Wv b x a k.2 j.1
 have o:∀x,(!lt x x&&!lt x x)=true:=λx=>by simp[g.refl]
 have c:∀{l m:List α},(∀p,Rg lt p->l.filter p=m.filter p)->∀x∈l,x∈m:=λ{l m} h x hm=>by
  have:=(mem_filter (p:=λa=>!lt a x&&!lt x a)).2 ⟨hm,o x⟩;rw[h _ (n x)]at this;exact(mem_filter.1 this).1
 intro l;induction l with
 |nil =>
  intro m _ _ h;cases m with
  |nil=>rfl
  |cons y s=>cases c (λp f=>(h p f).symm) y (mem_cons_self ..)
 |cons x r ih =>
  intro m z B h;cases m with
  |nil=>cases c h x (mem_cons_self ..)
  |cons y s =>
   have t:=kB.1 z;have v:=kB.1 B;have C:lt y x=false:=by
    rcases mem_cons.1 (c (λp f=>(h p f).symm) y (mem_cons_self ..))with rfl|hm
    ·exact g.refl _
    ·exact t.1 y hm
   have i:lt x y=false:=by
    rcases mem_cons.1 (c h x (mem_cons_self ..))with rfl|hm
    ·exact g.refl _
    ·exact v.1 x hm
   have e:=h _ (n x);rw[filter_cons_of_pos (p:=λa=>!lt a x&&!lt x a) (o x),filter_cons_of_pos (p:=λa=>!lt a x&&!lt x a) (by simp[C,i])]at e;obtain⟨rfl,_⟩:=List.cons.inj e
   rw[ih t.2 v.2 λp f=>by
    have:=h p f;cases q:p x
    ·rwa[filter_cons_of_neg (by simp[q]),filter_cons_of_neg (by simp[q])]at this
    ·rw[filter_cons_of_pos q,filter_cons_of_pos q]at this
     exact(List.cons.inj this).2]
def agr{lt:α->α->Bool}(c:Ord lt){l m:List α}(g:xH lt m)(f:∀p,Rg lt p->m.filter p=l.filter p):LQ lt l=m:=
 agq c (NN c l) g λp e=>by rw[Ue c e,f p e]
def SQ(L U M V R:List α)(i:Nat):List α:=L++(V.take i++U.drop i)++M++(U.take i++V.drop i)++R
def Zk(L U M V R:List α):SQ L U M V R 0=L++U++M++V++R:=by simp[SQ]
def abP(L U M V R:List α)(h:U.length=V.length):SQ L U M V R U.length=L++V++M++U++R:=by
 have c:V.take U.length=V:=by rw[h];exact eu
 have e:V.drop U.length=[]:=by rw[h];exact jw
 simp[SQ,c,e]
def yj(P:List α)(u:α)(Q:List α){k:Nat}(h:k=P.length):(P++u::Q)[k]?=some u:=by subst h;simp
def zU(P:List α)(u v:α)(Q:List α){k:Nat}(h:k=P.length):(P++u::Q).set k v=P++v::Q:=by subst h;simp
def Zj(L U M V R:List α)(h:U.length=V.length){a b:Nat}(ha:a=L.length)(hb:b=L.length+U.length+M.length){i:Nat}(g:i<U.length) :
  (SQ L U M V R i).length=L.length+U.length+M.length+V.length+R.length/\∃u v,(SQ L U M V R i)[a+i]?=some u/\(SQ L U M V R i)[b+i]?=some v/\SQ L U M V R (i+1)=((SQ L U M V R i).set (a+i) v).set (b+i) u:=by
 have c:i<V.length:=ak
 refine⟨by simp only[SQ,cR,fZ,iN];omega,U[i],V[i],?_⟩;have e:SQ L U M V R i=(L++V.take i)++U[i]::((U.drop (i+1)++M++U.take i)++V[i]::(V.drop (i+1)++R)):=by
  simp only[SQ,drop_eq_getElem_cons g,drop_eq_getElem_cons c,dz,cons_append]
 have e2:SQ L U M V R (i+1)=(L++V.take i)++V[i]::((U.drop (i+1)++M++U.take i)++U[i]::(V.drop (i+1)++R)):=by
  simp only[SQ,jU g,jU c,dz,cons_append,nil_append]
 have j:a+i=(L++V.take i).length:=by simp only[cR,fZ];omega
 have k:∀x,b+i=(L++V.take i++x::(U.drop (i+1)++M++U.take i)).length:=by
  intro x;simp only[cR,length_cons,fZ,iN];omega
 have f:∀x y,(L++V.take i)++x::((U.drop (i+1)++M++U.take i)++y::(V.drop (i+1)++R))=(L++V.take i++x::(U.drop (i+1)++M++U.take i))++y::(V.drop (i+1)++R):=by
  intro x y;simp only[dz,cons_append]
 refine⟨?_,?_,?_⟩
 ·rw[e];exact yj _ _ _ j
 ·rw[e,f];exact yj _ _ _ (k _)
 ·rw[e,zU _ _ _ _ j,f,zU _ _ _ _ (k _),e2,f]
def nM(L:List α)(x:α)(P R:List α)(i:Nat):List α:=L++P.take (P.length-i)++x::(P.drop (P.length-i)++R)
def GJ(L:List α)(x:α)(P R:List α){i:Nat}(hi:i<P.length){a b:Nat}(ha:a=L.length+P.length-i)(hb:b+1=a) :
  ∃v,(nM L x P R i)[a]?=some x/\(nM L x P R i)[b]?=some v/\P[P.length-i-1]?=some v/\nM L x P R (i+1)=((nM L x P R i).set a v).set b x:=by
 obtain⟨k,g⟩:∃k,P.length-i=k+1:=⟨P.length-i-1,by omega⟩
 have c:k<P.length:=ak
 refine⟨P[k],?_⟩;have e:nM L x P R i=(L++P.take k)++P[k]::x::(P.drop (k+1)++R):=by
  simp only[nM,g,jU c,dz,cons_append,nil_append]
 have e2:nM L x P R (i+1)=(L++P.take k)++x::P[k]::(P.drop (k+1)++R):=by
  simp only[nM,show P.length-(i+1)=k by omega,drop_eq_getElem_cons c,dz,cons_append]
 have h:b=(L++P.take k).length:=by simp only[cR,fZ];omega
 have j:∀y,a=(L++P.take k++[y]).length:=by intro y;simp only[cR,fZ,length_cons,length_nil];omega
 have f:∀y z,(L++P.take k)++y::z::(P.drop (k+1)++R)=(L++P.take k++[y])++z::(P.drop (k+1)++R):=by
  intro y z;simp only[dz,cons_append,nil_append]
 refine⟨?_,?_,?_,?_⟩
 ·rw[e,f];exact yj _ _ _ (j _)
 ·rw[e];exact yj _ _ _ h
 ·rw[g];exact fj c
 ·rw[e,f,zU _ _ _ _ (j _),<-f,zU _ _ _ _ h,e2]
def GL(L:List α)(x:α)(P R:List α):nM L x P R 0=L++P++x::R:=by simp[nM]
def UU(L:List α)(x:α)(P R:List α):nM L x P R P.length=L++x::(P++R):=by simp[nM]
def UW(L:List α)(x:α)(P R:List α)(i:Nat):(nM L x P R i).length=L.length+P.length+R.length+1:=by
 simp only[nM,cR,length_cons,fZ,iN];omega
def Q9(L:List α)(x:α)(P R:List α)(i:Nat):List α:=L++P.take i++x::(P.drop i++R)
def Zw(L:List α)(x:α)(P R:List α){i:Nat}(f:i<P.length){a b:Nat}(ha:a=L.length+i)(hb:b=a+1) :
  ∃v,(Q9 L x P R i)[a]?=some x/\(Q9 L x P R i)[b]?=some v/\Q9 L x P R (i+1)=((Q9 L x P R i).set a v).set b x:=by
 refine⟨P[i],?_⟩;have c:Q9 L x P R i=(L++P.take i)++x::P[i]::(P.drop (i+1)++R):=by
  simp only[Q9,drop_eq_getElem_cons f,dz,cons_append]
 have e2:Q9 L x P R (i+1)=(L++P.take i)++P[i]::x::(P.drop (i+1)++R):=by
  simp only[Q9,jU f,dz,cons_append,nil_append]
 have g:a=(L++P.take i).length:=by simp only[cR,fZ];omega
 have h:∀y,b=(L++P.take i++[y]).length:=by intro y;simp only[cR,fZ,length_cons,length_nil];omega
 have e:∀y z,(L++P.take i)++y::z::(P.drop (i+1)++R)=(L++P.take i++[y])++z::(P.drop (i+1)++R):=by
  intro y z;simp only[dz,cons_append,nil_append]
 refine⟨?_,?_,?_⟩
 ·rw[c];exact yj _ _ _ g
 ·rw[c,e];exact yj _ _ _ (h _)
 ·rw[c,zU _ _ _ _ g,e,zU _ _ _ _ (h _),e2,e]
def Zx(L:List α)(x:α)(P R:List α):Q9 L x P R 0=L++x::(P++R):=by simp[Q9]
def abZ(L:List α)(x:α)(P R:List α):Q9 L x P R P.length=L++P++x::R:=by simp[Q9]
def ab0(L:List α)(x:α)(P R:List α)(i:Nat):(Q9 L x P R i).length=L.length+P.length+R.length+1:=by
 simp only[Q9,cR,length_cons,fZ,iN];omega
theorem TE(lt:α->α->Bool)(x:α):∀(Q:List α)(i:Nat),i<=Q.length->(∀j v,j<i->Q[j]?=some v->lt x v=true)->(∀v,Q[i]?=some v->lt x v=false)->Ac lt x Q=Q.take i++x::Q.drop i
 | [],i,h,_,_=>by
  have:i=0:=by simpa using h
  subst this;rfl
 |y::Q,0,_,_,h=>by
  have:=h y rfl;simp[Ac,this]
 |y::Q,i+1,hl,h1,h2=>by
  have e:=h1 0 y ak rfl;have f:=TE lt x Q i (by simpa using hl) (λj v hj c=>h1 (j+1) v ak (by simpa using c)) (λv c=>h2 v (by simpa using c));simp[Ac,e,f]
theorem K4(lt:α->α->Bool):∀(X R:List α)(k:Nat)(h:k<X.length),u0 lt R (X.take (k+1))=Ac lt X[k] (u0 lt R (X.take k))
 | [],_,k,h=>by simp at h
 |x::X,R,0,h=>by simp[u0]
 |x::X,R,k+1,h=>by
  simp only[take_succ_cons,u0,getElem_cons_succ];exact K4 lt X _ k (by simpa using h)
def Fc(lt:α->α->Bool)(L X R:List α)(k:Nat):List α:=L++(u0 lt [] (X.take k)).reverse++X.drop k++R
theorem X4(lt:α->α->Bool)(L X R:List α):Fc lt L X R 1=L++X++R:=by
 cases X with
 |nil=>simp[Fc,u0]
 |cons x X=>simp[Fc,u0,Ac]
def X2(lt:α->α->Bool)(L X R:List α){k:Nat}(h:X.length<=k):Fc lt L X R k=L++Bb lt X++R:=by
 simp[Fc,Bb,take_of_length_le h,drop_of_length_le h]
def X3(lt:α->α->Bool)(L X R:List α)(k:Nat):(Fc lt L X R k).length=L.length+X.length+R.length:=by
 simp only[Fc,cR,length_reverse,O7,fZ,iN,length_nil];omega
def U9(lt:α->α->Bool)(L X R:List α){k:Nat}(h:k<X.length):Fc lt L X R k=nM L X[k] (u0 lt [] (X.take k)).reverse (X.drop (k+1)++R) 0:=by
 rw[GL];simp only[Fc,drop_eq_getElem_cons h,dz,cons_append]
def Va(lt:α->α->Bool)(L X R:List α){k:Nat}(h:k<X.length){P:List α}(n:P=(u0 lt [] (X.take k)).reverse){i:Nat}(e:i<=P.length)(l:∀j v,j<i->P[P.length-j-1]?=some v->lt X[k] v=true)(m:i<P.length->∀v,P[P.length-i-1]?=some v->lt X[k] v=false) :
  Fc lt L X R (k+1)=nM L X[k] P (X.drop (k+1)++R) i:=by
 subst n;generalize o:u0 lt [] (X.take k)=Q at *;have g:∀j,j<Q.length->Q.reverse[Q.reverse.length-j-1]?=Q[j]?:=by
  intro j f;rw[length_reverse,getElem?_reverse ak];congr 1;omega
 have p:=TE lt X[k] Q i (by simpa using e) (λj v f c=>l j v f (by rw[g j (dJ c)];exact c)) (λv c=>m (by rw[length_reverse];exact dJ c) v (by rw[g i (dJ c)];exact c));have hil:i<=Q.length:=by simpa using e
 simp only[Fc,K4 lt X [] k h,o,p,nM,reverse_append,reverse_cons,length_reverse];have s:Q.reverse.take (Q.length-i)=(Q.drop i).reverse:=by rw[take_reverse];congr 2;omega
 have t2:Q.reverse.drop (Q.length-i)=(Q.take i).reverse:=by rw[drop_reverse];congr 2;omega
 rw[s,t2];simp only[dz,cons_append,nil_append]
end
structure gC where
 who:Int
 bT:Int
 units:Int
 deriving DecidableEq
def gO{x:Int}(c:-9223372036854775808<=x)(e:x<9223372036854775808):IntKind.i64.wrap x=x:=Ei c e
def gC.key(p:gC):Int:=p.who*8+p.bT
def iK(w a:Int):Bool:=decide (1<=w)&&decide (w<=16)&&decide (1<=a)&&decide (a<=6)
def gC.ok(p:gC):Prop:=iK p.who p.bT=true/\1<=p.units/\p.units<=1099511627776
def qK{w a:Int}:iK w a=true↔1<=w/\w<=16/\1<=a/\a<=6:=by
 simp only[iK,bQ,bz];omega
def Mt(p:gC)(w a:Int):Int:=if p.who≠w then IntKind.wrap .i64 (p.who-w)else IntKind.wrap .i64 (p.bT-a)
def GD{p:gC}{w a:Int}(c:iK p.who p.bT=true)(h:iK w a=true):Mt p w a=if p.who≠w then p.who-w else p.bT-a:=by
 rw[qK]at c h;unfold Mt;rw[gO ak ak,gO ak ak]
def Mu{p:gC}{w a:Int}(c:iK p.who p.bT=true)(h:iK w a=true):Mt p w a<0↔p.key<w*8+a:=by
 rw[GD c h];rw[qK]at c h;unfold gC.key;split<;>omega
def key_inj{p:gC}{w a:Int}(c:iK p.who p.bT=true)(h:iK w a=true):p.key=w*8+a↔p.who=w/\p.bT=a:=by
 rw[qK]at c h;unfold gC.key;omega
def tT(ps:List gC)(i:Nat):Bool:=
 match ps[i]? with
 |none=>true
 |some p=>iK p.who p.bT&&decide (1<=p.units)&&decide (p.units<=1099511627776)&&(match i with
  | 0=>true
  |j+1=>match ps[j]? with
   |some q=>decide (Mt q p.who p.bT<0)
   |none=>true)
def jB(ps:List gC):Bool:=(range ps.length).all (tT ps)
def Good(ps:List gC):Prop:=(∀p∈ps,p.ok)/\ps.Pairwise (λp q=>p.key<q.key)
def jg{ps:List gC}:jB ps=true↔Good ps:=by
 have l:∀i (h:i<ps.length),tT ps i=true↔ps[i].ok/\∀j,(f:j+1=i)->Mt (ps[j]'ak) ps[i].who ps[i].bT<0:=by
  intro i h;unfold tT;rw[fj h];cases i with
  |zero=>simp[gC.ok,and_assoc]
  |succ i =>
   simp only[fj (show i<ps.length by omega),bQ,bz,gC.ok];constructor
   ·rintro⟨⟨⟨c,m⟩,s⟩,h4⟩;exact⟨⟨c,m,s⟩,λj f=>(show j=i by omega) ▸ h4⟩
   ·rintro⟨⟨c,m,s⟩,h4⟩;exact⟨⟨⟨c,m⟩,s⟩,h4 i rfl⟩
 constructor
 ·intro v;have g:∀i (h:i<ps.length),tT ps i=true:=by
   intro i h;exact bL.1 v i (mem_range.2 h)
  have o:∀i (h:i<ps.length),ps[i].ok:=λi h=>((l i h).1 (g i h)).1;refine⟨?_,?_⟩
  ·intro p x;obtain⟨i,k,rfl⟩:=mem_iff_getElem.1 x;exact o i k
  ·rw[Gg];have key:∀d i (f:i+d+1<ps.length),ps[i].key<ps[i+d+1].key:=by
    intro d;induction d with
    |zero =>
     intro i f;have c:=((l (i+1) f).1 (g _ f)).2 i rfl;rw[Mu (o i ak).1 (o (i+1) f).1]at c;exact c
    |succ d ih =>
     intro i f;have t:=ih i ak;have c:=((l (i+d+1+1) f).1 (g _ f)).2 (i+d+1) rfl;rw[Mu (o (i+d+1) ak).1 (o (i+d+1+1) f).1]at c;exact Int.lt_trans t c
   intro i j k f hij;have:=key (j-i-1) i ak;have e:i+(j-i-1)+1=j:=ak
   simpa only[e]using this
 ·rintro⟨c,m⟩;rw[Gg]at m;refine bL.2 λi k=>?_;have k:=mem_range.1 k;rw[l i k];refine⟨c _ (dS k),?_⟩;intro j f;have n:j<ps.length:=ak
  rw[Mu (c _ (dS n)).1 (c _ (dS k)).1];exact m j i n k ak
def pos(K:Int):List gC->Nat
 | []=>0
 |p::r=>if p.key<K then pos K r+1 else 0
def Kx(w a n:Int):List gC->List gC
 | []=>if n>0 then[⟨w,a,n⟩]else[]
 |p::r=>if p.key<w*8+a then p::Kx w a n r else if p.key=w*8+a then(if n>0 then⟨w,a,n⟩::r else r)else(if n>0 then⟨w,a,n⟩::p::r else p::r)
def dH(w a:Int):List gC->Int
 | []=>0
 |p::r=>if p.who=w/\p.bT=a then p.units else dH w a r
theorem FL{w a n:Int}:∀{ps:List gC} {q:gC},q∈Kx w a n ps->q∈ps\/(q=⟨w,a,n⟩/\n>0)
 | [],q,h=>by
  simp only[Kx]at h;split at h
  ·simp at h;exact .inr ⟨h,by assumption⟩
  ·simp at h
 |p::r,q,h=>by
  simp only[Kx]at h;split at h
  ·rcases mem_cons.1 h with h|h
   ·exact .inl (by simp[h])
   ·rcases FL h with h|h
    ·exact .inl (by simp[h])
    ·exact .inr h
  ·split at h
   ·split at h
    ·rcases mem_cons.1 h with h|h
     ·exact .inr ⟨h,by assumption⟩
     ·exact .inl (by simp[h])
    ·exact .inl (by simp[h])
   ·split at h
    ·rcases mem_cons.1 h with h|h
     ·exact .inr ⟨h,by assumption⟩
     ·exact .inl h
    ·exact .inl h
def Ou{w a n:Int}(k:iK w a=true)(j:n<=1099511627776){ps:List gC}(g:Good ps):Good (Kx w a n ps):=by
 refine⟨?_,?_⟩
 ·intro q e;rcases FL e with h| ⟨rfl,h⟩
  ·exact g.1 q h
  ·exact⟨k,by show 1<=n;omega,j⟩
 ·have c:=g.2;clear g;induction ps with
  |nil=>simp only[Kx];split<;>simp
  |cons p r ih =>
   rw[kB]at c;simp only[Kx];split
   ·rename_i h;rw[kB];refine⟨?_,ih c.2⟩;intro q e;rcases FL e with f| ⟨rfl,_⟩
    ·exact c.1 q f
    ·exact h
   ·split
    ·split
     ·rename_i i f _;rw[kB];refine⟨?_,c.2⟩;intro q e;have:=c.1 q e;show w*8+a<q.key;omega
     ·exact c.2
    ·split
     ·rename_i i f _;rw[kB,kB];refine⟨?_,c⟩;intro q e;show w*8+a<q.key;rcases mem_cons.1 e with rfl|e
      ·omega
      ·have:=c.1 q e;omega
     ·rw[kB];exact c
theorem BG{w a:Int}:∀{ps:List gC},(∀p∈ps,¬(p.who=w/\p.bT=a))->dH w a ps=0
 | [],_=>rfl
 |p::r,h=>by simp only[dH,au (h p sT)];exact BG λq c=>h q (by simp[c])
theorem LX{w a n:Int}(k:iK w a=true)(o:0<=n):∀{ps:List gC},Good ps->dH w a (Kx w a n ps)=n
 | [],_=>by
  simp only[Kx];split
  ·simp[dH]
  ·simp[dH];omega
 |p::r,hg=>by
  have s:=(hg.1 p sT).1;have i:Good r:=⟨λq g=>hg.1 q (by simp[g]),(kB.1 hg.2).2⟩
  have j:=(kB.1 hg.2).1;have e:=key_inj s k;have c:w*8+a<=p.key->∀q∈r,¬(q.who=w/\q.bT=a):=by
   intro hle q g f;have m:=(key_inj (hg.1 q (by simp[g])).1 k).2 f;have l:=j q g;omega
  simp only[Kx];split
  ·rename_i h;have:¬(p.who=w/\p.bT=a):=λf=>by have:=e.2 f;omega
   simp only[dH,au this];exact LX k o i
  ·split
   ·split
    ·simp[dH]
    ·rw[BG (c ak)];omega
   ·rename_i m l;have:¬(p.who=w/\p.bT=a):=λf=>l (e.2 f);split
    ·simp[dH]
    ·simp only[dH,au this];rw[BG (c ak)];omega
theorem ET{w a n w' f:Int}(c:¬(w'=w/\f=a))(k:iK w a=true):∀{ps:List gC},Good ps->dH w' f (Kx w a n ps)=dH w' f ps
 | [],_=>by
  have:¬(w=w'/\a=f):=λh=>c ⟨h.1.symm,h.2.symm⟩;simp only[Kx];split
  ·simp[dH,this]
  ·rfl
 |p::r,hg=>by
  have m:=(hg.1 p sT).1;have i:Good r:=⟨λq o=>hg.1 q (by simp[o]),(kB.1 hg.2).2⟩
  have j:¬(w=w'/\a=f):=λh=>c ⟨h.1.symm,h.2.symm⟩;have g:=key_inj m k;simp only[Kx];split
  ·simp only[dH,ET c k i]
  ·split
   ·rename_i h1 l;have e:=g.1 l;have:¬(p.who=w'/\p.bT=f):=λh=>c ⟨by rw[<-h.1,e.1],by rw[<-h.2,e.2]⟩;split
    ·simp[dH,j,this]
    ·simp[dH,this]
   ·split
    ·simp[dH,j]
    ·rfl
def gC.cells(p:gC):List D:=[.I p.who,.I p.bT,.I p.units]
def pl(ps:List gC):List (List D):=ps.map gC.cells
theorem nG(ps:List gC):(pl ps).length=ps.length:=by simp[pl]
theorem qh(ps:List gC){i:Nat}(h:i<ps.length):(pl ps).getD i []=[.I ps[i].who,.I ps[i].bT,.I ps[i].units]:=by simp[pl,h,gC.cells]
attribute [go_sem] nG
theorem Qt(w a:Int):Sq 107 [] [.int .i64 w,.int .i64 a] [] (.bool (iK w a)):=by
 refine bp 19 2 [.tmp 4] mixed func107 ?_;refine s0 ?_;repeat' with_reducible first|refine mO (λh=>?_) λh=>?_|simp only[*,go_sem,seval]
 all_goals(simp only[iK];simp<;>omega)
theorem Mv(p:gC)(w a:Int):Sq 108 [] [.agg [.int .i64 p.who,.int .i64 p.bT,.int .i64 p.units],.int .i64 w,.int .i64 a] [] (.int .i64 (Mt p w a)):=by
 refine bp 19 3 [.tmp 6] mixed func108 ?_;refine s0 ?_;repeat' with_reducible first|refine mO (λh=>?_) λh=>?_|simp only[*,go_sem,seval]
 all_goals(simp only[Mt];simp_all)
theorem MT{ps:List gC}{i:Nat}(h:i<ps.length):tT ps i=(iK ps[i].who ps[i].bT&&decide (1<=ps[i].units)&&decide (ps[i].units<=1099511627776)&&(decide (i=0)||decide (Mt (ps.getD (i-1) ⟨0,0,0⟩) ps[i].who ps[i].bT<0))):=by
 unfold tT;rw[fj h];cases i with
 |zero=>simp
 |succ i =>
  have c:i<ps.length:=ak
  simp[fj c,getD_eq_getElem?_getD]
def Kw{ps:List gC}{i:Nat}(h:i<ps.length)(c:tT ps i=false):jB ps=false:=by
 cases e:jB ps
 ·rfl
 ·rw[bL.1 e i (mem_range.2 h)]at c;cases c
def Gu{ps:List gC}(h:∀i<ps.length,tT ps i=true):jB ps=true:=bL.2 λi c=>h i (mem_range.1 c)
theorem VK(ps:List gC)(hl:ps.length<2^62):Sq 27 [] [.sl 3 (pl ps)] [] (.int .i64 (if jB ps then 0 else 14)):=by
 refine bp 46 1 [.tmp 2] mixed func27 ?_;refine s0 ?_;refine aF.count ps.length [0,5,6] [112] (λi=>[(7,.I i)]) (λi=>[]) (λi=>∀j<i,tT ps j=true) sT ?_ ?_
 ·exact kG
 ·intro i hi l;refine s0 ?_;refine bS.fX (λh=>?_) (λh=>?_)
  ·have c:i<ps.length:=ak
   have hw:IntKind.wrap .i64 ((i:Int)+1)=((i+1:Nat):Int):=fQ;have hr:=Qt ps[i].who ps[i].bT;have e:=MT c;have e0:tT ps i=true->∀k<i+1,tT ps k=true:=λo k e=>by
    rcases dN k i with h|h
    ·exact l k h
    ·obtain rfl:k=i:=ak
     exact o
   have g:tT ps i=false->jB ps=false:=Kw c;rcases Nat.eq_zero_or_pos i with rfl|hpos
   ·simp only[go_sem,seval,qh ps c];repeat' with_reducible first|apply And.intro|exact .dq|refine aG.bC (by assumption) ?_|refine mO (λh=>?_) λh=>?_|refine ah.jE ak ?_ ?_|simp only[*,go_sem,seval]
    all_goals first
     |omega
     | (refine e0 ?_;rw[e];simp_all<;>omega)
     |rfl
     | (rw [g ?_]
        ·rfl
        ·cases f:tT ps 0
         ·rfl
         ·exfalso;rw[e]at f;simp at f;first|omega| (simp_all;done)| (simp_all;omega))
   ·obtain⟨j,rfl⟩:∃j,i=j+1:=⟨i-1,by omega⟩
    have m:j<ps.length:=ak
    have hw1:IntKind.wrap .i64 (((j+1:Nat):Int)-1)=(j:Int):=fQ;have hcmp:=Mv ps[j] ps[j+1].who ps[j+1].bT;have n:ps.getD (j+1-1) ⟨0,0,0⟩=ps[j]:=by simp[m]
    rw[n]at e;simp only[go_sem,seval,qh ps c];repeat' with_reducible first|apply And.intro|exact .dq|refine aG.bC (by assumption) ?_|refine mO (λh=>?_) λh=>?_|refine ah.jE ak ?_ ?_|simp only[*,go_sem,seval,qh ps m]
    all_goals first
     |omega
     | (refine e0 ?_;rw[e];simp_all<;>omega)
     |rfl
     | (rw [g ?_]
        ·rfl
        ·cases f:tT ps (j+1)
         ·rfl
         ·exfalso;rw[e]at f;simp at f;first|omega| (simp_all;done)| (simp_all;omega))
  ·obtain rfl:i=ps.length:=ak
   have hc:=Gu l;exact ato
def Tw{ps:List gC}{i:Nat}(h:i<ps.length):ps.drop i=ps[i]::ps.drop (i+1):=(drop_eq_getElem_cons h)
def Sg{a b:Int}(h:(a==b)=true):a=b:=su h
def RE(ps:List gC)(hl:ps.length<2^30):Sq 57 [] [.sl 3 (pl ps)] [.own 3 (pl ps)] (.ref 0):=by
 refine bp 8 1 [.tmp 2] mixed func57 ?_;refine s0 ?_;refine gM.As alZ rfl ak ?_;intro b c;repeat' with_reducible first|refine mO (λh=>?_) λh=>?_|simp only[*,go_sem,seval]
 all_goals first
  |omega
  | (rw[c (by assumption)])
  |skip
def half{i j:Nat}(h:i+j<2^63):IntKind.wrap .i64 (yG .u64 (IntKind.wrap .u64 (IntKind.wrap .i64 ((i:Int)+j))) 1)=(((i+j)/2:Nat):Int):=by
 rw[gO (x:=(i:Int)+j) ak ak];have c:∀x:Int,0<=x->x<18446744073709551616->IntKind.wrap .u64 x=x:=by
  intro x h1 h2;simp[IntKind.wrap,IntKind.signed,IntKind.bits];omega
 rw[c ((i:Int)+j) ak ak];have:yG .u64 ((i:Int)+j) 1=(((i+j)/2:Nat):Int):=by
  show((i:Int)+j).fdiv (2^1)=_;rw[Int.fdiv_eq_ediv_of_nonneg _ ak];omega
 rw[this,gO ak ak]
def gz(ps:List gC)(w a u:Int):Int:=
 if jB ps=false then 14 else if(iK w a&&decide (-1099511627776<=u)&&decide (u<=1099511627776))=false then 3 else
  if dH w a ps+u<0 then 13 else if dH w a ps+u>1099511627776 then 1 else 0
def eZ(ps:List gC)(w a u:Int):List gC:=if gz ps w a u=0 then Kx w a (dH w a ps+u) ps else[]
theorem Da{w a:Int}:∀{ps:List gC},(∀p∈ps,p.ok)->0<=dH w a ps/\dH w a ps<=1099511627776
 | [],_=>by simp[dH]
 |p::r,h=>by
  have h1:=(h p sT).2;have h2:=Da (w:=w) (a:=a) (ps:=r) λq c=>h q (by simp[c]);simp only[dH];split<;>omega
def within(a b c:Int):Bool:=decide (b<=a)&&decide (a<=c)
theorem iD(a b c:Int):Sq 51 [] [.int .i64 a,.int .i64 b,.int .i64 c] [] (.bool (within a b c)):=by
 refine Abs.Spec.CW (n:=15) (np:=3) (rs:=[.tmp 6]) mixed func51 rfl rfl rfl rfl rfl sT sT ?_;refine s0 ?_;refine cE.split (λh=>?_) (λh=>?_)<;>simp only[h,go_sem,seval]
 all_goals simp[within,h]
def ints(xs:List Int):List (List D):=xs.map λx=>[.I x]
def bB(x:Int):Bool:=decide (-4611686018427387904<=x)&&decide (x<=4611686018427387904)
def right(xs:List Int):Bool:=xs.all bB
def az(xs:List Int):(ints xs).length=xs.length:=by simp[ints]
theorem ints_at(xs:List Int){i:Nat}(h:i<xs.length):(ints xs).getD i []=[.int .i64 xs[i]]:=by simp[ints,h]
def wrap64{x:Int}(h:-9223372036854775808<=x)(h':x<=9223372036854775807):IntKind.wrap .i64 x=x:=by
 rw[IntKind.wrap_i64];omega
def fq(xs:List Int)(hl:xs.length<2^62):Sq 37 [] [.sl 1 (ints xs)] [] (.bool (right xs)):=by
 refine Abs.Spec.CW (n:=18) (np:=1) (rs:=[.tmp 2]) mixed func37 rfl rfl rfl rfl rfl sT sT ?_;refine s0 ?_;refine⟨Nat,λi=>[(2,.bool false),(5,.sl 1 (ints xs)),(6,.I xs.length),(7,.I i)],λi=>[],λi=>i<=xs.length/\right (xs.take i)=true,λi=>xs.length-i,0,?_,?_,?_⟩
 ·simp[right]
 ·simp only[go_sem,seval,az]<;>simp
 ·rintro i ⟨hi,hr⟩;refine s0 ?_;refine bS.split (λh=>?_) (λh=>?_)
  ·have c:i<xs.length:=su h;simp only[go_sem,seval,Int.toNat_natCast,ints_at xs c];refine⟨by simp[az,c],?_⟩;have bad:bB xs[i]=false->false=right xs:=λf=>by
    symm;simp only[right,all_eq_false];exact⟨xs[i],dS c,by simp[f]⟩
   refine .lQ (λh=>?_) (λh=>?_)<;>simp only[h,go_sem,seval]
   ·refine .split (λe=>?_) (λe=>?_)<;>simp only[e,go_sem,seval]
    ·exact bad (by simp[bB]at e |-;omega)
    ·refine⟨i+1,⟨c,?_⟩,?_,by simp only;omega⟩
     ·rw[right,jU c,all_append];rw[right]at hr;rw[hr];simp[bB]at h e |-;omega
     ·simp only[go_sem,seval,az];rw[wrap64 ak ak];simp
   ·exact bad (by simp[bB]at h |-;omega)
  ·refine s0 ?_;have:i=xs.length:=by simp at h;omega
   subst this;simpa using hr.symm
structure aD where
 a:Int
 b:Int
 c:Int
 d:Int
@[reducible] def aD.cells(x:aD):List D:=[.I x.a,.I x.b,.I x.c,.I x.d]
def aD.ok(x:aD):Bool:=within x.a 1 6&&within x.b 0 2&&within x.c 1 1073741824&&within x.d 0 10000
def x4(x:aD):Sq 98 [] [.agg x.cells] [] (.bool x.ok):=by
 refine Abs.Spec.CW (n:=21) (np:=1) (rs:=[.tmp 2]) mixed func98 rfl rfl rfl rfl rfl sT sT ?_;simp only[aD.cells];refine s0 ?_
 repeat'(with_reducible first
  |apply And.intro
  |refine aG.bC (iD _ _ _) ?_
  |refine cE.lQ (λh=>?_) (λh=>?_)
  |refine cE.split (λh=>?_) (λh=>?_)
  |simp only[*,go_sem,seval])
 all_goals simp[aD.ok, *]
theorem xe(x:aD):Sq 97 [] [.agg x.cells] [] (.int .i64 x.a):=by
 refine Abs.Spec.CW (n:=5) (np:=1) (rs:=[.tmp 2]) mixed func97 rfl rfl rfl rfl rfl sT sT ?_;simp only[aD.cells];exact jq
def eV{A:Type}(no:A->Int)(ok:A->Bool)(xs:List A)(i:Nat):Bool:=match xs[i]? with
 |some x=>ok x&&(match i with
  | 0=>true
  |j+1=>match xs[j]? with
   |some y=>decide (no y<no x)
   |none=>true)
 |none=>true
def jS{A:Type}(no:A->Int)(ok:A->Bool)(xs:List A){i:Nat}(c:i<xs.length)(h:¬ 0<i):eV no ok xs i=ok xs[i]:=by
 have:i=0:=ak
 subst this;simp[eV,c]
def jR{A:Type}(no:A->Int)(ok:A->Bool)(xs:List A){i:Nat}(c:i<xs.length)(h:0<i):eV no ok xs i=(ok xs[i]&&decide (no xs[i-1]<no xs[i])):=by
 obtain⟨j,rfl⟩:∃j,i=j+1:=⟨i-1,by omega⟩
 have:j<xs.length:=ak
 simp[eV,c,this]
def mI{A:Type}(no:A->Int)(ok:A->Bool)(xs:List A):Bool:=(range xs.length).all (eV no ok xs)
def br{A:Type}{c:A->List D}(xs:List A){i:Nat}(h:i<xs.length):(xs.map c).getD i []=c xs[i]:=by simp[h]
theorem oc{A:Type}{c:A->List D}(xs:List A){i:Nat}(h:i<xs.length):∃x,x=xs[i]/\(xs.map c).getD i []=c x/\(i:Int)<(xs.length:Int):=⟨_,rfl,br xs h,by omega⟩
def Fz(xs:List aD)(hl:xs.length<2^62):Sq 96 [] [.sl 4 (xs.map aD.cells),.fn 97 [],.fn 98 []] [] (.bool (mI aD.a aD.ok xs)):=by
 refine Abs.Spec.CW (n:=38) (np:=3) (rs:=[.tmp 6]) mixed func96 rfl rfl rfl rfl rfl sT sT ?_;refine s0 ?_;refine⟨Nat,λi=>[(6,.bool false),(0,.sl 4 (xs.map aD.cells)),(1,.fn 97 []),(2,.fn 98 []),(9,.sl 4 (xs.map aD.cells)),(10,.I xs.length),(11,.I i)],λi=>[],λi=>i<=xs.length/\∀j,j<i->eV aD.a aD.ok xs j=true,λi=>xs.length-i,0,?_,?_,?_⟩
 ·simp
 ·exact kG
 ·rintro i ⟨hi,hr⟩;refine s0 ?_;refine bS.split (λh=>?_) (λh=>?_)
  ·have e:i<xs.length:=su h;have bad:eV aD.a aD.ok xs i=false->mI aD.a aD.ok xs=false:=λk=>by
    simp only[mI,all_eq_false];exact⟨i,mem_range.2 e,by simp[k]⟩
   simp only[go_sem,seval,Int.toNat_natCast,br xs e,aD.cells];refine⟨by simp[e],?_⟩;have next:eV aD.a aD.ok xs i=true->∀j,j<i+1->eV aD.a aD.ok xs j=true:=λk j m=>by
    rcases Nat.lt_succ_iff_lt_or_eq.1 m with h1|rfl
    ·exact hr j h1
    ·exact k
   by_cases l:0<i
   ·have s:IntKind.wrap .i64 ((i:Int)-1)=((i-1:Nat):Int):=by rw[wrap64 ak ak];omega
    have p:i-1<xs.length:=ak
    have g:decide (0<(i:Int))=true:=by simp;omega
    have o:=br (c:=aD.cells) xs p;have f:=jR aD.a aD.ok xs e l
    repeat'(with_reducible first
     |apply And.intro
     |exact gT.mk (by kernel_rfl)
     |exact Ek.mk (by kernel_rfl)
     |refine aG.bC (x4 _) ?_
     |refine aG.bC (xe _) ?_
     |refine cE.lQ (λh=>?_) (λh=>?_)
     |refine cE.split (λh=>?_) (λh=>?_)
     |refine bS.split (λh=>?_) (λh=>?_)
     |refine gf.id ?_
     |simp only[s,g,o,go_sem,seval, *,Int.toNat_natCast,aD.cells])
    ·simp;omega
    ·exact(bad (by rw[f];simp at h;simp;intro _;omega)).symm
    ·refine⟨i+1,⟨e,next (by rw[f];simp at h;simp[*])⟩,?_,by simp only;omega⟩;refine s0 ?_;rw[wrap64 ak ak];simp
   ·have g:decide (0<(i:Int))=false:=by simp;omega
    have f:=jS aD.a aD.ok xs e l
    repeat'(with_reducible first
     |apply And.intro
     |exact gT.mk (by kernel_rfl)
     |exact Ek.mk (by kernel_rfl)
     |refine aG.bC (x4 _) ?_
     |refine aG.bC (xe _) ?_
     |refine cE.lQ (λh=>?_) (λh=>?_)
     |refine cE.split (λh=>?_) (λh=>?_)
     |refine bS.split (λh=>?_) (λh=>?_)
     |refine gf.id ?_
     |simp only[g,go_sem,seval, *,Int.toNat_natCast,aD.cells])
    ·refine⟨i+1,⟨e,next (by rw[f];simp[*])⟩,?_,by simp only;omega⟩;refine s0 ?_;rw[wrap64 ak ak];simp
  ·refine s0 ?_;have:i=xs.length:=by simp at h;omega
   subst this;symm;simpa[mI]using hr
def Wb(a k:Nat)(hk:k<=64):yG .u64 (a:Int) (k:Int)=((a/2^k:Nat):Int):=by
 unfold yG;have c:min (Int.toNat (k:Int)) (IntKind.bits .u64)=k:=by simp[IntKind.bits];omega
 rw[c,Int.fdiv_eq_ediv_of_nonneg _ (by exact_mod_cast Nat.zero_le _)];push_cast;rfl
def uh(a:Nat):yG .u64 (a:Int) 32=((a/4294967296:Nat):Int):=Wb a 32 ak
def agh(a:Nat):yG .u64 (a:Int) 16=((a/65536:Nat):Int):=Wb a 16 ak
def alD(a:Nat):yG .u64 (a:Int) 8=((a/256:Nat):Int):=Wb a 8 ak
def Vk:ByteArray:=⟨((List.append (α:=UInt8) [0,1,2,2,3,3,3,3,4,4,4,4,4,4,4,4,5,5,5,5,5,5,5,5,5,5,5,5,5,5,5,5,6,6,6,6,6,6,6,6,6,6,6,6,6,6,6,6,6,6,6,6,6,6,6,6,6,6,6,6,6,6,6,6] [7,7,7,7,7,7,7,7,7,7,7,7,7,7,7,7,7,7,7,7,7,7,7,7,7,7,7,7,7,7,7,7,7,7,7,7,7,7,7,7,7,7,7,7,7,7,7,7,7,7,7,7,7,7,7,7,7,7,7,7,7,7,7,7]).append (List.append (α:=UInt8) [8,8,8,8,8,8,8,8,8,8,8,8,8,8,8,8,8,8,8,8,8,8,8,8,8,8,8,8,8,8,8,8,8,8,8,8,8,8,8,8,8,8,8,8,8,8,8,8,8,8,8,8,8,8,8,8,8,8,8,8,8,8,8,8] [8,8,8,8,8,8,8,8,8,8,8,8,8,8,8,8,8,8,8,8,8,8,8,8,8,8,8,8,8,8,8,8,8,8,8,8,8,8,8,8,8,8,8,8,8,8,8,8,8,8,8,8,8,8,8,8,8,8,8,8,8,8,8,8])).toArray⟩
def alT:=Vk.eq_def.symm
def L8(x:Nat):Nat:=((Vk[x]?).map (·.toNat)).getD 0
def L16(x:Nat):Nat:=if 256<=x then 8+L8 (x/256)else L8 x
def L32(x:Nat):Nat:=if 65536<=x then 16+L16 (x/65536)else L16 x
def WX(x:Nat):Nat:=if 4294967296<=x then 32+L32 (x/4294967296)else L32 x
theorem ad0:(range 256).all (λx=>decide (x<2^L8 x)&&(x==0||decide (2^L8 x<=2*x))&&decide (L8 x<=8))=true:=cQ
def acj(x:Nat)(h:x<256):x<2^L8 x/\(0<x->2^L8 x<=2*x)/\L8 x<=8:=by
 have:=bL.1 ad0 x (mem_range.2 h);simp only[bQ,Bool.or_eq_true,bz,ff]at this;refine⟨this.1.1,?_,this.2⟩;intro h0;rcases this.1.2 with h1|h1
 ·omega
 ·exact h1
def WV(x:Nat)(h:x<65536):x<2^L16 x/\(0<x->2^L16 x<=2*x)/\L16 x<=16:=by
 unfold L16;split
 ·obtain⟨e,c,f⟩:=acj (x/256) ak;have:=c ak;rw[Nat.pow_add];refine⟨by omega,by omega,by omega⟩
 ·obtain⟨e,c,f⟩:=acj x ak;exact⟨e,c,by omega⟩
def WW(x:Nat)(h:x<4294967296):x<2^L32 x/\(0<x->2^L32 x<=2*x)/\L32 x<=32:=by
 unfold L32;split
 ·obtain⟨e,c,f⟩:=WV (x/65536) ak;have:=c ak;rw[Nat.pow_add];refine⟨by omega,by omega,by omega⟩
 ·obtain⟨e,c,f⟩:=WV x ak;exact⟨e,c,by omega⟩
def WY(x:Nat)(h:x<18446744073709551616):x<2^WX x/\(0<x->2^WX x<=2*x)/\WX x<=64:=by
 unfold WX;split
 ·obtain⟨e,c,f⟩:=WW (x/4294967296) ak;have:=c ak;rw[Nat.pow_add];refine⟨by omega,by omega,by omega⟩
 ·obtain⟨e,c,f⟩:=WW x ak;exact⟨e,c,by omega⟩
def u8w{x:Int}(h:0<=x)(h':x<256):IntKind.wrap .u8 x=x:=by rw[IntKind.wrap_u8];omega
def w48:IntKind.wrap .i64 48=48:=by decide
def w56:IntKind.wrap .i64 56=56:=by decide
def w40:IntKind.wrap .i64 40=40:=by decide
def w16:IntKind.wrap .i64 16=16:=by decide
def w24:IntKind.wrap .i64 24=24:=by decide
def w8:IntKind.wrap .i64 8=8:=by decide
def l8D{i:Nat}:(((Vk[i]?).map λx=>(x.toNat:Int)).getD 0)=(L8 i:Int):=by
 unfold L8;cases Vk[i]?<;>simp
theorem ajt(i:Nat):L8 i<=255:=by
 unfold L8;cases Vk[i]? with
 |none=>simp
 |some b=>simpa using Nat.le_of_lt_succ b.toNat_lt
def wL{c:Int}(h:0<=c/\c<=100)(i:Nat):IntKind.wrap .i64 (c+IntKind.wrap .i64 (L8 i:Int))=c+L8 i:=by
 have:=ajt i;rw[wrap64 (x:=(L8 i:Int)) ak ak,wrap64 ak ak]
theorem Vl:Vk.size=256:=cQ
set_option maxRecDepth 20000 in
def Yg(x:Nat)(hx:x<18446744073709551616):Sq 306 [] [.int .u64 x] [] (.I (WX x)):=by
 refine Abs.Spec.CW (n:=25) (np:=1) (rs:=[.tmp 2]) mixed func306 rfl rfl rfl rfl rfl sT sT ?_;refine s0 ?_
 repeat'(with_reducible first
  |apply And.intro
  |refine bS.split (λh=>?_) (λh=>?_)
  |refine gf.id ?_
  |simp only[*,go_sem,seval,uh,agh,alD,w48,w56,w40,w16,w24,w8,alT])
 all_goals(simp only[bz,gv]at *)
 all_goals first
  | (rw[Vl,u8w ak ak];omega)
  |skip
 all_goals(rw[u8w ak ak,Int.toNat_natCast,l8D])
 all_goals(simp only[WX,L32,L16])
 all_goals(repeat (rw[aq ak]))
 all_goals(repeat (rw[au ak]))
 all_goals(repeat (rw[aq ak]))
 all_goals(repeat (rw[au ak]))
 all_goals(repeat (rw[aq ak]))
 all_goals(rw[wL ak])
 all_goals omega
def aaY(x:Nat)(c:x<18446744073709551616):Sq 295 [] [.int .u64 x] [] (.I ((64-WX x:Nat):Int)):=by
 refine Abs.Spec.CW (n:=6) (np:=1) (rs:=[.tmp 2]) mixed func295 rfl rfl rfl rfl rfl sT sT ?_;refine sc aS (Yg x c) ?_;have:=(WY x c).2.2;rw[wrap64 ak ak];omega
def va(a:Nat):aaH .u64 (a:Int) 4294967295=((a%4294967296:Nat):Int):=by
 unfold aaH;rw[BitVec.toNat_and,BitVec.toNat_ofInt,BitVec.toNat_ofInt];simp only[IntKind.bits];have h:((4294967295:Int)%((2^64:Nat):Int)).toNat=2^32-1:=ak
 rw[h,Nat.and_two_pow_sub_one_eq_mod,IntKind.wrap_u64];omega
def Tr(a b:Nat):(a:Int).tdiv (b:Int)=((a/b:Nat):Int):=by rw[Int.tdiv_eq_ediv_of_nonneg ak];rfl
def akO(a b:Nat):(a:Int).tmod (b:Int)=((a%b:Nat):Int):=by rw[Int.tmod_eq_emod_of_nonneg ak];rfl
set_option maxRecDepth 20000 in
def w9(x y:Nat)(l:x<18446744073709551616)(m:y<18446744073709551616):Sq 206 [] [.int .u64 x,.int .u64 y] [] (.bI [.int .u64 ((x*y/18446744073709551616:Nat):Int),.int .u64 ((x*y%18446744073709551616:Nat):Int)]):=by
 obtain⟨j,k,bw,c⟩:=Lib.mul64_hi x y l m;have ba:=Lib.half_mul_le (a:=x/4294967296) (b:=y/4294967296) ak ak;have bb:=Lib.half_mul_le (a:=x/4294967296) (b:=y%4294967296) ak ak;have bc:=Lib.half_mul_le (a:=x%4294967296) (b:=y/4294967296) ak ak;have e:x/4294967296*(y/4294967296)<18446744073709551616:=ak
 have f:x/4294967296*(y%4294967296)<18446744073709551616:=ak
 have g:x%4294967296*(y/4294967296)<18446744073709551616:=ak
 have h:x/4294967296*(y/4294967296)+(x/4294967296*(y%4294967296)+x%4294967296*(y%4294967296)/4294967296)/4294967296<18446744073709551616:=ak
 have i:x/4294967296*(y/4294967296)+(x/4294967296*(y%4294967296)+x%4294967296*(y%4294967296)/4294967296)/4294967296+((x/4294967296*(y%4294967296)+x%4294967296*(y%4294967296)/4294967296)%4294967296+x%4294967296*(y/4294967296))/4294967296<18446744073709551616:=ak
 refine Abs.Spec.CW (n:=51) (np:=2) (rs:=[.tmp 4,.tmp 5]) mixed func206 rfl rfl rfl rfl rfl sT sT ?_;simp only[va,uh,go_sem,seval,Mul64.mulN,Mul64.addN,Mul64.wrapN _ j,Mul64.wrapN _ f,Mul64.wrapN _ k,Mul64.wrapN _ g,Mul64.wrapN _ bw,Mul64.wrapN _ e,Mul64.wrapN _ h,Mul64.wrapN _ i,Mul64.wrapM (x*y),c];exact Mul64.wrapN _ (c ▸ i)
def VR{s:Nat}(hs:s<=64):2^(64-s)*2^s=18446744073709551616:=by
 rw[<-Nat.pow_add,show 64-s+s=64 by omega]
def apu(c lo y s:Nat)(m:s<=64)(k:c<y)(l:lo<18446744073709551616) :
  lo/2^(64-s)<2^s/\c*2^s+lo/2^(64-s)<y*2^s/\(c*2^s+lo/2^(64-s))*18446744073709551616+lo*2^s%18446744073709551616=(c*18446744073709551616+lo)*2^s:=by
 have e:=VR m;have f:lo/2^(64-s)<2^s:=by
  rw[Nat.div_lt_iff_lt_mul (Nat.two_pow_pos _),Nat.mul_comm,e];exact l
 refine⟨f,?_,?_⟩
 ·have g:(c+1)*2^s<=y*2^s:=tj _ k;rw[Nat.add_mul,Nat.one_mul]at g;omega
 ·have h:lo*2^s/18446744073709551616=lo/2^(64-s):=by
   rw[<-e,Nat.mul_div_mul_right _ _ (Nat.two_pow_pos s)]
  have i:=Nat.div_add_mod (lo*2^s) 18446744073709551616;rw[h]at i;have j:c*18446744073709551616*2^s=c*2^s*18446744073709551616:=by rw[Nat.mul_assoc,Nat.mul_comm 18446744073709551616,<-Nat.mul_assoc]
  rw[Nat.add_mul,Nat.add_mul,j];omega
structure Rl(un d a b q r:Nat):Prop where
 sum:q*a+r=un
 small:r<4294967296
 top:q<=4294967297
 least:(un*4294967296+d)/(a*4294967296+b)<=q
section
variable{un d a b q r:Nat}
def qv(q a b:Nat):q*(a*4294967296+b)=q*a*4294967296+q*b:=by rw[Nat.mul_add,Nat.mul_assoc]
def Rl.start(ha:2147483648<=a)(ha':a<4294967296)(hb:b<4294967296)(hd:d<4294967296)(hu:un<a*4294967296+b):Rl un d a b (un/a) (un%a):=by
 have c:=Nat.div_add_mod un a;have hl:=Nat.mod_lt un (show 0<a by omega);have e:un/a<=4294967297:=by
  apply Nat.le_of_lt_succ;rw[Nat.div_lt_iff_lt_mul ak];omega
 refine⟨by rw[Nat.mul_comm];exact c,by omega,e,?_⟩;apply Nat.le_of_lt_succ;rw[Nat.div_lt_iff_lt_mul ak,Nat.succ_eq_add_one,qv,Nat.add_mul,Nat.one_mul];have:un/a*a=a*(un/a):=Nat.mul_comm _ _;omega
def Rl.stop(h:Rl un d a b q r)(hv:0<a)(h1:q*b<=4294967296*r+d):q=(un*4294967296+d)/(a*4294967296+b):=by
 refine Nat.le_antisymm ?_ h.least;rw[Nat.le_div_iff_mul_le ak,qv];have:=h.sum;omega
def Rl.step(h:Rl un d a b q r)(hu:un<a*4294967296+b)(hd:d<4294967296)(c:4294967296<=q\/4294967296*r+d<q*b) :
  0<q/\(q-1)*a+(r+a)=un/\q-1<=4294967296/\(un*4294967296+d)/(a*4294967296+b)<=q-1:=by
 have g:0<q:=by
  rcases c with c|c
  ·omega
  ·rcases Nat.eq_zero_or_pos q with e|e
   ·subst e;omega
   ·exact e
 obtain⟨p,rfl⟩:∃p,q=p+1:=⟨q-1,by omega⟩
 have i:=h.sum;rw[Nat.add_mul,Nat.one_mul]at i;have ht:=h.top;refine⟨g,by simp only[Nat.add_sub_cancel];omega,by omega,?_⟩;simp only[Nat.add_sub_cancel];apply Nat.le_of_lt_succ;rw[Nat.div_lt_iff_lt_mul ak,Nat.succ_eq_add_one,qv];have f:(p+1)*a=p*a+a:=by rw[Nat.add_mul,Nat.one_mul]
 have e2:(p+1)*b=p*b+b:=by rw[Nat.add_mul,Nat.one_mul]
 rw[f];rcases c with c|c
 ·have:4294967296*b<=(p+1)*b:=tj _ c;have h2:4294967296*a<=(p+1)*a:=tj _ c;omega
 ·have:=h.small;omega
def Rl.brk(hsum:q*a+r=un)(e:q<=4294967296)(c:(un*4294967296+d)/(a*4294967296+b)<=q)(hb:b<4294967296)(hv:0<a)(hr:4294967296<=r):q=(un*4294967296+d)/(a*4294967296+b):=by
 refine Nat.le_antisymm ?_ c;rw[Nat.le_div_iff_mul_le ak,qv];have h1:q*b<=4294967296*4294967296:=Nat.mul_le_mul e ak;omega
end
def two(N un W v:Nat)(hN:un*18446744073709551616+W=N)(hW:W<18446744073709551616)(e:0<v)(hu:un<v) :
  N/v=(un*4294967296+W/4294967296)/v*4294967296+((un*4294967296+W/4294967296)%v*4294967296+W%4294967296)/v /\
  N%v=((un*4294967296+W/4294967296)%v*4294967296+W%4294967296)%v:=by
 have e1:=Nat.div_add_mod (un*4294967296+W/4294967296) v;have c:N=((un*4294967296+W/4294967296)%v*4294967296+W%4294967296)+v*((un*4294967296+W/4294967296)/v*4294967296):=by
  rw[<-Nat.mul_assoc];omega
 constructor
 ·rw[c,Nat.add_mul_div_left _ _ e,Nat.add_comm]
 ·rw[c,Nat.add_mul_mod_self_left]
def agf(a k:Nat)(hk:k<=64):Bc .u64 (a:Int) (k:Int)=((a*2^k%18446744073709551616:Nat):Int):=by
 unfold Bc;have c:min (Int.toNat (k:Int)) (IntKind.bits .u64)=k:=by simp[IntKind.bits];omega
 rw[c,IntKind.wrap_u64,Int.natCast_emod,Int.natCast_mul,Int.natCast_pow];rfl
def orN(a b k:Nat)(f:b<2^k)(h:a*2^k+b<18446744073709551616):ior .u64 ((a*2^k:Nat):Int) (b:Int)=((a*2^k+b:Nat):Int):=by
 unfold ior;rw[BitVec.toNat_or,BitVec.toNat_ofInt,BitVec.toNat_ofInt];simp only[IntKind.bits];have c:(((a*2^k:Nat):Int)%((2^64:Nat):Int)).toNat=a*2^k:=ak
 have e:((b:Int)%((2^64:Nat):Int)).toNat=b:=ak
 rw[c,e,Nat.mul_comm a,<-Nat.two_pow_add_eq_or_of_lt f,Nat.mul_comm,IntKind.wrap_u64];omega
def al6(a b X m:Int)(h:X+m=a+b)(c:0<=m)(e:m<18446744073709551616):IntKind.wrap .u64 (IntKind.wrap .u64 (IntKind.wrap .u64 a+b)-IntKind.wrap .u64 X)=m:=by
 simp only[IntKind.wrap_u64];rw[Int.emod_add_emod,<-Int.sub_emod,<-h,show X+m-X=m by omega];exact Int.emod_eq_of_lt c e
def ajY(un w v q m:Nat)(f:q=(un*4294967296+w)/v)(e:m=(un*4294967296+w)%v)(hv:m<v)(hv2:v<18446744073709551616):IntKind.wrap .u64 (IntKind.wrap .u64 (IntKind.wrap .u64 ((un:Int)*4294967296)+(w:Int))-IntKind.wrap .u64 ((q:Int)*(v:Int)))=(m:Int):=by
 have c:=Nat.div_add_mod (un*4294967296+w) v;rw[<-e,<-f,Nat.mul_comm v]at c;refine al6 _ _ _ _ ?_ (Int.natCast_nonneg _) ?_
 ·rw[Mul64.mulN];generalize q*v=x at c |-;omega
 ·omega
def aox(q c Q:Nat)(h:q*4294967296+c=Q)(hQ:Q<18446744073709551616):IntKind.wrap .u64 (IntKind.wrap .u64 ((q:Int)*4294967296)+(c:Int))=(Q:Int):=by
 simp only[IntKind.wrap_u64];omega
def ajX{p:Prop} (h:p:=by
 rintro⟨q,r⟩ dg;simp only at dg;have hsm:=dg.small;have htp:=dg.top;have hsum:=dg.sum;have k:IntKind.wrap .u64 (4294967296*(r:Int))=((4294967296*r:Nat):Int):=by rw[IntKind.wrap_u64];omega
 have l:=λ(D:Nat)(h:D<4294967296)=>show IntKind.wrap .u64 (((4294967296*r:Nat):Int)+(D:Int))=((4294967296*r+D:Nat):Int)by rw[IntKind.wrap_u64];omega
 have i:IntKind.wrap .u64 ((r:Int)+((v/4294967296:Nat):Int))=((r+v/4294967296:Nat):Int):=by rw[IntKind.wrap_u64];omega
 have j:=λ(h:0<q)=>show IntKind.wrap .u64 ((q:Int)-1)=((q-1:Nat):Int)by rw[IntKind.wrap_u64];omega
 simp only[va,uh,go_sem,seval];refine cE.lQ (λf=>?_) (λf=>?_)
 ·have hq':q<4294967296:=by simp at f;omega
  have m:q*(v%4294967296)<18446744073709551616:=by
   have:=Nat.mul_le_mul (show q<=4294967295 by omega) (show v%4294967296<=4294967295 by omega);omega
  simp only[va,uh,go_sem,seval,f,k,l _ hDl,Mul64.mulN,Mul64.wrapN _ m];refine bS.split (λe=>?_) (λe=>?_)
  ·obtain⟨s1,s2,s3,s4⟩:=dg.step hU hDl (.inr (by rw[bz]at e;exact_mod_cast e));simp only[go_sem,seval,j s1,i];refine bS.split (λhr=>?_) (λhr=>?_)
   ·refine s0 ?_;have c:=Rl.brk s2 s3 s4 ak vpos (by rw[bz]at hr;omega);rw[hvr]at c;try rw[<-hq1]at c
    refine⟨(),aS,?_⟩;exact dL c
   ·refine s0 ?_;refine⟨(q-1,r+v/4294967296),⟨s2,by rw[gv]at hr;omega,by omega,s4⟩,?_,by simp only;omega⟩;exact jq
  ·refine s0 ?_;have c:=dg.stop vpos (by rw[gv]at e;have g:=Int.not_lt.1 e;exact_mod_cast g);rw[hvr]at c;try rw[<-hq1]at c
   refine⟨(),aS,?_⟩;exact dL c
 ·obtain⟨s1,s2,s3,s4⟩:=dg.step hU hDl (.inl (by simp at f;omega));simp only[va,uh,go_sem,seval,f,j s1,i];refine bS.split (λhr=>?_) (λhr=>?_)
  ·refine s0 ?_;have c:=Rl.brk s2 s3 s4 ak vpos (by rw[bz]at hr;omega);rw[hvr]at c;try rw[<-hq1]at c
   refine⟨(),aS,?_⟩;exact dL c
  ·refine s0 ?_;refine⟨(q-1,r+v/4294967296),⟨s2,by rw[gv]at hr;omega,by omega,s4⟩,?_,by simp only;omega⟩
   simp only[go_sem,seval]):p:=h
set_option maxRecDepth 20000 in
set_option maxHeartbeats 1000000 in
def RG(c lo y:Nat)(hy:y<18446744073709551616)(hh:c<y)(hl:lo<18446744073709551616):Sq 267 [] [.int .u64 c,.int .u64 lo,.int .u64 y] [] (.bI [.int .u64 ((c*18446744073709551616+lo)/y:Nat),.int .u64 ((c*18446744073709551616+lo)%y:Nat)]):=by
 have E:((y:Int)==0)=false:=by simp;omega
 have F:decide ((y:Int)<=c)=false:=by simp;omega
 refine Abs.Spec.CW (n:=135) (np:=3) (rs:=[.tmp 6,.tmp 7]) mixed func267 rfl rfl rfl rfl rfl sT sT ?_;simp only[va,uh,go_sem,seval,E,F];refine bS.split (λh=>?_) (λh=>?_)
 ·simp only[va,uh,go_sem,seval,E,F,h];have:c=0:=su h;subst this;refine⟨gT.mk (by kernel_rfl),?_,?_,?_,?_⟩
  ·omega
  ·omega
  ·rw[Tr,Mul64.wrapN]
   ·simp
   ·exact Nat.lt_of_le_of_lt (Nat.div_le_self _ _) hl
  ·rw[akO];simp
 ·obtain⟨l1,I,l3⟩:=WY y hy;have I:=I ak;obtain⟨s,hs⟩:=aN (64-WX y);have e:s<=64:=ak
  have N:2^WX y*2^s=18446744073709551616:=by rw[<-Nat.pow_add,show WX y+s=64 by omega]
  have j:y*2^s<18446744073709551616:=by rw[<-N];exact Nat.mul_lt_mul_of_pos_right l1 (Nat.two_pow_pos s)
  have D:18446744073709551616<=2*(y*2^s):=by rw[<-N,<-Nat.mul_assoc];exact tj _ I
  obtain⟨p1,Q,p3⟩:=apu c lo y s e hh hl;obtain⟨v,o⟩:=aN (y*2^s);obtain⟨un,g⟩:=aN (c*2^s+lo/2^(64-s));obtain⟨W,G⟩:=aN (lo*2^s%18446744073709551616);have t:v<18446744073709551616:=by rw[o];exact j
  have hvg:18446744073709551616<=2*v:=by rw[o];exact D
  have l:un<v:=by rw[g,o];exact Q
  have hA:c*2^s<=un:=by rw[g];exact Nat.le_add_right _ _
  have M:W<18446744073709551616:=by rw[G];exact Nat.mod_lt _ (by decide)
  have e1:IntKind.wrap .u64 ((64-WX y:Nat):Int)=(s:Int):=by rw[<-hs,Mul64.wrapN _ ak]
  have e2:Bc .u64 (y:Int) (s:Int)=(v:Int):=by rw[agf _ _ e,o,Nat.mod_eq_of_lt j]
  have U:IntKind.wrap .u64 (64-(s:Int))=((64-s:Nat):Int):=by rw[IntKind.wrap_u64];omega
  have V:Bc .u64 (c:Int) (s:Int)=((c*2^s:Nat):Int):=by rw[agf _ _ e,Nat.mod_eq_of_lt (Nat.lt_of_le_of_lt hA (Nat.lt_trans l t))]
  have X:yG .u64 (lo:Int) ((64-s:Nat):Int)=((lo/2^(64-s):Nat):Int):=Wb _ _ ak;have Y:ior .u64 ((c*2^s:Nat):Int) ((lo/2^(64-s):Nat):Int)=(un:Int):=by rw[orN _ _ _ p1 (Nat.lt_trans Q j),g]
  have Z:Bc .u64 (lo:Int) (s:Int)=(W:Int):=by rw[agf _ _ e,G]
  have p:v=v/4294967296*4294967296+v%4294967296:=ak
  have e8:IntKind.wrap .u64 ((un/(v/4294967296):Nat):Int)=((un/(v/4294967296):Nat):Int):=Mul64.wrapN _ (Nat.lt_of_le_of_lt (Nat.div_le_self _ _) ak);have R:Rl un (W/4294967296) (v/4294967296) (v%4294967296) (un/(v/4294967296)) (un%(v/4294967296)):=Rl.start ak ak ak ak ak;have e9:IntKind.wrap .u64 ((un:Int)-IntKind.wrap .u64 (((un/(v/4294967296):Nat):Int)*((v/4294967296:Nat):Int)))=((un%(v/4294967296):Nat):Int):=by
   have:=R.sum;rw[Mul64.mulN,Mul64.wrapN _ ak,IntKind.wrap_u64];omega
  simp only[va,uh,go_sem,seval,E,F,h];refine aG.bC (aaY y hy) ?_;simp only[va,uh,go_sem,seval,E,F,h,e1,e2,U,V,X,Y,Z,Tr,e8,e9];repeat (refine And.intro ak ?_)
  have i:∀x:Nat,(c*18446744073709551616+lo)*2^s/v=x->x=(c*18446744073709551616+lo)/y:=λx P=>by
   rw[<-P,o,Nat.mul_div_mul_right _ _ (Nat.two_pow_pos s)]
  have f:∀x:Nat,(c*18446744073709551616+lo)*2^s%v=x->x/2^s=(c*18446744073709551616+lo)%y:=λx P=>by
   rw[<-P,o,Nat.mul_mod_mul_right,Nat.mul_div_cancel _ (Nat.two_pow_pos s)]
  obtain⟨t1,t2⟩:=two ((c*18446744073709551616+lo)*2^s) un W v (by rw[g,G];exact p3) M ak l;have i:=i _ t1;have f:=f _ t2;have O:∀a:Nat,yG .u64 (a:Int) (s:Int)=((a/2^s:Nat):Int):=λa=>Wb a s e;clear p1 Q p3 j D N G g hA e1 e2 U V X Y Z l1 I l3 t1 t2 o hs;have vpos:0<v/4294967296:=ak
  obtain⟨m,H⟩:=aN ((un*4294967296+W/4294967296)%v);have B:m<v:=by rw[H];exact Nat.mod_lt _ ak
  have k:m<v/4294967296*4294967296+v%4294967296:=by rw[<-p];exact B
  obtain⟨z,hq1⟩:=aN ((un*4294967296+W/4294967296)/v);rw[<-H,<-hq1]at i;rw[<-H]at f;have C:un<v/4294967296*4294967296+v%4294967296:=by rw[<-p];exact l
  have hvr:=p.symm;refine OC (T:=Unit) (λ_=>[(2,.int .u64 v),(6,.int .u64 0),(7,.int .u64 0),(8,.int .u64 s),(9,.int .u64 (v/4294967296:Nat)),(10,.int .u64 (v%4294967296:Nat)),(11,.int .u64 un),(13,.int .u64 (W/4294967296:Nat)),(14,.int .u64 (W%4294967296:Nat)),(15,.int .u64 z)]) (λ_=>[]) (λ_=>True) (by rfl) ?_ ?_
  ·rintro⟨⟩ -;have J:=ajY un (W/4294967296) v z m hq1 H B t;have K:IntKind.wrap .u64 ((m/(v/4294967296):Nat):Int)=((m/(v/4294967296):Nat):Int):=Mul64.wrapN _ (Nat.lt_of_le_of_lt (Nat.div_le_self _ _) ak);have S:Rl m (W%4294967296) (v/4294967296) (v%4294967296) (m/(v/4294967296)) (m%(v/4294967296)):=Rl.start ak ak ak ak k;have L:IntKind.wrap .u64 ((m:Int)-IntKind.wrap .u64 (((m/(v/4294967296):Nat):Int)*((v/4294967296:Nat):Int)))=((m%(v/4294967296):Nat):Int):=by
    have:=S.sum;rw[Mul64.mulN,Mul64.wrapN _ ak,IntKind.wrap_u64];omega
   simp only[va,uh,go_sem,seval,Tr,J,K,L];repeat (refine And.intro ak ?_)
   refine OC (T:=Unit) (λ_=>[(2,.int .u64 v),(8,.int .u64 s),(14,.int .u64 (W%4294967296:Nat)),(15,.int .u64 z),(17,.int .u64 m),(18,.int .u64 ((m*4294967296+W%4294967296)/v:Nat))]) (λ_=>[]) (λ_=>True) (by rfl) ?_ ?_
   ·rintro⟨⟩ -;simp only[va,uh,go_sem,seval,Tr];have g1:IntKind.wrap .u64 (IntKind.wrap .u64 ((z:Int)*4294967296)+(((m*4294967296+W%4294967296)/v:Nat):Int))=(((c*18446744073709551616+lo)/y:Nat):Int):=by
     have hQ:(c*18446744073709551616+lo)/y<18446744073709551616:=by
      rw[Nat.div_lt_iff_lt_mul ak];omega
     exact aox z _ _ i hQ
    have g2:=ajY m (W%4294967296) v ((m*4294967296+W%4294967296)/v) ((m*4294967296+W%4294967296)%v) rfl rfl (Nat.mod_lt _ ak) t;rw[g1,g2,O,f];exact⟨rfl,rfl⟩
   refine⟨Nat×Nat,λx=>[(2,.int .u64 v),(6,.int .u64 0),(7,.int .u64 0),(8,.int .u64 s),(9,.int .u64 (v/4294967296:Nat)),(10,.int .u64 (v%4294967296:Nat)),(14,.int .u64 (W%4294967296:Nat)),(15,.int .u64 z),(17,.int .u64 m),(18,.int .u64 x.1),(16,.int .u64 x.2)],λ_=>[],λx=>Rl m (W%4294967296) (v/4294967296) (v%4294967296) x.1 x.2,λx=>x.1,(m/(v/4294967296),m%(v/4294967296)),S,?_,?_⟩
   ·exact jq
   ·have hU:=k;have hDl:W%4294967296<4294967296:=ak
    exact ajX
  refine⟨Nat×Nat,λx=>[(2,.int .u64 v),(6,.int .u64 0),(7,.int .u64 0),(8,.int .u64 s),(9,.int .u64 (v/4294967296:Nat)),(10,.int .u64 (v%4294967296:Nat)),(11,.int .u64 un),(13,.int .u64 (W/4294967296:Nat)),(14,.int .u64 (W%4294967296:Nat)),(15,.int .u64 x.1),(16,.int .u64 x.2)],λ_=>[],λx=>Rl un (W/4294967296) (v/4294967296) (v%4294967296) x.1 x.2,λx=>x.1,(un/(v/4294967296),un%(v/4294967296)),R,?_,?_⟩
  ·exact jq
  ·have hU:=C;have hDl:W/4294967296<4294967296:=ak
   exact ajX
def al1{a:Int}:∃u:Nat,IntKind.wrap .u64 a=(u:Int)/\u<18446744073709551616/\(u:Int)=a%18446744073709551616:=by
 refine⟨(a%18446744073709551616).toNat,?_,?_,?_⟩
 ·rw[IntKind.wrap_u64];omega
 ·omega
 ·omega
def hi1(x:Nat)(P:Int)(h:(x:Int)=P)(hP:-85070591730234615865843651857942052864<=P/\P<=85070591730234615865843651857942052864):IntKind.wrap .i64 ((x/18446744073709551616:Nat):Int)=P/18446744073709551616/\((x%18446744073709551616:Nat):Int)=P%18446744073709551616:=by
 rw[IntKind.wrap_i64];omega
def hi2(x:Nat)(P b:Int)(h:(x:Int)=P+18446744073709551616*b)(hP:-85070591730234615865843651857942052864<=P/\P<=85070591730234615865843651857942052864):IntKind.wrap .i64 (IntKind.wrap .u64 (((x/18446744073709551616:Nat):Int)-b%18446744073709551616))=P/18446744073709551616/\((x%18446744073709551616:Nat):Int)=P%18446744073709551616:=by
 rw[IntKind.wrap_i64,IntKind.wrap_u64];omega
def hi3(x:Nat)(P a b:Int)(h:(x:Int)=P+18446744073709551616*a+18446744073709551616*b+18446744073709551616*18446744073709551616)(hP:-85070591730234615865843651857942052864<=P/\P<=85070591730234615865843651857942052864) :
  IntKind.wrap .i64 (IntKind.wrap .u64 (IntKind.wrap .u64 (((x/18446744073709551616:Nat):Int)-b%18446744073709551616)-a%18446744073709551616))=P/18446744073709551616/\((x%18446744073709551616:Nat):Int)=P%18446744073709551616:=by
 rw[IntKind.wrap_i64,IntKind.wrap_u64,IntKind.wrap_u64];omega
def alb(a b:Int)(ha:-9223372036854775808<=a/\a<=9223372036854775807)(hb:-9223372036854775808<=b/\b<=9223372036854775807):-85070591730234615865843651857942052864<=a*b/\a*b<=85070591730234615865843651857942052864:=by
 have h1:(a*b).natAbs<=9223372036854775808*9223372036854775808:=by
  rw[Int.natAbs_mul];exact Nat.mul_le_mul ak ak
 omega
section
variable{a b:Int}{u w:Nat}
def adp(hu:(u:Int)=a%18446744073709551616)(hw:(w:Int)=b%18446744073709551616)(ha:-9223372036854775808<=a/\a<=9223372036854775807)(hb:-9223372036854775808<=b/\b<=9223372036854775807)(h1:a<0)(h2:b<0) :
  ((u*w:Nat):Int)=a*b+18446744073709551616*a+18446744073709551616*b+18446744073709551616*18446744073709551616:=by
 have c:(u:Int)=a+18446744073709551616:=ak
 have e2:(w:Int)=b+18446744073709551616:=ak
 rw[Int.natCast_mul,c,e2,Int.add_mul,Int.mul_add,Int.mul_add,Int.mul_comm a 18446744073709551616,Int.add_assoc,Int.add_assoc,Int.add_assoc]
def ado(hu:(u:Int)=a%18446744073709551616)(hw:(w:Int)=b%18446744073709551616)(ha:-9223372036854775808<=a/\a<=9223372036854775807)(hb:-9223372036854775808<=b/\b<=9223372036854775807)(h1:a<0)(h2:¬b<0) :
  ((u*w:Nat):Int)=a*b+18446744073709551616*b:=by
 have c:(u:Int)=a+18446744073709551616:=ak
 have e2:(w:Int)=b:=ak
 rw[Int.natCast_mul,c,e2,Int.add_mul]
def YQ(hu:(u:Int)=a%18446744073709551616)(hw:(w:Int)=b%18446744073709551616)(ha:-9223372036854775808<=a/\a<=9223372036854775807)(hb:-9223372036854775808<=b/\b<=9223372036854775807)(h1:¬a<0)(h2:b<0) :
  ((u*w:Nat):Int)=a*b+18446744073709551616*a:=by
 have c:(u:Int)=a:=ak
 have e2:(w:Int)=b+18446744073709551616:=ak
 rw[Int.natCast_mul,c,e2,Int.mul_add,Int.mul_comm a 18446744073709551616]
def adn(hu:(u:Int)=a%18446744073709551616)(hw:(w:Int)=b%18446744073709551616)(ha:-9223372036854775808<=a/\a<=9223372036854775807)(hb:-9223372036854775808<=b/\b<=9223372036854775807)(h1:¬a<0)(h2:¬b<0) :
  ((u*w:Nat):Int)=a*b:=by
 have c:(u:Int)=a:=ak
 have e2:(w:Int)=b:=ak
 rw[Int.natCast_mul,c,e2]
end
theorem xD(a b:Int)(f:-9223372036854775808<=a/\a<=9223372036854775807)(g:-9223372036854775808<=b/\b<=9223372036854775807):Sq 129 [] [.int .i64 a,.int .i64 b] [] (.agg [.int .i64 (a*b/18446744073709551616),.int .u64 (a*b%18446744073709551616)]):=by
 obtain⟨u,l,j,c⟩:=al1 (a:=a);obtain⟨w,m,k,e⟩:=al1 (a:=b);refine Abs.Spec.CW (n:=31) (np:=2) (rs:=[.cell 4 226]) mixed func129 rfl rfl rfl rfl rfl sT sT ?_;refine sm (a2 l m) ?_
 repeat'(with_reducible first
  |apply And.intro
  |exact gT.mk (by kernel_rfl)
  |exact Ek.mk (by kernel_rfl)
  |refine aG.bC (w9 _ _ j k) ?_
  |refine bS.split (λh=>?_) (λh=>?_)
  |refine gf.id ?_
  |simp only[*,go_sem,seval])
 all_goals(simp only[bz,gv]at *)
 all_goals(have i:=alb a b f g)
 all_goals(clear l m)
 all_goals first
  |exact(hi3 _ _ _ _ (adp c e f g ‹_› ‹_›) i).1
  |exact(hi3 _ _ _ _ (adp c e f g ‹_› ‹_›) i).2
  |exact(hi2 _ _ _ (ado c e f g ‹_› ‹_›) i).1
  |exact(hi2 _ _ _ (ado c e f g ‹_› ‹_›) i).2
  |exact(hi2 _ _ _ (YQ c e f g ‹_› ‹_›) i).1
  |exact(hi2 _ _ _ (YQ c e f g ‹_› ‹_›) i).2
  |exact(hi1 _ _ (adn c e f g ‹_› ‹_›) i).1
  |exact(hi1 _ _ (adn c e f g ‹_› ‹_›) i).2
def apn(x:Nat)(h:x<18446744073709551616):aaM .u64 (x:Int)=((18446744073709551615-x:Nat):Int):=by
 unfold aaM;have c:BitVec.ofInt 64 (if IntKind.signed .u64 then -1 else IntKind.max .u64)=BitVec.allOnes 64:=by decide
 show IntKind.wrap .u64 (((BitVec.ofInt 64 (if IntKind.signed .u64 then -1 else IntKind.max .u64) ^^^ BitVec.ofInt 64 (x:Int)).toNat:Nat):Int)=_;rw[c,BitVec.allOnes_xor,BitVec.toNat_not,BitVec.toNat_ofInt,IntKind.wrap_u64];omega
def abr(P n:Int):Int:=if n<=0 then 0 else if bB (P/n)then P/n else 0
def af7(P n:Int):Int:=if n<=0 then 2 else if bB (P/n)then 0 else 1
def sX(x:Int):right [x]=bB x:=by simp[right]
def aD.P(x:aD)(u:Int):Int:=u*(10000-x.d)*x.c
def aD.fit(x:aD)(u:Int):Bool:=x.ok&&decide (0<=u)&&decide (u<=1099511627776)
def aD.V(x:aD)(u:Int):Int:=if x.fit u then abr (x.P u) 10000 else 0
def aD.E(x:aD)(u:Int):Int:=if x.fit u then af7 (x.P u) 10000 else 3
def aD.afU(x:aD):x.ok=true↔(1<=x.a/\x.a<=6)/\(0<=x.b/\x.b<=2)/\(1<=x.c/\x.c<=1073741824)/\(0<=x.d/\x.d<=10000):=by
 simp[aD.ok,within,and_assoc]
theorem Mq(w a n:Int):∀ps:List gC,(Kx w a n ps).length<=ps.length+1
 | []=>by simp only[Kx];split<;>simp
 |p::r=>by
  have:=Mq w a n r;simp only[Kx];split
  ·simp;exact this
  ·split<;>split<;>simp<;>omega
def UK{ps:List gC}{w a u:Int}(h:gz ps w a u=0):Good ps/\iK w a=true /\ -1099511627776<=u/\u<=1099511627776/\0<=dH w a ps+u/\dH w a ps+u<=1099511627776:=by
 unfold gz at h;split at h
 ·cases h
 ·rename_i e;have f:=jg.1 (su e);split at h
  ·cases h
  ·rename_i c;simp only[Bool.not_eq_false,bQ,bz]at c;split at h
   ·cases h
   ·split at h
    ·cases h
    ·refine⟨f,c.1.1,c.1.2,c.2,by omega,by omega⟩
structure av where
 no:Int
 state:Int
 need:Int
@[reducible] def av.cells(x:av):List D:=[.I x.no,.I x.state,.I x.need]
def av.ok(x:av):Bool:=within x.no 1 16&&within x.state 1 3&&bB x.need&&decide (0<=x.need)
theorem qV(x:av):Sq 54 [] [.agg x.cells] [] (.int .i64 x.no):=by
 refine bp 5 1 [.tmp 2] mixed func54 ?_;simp only[av.cells];exact jq
def wA(x:av):Sq 92 [] [.agg x.cells] [] (.bool x.ok):=by
 have i:=iD x.no 1 16;have j:=iD x.state 1 3;have h:=fq [x.need] sT;rw[sX]at h;simp only[av.cells];refine bp 22 1 [.tmp 2] mixed func92 ?_;refine sc aS i ?_;cases c:within x.no 1 16
 ·have e:x.ok=false:=by simp[av.ok,c]
  exact dL e
 refine sc aS j ?_;cases f:within x.state 1 3
 ·have e:x.ok=false:=by simp[av.ok,f]
  exact dL e
 refine sl aS h ?_;cases g:bB x.need
 ·have e:x.ok=false:=by simp[av.ok,g]
  exact dL e
 have e:x.ok=decide (0<=x.need):=by simp[av.ok,c,f,g]
 exact dL e
structure aE where
 no:Int
 cur:Int
 mult:Int
 add:Int
 set:Int
 aL:Int
 s0:Int
 s1:Int
 s2:Int
 s3:Int
 s4:Int
 s5:Int
@[reducible] def aE.cells(x:aE):List D:=[.I x.no,.I x.cur,.I x.mult,.I x.add,.I x.set,.I x.aL,.I x.s0,.I x.s1,.I x.s2,.I x.s3,.I x.s4,.I x.s5]
def aE.sh(x:aE):Nat->Int
 | 0=>x.s0| 1=>x.s1| 2=>x.s2| 3=>x.s3| 4=>x.s4| _=>x.s5
def aE.N2(x:aE):Bool:=(range 6).all λi=>within (x.sh i) (-1073741824) 1073741824
def aE.ok(x:aE):Bool:=x.N2&&within x.no 1 8&&within x.cur 0 2&&within x.mult 1 1024&&within x.add 0 1073741824&&within x.set 0 1073741824&&within x.aL 0 1073741824
theorem yQ(x:aE):Sq 94 [] [.agg x.cells] [] (.int .i64 x.no):=by
 refine bp 5 1 [.tmp 2] mixed func94 ?_;simp only[aE.cells];exact jq
def zf(x:aE):Sq 95 [] [.agg x.cells] [] (.bool x.ok):=by
 have h1:=iD x.no 1 8;have h2:=iD x.cur 0 2;have h3:=iD x.mult 1 1024;have h4:=iD x.add 0 1073741824;have h5:=iD x.set 0 1073741824;have h6:=iD x.aL 0 1073741824;simp only[aE.cells];refine bp 42 1 [.tmp 2] mixed func95 ?_;refine s0 ?_;refine aF.count 6 [1,6] [32] (λi=>[(7,.I i)]) (λi=>[]) (λi=>∀j<i,within (x.sh j) (-1073741824) 1073741824=true) sT ?_ ?_
 ·exact jq
 ·intro i hi f;refine s0 ?_;refine bS.fX (λh=>?_) (λh=>?_)
  ·have c:i<6:=ak
   have k:(drop (i*1) [D.I x.s0,D.I x.s1,D.I x.s2,D.I x.s3,D.I x.s4,D.I x.s5]).headD .undef=.I (x.sh i):=by
    rcases i with _| _| _| _| _| _|i<;>first|rfl|omega
   have s:IntKind.wrap .i64 ((i:Int)+1)=((i+1:Nat):Int):=fQ;have p:=iD (x.sh i) (-1073741824) 1073741824;refine sm k ?_;refine⟨by omega,aG.bC p ?_⟩;cases g:within (x.sh i) (-1073741824) 1073741824
   ·have o:x.N2=false:=by
     cases l:x.N2
     ·rfl
     ·rw[aE.N2,bL]at l;rw[l i (mem_range.2 c)]at g;cases g
    have e2:x.ok=false:=by simp[aE.ok,o]
    exact dL e2
   ·refine sm s ?_;refine ah.jE c ?_ ?_
    ·intro j m;rcases dN j i with h|h
     ·exact f j h
     ·obtain rfl:j=i:=ak
      exact g
    ·exact jq
  ·obtain rfl:i=6:=ak
   have n:x.N2=true:=bL.2 λj m=>f j (mem_range.1 m);have e:x.ok=(within x.no 1 8&&within x.cur 0 2&&within x.mult 1 1024&&within x.add 0 1073741824&&within x.set 0 1073741824&&within x.aL 0 1073741824):=by simp[aE.ok,n]
   rw[e];clear f e n;repeat' with_reducible first|apply And.intro|refine aG.bC (by assumption) ?_|refine mO (λh=>?_) λh=>?_|simp only[*,go_sem,seval]
   all_goals(simp_all;done)
def Ea(xs:List av)(hl:xs.length<2^62):Sq 91 [] [.sl 3 (xs.map av.cells),.fn 54 [],.fn 92 []] [] (.bool (mI av.no av.ok xs)):=by
 refine Abs.Spec.CW (n:=38) (np:=3) (rs:=[.tmp 6]) mixed func91 rfl rfl rfl rfl rfl sT sT ?_;refine s0 ?_;refine⟨Nat,λi=>[(6,.bool false),(0,.sl 3 (xs.map av.cells)),(1,.fn 54 []),(2,.fn 92 []),(9,.sl 3 (xs.map av.cells)),(10,.I xs.length),(11,.I i)],λi=>[],λi=>i<=xs.length/\∀j,j<i->eV av.no av.ok xs j=true,λi=>xs.length-i,0,?_,?_,?_⟩
 ·simp
 ·exact kG
 ·rintro i ⟨hi,hr⟩;refine s0 ?_;refine bS.split (λh=>?_) (λh=>?_)
  ·have e:i<xs.length:=su h;have bad:eV av.no av.ok xs i=false->mI av.no av.ok xs=false:=λk=>by
    simp only[mI,all_eq_false];exact⟨i,mem_range.2 e,by simp[k]⟩
   simp only[go_sem,seval,Int.toNat_natCast,br xs e,av.cells];refine⟨by simp[e],?_⟩;have next:eV av.no av.ok xs i=true->∀j,j<i+1->eV av.no av.ok xs j=true:=λk j m=>by
    rcases Nat.lt_succ_iff_lt_or_eq.1 m with h1|rfl
    ·exact hr j h1
    ·exact k
   by_cases l:0<i
   ·have s:IntKind.wrap .i64 ((i:Int)-1)=((i-1:Nat):Int):=by rw[wrap64 ak ak];omega
    have p:i-1<xs.length:=ak
    have g:decide (0<(i:Int))=true:=by simp;omega
    have o:=br (c:=av.cells) xs p;have f:=jR av.no av.ok xs e l
    repeat'(with_reducible first
     |apply And.intro
     |exact gT.mk (by kernel_rfl)
     |exact Ek.mk (by kernel_rfl)
     |refine aG.bC (wA _) ?_
     |refine aG.bC (qV _) ?_
     |refine cE.lQ (λh=>?_) (λh=>?_)
     |refine cE.split (λh=>?_) (λh=>?_)
     |refine bS.split (λh=>?_) (λh=>?_)
     |refine gf.id ?_
     |simp only[s,g,o,go_sem,seval, *,Int.toNat_natCast,av.cells])
    ·simp;omega
    ·exact(bad (by rw[f];simp at h;simp;intro _;omega)).symm
    ·refine⟨i+1,⟨e,next (by rw[f];simp at h;simp[*])⟩,?_,by simp only;omega⟩;refine s0 ?_;rw[wrap64 ak ak];simp
   ·have g:decide (0<(i:Int))=false:=by simp;omega
    have f:=jS av.no av.ok xs e l
    repeat'(with_reducible first
     |apply And.intro
     |exact gT.mk (by kernel_rfl)
     |exact Ek.mk (by kernel_rfl)
     |refine aG.bC (wA _) ?_
     |refine aG.bC (qV _) ?_
     |refine cE.lQ (λh=>?_) (λh=>?_)
     |refine cE.split (λh=>?_) (λh=>?_)
     |refine bS.split (λh=>?_) (λh=>?_)
     |refine gf.id ?_
     |simp only[g,go_sem,seval, *,Int.toNat_natCast,av.cells])
    ·refine⟨i+1,⟨e,next (by rw[f];simp[*])⟩,?_,by simp only;omega⟩;refine s0 ?_;rw[wrap64 ak ak];simp
  ·refine s0 ?_;have:i=xs.length:=by simp at h;omega
   subst this;symm;simpa[mI]using hr
def IE(xs:List aE)(hl:xs.length<2^62):Sq 93 [] [.sl 12 (xs.map aE.cells),.fn 94 [],.fn 95 []] [] (.bool (mI aE.no aE.ok xs)):=by
 refine Abs.Spec.CW (n:=38) (np:=3) (rs:=[.tmp 6]) mixed func93 rfl rfl rfl rfl rfl sT sT ?_;refine s0 ?_;refine⟨Nat,λi=>[(6,.bool false),(0,.sl 12 (xs.map aE.cells)),(1,.fn 94 []),(2,.fn 95 []),(9,.sl 12 (xs.map aE.cells)),(10,.I xs.length),(11,.I i)],λi=>[],λi=>i<=xs.length/\∀j,j<i->eV aE.no aE.ok xs j=true,λi=>xs.length-i,0,?_,?_,?_⟩
 ·simp
 ·exact kG
 ·rintro i ⟨hi,hr⟩;refine s0 ?_;refine bS.split (λh=>?_) (λh=>?_)
  ·have e:i<xs.length:=su h;have bad:eV aE.no aE.ok xs i=false->mI aE.no aE.ok xs=false:=λk=>by
    simp only[mI,all_eq_false];exact⟨i,mem_range.2 e,by simp[k]⟩
   simp only[go_sem,seval,Int.toNat_natCast,br xs e,aE.cells];refine⟨by simp[e],?_⟩;have next:eV aE.no aE.ok xs i=true->∀j,j<i+1->eV aE.no aE.ok xs j=true:=λk j m=>by
    rcases Nat.lt_succ_iff_lt_or_eq.1 m with h1|rfl
    ·exact hr j h1
    ·exact k
   by_cases l:0<i
   ·have s:IntKind.wrap .i64 ((i:Int)-1)=((i-1:Nat):Int):=by rw[wrap64 ak ak];omega
    have p:i-1<xs.length:=ak
    have g:decide (0<(i:Int))=true:=by simp;omega
    have o:=br (c:=aE.cells) xs p;have f:=jR aE.no aE.ok xs e l
    repeat'(with_reducible first
     |apply And.intro
     |exact gT.mk (by kernel_rfl)
     |exact Ek.mk (by kernel_rfl)
     |refine aG.bC (zf _) ?_
     |refine aG.bC (yQ _) ?_
     |refine cE.lQ (λh=>?_) (λh=>?_)
     |refine cE.split (λh=>?_) (λh=>?_)
     |refine bS.split (λh=>?_) (λh=>?_)
     |refine gf.id ?_
     |simp only[s,g,o,go_sem,seval, *,Int.toNat_natCast,aE.cells])
    ·simp;omega
    ·exact(bad (by rw[f];simp at h;simp;intro _;omega)).symm
    ·refine⟨i+1,⟨e,next (by rw[f];simp at h;simp[*])⟩,?_,by simp only;omega⟩;refine s0 ?_;rw[wrap64 ak ak];simp
   ·have g:decide (0<(i:Int))=false:=by simp;omega
    have f:=jS aE.no aE.ok xs e l
    repeat'(with_reducible first
     |apply And.intro
     |exact gT.mk (by kernel_rfl)
     |exact Ek.mk (by kernel_rfl)
     |refine aG.bC (zf _) ?_
     |refine aG.bC (yQ _) ?_
     |refine cE.lQ (λh=>?_) (λh=>?_)
     |refine cE.split (λh=>?_) (λh=>?_)
     |refine bS.split (λh=>?_) (λh=>?_)
     |refine gf.id ?_
     |simp only[g,go_sem,seval, *,Int.toNat_natCast,aE.cells])
    ·refine⟨i+1,⟨e,next (by rw[f];simp[*])⟩,?_,by simp only;omega⟩;refine s0 ?_;rw[wrap64 ak ak];simp
  ·refine s0 ?_;have:i=xs.length:=by simp at h;omega
   subst this;symm;simpa[mI]using hr
structure aA where
 ms:List av
 ns:List aE
 xs:List aD
def aA.cells(r:aA):List D:=[.sl 3 (r.ms.map av.cells),.sl 12 (r.ns.map aE.cells),.sl 4 (r.xs.map aD.cells)]
def aA.okB(r:aA):Bool:=mI av.no av.ok r.ms&&mI aE.no aE.ok r.ns&&mI aD.a aD.ok r.xs
def aA.small(r:aA):Prop:=r.ms.length<2^60/\r.ns.length<2^60/\r.xs.length<2^60
theorem tZ(r:aA)(k:r.small):Sq 24 [] [.agg r.cells] [] (.int .i64 (if r.okB then 0 else 14)):=by
 obtain⟨l1,l2,l3⟩:=k;have h:=Ea r.ms ak;have i:=IE r.ns ak;have j:=Fz r.xs ak;simp only[aA.cells];refine bp 19 1 [.tmp 2] mixed func24 ?_;refine sc aS h ?_;cases c:mI av.no av.ok r.ms
 ·have e:r.okB=false:=by simp[aA.okB,c]
  exact gY e
 refine sc aS i ?_;cases f:mI aE.no aE.ok r.ns
 ·have e:r.okB=false:=by simp[aA.okB,f]
  exact gY e
 refine sc aS j ?_;cases g:mI aD.a aD.ok r.xs
 ·have e:r.okB=false:=by simp[aA.okB,g]
  exact gY e
 have e:r.okB=true:=by simp[aA.okB,c,f,g]
 exact dL e
def jj{A:Type}(no:A->Int)(n:Int)(z:A):List A->A
 | []=>z
 |x::r=>if no x=n then x else jj no n z r
def lO{A:Type}(no:A->Int)(n:Int):List A->Int
 | []=>-1
 |x::r=>if no x=n then 0 else if lO no n r<0 then -1 else lO no n r+1
theorem mz{A:Type}{no:A->Int}{n:Int}{z:A}:∀{xs:List A} {i:Nat} (h:i<xs.length),(∀j (e:j<xs.length),j<i->no xs[j]≠n)->no xs[i]=n->jj no n z xs=xs[i]/\lO no n xs=i
 | [],i,h,_,_=>by simp at h
 |x::r,0,h,_,c=>by
  have c:no x=n:=c;simp[jj,lO,c]
 |x::r,i+1,h,hn,c=>by
  have f:no x≠n:=hn 0 sT ak;obtain⟨g,k⟩:=mz (z:=z) (xs:=r) (i:=i) (su h) (λj e hji=>hn (j+1) (su e) ak) c;simp only[jj,lO,au f,k];refine⟨g,?_⟩;rw[au ak];omega
theorem j7{A:Type}{no:A->Int}{n:Int}{z:A}:∀{xs:List A},(∀j (c:j<xs.length),no xs[j]≠n)->jj no n z xs=z/\lO no n xs = -1
 | [],_=>by simp[jj,lO]
 |x::r,hn=>by
  have e:no x≠n:=hn 0 sT;obtain⟨f,g⟩:=j7 (z:=z) (xs:=r) (λj c=>hn (j+1) (su c));simp only[jj,lO,au e,g];exact⟨f,by simp⟩
theorem GR(xs:List aD)(n:Int)(hl:xs.length<2^62):Sq 196 [] [.sl 4 (xs.map aD.cells),.fn 97 [],.int .i64 n] [] (.bI [.agg (jj aD.a n ⟨0,0,0,0⟩ xs).cells,.int .i64 (lO aD.a n xs)]):=by
 refine bp 27 3 [.cell 6 159,.tmp 7] mixed func196 ?_;refine s0 ?_;refine aF.count xs.length [1,2,6,11,12] [112,208] (λi=>[(13,.I i)]) (λi=>[]) (λi=>∀j (g:j<xs.length),j<i->xs[j].a≠n) sT ?_ ?_
 ·exact kG
 ·intro i hi o;refine s0 ?_;refine bS.fX (λh=>?_) (λh=>?_)
  ·have f:i<xs.length:=ak
   have s:IntKind.wrap .i64 ((i:Int)+1)=((i+1:Nat):Int):=fQ;have p:=br (c:=aD.cells) xs f;have k:=xe xs[i];simp only[aD.cells]at p k |-;refine sm p ?_;refine⟨by omega,aG.bC k ?_⟩;refine s0 ?_;refine bS.split (λe=>?_) (λe=>?_)
   ·have e:xs[i].a=n:=su e;obtain⟨l,m⟩:=mz (z:=(⟨0,0,0,0⟩:aD)) f o e;rw[l,m];exact jq
   ·have e:xs[i].a≠n:=su e;refine sm s ?_;refine ah.jE f ?_ ?_
    ·intro j g hji;rcases dN j i with h|h
     ·exact o j g h
     ·obtain rfl:j=i:=ak
      exact e
    ·exact jq
  ·obtain rfl:i=xs.length:=ak
   obtain⟨l,m⟩:=j7 (z:=(⟨0,0,0,0⟩:aD)) (λj g=>o j g g);rw[l,m];simp only[go_sem,seval,aD.cells]
structure aC where
 kind:Int
 who:Int
 cur:Int
@[reducible] def aC.cells(x:aC):List D:=[.I x.kind,.I x.who,.I x.cur]
def owned(k:Int):Bool:=k==2||k==3
theorem So(k:Int):Sq 193 [] [.int .i64 k] [] (.bool (owned k)):=by
 refine bp 9 1 [.tmp 2] mixed func193 ?_;refine s0 ?_
 repeat'(with_reducible first
  |apply And.intro
  |exact gT.mk (by kernel_rfl)
  |exact Ek.mk (by kernel_rfl)
  |refine cE.lQ (λh=>?_) (λh=>?_)
  |refine cE.split (λh=>?_) (λh=>?_)
  |refine bS.split (λh=>?_) (λh=>?_)
  |refine gf.id ?_
  |simp only[*,go_sem,seval])
 all_goals simp[owned, *]
def aC.right(x:aC):Bool:=if x.kind<1\/6<x.kind\/x.cur<0\/3<=x.cur then false else if owned x.kind then decide (1<=x.who)&&decide (x.who<=16)else x.who==0
def th(x:aC):Sq 103 [] [.agg x.cells] [] (.bool x.right):=by
 refine bp 37 1 [.tmp 2] mixed func103 ?_;simp only[aC.cells];refine s0 ?_
 repeat'(with_reducible first
  |apply And.intro
  |exact gT.mk (by kernel_rfl)
  |exact Ek.mk (by kernel_rfl)
  |refine aG.bC (So _) ?_
  |refine cE.lQ (λh=>?_) (λh=>?_)
  |refine cE.split (λh=>?_) (λh=>?_)
  |refine bS.split (λh=>?_) (λh=>?_)
  |refine gf.id ?_
  |simp only[*,go_sem,seval])
 all_goals(simp only[bz,gv]at *)
 all_goals(unfold aC.right;simp[*])
def aC.floor(x:aC):Int:=if x.right&&(x.kind==3||x.kind==4)then 0 else -4611686018427387904
theorem yf(x:aC):Sq 50 [] [.agg x.cells] [] (.int .i64 x.floor):=by
 have c:=th x;simp only[aC.cells]at c;refine bp 15 1 [.tmp 2] mixed func50 ?_;simp only[aC.cells];refine s0 ?_
 repeat'(with_reducible first
  |apply And.intro
  |exact gT.mk (by kernel_rfl)
  |exact Ek.mk (by kernel_rfl)
  |refine aG.bC c ?_
  |refine cE.lQ (λh=>?_) (λh=>?_)
  |refine cE.split (λh=>?_) (λh=>?_)
  |refine bS.split (λh=>?_) (λh=>?_)
  |refine gf.id ?_
  |simp only[*,go_sem,seval])
 all_goals(unfold aC.floor;simp[*])
def aC.less(x y:aC):Bool:=if x.kind≠y.kind then decide (x.kind<y.kind)else if x.who≠y.who then decide (x.who<y.who)else decide (x.cur<y.cur)
def uS(x y:aC):Sq 104 [] [.agg x.cells,.agg y.cells] [] (.bool (x.less y)):=by
 refine bp 32 2 [.tmp 4] mixed func104 ?_;simp only[aC.cells];refine s0 ?_
 repeat'(with_reducible first
  |apply And.intro
  |exact gT.mk (by kernel_rfl)
  |exact Ek.mk (by kernel_rfl)
  |exact aS
  |refine cE.lQ (λh=>?_) (λh=>?_)
  |refine cE.split (λh=>?_) (λh=>?_)
  |refine bS.split (λh=>?_) (λh=>?_)
  |refine gf.id ?_
  |simp only[*,go_sem,seval])
 all_goals(unfold aC.less;simp_all)
def aC.lt(x y:aC):Prop:=x.kind<y.kind\/x.kind=y.kind/\(x.who<y.who\/x.who=y.who/\x.cur<y.cur)
def MK(x y:aC):x.less y=true↔x.lt y:=by
 unfold aC.less aC.lt;split
 ·simp only[bz];omega
 ·split
  ·simp only[bz];omega
  ·simp only[bz];omega
def Yh(x y:aC):x.less y=false↔¬x.lt y:=by rw[<-MK];simp
def aaB(x:aC):(x.floor==0)=(x.right&&(x.kind==3||x.kind==4)):=by
 unfold aC.floor;split
 ·rename_i h;simp[h]
 ·rename_i h;simp at h;cases c:x.right<;>simp[c]at h |-;exact h
def ay:List Int->Int
 | []=>0
 |x::r=>x+ay r
theorem pJ(a:List Int)(x:Int):ay (a++[x])=ay a+x:=by
 induction a with
 |nil=>simp[ay]
 |cons y r ih=>simp only[cons_append,ay,ih];omega
theorem BB:∀{l:List Int},right l=true -> -4611686018427387904*l.length<=ay l/\ay l<=4611686018427387904*l.length
 | [],_=>by simp[ay]
 |x::r,h=>by
  simp only[right,all_cons,bQ]at h;have h2:=BB (l:=r) h.2;have h1:-4611686018427387904<=x/\x<=4611686018427387904:=by simpa[bB]using h.1
  simp only[ay,length_cons];push_cast;omega
def Me(S n:Int):(S%18446744073709551616+n%18446744073709551616+0)%18446744073709551616=(S+n)%18446744073709551616:=ak
def aed(S n:Int)(h:-4611686018427387904<=n/\n<=4611686018427387904)(s:Int)(c:s=if 0<=n then 0 else 18446744073709551615) :
  ((S/18446744073709551616)%18446744073709551616+s+(S%18446744073709551616+n%18446744073709551616+0)/18446744073709551616)%18446744073709551616=((S+n)/18446744073709551616)%18446744073709551616:=by
 subst c;split<;>omega
def Uc(n:Int)(h:-9223372036854775808<=n/\n<=9223372036854775807):IntKind.wrap .u64 (yG .i64 n 63)=if 0<=n then 0 else 18446744073709551615:=by
 have:yG .i64 n 63=n.fdiv (2^63):=rfl;rw[this,Int.fdiv_eq_ediv_of_nonneg _ ak,IntKind.wrap_u64];split<;>omega
theorem kY:Extern.find Tryz.f126=some add64Entry:=cQ
theorem kZ:Extern.findNext Tryz.f126=none:=cQ
def oI(l:List Int):Int:=if right l&&bB (ay l)then ay l else 0
def oa(l:List Int):Int:=if right l then(if bB (ay l)then 0 else 1)else 3
theorem HO(S:Int)(h:-85070591730234615865843651857942052864<=S/\S<=85070591730234615865843651857942052864):Sq 127 [] [.int .u64 ((S/18446744073709551616)%18446744073709551616),.int .u64 (S%18446744073709551616)] [] (.bI [.int .i64 (if bB S then S else 0),.int .i64 (if bB S then 0 else 1)]):=by
 obtain⟨n,i⟩:=aN (IntKind.wrap .i64 (S%18446744073709551616));have c:n=if S%18446744073709551616<9223372036854775808 then S%18446744073709551616 else S%18446744073709551616-18446744073709551616:=by
  rw[i,IntKind.wrap_i64];split<;>omega
 have k:=Uc n (by rw[c];split<;>omega);have j:=fq [n] sT;rw[sX]at j;refine bp 21 2 [.tmp 4,.tmp 5] mixed func127 ?_;by_cases hS:-9223372036854775808<=S/\S<9223372036854775808
 ·have e:n=S:=by rw[c];split<;>omega
  have g:(S/18446744073709551616%18446744073709551616 != if 0<=n then 0 else 18446744073709551615)=false:=by
   rw[bne_eq_false_iff_eq,e];split<;>omega
  simp only[go_sem,seval,<-i,k,g];refine sl aS j ?_;rw[e]at j |-;cases f:bB S
  ·simp only[go_sem,seval,f,iM,if_false]
  ·simp only[go_sem,seval,f,if_true]
 ·have g:(S/18446744073709551616%18446744073709551616 != if 0<=n then 0 else 18446744073709551615)=true:=by
   rw[bne_iff_ne,c];split<;>split<;>omega
  have f:bB S=false:=by simp only[bB,Bool.and_eq_false_iff,gv];omega
  simp only[go_sem,seval,<-i,k,g,f,iM,if_false]
theorem jr(l:List Int)(hl:l.length<2^60):Sq 36 [] [.sl 1 (ints l)] [] (.bI [.int .i64 (oI l),.int .i64 (oa l)]):=by
 have x:=fq l ak;refine bp 40 1 [.tmp 2,.tmp 3] mixed func36 ?_;refine sc aS x ?_;cases g:right l
 ·have p:oI l=0:=by simp[oI,g]
  have e2:oa l=3:=by simp[oa,g]
  exact dL (a2 p e2)
 simp only[go_sem,seval,az];refine aF.count l.length [12,13] [224] (λi=>[(14,.I i),(4,.int .u64 ((ay (l.take i)/18446744073709551616)%18446744073709551616)),(5,.int .u64 (ay (l.take i)%18446744073709551616))]) (λi=>[]) (λi=>True) trivial ?_ ?_
 ·simp only[go_sem,seval]<;>simp[ay]
 ·intro i hi _;refine s0 ?_;refine bS.fX (λh=>?_) (λh=>?_)
  ·have c:i<l.length:=ak
   have z:IntKind.wrap .i64 ((i:Int)+1)=((i+1:Nat):Int):=fQ;have B:bB l[i]=true:=bL.1 g _ (dS c);have o:-4611686018427387904<=l[i]/\l[i]<=4611686018427387904:=by simpa[bB]using B
   obtain⟨S,e⟩:=aN (ay (l.take i));obtain⟨n,s⟩:=aN (l[i]);have f:ay (l.take (i+1))=S+n:=by rw[jU c,pJ,e,s]
   have y:IntKind.wrap .u64 n=n%18446744073709551616:=IntKind.wrap_u64 n;rw[<-s]at o;have t:=Uc n ak;simp only[go_sem,seval,ints_at l c,az,<-s,<-e,y];refine⟨by omega,?_⟩;refine aG.sem rfl ?_;with_reducible refine gM.xI (k:=126) (fn:=Tryz.f126) (i:=S%18446744073709551616) (j:=n%18446744073709551616) (m:=0) ?_ func126 ?_ ?_ kZ kY ?_ ?_ ?_ ?_ ?_ ?_ ?_ ?_ ?_
   iterate 11 (first|rfl|omega)
   refine sm t ?_;refine aG.sem rfl ?_;with_reducible refine gM.xI (k:=126) (fn:=Tryz.f126) (i:=S/18446744073709551616%18446744073709551616) (j:=if 0<=n then 0 else 18446744073709551615) (m:=(S%18446744073709551616+n%18446744073709551616+0)/18446744073709551616) ?_ func126 ?_ ?_ kZ kY ?_ ?_ ?_ ?_ ?_ ?_ ?_ ?_ ?_
   iterate 7 (first|rfl|omega)
   ·split<;>omega
   iterate 3 (first|rfl|omega)
   rw[aed S n o _ rfl,Me];refine sm z ?_;refine ah.jE c trivial ?_
   simp only[go_sem,seval,f]
  ·obtain rfl:i=l.length:=ak
   obtain⟨S,e⟩:=aN (ay l);have hSr:=BB g;have v:=HO S (by rw[e];omega);have p:oI l=if bB S then S else 0:=by simp[oI,g,e]
   have e2:oa l=if bB S then 0 else 1:=by simp[oa,g,e]
   rw[p,e2];simp only[go_sem,seval,eu,<-e];exact sZ aS v
theorem zh(r:aA)(n:Int)(e:r.small):Sq 114 [] [.agg r.cells,.int .i64 n] [] (.bI [.agg (jj aD.a n ⟨0,0,0,0⟩ r.xs).cells,.bool (decide (0<=lO aD.a n r.xs))]):=by
 have c:=GR r.xs n (by have:=e.2.2;omega);simp only[aD.cells]at c |-;simp only[aA.cells,aD.cells];refine bp 18 2 [.cell 4 159,.tmp 5] mixed func114 ?_;exact sZ aS c
structure bU where
 kind:Int
 who:Int
 cur:Int
 sum:Int
@[reducible] def bU.cells(x:bU):List D:=[.I x.kind,.I x.who,.I x.cur,.I x.sum]
def bU.bq(x:bU):aC:=⟨x.kind,x.who,x.cur⟩
structure bu where
 last:Int
 bs:List bU
def bu.cells(l:bu):List D:=[.I l.last,.sl 4 (l.bs.map bU.cells)]
def RX(a:aC)(b:bU):Bool:=b.kind==a.kind&&(b.who==a.who&&b.cur==a.cur)
def eP(a:aC):List bU->Int
 | []=>0
 |b::r=>if RX a b then b.sum else eP a r
theorem Be(l:bu)(a:aC)(hl:l.bs.length<2^60):Sq 38 [] [.agg l.cells,.agg a.cells] [] (.int .i64 (eP a l.bs)):=by
 simp only[bu.cells,aC.cells];refine bp 21 2 [.tmp 4] mixed func38 ?_;refine s0 ?_;refine aF.count l.bs.length [3,8,9] [48,64,160] (λi=>[(10,.I i)]) (λi=>[]) (λi=>eP a (l.bs.drop i)=eP a l.bs) sT ?_ ?_
 ·exact kG
 ·intro i hi e;refine s0 ?_;refine bS.fX (λh=>?_) (λh=>?_)
  ·have f:i<l.bs.length:=ak
   have k:IntKind.wrap .i64 ((i:Int)+1)=((i+1:Nat):Int):=fQ;have j:=br (c:=bU.cells) l.bs f;rw[drop_eq_getElem_cons f]at e;simp only[eP]at e;simp only[bU.cells]at j;refine sm j ?_;refine⟨by omega,?_⟩;refine bS.split (λg=>?_) (λg=>?_)
   ·rw[aq (show RX a l.bs[i]=true from g)]at e;exact dL e
   ·rw[show RX a l.bs[i]=false from g]at e;simp only[iM,if_false]at e;refine sm k ?_;refine ah.jE f e ?_
    exact jq
  ·obtain rfl:i=l.bs.length:=ak
   simp only[jw,eP]at e;exact dL e
def j4(c:Int)(bs:List bU):List Int:=(bs.filter λb=>b.cur==c).map bU.sum
def UO(c:Int)(bs:List bU){i:Nat}(h:i<bs.length):j4 c (bs.take (i+1))=if bs[i].cur==c then j4 c (bs.take i)++[bs[i].sum]else j4 c (bs.take i):=by
 simp only[j4];rw[jU h,nK,jF];cases e:bs[i].cur==c<;>simp[filter,e]
def Oy(c:Int)(bs:List bU):(j4 c bs).length<=bs.length:=by
 simp only[j4,qE];exact length_filter_le _ _
theorem Gv(x:Int):Sq 106 [] [.int .i64 x] [] (.bool true):=by
 refine bp 3 1 [.tmp 2] mixed func106 ?_;exact jq
theorem Wo(l:bu)(c:Int)(hl:l.bs.length<2^30):Sq 105 [] [.agg l.cells,.int .i64 c,.fn 106 []] [.own 1 (ints (j4 c l.bs))] (.ref 0):=by
 simp only[bu.cells];refine bp 36 3 [.tmp 6] mixed func105 ?_;refine s0 ?_;refine aF.count l.bs.length [1,2,11,12] [64,208] (λi=>[(13,.I i),(7,.ref 544)]) (λi=>[(544,.own 1 (ints (j4 c (l.bs.take i))))]) (λi=>True) trivial ?_ ?_
 ·simp only[go_sem,seval]<;>simp[j4,ints]
 ·intro i hi _;refine s0 ?_;refine bS.fX (λh=>?_) (λh=>?_)
  ·have e:i<l.bs.length:=ak
   have k:IntKind.wrap .i64 ((i:Int)+1)=((i+1:Nat):Int):=fQ;have j:=br (c:=bU.cells) l.bs e;have f:=UO c l.bs e;have hlen:=Oy c (l.bs.take i);have hlt:(l.bs.take i).length<=l.bs.length:=by simp;omega
   simp only[bU.cells]at j;refine sm j ?_;refine⟨by omega,?_⟩;cases g:l.bs[i].cur==c
   ·rw[g]at f;simp only[iM,if_false]at f;refine sm k ?_;refine ah.jE e trivial ?_
    exact dL f
   ·rw[g,aq rfl]at f;have m:=Gv l.bs[i].kind;refine sc aS m ?_;simp only[go_sem,seval,k,az];refine⟨by omega,ah.jE e trivial ?_⟩;simp only[go_sem,seval,f]<;>simp[ints]
  ·obtain rfl:i=l.bs.length:=ak
   simp only[go_sem,seval,eu]
def lR(b:bU):Bool:=b.bq.right&&(bB b.sum&&(b.sum != 0&&!decide (b.sum<b.bq.floor)))
def rE(bs:List bU)(i:Nat):Bool:=
 match bs[i]? with
 |none=>true
 |some b=>lR b&&(match i with
  | 0=>true
  |j+1=>match bs[j]? with
   |some q=>q.bq.less b.bq
   |none=>true)
def n5{bs:List bU}(h:0<bs.length):rE bs 0=lR bs[0]:=by simp[rE,h]
def mC{bs:List bU}{j:Nat}(h:j+1<bs.length):rE bs (j+1)=(lR bs[j+1]&&(bs[j]'ak).bq.less bs[j+1].bq):=by
 have c:j<bs.length:=ak
 simp[rE,h,c]
def lG(bs:List bU):Bool:=(range bs.length).all (rE bs)
def Cp{bs:List bU}{i:Nat}(h:i<bs.length)(c:rE bs i=false):lG bs=false:=by
 cases e:lG bs
 ·rfl
 ·rw[bL.1 e i (mem_range.2 h)]at c;cases c
def u9{bs:List bU}(h:∀i<bs.length,rE bs i=true):lG bs=true:=bL.2 λi c=>h i (mem_range.1 c)
def nX(bs:List bU)(c:Int):Bool:=oa (j4 c bs)==0&&oI (j4 c bs)==0
def bu.okB(l:bu):Bool:=decide (0<=l.last)&&lG l.bs&&(nX l.bs 0&&nX l.bs 1&&nX l.bs 2)
theorem u7(l:bu)(R:l.bs.length<2^30):Sq 26 [] [.agg l.cells] [] (.int .i64 (if l.okB then 0 else 14)):=by
 have f:=λc=>Wo l c R;simp only[bu.cells]at f |-;refine bp 78 1 [.tmp 2] mixed func26 ?_;refine s0 ?_;rcases Int.lt_or_le l.last 0 with t|t
 ·have D:decide (l.last<0)=true:=su t;have e:l.okB=false:=by simp[bu.okB];omega
  exact gY (a2 D e)
 have D:decide (l.last<0)=false:=su t;refine sm D ?_;refine aF.count l.bs.length [1,12,13] [32,224] (λi=>[(14,.I i)]) (λi=>[]) (λi=>∀j<i,rE l.bs j=true) sT ?_ ?_
 ·exact kG
 ·intro i hi H;refine s0 ?_;refine bS.fX (λh=>?_) (λh=>?_)
  ·have n:i<l.bs.length:=ak
   have J:IntKind.wrap .i64 ((i:Int)+1)=((i+1:Nat):Int):=fQ;have G:=br (c:=bU.cells) l.bs n;have N:=th l.bs[i].bq;have E:Sq 37 [] [.sl 1 [[.I l.bs[i].sum]]] [] (.bool (right [l.bs[i].sum])):=fq [l.bs[i].sum] sT;have O:=yf l.bs[i].bq;rw[sX]at E;have e0:rE l.bs i=true->∀k<i+1,rE l.bs k=true:=λt k g=>by
    rcases dN k i with h|h
    ·exact H k h
    ·obtain rfl:k=i:=ak
     exact t
   have s:rE l.bs i=false->l.okB=false:=λz=>by simp[bu.okB,Cp n z]
   simp only[bU.cells,aC.cells,bU.bq]at G N O;rcases Nat.eq_zero_or_pos i with rfl|hpos
   ·have g:=n5 n;simp only[lR,bU.bq]at g;clear f;refine sm G ?_;repeat' with_reducible first|apply And.intro|exact .dq|refine aG.bC (by assumption) ?_|(refine aG.gE [] [] true sT ?_;simp only[go_sem,seval];refine cz.gF E ?_)|refine mO (λh=>?_) λh=>?_|refine ah.jE ak ?_ ?_|simp only[*,go_sem,seval]
    all_goals first
     |omega
     |rfl
     | (refine e0 ?_;clear e0 s;rw[g];clear g;simp[bne, *];done)
     | (rw [s ?_]
        ·rfl
        ·clear e0 s;rw[g];clear g;simp[bne, *];done)
   ·obtain⟨j,rfl⟩:∃j,i=j+1:=⟨i-1,by omega⟩
    have Q:j<l.bs.length:=ak
    have hw1:IntKind.wrap .i64 (((j+1:Nat):Int)-1)=(j:Int):=fQ;have g:=mC n;simp only[lR,bU.bq]at g;have x:=br (c:=bU.cells) l.bs Q;have P:=uS l.bs[j].bq l.bs[j+1].bq;simp only[bU.cells,aC.cells,bU.bq]at x P;clear f;refine sm G ?_;repeat' with_reducible first|apply And.intro|exact .dq|refine aG.bC (by assumption) ?_|(refine aG.gE [] [] true sT ?_;simp only[go_sem,seval];refine cz.gF E ?_)|refine mO (λh=>?_) λh=>?_|refine ah.jE ak ?_ ?_|simp only[*,go_sem,seval,x]
    all_goals first
     |omega
     |rfl
     | (refine e0 ?_;clear e0 s;rw[g];clear g;simp[bne, *];done)
     | (rw [s ?_]
        ·rfl
        ·clear e0 s;rw[g];clear g;simp[bne, *];done)
  ·obtain rfl:i=l.bs.length:=ak
   have S:=u9 H;refine s0 ?_;refine aF.count 3 [1] [32] (λi=>[(61,.I i)]) (λi=>[]) (λi=>∀c<i,nX l.bs (c:Nat)=true) sT ?_ ?_
   ·exact kG
   ·intro c hc B;refine s0 ?_;refine bS.fX (λh=>?_) (λh=>?_)
    ·have F:c<3:=ak
     have J:IntKind.wrap .i64 ((c:Int)+1)=((c+1:Nat):Int):=fQ;have hlen:=Oy c l.bs;have y:=jr (j4 c l.bs) ak;have o:nX l.bs c=false->l.okB=false:=λz=>by
      obtain rfl|rfl|rfl:c=0\/c=1\/c=2:=ak
      ·have:nX l.bs 0=false:=z;simp[bu.okB,this]
      ·have:nX l.bs 1=false:=z;simp[bu.okB,this]
      ·have:nX l.bs 2=false:=z;simp[bu.okB,this]
     refine so aS (f c) ?_;refine sl aS y ?_;cases v:oa (j4 c l.bs)==0
     ·have e:l.okB=false:=o (by simp[nX,v]);have m:(oa (j4 c l.bs) != 0)=true:=by simp[bne,v]
      exact gY (a2 m e)
     have m:(oa (j4 c l.bs) != 0)=false:=by simp[bne,v]
     cases C:oI (j4 c l.bs)==0
     ·have e:l.okB=false:=o (by simp[nX,v,C]);have p:(oI (j4 c l.bs) != 0)=true:=by simp[bne,C]
      exact gY (a3 m p e)
     have p:(oI (j4 c l.bs) != 0)=false:=by simp[bne,C]
     refine sm (a3 m p J) ?_;refine ah.jE F ?_ ?_
     ·intro k g;rcases dN k c with h|h
      ·exact B k h
      ·obtain rfl:k=c:=ak
       simp[nX,v,C]
     ·exact jq
    ·obtain rfl:c=3:=ak
     have K:nX l.bs 0=true:=B 0 ak;have L:nX l.bs 1=true:=B 1 ak;have M:nX l.bs 2=true:=B 2 ak;have e:l.okB=true:=by simp[bu.okB,S,K,L,M,t]
     exact gY e
def Gk(r:aA)(x:gC):aD:=jj aD.a x.bT ⟨0,0,0,0⟩ r.xs
def RT(r:aA)(w c:Int)(x:gC):Bool:=decide (0<=lO aD.a x.bT r.xs)&&(x.who==w&&(Gk r x).b==c)
def mL(r:aA)(w c:Int)(ps:List gC):List Int:=(ps.filter (RT r w c)).map λx=>(Gk r x).V x.units
def nB(r:aA)(w c:Int):List gC->Int
 | []=>0
 |x::l=>if RT r w c x&&(Gk r x).E x.units != 0 then(Gk r x).E x.units else nB r w c l
def S6(r:aA)(w c:Int)(ps:List gC){i:Nat}(h:i<ps.length):mL r w c (ps.take (i+1))=if RT r w c ps[i]then mL r w c (ps.take i)++[(Gk r ps[i]).V ps[i].units]else mL r w c (ps.take i):=by
 simp only[mL];rw[jU h,nK,jF];cases e:RT r w c ps[i]<;>simp[filter,e]
def LZ(r:aA)(w c:Int)(ps:List gC):(mL r w c ps).length<=ps.length:=by
 simp only[mL,qE];exact length_filter_le _ _
def AT(l:bu)(r:aA)(ps:List gC):Int:=if l.okB&&r.okB&&jB ps then 0 else 14
def MS(l:bu)(r:aA)(ps:List gC)(w c:Int):Int:=
 if AT l r ps != 0 then AT l r ps else if nB r w c ps != 0 then nB r w c ps else oa (eP ⟨2,w,c⟩ l.bs::mL r w c ps)
def N1(l:bu)(r:aA)(ps:List gC)(w c:Int):Int:=
 if AT l r ps != 0 then 0 else if nB r w c ps != 0 then 0 else oI (eP ⟨2,w,c⟩ l.bs::mL r w c ps)
def akf(r:aA)(w c:Int)(x:gC):Int:=if RT r w c x then(Gk r x).V x.units else 0
def abO(r:aA)(w c:Int):List gC->Int
 | []=>0
 |x::l=>akf r w c x+abO r w c l
theorem Ug(r:aA)(w c:Int):∀ps:List gC,ay (mL r w c ps)=abO r w c ps
 | []=>rfl
 |x::l=>by
  have e:=Ug r w c l;simp only[mL]at e;simp only[abO,akf,mL,filter];cases hb:RT r w c x
  ·simp only[iM,if_false,e];omega
  ·simp only[map_cons,ay,if_true,e]
def aP{x:Int}:bB x=true ↔ -4611686018427387904<=x/\x<=4611686018427387904:=by simp[bB]
def ac1(a b:Int):Int:=if bB a&&(bB b&&bB (a-b))then a-b else 0
def ac0(a b:Int):Int:=if bB a&&bB b then(if bB (a-b)then 0 else 1)else 3
def wd(S:Int):List D:=[.I (S/18446744073709551616),.int .u64 (S%18446744073709551616)]
def agi(n:Int)(h:-9223372036854775808<=n/\n<=9223372036854775807):yG .i64 n 63=n/18446744073709551616:=by
 have:yG .i64 n 63=n.fdiv (2^63):=rfl;rw[this,Int.fdiv_eq_ediv_of_nonneg _ ak];omega
theorem Rb(n:Int)(h:-9223372036854775808<=n/\n<=9223372036854775807):Sq 205 [] [.int .i64 n] [] (.agg (wd n)):=by
 have c:=agi n h;have e:IntKind.wrap .u64 n=n%18446744073709551616:=IntKind.wrap_u64 n;refine bp 8 1 [.cell 2 226] mixed func205 ?_;simp only[go_sem,seval,c,e,wd]
theorem xy(n:Int)(h:-9223372036854775808<=n/\n<=9223372036854775807):Sq 273 [] [.int .i64 n] [] (.agg (wd n)):=by
 have c:IntKind.wrap .u64 n=n%18446744073709551616:=IntKind.wrap_u64 n;refine bp 11 1 [.cell 2 226] mixed func273 ?_;rcases Int.lt_or_le n 0 with hn|hn
 ·have d:decide (n<0)=true:=dY hn;have e:n/18446744073709551616 = -1:=ak
  simp only[go_sem,seval,d,c,wd,e]
 ·have d:decide (n<0)=false:=iE;have e:n/18446744073709551616=0:=ak
  simp only[go_sem,seval,d,c,wd,e]
theorem xF(S:Int):Sq 128 [] [.agg (wd S)] [] (.bI [.int .i64 (if bB S then S else 0),.int .i64 (if bB S then 0 else 1)]):=by
 obtain⟨n,k⟩:=aN (IntKind.wrap .i64 (S%18446744073709551616));have c:n=if S%18446744073709551616<9223372036854775808 then S%18446744073709551616 else S%18446744073709551616-18446744073709551616:=by
  rw[k,IntKind.wrap_i64];split<;>omega
 have g:-9223372036854775808<=n/\n<=9223372036854775807:=by rw[c];split<;>omega
 have i:=Rb n g;have l:Sq 37 [] [.sl 1 [[.I n]]] [] (.bool (right [n])):=fq [n] sT;rw[sX]at l;have j:(S%18446744073709551616==n%18446744073709551616)=true:=by rw[ff,c];split<;>omega
 simp only[wd]at i |-;refine bp 19 1 [.tmp 2,.tmp 3] mixed func128 ?_;simp only[go_sem,seval,<-k];refine⟨gT.mk (by kernel_rfl),Ek.mk (by kernel_rfl),aG.bC i ?_⟩;by_cases hS:-9223372036854775808<=S/\S<9223372036854775808
 ·have e:n=S:=by rw[c];split<;>omega
  have h:(S/18446744073709551616==n/18446744073709551616)=true:=by rw[e];exact beq_self_eq_true _
  refine sm (a2 j h) ?_;refine⟨Ek.mk (by kernel_rfl),?_⟩;refine sl aS l ?_;rw[e];cases f:bB S
  ·simp only[go_sem,seval,f,iM,if_false]
  ·simp only[go_sem,seval,f,if_true]
 ·have h:(S/18446744073709551616==n/18446744073709551616)=false:=by
   rw[beq_eq_false_iff_ne,c];split<;>omega
  have f:bB S=false:=by simp only[bB,Bool.and_eq_false_iff,gv];omega
  simp only[go_sem,seval,j,h,f,iM,if_false]
def vr(l:List Int):List (List D):=l.map wd
theorem Dd(l:List Int):(vr l).length=l.length:=by simp[vr]
theorem zy(l:List Int){i:Nat}(h:i<l.length):(vr l).getD i []=[.I (l[i]/18446744073709551616),.int .u64 (l[i]%18446744073709551616)]:=by simp[vr,h,wd]
def vM(S:Int):Bool:=decide (-170141183460469231731687303715884105728<=S)&&decide (S<170141183460469231731687303715884105728)
def MN(S n:Int):((S/18446744073709551616)%18446744073709551616+(n/18446744073709551616)%18446744073709551616+(S%18446744073709551616+n%18446744073709551616+0)/18446744073709551616)%18446744073709551616=((S+n)/18446744073709551616)%18446744073709551616:=by
 have c:(S+n)/18446744073709551616=S/18446744073709551616+n/18446744073709551616+(S%18446744073709551616+n%18446744073709551616+0)/18446744073709551616:=ak
 rw[c];omega
def abW(A B c s:Int)(hc:0<=c/\c<=1)(hB:-9223372036854775808<=B/\B<=9223372036854775807)(f:s=if 0<=B then 0 else 18446744073709551615) :
  ((A/18446744073709551616)%18446744073709551616+s+(A%18446744073709551616+B%18446744073709551616+c)/18446744073709551616)%18446744073709551616=((A+B+c)/18446744073709551616)%18446744073709551616:=by
 have e:(A+B+c)/18446744073709551616=A/18446744073709551616+B/18446744073709551616+(A%18446744073709551616+B%18446744073709551616+c)/18446744073709551616:=ak
 rw[e,f];split<;>omega
def div_add(S n:Int):S/18446744073709551616+n/18446744073709551616+(S%18446744073709551616+n%18446744073709551616+0)/18446744073709551616=(S+n)/18446744073709551616:=ak
theorem zV:∀{l:List Int},(∀n∈l,vM n=true) -> -170141183460469231731687303715884105728*(l.length:Int)<=ay l/\ay l<=170141183460469231731687303715884105728*(l.length:Int)
 | [],_=>by simp[ay]
 |x::r,h=>by
  have h2:=zV (l:=r) λn e=>h n (by simp[e]);have c:=h x sT;simp only[vM,bQ,bz]at c;simp only[ay,length_cons];push_cast;omega
attribute [go_sem] Dd
theorem NX(l:List Int)(hl:l.length<2^60)(L:∀n∈l,vM n=true):Sq 204 [] [.sl 2 (vr l)] [] (.bI [.agg (wd (if vM (ay l)then ay l else 0)),.int .i64 (if vM (ay l)then 0 else 1)]):=by
 refine bp 54 1 [.cell 2 226,.tmp 3] mixed func204 ?_;refine s0 ?_;refine aF.count l.length [2,10,11] [48,192] (λi=>[(12,.I i),(4,.int .u64 (ay (l.take i)%18446744073709551616)),(5,.int .u64 ((ay (l.take i)/18446744073709551616)%18446744073709551616)),(6,.int .u64 ((ay (l.take i)/18446744073709551616/18446744073709551616)%18446744073709551616))]) (λi=>[]) (λi=>True) trivial ?_ ?_
 ·simp only[go_sem,seval]<;>simp[ay]
 ·intro i e _;refine s0 ?_;refine bS.fX (λh=>?_) (λh=>?_)
  ·have c:i<l.length:=ak
   have O:IntKind.wrap .i64 ((i:Int)+1)=((i+1:Nat):Int):=fQ;have M:=L l[i] (dS c);obtain⟨S,K⟩:=aN (ay (l.take i));obtain⟨n,z⟩:=aN (l[i]);have o:ay (l.take (i+1))=S+n:=by rw[jU c,pJ,K,z]
   rw[<-z]at M;simp only[vM,bQ,bz]at M;obtain⟨B,J⟩:=aN (n/18446744073709551616);have p:-9223372036854775808<=B/\B<=9223372036854775807:=ak
   have N:IntKind.wrap .u64 B=B%18446744073709551616:=IntKind.wrap_u64 B;have D:=Uc B p;have F:=abW (S/18446744073709551616) B ((S%18446744073709551616+n%18446744073709551616+0)/18446744073709551616) _ ak p rfl;have E:=MN S n;have G:=div_add S n;rw[<-J]at E G;rw[G]at F;simp only[go_sem,seval,zy l c,<-z,<-K,<-J];refine⟨by omega,?_⟩;refine aG.sem rfl ?_;with_reducible refine gM.xI (k:=126) (fn:=Tryz.f126) (i:=S%18446744073709551616) (j:=n%18446744073709551616) (m:=0) ?_ func126 ?_ ?_ kZ kY ?_ ?_ ?_ ?_ ?_ ?_ ?_ ?_ ?_
   iterate 11 (first|rfl|omega)
   refine sm N ?_;refine aG.sem rfl ?_;with_reducible refine gM.xI (k:=126) (fn:=Tryz.f126) (i:=S/18446744073709551616%18446744073709551616) (j:=B%18446744073709551616) (m:=(S%18446744073709551616+n%18446744073709551616+0)/18446744073709551616) ?_ func126 ?_ ?_ kZ kY ?_ ?_ ?_ ?_ ?_ ?_ ?_ ?_ ?_
   iterate 11 (first|rfl|omega)
   refine sm D ?_;refine aG.sem rfl ?_;with_reducible refine gM.xI (k:=126) (fn:=Tryz.f126) (i:=S/18446744073709551616/18446744073709551616%18446744073709551616) (j:=if 0<=B then 0 else 18446744073709551615) (m:=(S/18446744073709551616%18446744073709551616+B%18446744073709551616+(S%18446744073709551616+n%18446744073709551616+0)/18446744073709551616)/18446744073709551616) ?_ func126 ?_ ?_ kZ kY ?_ ?_ ?_ ?_ ?_ ?_ ?_ ?_ ?_
   iterate 7 (first|rfl|omega)
   ·split<;>omega
   iterate 3 (first|rfl|omega)
   rw[F,E,Me];refine sm O ?_;refine ah.jE c trivial ?_
   simp only[go_sem,seval,o]
  ·obtain rfl:i=l.length:=ak
   obtain⟨T,t⟩:=aN (ay l);have v:=zV L;rw[<-t]at v |-;obtain⟨A,H⟩:=aN (T/18446744073709551616);have hAr:-85070591730234615865843651857942052864<=A/\A<=85070591730234615865843651857942052864:=ak
   obtain⟨m,x⟩:=aN (IntKind.wrap .i64 (A%18446744073709551616));have f:m=if A%18446744073709551616<9223372036854775808 then A%18446744073709551616 else A%18446744073709551616-18446744073709551616:=by
    rw[x,IntKind.wrap_i64];split<;>omega
   have C:=Uc m (by rw[f];split<;>omega);by_cases e:vM T=true
   ·have hi2:=e;simp only[vM,bQ,bz]at hi2;have g:m=A:=by rw[f];split<;>omega
    have s:(A/18446744073709551616%18446744073709551616 != if 0<=m then 0 else 18446744073709551615)=false:=by
     rw[bne_eq_false_iff_eq,g];split<;>omega
    rw[aq e,aq e];rw[g]at C s;have y:IntKind.wrap .i64 (A%18446744073709551616)=A:=by rw[<-x,g]
    simp only[go_sem,seval,eu,<-t,<-H,y,C,s,wd]
   ·have hi2:¬(-170141183460469231731687303715884105728<=T/\T<170141183460469231731687303715884105728):=by
     simpa only[vM,bQ,bz]using e
    have s:(A/18446744073709551616%18446744073709551616 != if 0<=m then 0 else 18446744073709551615)=true:=by
     rw[bne_iff_ne,f];split<;>split<;>omega
    rw[au e,au e];simp only[go_sem,seval,eu,<-t,<-H,<-x,C,s,wd];try exact⟨by decide,by decide⟩
theorem fy(n:Int):Sq 166 [] [.int .i64 n] [] (.bool (bB n)):=by
 refine bp 9 1 [.tmp 2] mixed func166 ?_;refine s0 ?_;repeat' with_reducible first|refine mO (λh=>?_) λh=>?_|simp only[*,go_sem,seval]
 all_goals(rw[nJ];simp[bB];omega)
theorem oz(S:Int):Sq 275 [] [.agg (wd S)] [] (.bI [.int .i64 (if bB S then S else 0),.bool (bB S)]):=by
 obtain⟨n,k⟩:=aN (IntKind.wrap .i64 (S%18446744073709551616));have c:n=if S%18446744073709551616<9223372036854775808 then S%18446744073709551616 else S%18446744073709551616-18446744073709551616:=by
  rw[k,IntKind.wrap_i64];split<;>omega
 have g:-9223372036854775808<=n/\n<=9223372036854775807:=by rw[c];split<;>omega
 have i:=xy n g;have l:=fy n;have j:(n%18446744073709551616==S%18446744073709551616)=true:=by rw[ff,c];split<;>omega
 simp only[wd]at i |-;refine bp 18 1 [.tmp 2,.tmp 3] mixed func275 ?_;simp only[go_sem,seval,<-k];refine⟨gT.mk (by kernel_rfl),aG.bC i ?_⟩;by_cases hS:-9223372036854775808<=S/\S<9223372036854775808
 ·have e:n=S:=by rw[c];split<;>omega
  have h:(n/18446744073709551616==S/18446744073709551616)=true:=by rw[e];exact beq_self_eq_true _
  refine sm (a2 j h) ?_;refine⟨Ek.mk (by kernel_rfl),aG.bC l ?_⟩;rw[e];cases f:bB S
  ·simp only[go_sem,seval,f,iM,if_false]
  ·simp only[go_sem,seval,f,if_true]
 ·have h:(n/18446744073709551616==S/18446744073709551616)=false:=by
   rw[beq_eq_false_iff_ne,c];split<;>omega
  have f:bB S=false:=by simp only[bB,Bool.and_eq_false_iff,gv];omega
  simp only[go_sem,seval,j,h,f,iM,if_false];exact Ek.mk (by kernel_rfl)
def Zo(A B c:Int)(hc:0<=c/\c<=1)(hB:-9223372036854775808<=B/\B<=9223372036854775807) :
  A/18446744073709551616+(A%18446744073709551616+B%18446744073709551616+c)/18446744073709551616+(if B<0 then -1 else 0)=(A+B+c)/18446744073709551616:=by
 split<;>omega
def oA(l:List Int)(hl:l.length<2^58)(U:∀n∈l,vM n=true):Sq 274 [] [.sl 2 (vr l)] [] (.bI [.agg (wd (if vM (ay l)then ay l else 0)),.bool (vM (ay l))]):=by
 refine bp 75 1 [.cell 2 226,.tmp 3] mixed func274 ?_;refine s0 ?_;refine aF.count l.length [0,2] [48] (λi=>[(7,.I i),(6,.int .u64 (ay (l.take i)%18446744073709551616)),(5,.int .u64 ((ay (l.take i)/18446744073709551616)%18446744073709551616)),(4,.I (ay (l.take i)/18446744073709551616/18446744073709551616))]) (λi=>[]) (λi=>True) trivial ?_ ?_
 ·simp only[go_sem,seval]<;>simp[ay]
 ·intro i v _;refine s0 ?_;refine bS.fX (λh=>?_) (λh=>?_)
  ·have e:i<l.length:=ak
   have Z:IntKind.wrap .i64 ((i:Int)+1)=((i+1:Nat):Int):=fQ;have hx:=U l[i] (dS e);have F:∀n∈l.take i,vM n=true:=λn p=>U n (mem_of_mem_take p);have O:=zV F;have hlt:(l.take i).length<=l.length:=by simp;omega
   obtain⟨S,N⟩:=aN (ay (l.take i));obtain⟨n,p⟩:=aN (l[i]);have o:ay (l.take (i+1))=S+n:=by rw[jU e,pJ,N,p]
   rw[<-p]at hx;rw[<-N]at O;simp only[vM,bQ,bz]at hx;obtain⟨B,z⟩:=aN (n/18446744073709551616);have M:-9223372036854775808<=B/\B<=9223372036854775807:=ak
   have hu:IntKind.wrap .u64 B=B%18446744073709551616:=IntKind.wrap_u64 B;obtain⟨c,X⟩:=aN ((S%18446744073709551616+n%18446744073709551616+0)/18446744073709551616);have Q:0<=c/\c<=1:=ak
   have H:=Zo (S/18446744073709551616) B c Q M;have V:=MN S n;have W:=div_add S n;rw[<-z,<-X]at V W;rw[W]at H;obtain⟨d,Y⟩:=aN ((S/18446744073709551616%18446744073709551616+B%18446744073709551616+c)/18446744073709551616);have hdr:0<=d/\d<=1:=ak
   obtain⟨g,f⟩:=aN (S/18446744073709551616/18446744073709551616);have htr:-4611686018427387904<=g/\g<=4611686018427387904:=ak
   have w1:IntKind.wrap .i64 d=d:=gO ak ak;have w2:IntKind.wrap .i64 (g+d)=g+d:=gO ak ak;have w3:IntKind.wrap .i64 (g+d-1)=g+d-1:=gO ak ak;rw[<-f,<-Y]at H;simp only[go_sem,seval,zy l e,<-p,<-N,<-z];refine⟨by omega,?_⟩;refine aG.sem rfl ?_;with_reducible refine gM.xI (k:=126) (fn:=Tryz.f126) (i:=S%18446744073709551616) (j:=n%18446744073709551616) (m:=0) ?_ func126 ?_ ?_ kZ kY ?_ ?_ ?_ ?_ ?_ ?_ ?_ ?_ ?_
   iterate 11 (first|rfl|omega)
   simp only[go_sem,seval,hu,<-X,zy l e,<-p,<-z];refine⟨by omega,?_⟩;refine aG.sem rfl ?_;with_reducible refine gM.xI (k:=126) (fn:=Tryz.f126) (i:=S/18446744073709551616%18446744073709551616) (j:=B%18446744073709551616) (m:=c) ?_ func126 ?_ ?_ kZ kY ?_ ?_ ?_ ?_ ?_ ?_ ?_ ?_ ?_
   iterate 11 (first|rfl|omega)
   rw[<-Y,V,Me];rcases Int.lt_or_le B 0 with hB0|hB0
   ·have K:decide (B<0)=true:=dY hB0;rw[aq hB0]at H;have L:g+d-1=(S+n)/18446744073709551616/18446744073709551616:=ak
    simp only[go_sem,seval,<-f,w1,w2,zy l e,<-p,<-z,K,w3,Z];refine⟨by omega,ah.jE e trivial ?_⟩;simp only[go_sem,seval,o,L]
   ·have K:decide (B<0)=false:=iE;rw[au ak]at H;have L:g+d=(S+n)/18446744073709551616/18446744073709551616:=ak
    simp only[go_sem,seval,<-f,w1,w2,zy l e,<-p,<-z,K,Z];refine⟨by omega,ah.jE e trivial ?_⟩;simp only[go_sem,seval,o,L]
  ·obtain rfl:i=l.length:=ak
   obtain⟨T,C⟩:=aN (ay l);have P:=zV U;rw[<-C]at P |-;obtain⟨A,J⟩:=aN (T/18446744073709551616);obtain⟨m,D⟩:=aN (IntKind.wrap .i64 (A%18446744073709551616));have x:m=if A%18446744073709551616<9223372036854775808 then A%18446744073709551616 else A%18446744073709551616-18446744073709551616:=by
    rw[D,IntKind.wrap_i64];split<;>omega
   obtain⟨g,f⟩:=aN (A/18446744073709551616);by_cases v:vM T=true
   ·have hi2:=v;simp only[vM,bQ,bz]at hi2;have E:m=A:=by rw[x];split<;>omega
    rw[aq v,v];rcases Int.lt_or_le A 0 with hs|hs
    ·have s:(g==0)=false:=by rw[beq_eq_false_iff_ne];omega
     have y:(g == -1)=true:=by rw[ff];omega
     have t:decide (A<0)=true:=dY hs;simp only[go_sem,seval,eu,<-C,<-J,<-D,<-f,E,s,y,t,wd]
    ·have s:(g==0)=true:=by rw[ff];omega
     have t:decide (0<=A)=true:=dY hs;simp only[go_sem,seval,eu,<-C,<-J,<-D,<-f,E,s,t,wd]
   ·have hi2:¬(-170141183460469231731687303715884105728<=T/\T<170141183460469231731687303715884105728):=by
     simpa only[vM,bQ,bz]using v
    have R:vM T=false:=su v;rw[au v,R];have G:wd 0=[.I 0,.int .u64 0]:=rfl;rcases Int.lt_or_le m 0 with hs|hs
    ·have y:(g == -1)=false:=by rw[beq_eq_false_iff_ne];rw[x]at hs;split at hs<;>omega
     have t:decide (m<0)=true:=dY hs;have b4:decide (0<=m)=false:=iE;cases s:(g==0)<;>simp only[go_sem,seval,eu,<-C,<-J,<-D,<-f,s,y,t,b4,G]
    ·have s:(g==0)=false:=by rw[beq_eq_false_iff_ne];rw[x]at hs;split at hs<;>omega
     have t:decide (m<0)=false:=iE;cases y:(g == -1)<;>simp only[go_sem,seval,eu,<-C,<-J,<-D,<-f,s,y,t,G]
def iS(n:Int):Prop:=-9223372036854775808<=n/\n<=9223372036854775807
structure aB where
 who:Int
 inst:Int
 aO:Int
 cost:Int
deriving DecidableEq
@[reducible] def aB.cells(x:aB):List D:=[.I x.who,.I x.inst,.I x.aO,.I x.cost]
def aB.fB(x:aB):Prop:=iS x.who/\iS x.inst/\iS x.aO/\iS x.cost
structure aR where
 no:Int
 jH:Int
 gK:Int
 inst:Int
 aO:Int
 aL:Int
 off:Bool
deriving DecidableEq
@[reducible] def aR.cells(x:aR):List D:=[.I x.no,.I x.jH,.I x.gK,.I x.inst,.I x.aO,.I x.aL,.bool x.off]
def aR.fB(x:aR):Prop:=iS x.no/\iS x.jH/\iS x.gK/\iS x.inst/\iS x.aO/\iS x.aL
structure aU where
 who:Int
 cur:Int
 cu:Int
deriving DecidableEq
@[reducible] def aU.cells(x:aU):List D:=[.I x.who,.I x.cur,.I x.cu]
def aU.fB(x:aU):Prop:=iS x.who/\iS x.cur/\iS x.cu
structure aI where
 who:Int
 cur:Int
 cu:Int
 till:Int
deriving DecidableEq
@[reducible] def aI.cells(x:aI):List D:=[.I x.who,.I x.cur,.I x.cu,.I x.till]
def aI.fB(x:aI):Prop:=iS x.who/\iS x.cur/\iS x.cu/\iS x.till
structure aY where
 who:Int
 inst:Int
 src:Int
 aO:Int
 aL:Int
deriving DecidableEq
@[reducible] def aY.cells(x:aY):List D:=[.I x.who,.I x.inst,.I x.src,.I x.aO,.I x.aL]
def aY.fB(x:aY):Prop:=iS x.who/\iS x.inst/\iS x.src/\iS x.aO/\iS x.aL
def XJ(r:List D)(h:nx [.int .i64,.int .i64,.int .i64,.int .i64,.int .i64] r):∃x:aY,x.fB/\r=x.cells:=by
 simp only[nx,Fit]at h;obtain⟨_,_,rfl,⟨c,rfl,e⟩,_,_,rfl,⟨a1,rfl,r1⟩,_,_,rfl,⟨a2,rfl,r2⟩,_,_,rfl,⟨a3,rfl,r3⟩,_,_,rfl,⟨a4,rfl,r4⟩,rfl⟩:=h;exact⟨⟨c,a1,a2,a3,a4⟩,⟨e,r1,r2,r3,r4⟩,rfl⟩
structure dM where
 cur:Int
 aV:Int
 c0:Int
 c1:Int
 c2:Int
 c3:Int
 c4:Int
 rest:Int
deriving DecidableEq
@[reducible] def dM.cells(x:dM):List D:=[.I x.cur,.I x.aV,.I x.c0,.I x.c1,.I x.c2,.I x.c3,.I x.c4,.I x.rest]
def dM.fB(x:dM):Prop:=iS x.cur/\iS x.aV/\iS x.c0/\iS x.c1/\iS x.c2/\iS x.c3/\iS x.c4/\iS x.rest
def av.fB(x:av):Prop:=iS x.no/\iS x.state/\iS x.need
def aE.fB(x:aE):Prop:=iS x.no/\iS x.cur/\iS x.mult/\iS x.add/\iS x.set/\iS x.aL/\iS x.s0/\iS x.s1/\iS x.s2/\iS x.s3/\iS x.s4/\iS x.s5
def aD.fB(x:aD):Prop:=iS x.a/\iS x.b/\iS x.c/\iS x.d
def bU.fB(x:bU):Prop:=iS x.kind/\iS x.who/\iS x.cur/\iS x.sum
def gC.fB(x:gC):Prop:=iS x.who/\iS x.bT/\iS x.units
structure bF where
 code:Int
 no:Int
 cu:Int
 OK:List aU
 falls:List dM
deriving DecidableEq
@[reducible] def bF.cells(x:bF):List D:=[.I x.code,.I x.no,.I x.cu,.sl 3 (x.OK.map aU.cells),.sl 8 (x.falls.map dM.cells)]
def bF.fits(x:bF):Prop:=24*x.OK.length<=140737488355328/\64*x.falls.length<=140737488355328
def bF.fB(x:bF):Prop:=True/\True/\True/\True/\True/\x.fits
structure bX where
 client:Int
 seq:Int
 r:bF
deriving DecidableEq
@[reducible] def bX.cells(x:bX):List D:=[.I x.client,.I x.seq,.I x.r.code,.I x.r.no,.I x.r.cu,.sl 3 (x.r.OK.map aU.cells),.sl 8 (x.r.falls.map dM.cells)]
def bX.fB(x:bX):Prop:=iS x.client/\iS x.seq/\x.r.fB
structure aH where
 next:Int
 ts:List aR
 qs:List aB
@[reducible] def aH.cells(b:aH):List D:=[.I b.next,.sl 7 (b.ts.map aR.cells),.sl 4 (b.qs.map aB.cells)]
structure af where
 now:Int
 day:Int
 phase:Int
 aj:aA
 book:aH
 bf:bu
 ps:List gC
 calls:List aI
 aW:List aY
 aT:List bX
@[reducible] def af.cells(s:af):List D:=[.I s.now,.I s.day,.I s.phase,.sl 3 (s.aj.ms.map av.cells),.sl 12 (s.aj.ns.map aE.cells),.sl 4 (s.aj.xs.map aD.cells),.I s.book.next,.sl 7 (s.book.ts.map aR.cells),.sl 4 (s.book.qs.map aB.cells),
 .I s.bf.last,.sl 4 (s.bf.bs.map bU.cells),.sl 3 (pl s.ps),.sl 4 (s.calls.map aI.cells),.sl 5 (s.aW.map aY.cells),.sl 7 (s.aT.map bX.cells)]
structure af.fB(s:af):Prop where
 now:iS s.now
 day:iS s.day
 phase:iS s.phase
 ms:∀x∈s.aj.ms,x.fB
 ns:∀x∈s.aj.ns,x.fB
 xs:∀x∈s.aj.xs,x.fB
 next:iS s.book.next
 ts:∀x∈s.book.ts,x.fB
 qs:∀x∈s.book.qs,x.fB
 last:iS s.bf.last
 bs:∀x∈s.bf.bs,x.fB
 ps:∀x∈s.ps,x.fB
 calls:∀x∈s.calls,x.fB
 aW:∀x∈s.aW,x.fB
 aT:∀x∈s.aT,x.fB
def nL{A:Type}(ok:A->Bool)(lt:A->A->Bool)(xs:List A)(i:Nat):Bool:=
 match xs[i]? with
 |none=>true
 |some b=>ok b&&(match i with
  | 0=>true
  |j+1=>match xs[j]? with
   |some q=>lt q b
   |none=>true)
def pY{A:Type}(ok:A->Bool)(lt:A->A->Bool)(xs:List A):Bool:=(range xs.length).all (nL ok lt xs)
section
variable{A:Type}{ok:A->Bool}{lt:A->A->Bool}{xs:List A}
def jf(h:0<xs.length):nL ok lt xs 0=ok xs[0]:=by simp[nL,h]
def iG{j:Nat}(h:j+1<xs.length):nL ok lt xs (j+1)=(ok xs[j+1]&&lt (xs[j]'ak) xs[j+1]):=by
 have c:j<xs.length:=ak
 simp[nL,h,c]
def uV{i:Nat}(h:i<xs.length)(c:nL ok lt xs i=false):pY ok lt xs=false:=by
 cases e:pY ok lt xs
 ·rfl
 ·rw[bL.1 e i (mem_range.2 h)]at c;cases c
def oS(h:∀i<xs.length,nL ok lt xs i=true):pY ok lt xs=true:=bL.2 λi c=>h i (mem_range.1 c)
def Xt(h:pY ok lt xs=true){i:Nat}(c:i<xs.length):nL ok lt xs i=true:=bL.1 h i (mem_range.2 c)
theorem Mp(h:pY ok lt xs=true){i:Nat}(c:i<xs.length):ok xs[i]=true:=by
 have:=Xt h c;cases i with
 |zero=>rwa[jf c]at this
 |succ j=>rw[iG c,bQ]at this;exact this.1
def qR{i:Nat}(e:∀j<i,nL ok lt xs j=true)(c:nL ok lt xs i=true):∀k<i+1,nL ok lt xs k=true:=λk hk=>by
 rcases dN k i with h|h
 ·exact e k h
 ·obtain rfl:k=i:=ak
  exact c
end
def qB(w n:Int):Bool:=within w 1 16&&within n 1 8
def JG(a b c d:Int):Bool:=decide (a<c)||(a==c&&decide (b<d))
theorem qZ(w n:Int):Sq 99 [] [.agg [.int .i64 w,.int .i64 n]] [] (.bool (qB w n)):=by
 refine bp 21 1 [.tmp 2] mixed func99 ?_;refine s0 ?_;repeat' with_reducible first|refine mO (λh=>?_) λh=>?_|simp only[*,go_sem,seval]
 all_goals(simp_all[qB,within];try omega)
theorem ME(a b c d:Int):Sq 100 [] [.agg [.int .i64 a,.int .i64 b],.agg [.int .i64 c,.int .i64 d]] [] (.bool (JG a b c d)):=by
 refine bp 24 2 [.tmp 4] mixed func100 ?_;refine s0 ?_;repeat' with_reducible first|refine mO (λh=>?_) λh=>?_|simp only[*,go_sem,seval]
 all_goals(simp only[JG];simp_all)
def aR.okB(t:aR):Bool:=within t.aO 1 1048576&&(within t.aL 1 1073741824&&(t.jH != t.gK&&(qB t.jH t.inst&&qB t.gK t.inst)))
def Fy(t:aR):Sq 101 [] [.agg t.cells] [] (.bool t.okB):=by
 have h1:=qZ t.jH t.inst;have h2:=qZ t.gK t.inst;simp only[aR.cells];refine bp 44 1 [.tmp 2] mixed func101 ?_;refine s0 ?_;repeat' with_reducible first|apply And.intro|refine aG.bC (by assumption) ?_|refine mO (λh=>?_) λh=>?_|simp only[*,go_sem,seval]
 all_goals first
  | (simp_all[aR.okB,within,bne];done)
  | (rw[nJ];simp_all[aR.okB,within];omega)
def aB.okB(p:aB):Bool:=qB p.who p.inst&&(within p.aO (-1099511627776) 1099511627776&&(bB p.cost&&!(p.aO==0&&p.cost==0)))
def jP(a b:aB):Bool:=JG a.who a.inst b.who b.inst
def dP(n:Int)(l:List aB):List Int:=(l.filter (·.inst==n)).map aB.aO
def oW(n:Int)(l:List aB):Bool:=oa (dP n l)==0&&oI (dP n l)==0
def n6(l:List aB):Bool:=(range 8).all λi=>oW ((i:Int)+1) l
def Ie(n:Int)(l:List aB){i:Nat}(h:i<l.length):dP n (l.take (i+1))=if l[i].inst==n then dP n (l.take i)++[l[i].aO]else dP n (l.take i):=by
 simp only[dP];rw[jU h,nK,jF];cases c:l[i].inst==n<;>simp[filter,c]
def zQ(n:Int)(l:List aB):(dP n l).length<=l.length:=by
 simp only[dP,qE];exact length_filter_le _ _
def HE(l:List aB)(hl:l.length<2^30):Sq 102 [] [.sl 4 (l.map aB.cells)] [] (.bool (n6 l)):=by
 refine bp 41 1 [.tmp 2] mixed func102 ?_;refine s0 ?_;refine aF.count 8 [0] [] (λi=>[(3,.I ((i:Int)+1))]) (λi=>[]) (λi=>∀j<i,oW ((j:Int)+1) l=true) sT ?_ ?_
 ·exact kG
 intro c hc D;rcases dN c 8 with hc'|hc'
 case inr =>
  obtain rfl:c=8:=ak
  have e:n6 l=true:=bL.2 λj F=>D j (mem_range.1 F);exact gY e
 obtain⟨n,B⟩:=aN ((c:Int)+1);have H:decide (n<=8)=true:=iy;have K:IntKind.wrap .i64 (n+1)=((c+1:Nat):Int)+1:=fQ;rw[<-B];refine sm H ?_;refine aF.wv l.length [0,3,13,14] [240] (λi=>[(15,.I i),(4,.ref 464)]) (λi=>[(464,.own 1 (ints (dP n (l.take i))))]) ?_ ?_ ?_
 ·simp only[go_sem,seval]<;>simp[dP,ints]
 ·intro i _ x y s _;have G:=br (c:=aB.cells) l x;have o:=Ie n l x;have m:=zQ n (l.take i);have hlt:(l.take i).length<=l.length:=by simp;omega
  simp only[aB.cells]at G;refine sm (a2 y G) ?_;refine⟨by omega,?_⟩;cases E:l[i].inst==n
  ·rw[E]at o;simp only[iM,if_false]at o;refine sm s ?_;refine ah.v x ?_;exact dL o
  ·rw[E,aq rfl]at o;simp only[go_sem,seval,s,az];refine⟨by omega,ah.v x ?_⟩;simp only[go_sem,seval,o]<;>simp[ints]
 ·intro _ z _;have m:=zQ n l;have p:=jr (dP n l) ak;have f:oW n l=false->n6 l=false:=λC=>by
   cases J:n6 l
   ·rfl
   ·have:=bL.1 J c (mem_range.2 hc');rw[<-B,C]at this;cases this
  have g:oW n l=true->∀j<c+1,oW ((j:Int)+1) l=true:=λC j F=>by
   rcases dN j c with h|h
   ·exact D j h
   ·obtain rfl:j=c:=ak
    rw[<-B];exact C
  simp only[go_sem,seval,z,eu];refine sl aS p ?_;cases k:oa (dP n l)==0
  ·simp only[go_sem,seval,bne,k,f (by simp[oW,k])]
  cases t:oI (dP n l)==0
  ·simp only[go_sem,seval,bne,k,t,f (by simp[oW,k,t])]
  refine sm (a4 gr k t K) ?_;refine ah.jE hc' (g (by simp[oW,k,t])) ?_
  exact jq
def iu(n:Int)(t:aR):Bool:=t.okB&&(!decide (t.no<1)&&!decide (n<t.no))
def gS(a b:aR):Bool:=decide (a.no<b.no)
def aH.okB(b:aH):Bool:=pY aB.okB jP b.qs&&(pY (iu b.next) gS b.ts&&(n6 b.qs&&(!decide (128<(b.ts.length:Int))&&(!decide (b.next<0)&&!decide (1099511627776<b.next)))))
def aH.small(b:aH):Prop:=b.ts.length<2^30/\b.qs.length<2^30
theorem tA(b:aH)(hl:b.small):Sq 25 [] [.agg b.cells] [] (.int .i64 (if b.okB then 0 else 14)):=by
 obtain⟨hl1,hl2⟩:=hl;have g:=HE b.qs ak;simp only[aH.cells];refine bp 124 1 [.tmp 2] mixed func25 ?_;refine s0 ?_;refine aF.count b.qs.length [1,8,9] [32,160] (λi=>[(10,.I i)]) (λi=>[]) (λi=>∀j<i,nL aB.okB jP b.qs j=true) sT ?_ ?_
 ·exact kG
 ·intro i D m;refine s0 ?_;refine bS.fX (λh=>?_) (λh=>?_)
  ·have f:i<b.qs.length:=ak
   have E:IntKind.wrap .i64 ((i:Int)+1)=((i+1:Nat):Int):=fQ;have l:=br (c:=aB.cells) b.qs f;have z:=qZ b.qs[i].who b.qs[i].inst;have s:Sq 37 [] [.sl 1 [[.I b.qs[i].cost]]] [] (.bool (right [b.qs[i].cost])):=fq [b.qs[i].cost] sT;rw[sX]at s;have e0:=qR (i:=i) m;have e1:nL aB.okB jP b.qs i=false->b.okB=false:=λx=>by simp[aH.okB,uV f x]
   simp only[aB.cells]at l;rcases Nat.eq_zero_or_pos i with rfl|hpos
   ·have hk:=jf (ok:=aB.okB) (lt:=jP) f;simp only[aB.okB,within]at hk;clear g;refine sm l ?_;repeat' with_reducible first|apply And.intro|exact .dq|refine aG.bC (by assumption) ?_|(refine aG.gE [] [] true sT ?_;simp only[go_sem,seval];refine cz.gF s ?_)|refine mO (λh=>?_) λh=>?_|refine ah.jE ak ?_ ?_|simp only[*,go_sem,seval]
    all_goals exact Jl
   ·obtain⟨j,rfl⟩:∃j,i=j+1:=⟨i-1,by omega⟩
    have t:j<b.qs.length:=ak
    have v:IntKind.wrap .i64 (((j+1:Nat):Int)-1)=(j:Int):=fQ;have hk:=iG (ok:=aB.okB) (lt:=jP) f;simp only[aB.okB,within,jP]at hk;have k:=br (c:=aB.cells) b.qs t;have h4:=ME b.qs[j].who b.qs[j].inst b.qs[j+1].who b.qs[j+1].inst;simp only[aB.cells]at k;clear g;refine sm l ?_;repeat' with_reducible first|apply And.intro|exact .dq|refine aG.bC (by assumption) ?_|(refine aG.gE [] [] true sT ?_;simp only[go_sem,seval];refine cz.gF s ?_)|refine mO (λh=>?_) λh=>?_|refine ah.jE ak ?_ ?_|simp only[*,go_sem,seval,k]
    all_goals exact Jl
  ·obtain rfl:i=b.qs.length:=ak
   have o:=oS m;refine s0 ?_;refine aF.count b.ts.length [1,65,66] [32,1072] (λi=>[(67,.I i)]) (λi=>[]) (λi=>∀j<i,nL (iu b.next) gS b.ts j=true) sT ?_ ?_
   ·exact kG
   ·intro i D m;refine s0 ?_;refine bS.fX (λh=>?_) (λh=>?_)
    ·have f:i<b.ts.length:=ak
     have E:IntKind.wrap .i64 ((i:Int)+1)=((i+1:Nat):Int):=fQ;have l:=br (c:=aR.cells) b.ts f;have z:=Fy b.ts[i];have e0:=qR (i:=i) m;have e1:nL (iu b.next) gS b.ts i=false->b.okB=false:=λx=>by simp[aH.okB,uV f x]
     simp only[aR.cells]at l z;rcases Nat.eq_zero_or_pos i with rfl|hpos
     ·have hk:=jf (ok:=iu b.next) (lt:=gS) f;simp only[iu]at hk;clear g o;refine sm l ?_;repeat' with_reducible first|apply And.intro|exact .dq|refine aG.bC (by assumption) ?_|refine mO (λh=>?_) λh=>?_|refine ah.jE ak ?_ ?_|simp only[*,go_sem,seval]
      all_goals exact Jl
     ·obtain⟨j,rfl⟩:∃j,i=j+1:=⟨i-1,by omega⟩
      have t:j<b.ts.length:=ak
      have v:IntKind.wrap .i64 (((j+1:Nat):Int)-1)=(j:Int):=fQ;have hk:=iG (ok:=iu b.next) (lt:=gS) f;simp only[iu,gS]at hk;have k:=br (c:=aR.cells) b.ts t;simp only[aR.cells]at k;clear g o;refine sm l ?_;repeat' with_reducible first|apply And.intro|exact .dq|refine aG.bC (by assumption) ?_|refine mO (λh=>?_) λh=>?_|refine ah.jE ak ?_ ?_|simp only[*,go_sem,seval,k]
      all_goals exact Jl
    ·obtain rfl:i=b.ts.length:=ak
     have B:=oS m;have e:b.okB=(n6 b.qs&&(!decide (128<(b.ts.length:Int))&&(!decide (b.next<0)&&!decide (1099511627776<b.next)))):=by simp[aH.okB,o,B]
     rw[e];clear e o B m;refine sc aS g ?_;cases n:n6 b.qs
     ·exact gY n
     cases p:decide (128<(b.ts.length:Int))
     case true=>simp only[go_sem,seval,n,p]<;>simp
     cases y:decide (b.next<0)
     case true=>simp only[go_sem,seval,n,p,y]<;>simp
     cases C:decide (1099511627776<b.next)<;>simp only[go_sem,seval,n,p,y,C]<;>simp
theorem bK(a b c:Int):Sq 164 [] [.int .i64 a,.int .i64 b,.int .i64 c] [] (.bool (within a b c)):=by
 refine bp 15 3 [.tmp 6] mixed func164 ?_;refine s0 ?_;repeat' with_reducible first|refine mO (λh=>?_) λh=>?_|simp only[*,go_sem,seval]
 all_goals(simp only[within];simp<;>omega)
theorem iw(a b c:Int):Sq 217 [] [.int .i64 a,.int .i64 b,.int .i64 c] [] (.bool (within a b c)):=by
 refine bp 15 3 [.tmp 6] mixed func217 ?_;refine s0 ?_;repeat' with_reducible first|refine mO (λh=>?_) λh=>?_|simp only[*,go_sem,seval]
 all_goals(simp only[within];simp<;>omega)
theorem iX(c:Int):Sq 70 [] [.int .i64 c] [] (.bool (within c 0 2)):=by
 have h:=bK c 0 2;refine bp 5 1 [.tmp 2] mixed func70 ?_;refine s0 ?_;exact ato
theorem iY(c:Int):Sq 192 [] [.int .i64 c] [] (.bool (within c 1 16)):=by
 have h:=bK c 1 16;refine bp 5 1 [.tmp 2] mixed func192 ?_;refine s0 ?_;exact ato
theorem xW(c:Int):Sq 216 [] [.int .i64 c] [] (.bool (within c 1 6)):=by
 have h:=iw c 1 6;refine bp 5 1 [.tmp 2] mixed func216 ?_;refine s0 ?_;exact ato
def vk(x:aD):Sq 158 [] [.agg x.cells] [] (.bool x.ok):=by
 have h1:=bK x.a 1 6;have h2:=iX x.b;have h3:=bK x.c 1 1073741824;have h4:=bK x.d 0 10000;refine bp 21 1 [.tmp 2] mixed func158 ?_;simp only[go_sem,seval,aD.cells];repeat' with_reducible first|apply And.intro|refine aG.bC (by assumption) ?_|refine mO (λh=>?_) λh=>?_|simp only[*,go_sem,seval]
 all_goals(simp only[aD.ok];simp_all)
theorem Px(a:Nat)(h:a<9223372036854775808):Sq 268 [] [.int .i64 a] [] (.int .u64 a):=by
 have c:decide ((a:Int)<0)=false:=by simp
 have e:IntKind.wrap .u64 (a:Int)=a:=by rw[IntKind.wrap_u64];omega
 refine bp 10 1 [.tmp 2] mixed func268 ?_;exact dL (a2 c e)
theorem J3(a b:Nat)(c:a<9223372036854775808)(e:b<9223372036854775808):Sq 220 [] [.int .i64 a,.int .i64 b] [] (.agg [.int .i64 ((a*b/18446744073709551616:Nat):Int),.int .u64 ((a*b%18446744073709551616:Nat):Int)]):=by
 have h:=Px a c;have i:=Px b e;have j:=w9 a b ak ak;have hP:a*b/18446744073709551616<9223372036854775808:=by
  have:a*b<9223372036854775808*9223372036854775808:=Nat.mul_lt_mul'' c e;omega
 have k:IntKind.wrap .i64 ((a*b/18446744073709551616:Nat):Int)=((a*b/18446744073709551616:Nat):Int):=by rw[IntKind.wrap_i64];omega
 have f:decide ((a:Int)<0)=false:=by simp
 have g:decide ((b:Int)<0)=false:=by simp
 refine bp 28 2 [.cell 4 226] mixed func220 ?_;refine sc aS h ?_;refine sc aS i ?_;exact sZ (a3 k f g) j
theorem Ql(P N:Nat)(l:0<N/\N<9223372036854775808)(hP:P<170141183460469231731687303715884105728):Sq 219 [] [.agg [.int .i64 ((P/18446744073709551616:Nat):Int),.int .u64 ((P%18446744073709551616:Nat):Int)],.int .i64 N] []
  (.bI [.I (if P/N<=4611686018427387904 then(P/N:Nat)else(0:Int)),.I (if P/N<=4611686018427387904 then(P%N:Nat)else(0:Int)),.bool (decide (P/N<=4611686018427387904))]):=by
 obtain⟨H,s⟩:=aN (P/18446744073709551616);obtain⟨L,t⟩:=aN (P%18446744073709551616);have f:H*18446744073709551616+L=P:=ak
 have g:L<18446744073709551616:=ak
 have hHl:H<9223372036854775808:=ak
 rw[<-s,<-t];obtain⟨Q,i⟩:=aN (P/N);obtain⟨R,j⟩:=aN (P%N);have hRN:R<N:=by rw[j];exact Nat.mod_lt _ l.1
 have m:=RG H L N ak;rw[f,<-i,<-j]at m;have e:N<=H->18446744073709551616<=Q:=λh=>by
  rw[i,Nat.le_div_iff_mul_le l.1];have:=tj 18446744073709551616 h;rw[Nat.mul_comm]at this;omega
 rw[<-i,<-j];have o:decide ((N:Int)<1)=false:=by simp;omega
 have p:decide ((H:Int)<0)=false:=by simp
 have w1:IntKind.wrap .u64 (H:Int)=H:=by rw[IntKind.wrap_u64];omega
 have n:IntKind.wrap .u64 (N:Int)=N:=by rw[IntKind.wrap_u64];omega
 refine bp 79 2 [.tmp 4,.tmp 5,.tmp 6] mixed func219 ?_;refine sm (a4 o p w1 n) ?_;refine⟨gT.mk (by kernel_rfl),Ek.mk (by kernel_rfl),Ek.mk (by kernel_rfl),?_⟩;refine bS.fX (λh=>?_) (λh=>?_)
 ·have k:=e ak;have c:¬Q<=4611686018427387904:=ak
  simp only[go_sem,seval,au c,iA c]
 ·have k:H<N:=ak
  refine sc (a2 w1 n) (m k g) ?_;refine bS.fX (λv=>?_) (λv=>?_)
  ·have c:¬Q<=4611686018427387904:=ak
   simp only[go_sem,seval,au c,iA c]
  ·have c:Q<=4611686018427387904:=ak
   have x:IntKind.wrap .i64 (Q:Int)=Q:=gO ak ak;have y:IntKind.wrap .i64 (R:Int)=R:=gO ak ak;simp only[go_sem,seval,aq c,dY c,x,y]
theorem AJ(x:aD)(u:Int):Sq 163 [] [.agg x.cells,.int .i64 u] [] (.bI [.int .i64 (x.V u),.int .i64 (x.E u)]):=by
 have o:=vk x;have s:=iw u 0 1099511627776;simp only[aD.cells]at o |-;refine bp 33 2 [.tmp 4,.tmp 5] mixed func163 ?_;refine sc aS o ?_;cases e:x.ok
 ·have g:x.V u=0:=by simp[aD.V,aD.fit,e]
  have e2:x.E u=3:=by simp[aD.E,aD.fit,e]
  exact dL (a2 g e2)
 refine sc aS s ?_;cases f:within u 0 1099511627776
 ·have i:x.fit u=false:=by simp[aD.fit,e];simp[within]at f;omega
  have g:x.V u=0:=by simp[aD.V,i]
  have e2:x.E u=3:=by simp[aD.E,i]
  exact dL (a2 g e2)
 have i:x.fit u=true:=by simp[aD.fit,e];simp[within]at f;omega
 have hr:=(aD.afU x).1 e;obtain⟨U,rfl⟩:∃U:Nat,u=U:=⟨u.toNat,by simp[within]at f;omega⟩
 have z:U<=1099511627776:=by simp[within]at f;omega
 obtain⟨C,p⟩:∃C:Nat,x.c=C:=⟨x.c.toNat,by omega⟩
 obtain⟨M,t⟩:∃M:Nat,10000-x.d=M:=⟨(10000-x.d).toNat,by omega⟩
 have l:C<=1073741824:=ak
 have n:M<=10000:=ak
 have m:C*M<=1073741824*10000:=Nat.mul_le_mul l n;have hP:U*(C*M)<=1099511627776*(1073741824*10000):=Nat.mul_le_mul z m;have w1:IntKind.wrap .i64 (10000-x.d)=M:=fQ;have B:IntKind.wrap .i64 (x.c*(M:Int))=((C*M:Nat):Int):=by
  rw[p,<-Int.natCast_mul,gO ak ak]
 have y:=J3 U (C*M) ak ak;have v:=Ql (U*(C*M)) 10000 ak ak;have h:x.P U=((U*(C*M):Nat):Int):=by
  simp only[aD.P,t,p];rw[Int.natCast_mul,Int.natCast_mul,Int.mul_assoc,Int.mul_comm (M:Int)]
 refine sc (a2 w1 B) y ?_;refine aG.bC v ?_;by_cases k:U*(C*M)/10000<=4611686018427387904
 ·have j:bB (x.P U/10000)=true:=by rw[h];simp only[bB,bQ,bz];omega
  have g:x.V U=((U*(C*M)/10000:Nat):Int):=by
   simp only[aD.V,i,if_true,abr,j];rw[h];rfl
  have e2:x.E U=0:=by simp[aD.E,i,af7,j]
  simp only[go_sem,seval,aq k,dY k,g,e2]
 ·have j:bB (x.P U/10000)=false:=by rw[h];simp only[bB,Bool.and_eq_false_iff,gv];omega
  have g:x.V U=0:=by simp[aD.V,i,abr,j]
  have e2:x.E U=1:=by simp[aD.E,i,af7,j]
  simp only[go_sem,seval,au k,iA k,g,e2]
def akT{x:Int}(h:0<=x)(h':x<18446744073709551616):aaM .u64 x=18446744073709551615-x:=by
 have:=apn x.toNat ak;rw[Int.toNat_of_nonneg h]at this;rw[this];omega
theorem akN(a:Int)(h:iS a):Sq 268 [] [.int .i64 a] [] (.int .u64 (a.natAbs:Nat)):=by
 obtain⟨h1,h2⟩:=h;refine bp 10 1 [.tmp 2] mixed func268 ?_;rcases Int.lt_or_le a 0 with hn|hn
 ·have d:decide (a<0)=true:=dY hn;have e:IntKind.wrap .u64 (0-IntKind.wrap .u64 a)=(a.natAbs:Nat):=by rw[IntKind.wrap_u64,IntKind.wrap_u64];omega
  exact dL (a2 d e)
 ·have d:decide (a<0)=false:=iE;have e:IntKind.wrap .u64 a=(a.natAbs:Nat):=by rw[IntKind.wrap_u64];omega
  exact dL (a2 d e)
def afJ(W:Int):(18446744073709551615-W%18446744073709551616+1+0)%18446744073709551616=(-W)%18446744073709551616:=ak
def afI(W:Int)(h:-85070591730234615865843651857942052864<=W/\W<=85070591730234615865843651857942052864) :
  IntKind.wrap .i64 ((18446744073709551615-(W/18446744073709551616)%18446744073709551616+0+(18446744073709551615-W%18446744073709551616+1+0)/18446744073709551616)%18446744073709551616)=(-W)/18446744073709551616:=by
 obtain⟨q,i⟩:=aN (W/18446744073709551616);obtain⟨l,g⟩:=aN (W%18446744073709551616);obtain⟨c,f⟩:=aN ((18446744073709551615-l+1+0)/18446744073709551616);have e:(-W)/18446744073709551616 = -q-1+c:=ak
 have h2:-4611686018427387904<=q/\q<=4611686018427387904:=ak
 have h3:0<=c/\c<=1:=ak
 rw[<-i,<-g,<-f,e,IntKind.wrap_i64];clear i g f e h;obtain⟨x,j⟩:=aN ((18446744073709551615-q%18446744073709551616+0+c)%18446744073709551616);rw[<-j];rcases Int.lt_or_le x 9223372036854775808 with h|h<;>omega
def akR(W:Int)(h:-85070591730234615865843651857942052864<=W/\W<=85070591730234615865843651857942052864):Sq 269 [] [.agg (wd W)] [] (.agg (wd (-W))):=by
 have c:=akT (x:=W%18446744073709551616) ak ak;have g:IntKind.wrap .u64 (W/18446744073709551616)=(W/18446744073709551616)%18446744073709551616:=IntKind.wrap_u64 _;have e:=akT (x:=(W/18446744073709551616)%18446744073709551616) ak ak;have f:=afJ W;have e2:=afI W h;simp only[wd];refine bp 27 1 [.cell 2 226] mixed func269 ?_;refine sm c ?_;refine aG.sem rfl ?_;with_reducible refine gM.xI (k:=126) (fn:=Tryz.f126) (i:=18446744073709551615-W%18446744073709551616) (j:=1) (m:=0) ?_ func126 ?_ ?_ kZ kY ?_ ?_ ?_ ?_ ?_ ?_ ?_ ?_ ?_
 iterate 11 (first|rfl|omega)
 refine sm (a2 g e) ?_;refine aG.sem rfl ?_;with_reducible refine gM.xI (k:=126) (fn:=Tryz.f126) (i:=18446744073709551615-(W/18446744073709551616)%18446744073709551616) (j:=0) (m:=(18446744073709551615-W%18446744073709551616+1+0)/18446744073709551616) ?_ func126 ?_ ?_ kZ kY ?_ ?_ ?_ ?_ ?_ ?_ ?_ ?_ ?_
 iterate 11 (first|rfl|omega)
 exact dL (a2 f e2)
def Fg(a b:Int):((a.natAbs*b.natAbs:Nat):Int)=if(decide (a<0) != decide (b<0))=true then -(a*b)else a*b:=by
 rw[Int.natCast_mul];rcases Int.lt_or_le a 0 with ha|ha<;>rcases Int.lt_or_le b 0 with hb|hb
 ·have f:(a.natAbs:Int) = -a:=ak
  have e2:(b.natAbs:Int) = -b:=ak
  have c:decide (a<0)=true:=dY ha;have e:decide (b<0)=true:=dY hb;rw[f,e2,c,e,Int.neg_mul_neg];rfl
 ·have f:(a.natAbs:Int) = -a:=ak
  have e2:(b.natAbs:Int)=b:=ak
  have c:decide (a<0)=true:=dY ha;have e:decide (b<0)=false:=iE;rw[f,e2,c,e,Int.neg_mul];rfl
 ·have f:(a.natAbs:Int)=a:=ak
  have e2:(b.natAbs:Int) = -b:=ak
  have c:decide (a<0)=false:=iE;have e:decide (b<0)=true:=dY hb;rw[f,e2,c,e,Int.mul_neg];rfl
 ·have f:(a.natAbs:Int)=a:=ak
  have e2:(b.natAbs:Int)=b:=ak
  have c:decide (a<0)=false:=iE;have e:decide (b<0)=false:=iE;rw[f,e2,c,e];rfl
theorem qJ(a b:Int)(i:iS a)(j:iS b):Sq 220 [] [.int .i64 a,.int .i64 b] [] (.agg (wd (a*b))):=by
 have m:=akN a i;have n:=akN b j;obtain⟨ha1,ha2⟩:=i;obtain⟨hb1,hb2⟩:=j;have h:=w9 a.natAbs b.natAbs ak ak;obtain⟨P,o⟩:=aN (a.natAbs*b.natAbs);have hPb:P<=85070591730234615865843651857942052864:=by
  have:a.natAbs*b.natAbs<=9223372036854775808*9223372036854775808:=Nat.mul_le_mul ak ak;omega
 have c:=Fg a b;rw[<-o]at h c;have l:IntKind.wrap .i64 ((P/18446744073709551616:Nat):Int)=(P:Int)/18446744073709551616:=by rw[IntKind.wrap_i64];omega
 have k:((P%18446744073709551616:Nat):Int)=(P:Int)%18446744073709551616:=ak
 have e:=akR (P:Int) ak;simp only[wd]at e |-;refine bp 28 2 [.cell 4 226] mixed func220 ?_;refine sc aS m ?_;refine sc aS n ?_;refine aG.bC h ?_;cases f:(decide (a<0)==decide (b<0))
 ·rw[bne,f,aq (by rfl)]at c;have g:a*b = -(P:Int):=ak
  exact sZ (a4 l k f g) e
 ·rw[bne,f,au sT]at c;exact dL (a4 l k f c)
def aE.zero:aE:=⟨0,0,0,0,0,0,0,0,0,0,0,0⟩
theorem JA(xs:List aE)(n:Int)(hl:xs.length<2^62):Sq 118 [] [.sl 12 (xs.map aE.cells),.fn 94 [],.int .i64 n] [] (.bI [.agg (jj aE.no n aE.zero xs).cells,.int .i64 (lO aE.no n xs)]):=by
 refine bp 27 3 [.cell 6 68,.tmp 7] mixed func118 ?_;refine s0 ?_;refine aF.count xs.length [1,2,6,11,12] [112,208] (λi=>[(13,.I i)]) (λi=>[]) (λi=>∀j (g:j<xs.length),j<i->xs[j].no≠n) sT ?_ ?_
 ·exact kG
 ·intro i hi o;refine s0 ?_;refine bS.fX (λh=>?_) (λh=>?_)
  ·have f:i<xs.length:=ak
   have s:IntKind.wrap .i64 ((i:Int)+1)=((i+1:Nat):Int):=fQ;have p:=br (c:=aE.cells) xs f;have k:=yQ xs[i];simp only[aE.cells]at p k |-;refine sm p ?_;refine⟨by omega,aG.bC k ?_⟩;refine s0 ?_;refine bS.split (λe=>?_) (λe=>?_)
   ·have e:xs[i].no=n:=su e;obtain⟨l,m⟩:=mz (z:=aE.zero) f o e;rw[l,m];exact jq
   ·have e:xs[i].no≠n:=su e;refine sm s ?_;refine ah.jE f ?_ ?_
    ·intro j g hji;rcases dN j i with h|h
     ·exact o j g h
     ·obtain rfl:j=i:=ak
      exact e
    ·exact jq
  ·obtain rfl:i=xs.length:=ak
   obtain⟨l,m⟩:=j7 (z:=aE.zero) (λj g=>o j g g);rw[l,m];simp only[go_sem,seval,aE.cells,aE.zero]
def aZ(r:aA)(n:Int):aE:=jj aE.no n aE.zero r.ns
def bJ(r:aA)(n:Int):Bool:=decide (0<=lO aE.no n r.ns)
theorem vn(r:aA)(n:Int)(e:r.small):Sq 32 [] [.agg r.cells,.int .i64 n] [] (.bI [.agg (aZ r n).cells,.bool (bJ r n)]):=by
 have h:=JA r.ns n (by have:=e.2.1;omega);obtain⟨g,c⟩:=aN (jj aE.no n aE.zero r.ns);simp only[aZ,bJ];rw[<-c]at h |-;simp only[aE.cells]at h |-;simp only[aA.cells];refine bp 18 2 [.cell 4 68,.tmp 5] mixed func32 ?_;exact sZ aS h
structure kM where
 i:aE
 q:Int
@[reducible] def kM.cells(x:kM):List D:=[.I x.i.no,.I x.i.cur,.I x.i.mult,.I x.i.add,.I x.i.set,.I x.i.aL,.I x.i.s0,.I x.i.s1,.I x.i.s2,.I x.i.s3,.I x.i.s4,.I x.i.s5,.I x.q]
def Lp(r:aA)(w c:Int)(p:aB):Bool:=bJ r p.inst&&(p.who==w&&(aZ r p.inst).cur==c)
def sB(r:aA)(w c:Int)(qs:List aB):List kM:=(qs.filter (Lp r w c)).map λp=>⟨aZ r p.inst,p.aO⟩
def D2(p:aB):Bool:=!decide (p.aO < -1099511627776)&&!decide (1099511627776<p.aO)
def WM(r:aA)(qs:List aB):Int:=if r.okB then(if qs.all D2 then 0 else 3)else 14
def PY(r:aA)(w c:Int)(l:List aB){i:Nat}(h:i<l.length):sB r w c (l.take (i+1))=if Lp r w c l[i]then sB r w c (l.take i)++[⟨aZ r l[i].inst,l[i].aO⟩]else sB r w c (l.take i):=by
 simp only[sB];rw[jU h,nK,jF];cases e:Lp r w c l[i]<;>simp[filter,e]
def FU(r:aA)(w c:Int)(l:List aB):(sB r w c l).length<=l.length:=by
 simp only[sB,qE];exact length_filter_le _ _
def xT(j:Nat)(p:kM):Int:=-p.q*p.i.mult*p.i.sh j
def qd(l:List kM)(j:Nat):Int:=ay (l.map (xT j))
def N9(p:kM):Int:=max p.q (-p.q)*p.i.add
def FV(p:kM):Prop:=p.i.ok=true /\ -1099511627776<=p.q/\p.q<=1099511627776
def IV{x:aE}(h:x.ok=true)(j:Nat):-1073741824<=x.sh j/\x.sh j<=1073741824:=by
 simp only[aE.ok,bQ]at h;have c:=h.1.1.1.1.1.1;simp only[aE.N2,bL,mem_range,within,bQ,bz]at c;rcases dN j 6 with hj|hj
 ·exact c j hj
 ·have e:x.sh j=x.sh 5:=by
   rcases j with _| _| _| _| _| _|j<;>first|omega|rfl
  rw[e];exact c 5 ak
def tI{x:aE}(h:x.ok=true):(1<=x.mult/\x.mult<=1024)/\(0<=x.add/\x.add<=1073741824):=by
 simp only[aE.ok,within,bQ,bz]at h;omega
def fE{a b A B:Int}(ha:-A<=a/\a<=A)(hb:-B<=b/\b<=B):-(A*B)<=a*b/\a*b<=A*B:=by
 have c:0<=A:=ak
 have e:0<=B:=ak
 have h:a.natAbs*b.natAbs<=A.natAbs*B.natAbs:=Nat.mul_le_mul ak ak;have h1:(a*b).natAbs=a.natAbs*b.natAbs:=Int.natAbs_mul a b;have h2:(A*B).natAbs=A.natAbs*B.natAbs:=Int.natAbs_mul A B;have h3:0<=A*B:=Int.mul_nonneg c e;omega
def Pw{p:kM}(h:FV p)(j:Nat):(-1125899906842624 <= -p.q*p.i.mult /\ -p.q*p.i.mult<=1125899906842624) /\ -1208925819614629174706176<=xT j p/\xT j p<=1208925819614629174706176:=by
 obtain⟨c,h2,h3⟩:=h;obtain⟨⟨m1,m2⟩,-⟩:=tI c;have s:=IV c j;have r1:=fE (a:=-p.q) (b:=p.i.mult) (A:=1099511627776) (B:=1024) ak ak;have r1:-1125899906842624 <= -p.q*p.i.mult /\ -p.q*p.i.mult<=1125899906842624:=r1;have r2:=fE (a:=-p.q*p.i.mult) (b:=p.i.sh j) (A:=1125899906842624) (B:=1073741824) r1 s;exact⟨r1,r2⟩
def Rr{p:kM}(h:FV p):-1208925819614629174706176<=N9 p/\N9 p<=1208925819614629174706176:=by
 obtain⟨c,h2,h3⟩:=h;obtain⟨-,m1,m2⟩:=tI c;have r1:=fE (a:=max p.q (-p.q)) (b:=p.i.add) (A:=1099511627776) (B:=1099511627776) ak ak;exact r1
theorem BA{l:List Int}{B:Int}(h:∀n∈l,-B<=n/\n<=B):-(B*l.length)<=ay l/\ay l<=B*l.length:=by
 induction l with
 |nil=>simp[ay]
 |cons x r ih =>
  have h1:=h x sT;have h2:=ih λn c=>h n (by simp[c]);have e:B*((x::r).length:Int)=B*(r.length:Int)+B:=by
   have:(((x::r).length:Nat):Int)=(r.length:Int)+1:=by simp
   rw[this,Int.mul_add,Int.mul_one]
  rw[e];simp only[ay];omega
def DG{B x:Int}(h:-B<=x/\x<=B)(hB:B<=85070591730234615865843651857942052864):vM x=true:=by
 simp only[vM,bQ,bz];omega
def aaX{l:List kM}(h:∀p∈l,FV p)(j:Nat)(hl:l.length<2^30):(∀n∈l.map (xT j),vM n=true)/\vM (qd l j)=true:=by
 have e:∀n∈l.map (xT j),-1208925819614629174706176<=n/\n<=1208925819614629174706176:=by
  intro n c;obtain⟨p,g,rfl⟩:=mem_map.1 c;exact(Pw (h p g) j).2
 refine⟨λn c=>DG (e n c) ak,?_⟩;have f:=BA (B:=1208925819614629174706176) e;simp only[qE]at f;refine DG (B:=1208925819614629174706176*(l.length:Int)) f ak
def mT(l:List kM)(i:Nat)(j:Nat):D:=.I (if j<i then qd l j else 0)
def jv(l:List kM)(i:Nat):List D:=[mT l i 0,mT l i 1,mT l i 2,mT l i 3,mT l i 4,mT l i 5]
theorem Pv(l:List kM){i:Nat}(h:i<6):nR (jv l i) (i*1) [.int .i64 (qd l i)]=jv l (i+1):=by
 rcases i with _| _| _| _| _| _|i<;>first|omega|simp[jv,mT,nR]
theorem wX(l:List kM):jv l 0=[.int .i64 0,.int .i64 0,.int .i64 0,.int .i64 0,.int .i64 0,.int .i64 0]:=by simp[jv,mT]
def qU(l:List kM):Bool:=(range 6).any λj=>!bB (qd l j)
def Ad(r:aA)(w c:Int)(qs:List aB):Int:=if WM r qs=0 then(if qU (sB r w c qs)then 1 else 0)else WM r qs
def JK(r:aA)(w c:Int)(qs:List aB):List D:=if Ad r w c qs=0 then jv (sB r w c qs) 6 else jv [] 0
theorem OU{A:Type}{no:A->Int}{n:Int}{z:A}:∀{xs:List A},0<=lO no n xs->jj no n z xs∈xs/\no (jj no n z xs)=n
 | [],h=>by simp[lO]at h
 |x::r,h=>by
  simp only[lO]at h;simp only[jj];split at h
  ·rename_i c;rw[aq c];exact⟨by simp,c⟩
  ·rename_i c;rw[au c];split at h
   ·omega
   ·have:=OU (no:=no) (n:=n) (z:=z) (xs:=r) ak;exact⟨mem_cons_of_mem _ this.1,this.2⟩
def wC{A:Type}{no:A->Int}{ok:A->Bool}{xs:List A}(h:mI no ok xs=true):∀x∈xs,ok x=true:=by
 intro x e;obtain⟨i,c,rfl⟩:=mem_iff_getElem.1 e;have:=bL.1 h i (mem_range.2 c);rcases Nat.eq_zero_or_pos i with rfl|hp
 ·rwa[jS no ok xs c ak]at this
 ·rw[jR no ok xs c hp,bQ]at this;exact this.1
def zI{r:aA}(h:r.okB=true){n:Int}(c:bJ r n=true):(aZ r n).ok=true:=by
 simp only[aA.okB,bQ]at h;exact wC h.1.2 _ (OU (by simpa[bJ]using c)).1
def P0{r:aA}{w c:Int}{qs:List aB}(h:WM r qs=0):∀p∈sB r w c qs,FV p:=by
 have f:r.okB=true/\qs.all D2=true:=by
  unfold WM at h;split at h
  ·rename_i i;split at h
   ·rename_i j;exact⟨i,j⟩
   ·cases h
  ·cases h
 intro p g;simp only[sB,mem_map,mem_filter]at g;obtain⟨x,⟨l,e⟩,rfl⟩:=g;have k:=bL.1 f.2 x l;simp only[D2,bQ,gD,gv]at k;refine⟨?_,by simp only;omega,by simp only;omega⟩;simp only[Lp,bQ]at e;exact zI f.1 e.1
theorem alA(p:kM){i:Nat}(h:i<6):(drop (6+i*1) p.cells).headD .undef=.int .i64 (p.i.sh i):=by
 rcases i with _| _| _| _| _| _|i<;>first|rfl|omega
def Ar(f:Nat->Int):Nat->Int
 | 0=>0
 |i+1=>max (Ar f i) (f i)
theorem PO{f:Nat->Int}(n:Nat)(h:∀j<n,bB (f j)=true):0<=Ar f n/\Ar f n<=4611686018427387904:=by
 induction n with
 |zero=>simp[Ar]
 |succ n ih =>
  have h1:=ih λj hj=>h j ak;have h2:=aP.1 (h n ak);simp only[Ar];omega
def PA(l:List kM):Int:=ay (Ar (qd l) 6::l.map N9)
def HG(r:aA)(w c:Int)(qs:List aB):Int:=if Ad r w c qs=0 then(if bB (PA (sB r w c qs))then 0 else 1)else Ad r w c qs
def Ff(r:aA)(w c:Int)(qs:List aB):Int:=if Ad r w c qs=0 then(if bB (PA (sB r w c qs))then PA (sB r w c qs)else 0)else 0
theorem Y6(f:Nat->Int){i:Nat}(h:i<6):(drop (i*1) [D.int .i64 (f 0),D.int .i64 (f 1),D.int .i64 (f 2),D.int .i64 (f 3),D.int .i64 (f 4),D.int .i64 (f 5)]).headD .undef=.int .i64 (f i):=by
 rcases i with _| _| _| _| _| _|i<;>first|rfl|omega
def Vo{r:aA}{w c:Int}{qs:List aB}(h:Ad r w c qs=0):WM r qs=0/\qU (sB r w c qs)=false:=by
 unfold Ad at h;split at h
 ·rename_i e;refine⟨e,?_⟩;cases f:qU (sB r w c qs)
  ·rfl
  ·rw[f]at h;cases h
 ·rename_i e;exact(e h).elim
def R8{l:List kM}(h:qU l=false):∀j<6,bB (qd l j)=true:=by
 intro j c;simp only[qU,any_eq_false,mem_range]at h;simpa using h j c
def y6(x:av):Sq 153 [] [.agg x.cells] [] (.bool x.ok):=by
 have h1:=iY x.no;have h2:=bK x.state 1 3;have h3:=bK x.need 0 4611686018427387904;simp only[av.cells];refine bp 16 1 [.tmp 2] mixed func153 ?_;refine s0 ?_;repeat' with_reducible first|apply And.intro|refine aG.bC (by assumption) ?_|refine mO (λh=>?_) λh=>?_|simp only[*,go_sem,seval]
 all_goals first
  | (simp_all[av.ok];done)
  | (rw[nJ];simp_all[av.ok,within,bB];omega)
def xZ(x:aE):Sq 155 [] [.agg x.cells] [] (.bool x.ok):=by
 have h1:=bK x.no 1 8;have h2:=iX x.cur;have h3:=bK x.mult 1 1024;have h4:=bK x.add 0 1073741824;have h5:=bK x.set 0 1073741824;have h6:=bK x.aL 0 1073741824;simp only[aE.cells];refine bp 42 1 [.tmp 2] mixed func155 ?_;refine s0 ?_;refine aF.w1 6 3 [1] [32] (λi _=>∀j<i,within (x.sh j) (-1073741824) 1073741824=true) (by intros;omega) ?_ ?_
 ·intro i _ n f z l;have f:decide ((i:Int)<6)=true:=f;have k:=Y6 x.sh n;have v:[D.I (x.sh 0),D.I (x.sh 1),D.I (x.sh 2),D.I (x.sh 3),D.I (x.sh 4),D.I (x.sh 5)]=[D.I x.s0,D.I x.s1,D.I x.s2,D.I x.s3,D.I x.s4,D.I x.s5]:=rfl;rw[v]at k;have c:(drop (6+i*1) x.cells).headD .undef=.I (x.sh i):=by
   rcases i with _| _| _| _| _| _|i<;>first|rfl|omega
  simp only[aE.cells]at c;have y:=bK (x.sh i) (-1073741824) 1073741824;refine sc (a3 f k c) y ?_;cases m:within (x.sh i) (-1073741824) 1073741824
  ·have t:x.N2=false:=by
    cases o:x.N2
    ·rfl
    ·rw[aE.N2,bL]at o;rw[o i (mem_range.2 n)]at m;cases m
   have e2:x.ok=false:=by simp[aE.ok,t]
   exact dL e2
  ·refine sm z ?_;refine ah.u n ?_ ?_
   ·intro j p;rcases dN j i with h|h
    ·exact l j h
    ·obtain rfl:j=i:=ak
     exact m
   ·exact jq
 ·intro _ g l;have g:decide ((6:Int)<6)=false:=g;have s:x.N2=true:=bL.2 λj p=>l j (mem_range.1 p);have e:x.ok=(within x.no 1 8&&within x.cur 0 2&&within x.mult 1 1024&&within x.add 0 1073741824&&within x.set 0 1073741824&&within x.aL 0 1073741824):=by simp[aE.ok,s]
  rw[e];clear l e s;repeat' with_reducible first|apply And.intro|refine aG.bC (by assumption) ?_|refine mO (λh=>?_) λh=>?_|simp only[*,go_sem,seval]
  all_goals(simp_all;done)
section
variable{A:Type}{no:A->Int}{ok:A->Bool}{xs:List A}
def IF{i:Nat}(h:i<xs.length)(c:eV no ok xs i=false):mI no ok xs=false:=by
 cases e:mI no ok xs
 ·rfl
 ·rw[bL.1 e i (mem_range.2 h)]at c;cases c
def zR(h:∀i<xs.length,eV no ok xs i=true):mI no ok xs=true:=bL.2 λi c=>h i (mem_range.1 c)
def Bp{i:Nat}(e:∀j<i,eV no ok xs j=true)(c:eV no ok xs i=true):∀k<i+1,eV no ok xs k=true:=λk hk=>by
 rcases dN k i with h|h
 ·exact e k h
 ·obtain rfl:k=i:=ak
  exact c
end
def ga(r:aA)(hl:r.small):Sq 152 [] [.agg r.cells] [] (.bool r.okB):=by
 obtain⟨l1,l2,l3⟩:=hl;simp only[aA.cells];refine bp 108 1 [.tmp 2] mixed func152 ?_;refine s0 ?_;refine aF.count r.ms.length [1] [32] (λi=>[(3,.I i)]) (λi=>[]) (λi=>∀j<i,eV av.no av.ok r.ms j=true) sT ?_ ?_
 ·exact kG
 intro i z k;refine s0 ?_;refine bS.fX (λh=>?_) (λh=>?_)
 ·have f:i<r.ms.length:=ak
  have B:IntKind.wrap .i64 ((i:Int)+1)=((i+1:Nat):Int):=fQ;have l:=br (c:=av.cells) r.ms f;have n:=y6 r.ms[i];have e0:=Bp (i:=i) k;have e1:eV av.no av.ok r.ms i=false->r.okB=false:=λt=>by simp[aA.okB,IF f t]
  have p:(i:Int)<(r.ms.length:Int):=ak
  simp only[av.cells]at l n;rcases Nat.eq_zero_or_pos i with rfl|hpos
  ·have hk:=jS av.no av.ok r.ms f ak;refine sm l ?_;repeat' with_reducible first|apply And.intro|exact .dq|refine aG.bC (by assumption) ?_|refine mO (λh=>?_) λh=>?_|refine ah.jE ak ?_ ?_|simp only[*,go_sem,seval]
   all_goals exact Jl
  ·obtain⟨j,rfl⟩:∃j,i=j+1:=⟨i-1,by omega⟩
   have m:j<r.ms.length:=ak
   have s:IntKind.wrap .i64 (((j+1:Nat):Int)-1)=(j:Int):=fQ;have hk:=jR av.no av.ok r.ms f ak;have g:=br (c:=av.cells) r.ms m;have o:(j:Int)<(r.ms.length:Int):=ak
   simp only[av.cells]at g;simp only[Nat.add_sub_cancel]at hk;refine sm l ?_;repeat' with_reducible first|apply And.intro|exact .dq|refine aG.bC (by assumption) ?_|refine mO (λh=>?_) λh=>?_|refine ah.jE ak ?_ ?_|simp only[*,go_sem,seval,g,qE]
   all_goals exact Jl
 have v:=zR (λj (m:j<r.ms.length)=>k j ak);clear k;refine s0 ?_;refine aF.count r.ns.length [1] [32] (λi=>[(4,.I i)]) (λi=>[]) (λi=>∀j<i,eV aE.no aE.ok r.ns j=true) sT ?_ ?_
 ·exact kG
 intro i z k;refine s0 ?_;refine bS.fX (λh=>?_) (λh=>?_)
 ·have f:i<r.ns.length:=ak
  have B:IntKind.wrap .i64 ((i:Int)+1)=((i+1:Nat):Int):=fQ;have l:=br (c:=aE.cells) r.ns f;have n:=xZ r.ns[i];have e0:=Bp (i:=i) k;have e1:eV aE.no aE.ok r.ns i=false->r.okB=false:=λt=>by simp[aA.okB,IF f t]
  have p:(i:Int)<(r.ns.length:Int):=ak
  simp only[aE.cells]at l n;rcases Nat.eq_zero_or_pos i with rfl|hpos
  ·have hk:=jS aE.no aE.ok r.ns f ak;refine sm l ?_;repeat' with_reducible first|apply And.intro|exact .dq|refine aG.bC (by assumption) ?_|refine mO (λh=>?_) λh=>?_|refine ah.jE ak ?_ ?_|simp only[*,go_sem,seval]
   all_goals exact Jl
  ·obtain⟨j,rfl⟩:∃j,i=j+1:=⟨i-1,by omega⟩
   have m:j<r.ns.length:=ak
   have s:IntKind.wrap .i64 (((j+1:Nat):Int)-1)=(j:Int):=fQ;have hk:=jR aE.no aE.ok r.ns f ak;have g:=br (c:=aE.cells) r.ns m;have o:(j:Int)<(r.ns.length:Int):=ak
   simp only[aE.cells]at g;simp only[Nat.add_sub_cancel]at hk;refine sm l ?_;repeat' with_reducible first|apply And.intro|exact .dq|refine aG.bC (by assumption) ?_|refine mO (λh=>?_) λh=>?_|refine ah.jE ak ?_ ?_|simp only[*,go_sem,seval,g,qE]
   all_goals exact Jl
 have x:=zR (λj (m:j<r.ns.length)=>k j ak);clear k;refine s0 ?_;refine aF.count r.xs.length [1] [32] (λi=>[(5,.I i)]) (λi=>[]) (λi=>∀j<i,eV aD.a aD.ok r.xs j=true) sT ?_ ?_
 ·exact kG
 intro i z k;refine s0 ?_;refine bS.fX (λh=>?_) (λh=>?_)
 ·have f:i<r.xs.length:=ak
  have B:IntKind.wrap .i64 ((i:Int)+1)=((i+1:Nat):Int):=fQ;have l:=br (c:=aD.cells) r.xs f;have n:=vk r.xs[i];have e0:=Bp (i:=i) k;have e1:eV aD.a aD.ok r.xs i=false->r.okB=false:=λt=>by simp[aA.okB,IF f t]
  have p:(i:Int)<(r.xs.length:Int):=ak
  simp only[aD.cells]at l n;rcases Nat.eq_zero_or_pos i with rfl|hpos
  ·have hk:=jS aD.a aD.ok r.xs f ak;refine sm l ?_;repeat' with_reducible first|apply And.intro|exact .dq|refine aG.bC (by assumption) ?_|refine mO (λh=>?_) λh=>?_|refine ah.jE ak ?_ ?_|simp only[*,go_sem,seval]
   all_goals exact Jl
  ·obtain⟨j,rfl⟩:∃j,i=j+1:=⟨i-1,by omega⟩
   have m:j<r.xs.length:=ak
   have s:IntKind.wrap .i64 (((j+1:Nat):Int)-1)=(j:Int):=fQ;have hk:=jR aD.a aD.ok r.xs f ak;have g:=br (c:=aD.cells) r.xs m;have o:(j:Int)<(r.xs.length:Int):=ak
   simp only[aD.cells]at g;simp only[Nat.add_sub_cancel]at hk;refine sm l ?_;repeat' with_reducible first|apply And.intro|exact .dq|refine aG.bC (by assumption) ?_|refine mO (λh=>?_) λh=>?_|refine ah.jE ak ?_ ?_|simp only[*,go_sem,seval,g,qE]
   all_goals exact Jl
 have y:=zR (λj (m:j<r.xs.length)=>k j ak);clear k;refine s0 ?_;have e:r.okB=true:=by simp[aA.okB,v,x,y]
 rw[e]
theorem fF(r:aA)(n:Int)(x:r.small):Sq 156 [] [.agg r.cells,.int .i64 n] [] (.bI [.agg (aZ r n).cells,.bool (bJ r n)]):=by
 obtain⟨l1,l2,l3⟩:=x;simp only[aA.cells];refine bp 28 2 [.cell 4 68,.tmp 5] mixed func156 ?_;refine s0 ?_;refine aF.w1 r.ns.length 6 [1,2,4] [48,80] (λi _=>∀j (f:j<r.ns.length),j<i->r.ns[j].no≠n) (by intros;omega) ?_ ?_
 ·intro i _ s o y g;have t:=br (c:=aE.cells) r.ns s;have hlt:(i:Int)<(r.ns.length:Int):=ak
  simp only[aE.cells]at t |-;refine sm (a2 o t) ?_;refine bg ?_;cases v:r.ns[i].no==n
  ·have e:r.ns[i].no≠n:=su v;refine sm y ?_;refine ah.u s ?_ ?_
   ·intro j f hji;rcases dN j i with h|h
    ·exact g j f h
    ·obtain rfl:j=i:=ak
     exact e
   ·exact jq
  ·have e:r.ns[i].no=n:=su v;obtain⟨l,m⟩:=mz (z:=aE.zero) s g e;have k:aZ r n=r.ns[i]:=l;have e2:bJ r n=true:=by simp[bJ,m]
   rw[k,e2];refine sm t ?_;exact Si
 ·intro _ p g;obtain⟨l,m⟩:=j7 (z:=aE.zero) (λj f=>g j f f);have k:aZ r n=aE.zero:=l;have e2:bJ r n=false:=by simp[bJ,m]
  rw[k,e2];simp only[go_sem,seval,p,aE.cells,aE.zero]
def Spec.frozen{P:Program}{f:FuncId}{ds c:List D}{d:D}(h:Abs.Spec P f [] ds c d)(fz:List Nat){l:List D}{y:D}(K:(ia fz (sM [(0,d)] (uw 0 c))).t 0=y)(M:∀r,(ia fz (sM [(0,d)] (uw 0 c))).o r=l.getD r .undef):Abs.Spec P f [] ds l y:=by
 refine⟨h.1,?_⟩;intro w C x m E vs z n J p N k;refine(h.2 w C x m E vs z n J p N k).mono ?_;rintro e w' ⟨v,rfl,o⟩;refine⟨v,rfl,o.os,o.tape,o.output,o.size,o.old,o.part,?_⟩;obtain⟨lev,own,S,F,G,H,I,_⟩:=o.rep;have L:Inv w C x S w' lev own S (sM [(0,d)] (uw 0 c)) (λj=>if j=0 then v else Go.undef):=by
  refine⟨⟨o.os,z⟩,o.tape,o.output,o.size,o.old,o.part,F,G,λ_ _ _=>rfl,?_,?_⟩
  ·intro s;show aM _ _ (Abs.look [(0,d)] s);by_cases B:s=0
   ·subst B;simpa[Abs.look]using H
   ·simp only[Abs.look,au B];exact .undef _
  ·intro r;show nj _ _ _ _ _ _ r (Abs.look (uw 0 c) r);rw[o7];simpa using I r
 obtain⟨lev',S',g⟩:=Inv.XP fz L (λ_ _=>trivial);refine⟨lev',own,S',g.priv,g.kR,?_,?_,λi h=>by cases h⟩
 ·have:=g.pK 0;rw[K]at this;simpa using this
 ·intro r;have:=g.objs r;rwa[M]at this
def aA.jX(r:aA):Prop:=r.ms.length<2^30/\r.ns.length<2^30/\r.xs.length<2^30
def aA.jX.small{r:aA}(h:r.jX):r.small:=⟨by have:=h.1;omega,by have:=h.2.1;omega,by have:=h.2.2;omega⟩
def rA(r:aA)(c:r.jX):Sq 88 [] [.agg r.cells] [.own 3 (r.ms.map av.cells),.own 12 (r.ns.map aE.cells),.own 4 (r.xs.map aD.cells)] (.agg [.ref 0,.ref 1,.ref 2]):=by
 obtain⟨l1,l2,l3⟩:=c;simp only[aA.cells];refine bp 23 1 [.cell 2 30] mixed func88 ?_;refine s0 ?_;omega
theorem vp(b:aH)(c:b.small):Sq 89 [] [.agg b.cells] [.own 7 (b.ts.map aR.cells),.own 4 (b.qs.map aB.cells)] (.agg [.int .i64 b.next,.ref 0,.ref 1]):=by
 obtain⟨l1,l2⟩:=c;simp only[aH.cells];refine bp 20 1 [.cell 2 34] mixed func89 ?_;refine s0 ?_;omega
theorem NV(l:bu)(hl:l.bs.length<2^30):Sq 90 [] [.agg l.cells] [.own 4 (l.bs.map bU.cells)] (.agg [.int .i64 l.last,.ref 0]):=by
 simp only[bu.cells];refine bp 14 1 [.cell 2 37] mixed func90 ?_;refine s0 ?_;omega
theorem Jb(x:bF)(h:x.fits):Sq 22 [] [.agg x.cells] [.own 3 (x.OK.map aU.cells),.own 8 (x.falls.map dM.cells)] (.agg [.int .i64 x.code,.int .i64 x.no,.int .i64 x.cu,.ref 0,.ref 1]):=by
 obtain⟨h1,h2⟩:=h;simp only[bF.cells];refine bp 24 1 [.cell 2 64] mixed func22 ?_;refine s0 ?_;omega
def qP(x:bF)(h:x.fits):Sq 22 [] [.agg x.cells] [] (.agg x.cells):=by
 refine Spec.frozen (Jb x h) [0,1] ?_ ?_
 ·simp only[bF.cells];rfl
 ·intro r;rcases r with _| _|r
  ·rfl
  ·rfl
  ·rfl
structure af.small(s:af):Prop where
 aj:s.aj.jX
 book:s.book.small
 bf:s.bf.bs.length<2^30
 ps:s.ps.length<2^30
 calls:s.calls.length<2^30
 aW:s.aW.length<2^30
 aT:s.aT.length<2^30
 rs:∀x∈s.aT,x.r.fits
def I5(s:af):List D:=[.I s.now,.I s.day,.I s.phase,.ref 0,.ref 1,.ref 2,.I s.book.next,.ref 3,.ref 4,.I s.bf.last,.ref 5,.ref 6,.ref 7,.ref 8,.ref 9]
def QO(s:af):List D:=[.own 3 (s.aj.ms.map av.cells),.own 12 (s.aj.ns.map aE.cells),.own 4 (s.aj.xs.map aD.cells),.own 7 (s.book.ts.map aR.cells),.own 4 (s.book.qs.map aB.cells),.own 4 (s.bf.bs.map bU.cells),.own 3 (pl s.ps),.own 4 (s.calls.map aI.cells),.own 5 (s.aW.map aY.cells),.own 7 (s.aT.map bX.cells)]
def uu(s:af)(e:s.small):Sq 20 [] [.agg s.cells] (QO s) (.agg (I5 s)):=by
 have m:=rA s.aj e.aj;have n:=vp s.book e.book;have o:=NV s.bf e.bf;have e1:=e.ps;have e2:=e.calls;have e3:=e.aW;have e4:=e.aT;simp only[aA.cells]at m;simp only[aH.cells]at n;simp only[bu.cells]at o;simp only[af.cells,QO,I5];refine bp 68 1 [.cell 2 42] mixed func20 ?_;refine so aS m ?_;refine so aS n ?_;refine so aS o ?_;refine bg ?_;refine aF.sK (S:=Unit) s.aT.length [1,2,3] [32,48,160,161,162,208,209,256,352,448,544] (λi _=>[(4,.I i)])
  (λi _=>[(64,.box [.I s.now,.I s.day,.I s.phase,.ref 160,.ref 161,.ref 162,.I s.book.next,.ref 208,.ref 209,.I s.bf.last,.ref 256,.ref 352,.ref 448,.ref 544,.ref 1056]),(1056,.own 7 ((s.aT.take i).map bX.cells))]) (λ_ _=>True) () trivial ?_ ?_ ?_
 ·exact kG
 ·intro i _ g h l _;have p:=br (c:=bX.cells) s.aT g;have t:=qP s.aT[i].r (e.rs _ (dS g));have f:(s.aT.take (i+1)).map bX.cells=(s.aT.take i).map bX.cells++[s.aT[i].cells]:=by
   rw[jU g,jF,map_cons,map_nil]
  have k:((s.aT.take i).map bX.cells).length=i:=by simp;omega
  simp only[bX.cells]at p;simp only[bF.cells]at t;refine sc (a4 h p l k) t ?_;refine bg ?_;refine ah.v g ?_;simp only[go_sem,seval,f,bX.cells]
 ·intro _ j _;have x:(s.aT.take s.aT.length).map bX.cells=s.aT.map bX.cells:=by rw[eu]
  exact dL (a2 j x)
def aC.same(x y:aC):Bool:=x.kind==y.kind&&(x.who==y.who&&x.cur==y.cur)
def rG{x y:aC}:x.less y=true↔x.kind<y.kind\/(x.kind=y.kind/\(x.who<y.who\/(x.who=y.who/\x.cur<y.cur))):=by
 unfold aC.less;split
 ·simp;omega
 ·split<;>simp<;>omega
def IM{x y:aC}:x.same y=true↔x.kind=y.kind/\x.who=y.who/\x.cur=y.cur:=by simp[aC.same]
def PX{bs:List bU}(h:lG bs=true):bs.Pairwise (λx y=>x.bq.less y.bq=true):=by
 rw[Gg];have step:∀k (c:k+1<bs.length),bs[k].bq.less bs[k+1].bq=true:=λk c=>by
  have:=bL.1 h (k+1) (mem_range.2 c);rw[mC c,bQ]at this;exact this.2
 have key:∀d k (c:k+d+1<bs.length),bs[k].bq.less bs[k+d+1].bq=true:=by
  intro d;induction d with
  |zero=>intro k c;exact step k c
  |succ d ih =>
   intro k c;have h1:=rG.1 (ih k ak);have h2:=rG.1 (step (k+d+1) c);have f:bs[k].bq.less bs[k+d+1+1].bq=true:=rG.2 ak;exact f
 intro i j hi hj hij;have:=key (j-i-1) i ak;have e:i+(j-i-1)+1=j:=ak
 simpa only[e]using this
def akX{l:bu}{r:aA}{ps:List gC}{w c:Int}(h:MS l r ps w c=0):r.okB=true/\nB r w c ps=0/\N1 l r ps w c=eP ⟨2,w,c⟩ l.bs+abO r w c ps/\bB (N1 l r ps w c)=true:=by
 have i:AT l r ps=0:=by
  by_cases f:(AT l r ps != 0)=true
  ·simp only[MS,f,if_true]at h;exact h
  ·simpa using f
 have e:(AT l r ps != 0)=false:=by simp[i]
 have p:r.okB=true:=by
  unfold AT at i;split at i
  ·rename_i j;simp only[bQ]at j;exact j.1.2
  ·cases i
 have m:nB r w c ps=0:=by
  by_cases f:(nB r w c ps != 0)=true
  ·simp only[MS,e,f,if_true,iM,if_false]at h;exact h
  ·simpa using f
 have g:(nB r w c ps != 0)=false:=by simp[m]
 simp only[MS,e,g,iM,if_false]at h;have k:right (eP ⟨2,w,c⟩ l.bs::mL r w c ps)=true/\bB (ay (eP ⟨2,w,c⟩ l.bs::mL r w c ps))=true:=by
  unfold oa at h;split at h
  ·rename_i j;split at h
   ·rename_i o;exact⟨j,o⟩
   ·cases h
  ·cases h
 have n:N1 l r ps w c=ay (eP ⟨2,w,c⟩ l.bs::mL r w c ps):=by
  simp[N1,e,g,oI,k.1,k.2]
 refine⟨p,m,?_,by rw[n];exact k.2⟩;rw[n];simp only[ay,Ug]
def shE(s:af)(w c:Int):Int:=
 if MS s.bf s.aj s.ps w c=0 then(if s.book.okB then(if HG s.aj w c s.book.qs=0 then(if Ff s.aj w c s.book.qs<=N1 s.bf s.aj s.ps w c then 0 else ac0 (Ff s.aj w c s.book.qs) (N1 s.bf s.aj s.ps w c))else HG s.aj w c s.book.qs)else 14)else MS s.bf s.aj s.ps w c
def Y2(s:af)(w c:Int):Int:=
 if MS s.bf s.aj s.ps w c=0 then(if s.book.okB then(if HG s.aj w c s.book.qs=0 then(if Ff s.aj w c s.book.qs<=N1 s.bf s.aj s.ps w c then 0 else ac1 (Ff s.aj w c s.book.qs) (N1 s.bf s.aj s.ps w c))else 0)else 0)else 0
structure af.fit(s:af):Prop where
 aj:s.aj.small
 book:s.book.small
 bf:s.bf.bs.length<2^30
 ps:s.ps.length<2^30
def R9(r:aA)(w c:Int)(qs:List aB):bB (Ff r w c qs)=true:=by
 unfold Ff;split
 ·split
  ·assumption
  ·decide
 ·decide
def afw{l:bu}(h:l.okB=true):lG l.bs=true/\∀z∈l.bs,bB z.sum=true:=by
 simp only[bu.okB,bQ]at h;refine⟨h.1.2,λz f=>?_⟩;obtain⟨i,c,rfl⟩:=mem_iff_getElem.1 f;have:=bL.1 h.1.2 i (mem_range.2 c);have e:lR l.bs[i]=true:=by
  rcases Nat.eq_zero_or_pos i with rfl|hp
  ·rwa[n5 c]at this
  ·obtain⟨j,rfl⟩:∃j,i=j+1:=⟨i-1,by omega⟩
   rw[mC c,bQ]at this;exact this.1
 simp only[lR,bQ]at e;exact e.2.1
