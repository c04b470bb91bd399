/- Parts. -/
import Derived.Test.YtfhdodehnpbeoaaGreatRA
set_option linter.all false
set_option maxHeartbeats 4000000
set_option maxRecDepth 16000
namespace Go.Abs
section
variable {E C p q:Prop}
def aaS(e:E)(c:C) (h:E->C->p:=by
 intro e c;try simp -implicitDefEqProofs only[go_sem,seval,e]
 (with_reducible and_intros)<;>first
  | (refine az.aP c ?_;simp -implicitDefEqProofs only[go_sem,seval,e];try((with_reducible and_intros)<;>first|exact .dq|omega))
  |exact .dq
  |omega):p:=h e c
end
end Go.Abs
namespace Go.Proofs.YtfhdodehnpbeoaaGreat
open Go.Abs Tryz
open List hiding max
def eu.ch(x:eu):Nat->Int
 | 0=>x.c0| 1=>x.c1| 2=>x.c2| 3=>x.c3| _=>x.c4
def g3(G:Nat->Int)(i:Nat):List D:=[.I (if 0<i then G 0 else 0),.I (if 1<i then G 1 else 0),.I (if 2<i then G 2 else 0)]
def aaO{s:af}(h:M3 s):M3 { s with calls:=[] }:=
 ⟨⟨Uu h.right (by rfl) (λc a=>by cases a),h.fY.last,h.fY.fit⟩,h.sm⟩
def MP(X:List aB)(w c:Int)(y:aB):Prop:=y∈X/\y.who=w/\y.cur=c
def wO(s:af)(X:List aB)(w c:Int):Int:=if bL w c X<0 then rA s else(lM w c X).till
def Cb{X:List aB}(h:nQ bN bI X=true){w c:Int}:bL w c X<0↔∀y,¬MP X w c y:=by
 constructor
 ·intro q y ⟨h1,h2⟩;exact(xT (pN h) h1 h2).1 q
 ·intro q;refine Decidable.byContradiction λe=>?_;have:=mQ e;exact q _ ⟨this.1,this.2⟩
def till_eq{s:af}{X Y:List aB}(f:nQ bN bI X=true)(b:nQ bN bI Y=true){w c:Int}(h:∀y,MP X w c y↔MP Y w c y):wO s X w c=wO s Y w c:=by
 unfold wO;by_cases q:bL w c X<0
 ·have g:bL w c Y<0:=(Cb b).2 λy a=>(Cb f).1 q y ((h y).2 a);rw[au q,au g]
 ·have d:=mQ q;have a:=(h _).1 ⟨d.1,d.2⟩;have e:=xT (pN b) a.1 a.2;rw[aq q,aq e.1,e.2]
def LV(s:af)(w c:Int):0<=uW s w c:=by
 unfold uW Ai;(repeat' split)<;>omega
def ais{X:List aB}(h:nQ bN bI X=true){d:aH}{t:Int}(i:(1<=d.who/\d.who<=16)/\0<=d.cur/\d.cur<=2)(j:vV X d t=0){w c:Int}(hc:0<=c/\c<=2){y:aB} :
  MP (yT X d t) w c y↔if w=d.who/\c=d.cur then 0<d.bT/\y=⟨w,c,d.bT,if bL w c X<0 then t else(lM w c X).till⟩else MP X w c y:=by
 unfold MP yT;rw[au j,BW h i];by_cases g:w=d.who/\c=d.cur
 ·rw[au g,g.1,g.2];constructor
  ·rintro⟨⟨a,b⟩| ⟨a,b⟩,f,h4⟩
   ·exact⟨b,a⟩
   ·exact absurd (by simp only[gv];rw[f,h4]) b
  ·rintro⟨a,rfl⟩;exact⟨.inl ⟨rfl,a⟩,rfl,rfl⟩
 ·rw[aq g];constructor
  ·rintro⟨⟨a,b⟩| ⟨a,b⟩,f,h4⟩
   ·rw[a]at f h4;exact absurd ⟨f.symm,h4.symm⟩ g
   ·exact⟨a,f,h4⟩
  ·rintro⟨a,b,f⟩;refine⟨.inr ⟨a,λe=>g ?_⟩,b,f⟩;simp only[gv,b,f]at e;omega
def vX(s:af)(w:Int):Nat->Nat->List aH
 | 0,_=>[]
 |m+1,c=>jT w c (uW s w c)++vX s w m (c+1)
theorem TC{s:af}(hr:s.right){w:Int}(j:1<=w/\w<=16):∀(m c:Nat)(X:List aB)(D:List aH),c+m<=3->nQ bN bI X=true->(lz s w m c (X,D)).2=0 ->
  nQ bN bI (lz s w m c (X,D)).1.1=true/\(∀(v e:Int)(y:aB),0<=e/\e<=2->(MP (lz s w m c (X,D)).1.1 v e y↔if v=w/\(c:Int)<=e/\e<(c:Int)+m then 0<uW s w e/\y=⟨w,e,uW s w e,wO s X w e⟩else MP X v e y))/\(∀e:Nat,c<=e->e<c+m->Mt s w e=0)/\(lz s w m c (X,D)).1.2=D++vX s w m c
 | 0,c,X,D,_,hX,_=>by
  refine⟨hX,λv e y _=>?_,(λe x A=>by omega),by simp[lz,vX]⟩;rw[aq aj];rfl
 |m+1,c,X,D,hm,hX,h=>by
  simp only[lz]at h |-;split at h
  case isFalse hne=>exact absurd h hne
  rename_i l;rw[au l];have i:0<=rA s/\rA s<=1099511627776:=by have:=hr.HT;unfold rA;omega
  have C:=LV s w c;have g:=bf.1 (ac2 s w c);have B:=R9 (w:=w) (c:=(c:Int)) (n:=uW s w c) hX j aj ⟨C,g.2⟩ i;obtain⟨k,-⟩:=P0 (d:=⟨w,c,uW s w c⟩) (t:=rA s) hX;have a:=λ(v e:Int)(y:aB) b=>ais (w:=v) (c:=e) (y:=y) hX (d:=⟨w,c,uW s w c⟩) (t:=rA s) ⟨j,by dsimp only;omega,by dsimp only;omega⟩ B b;dsimp only at a;obtain⟨o,p,r,u⟩:=TC hr j m (c+1) _ (D++jT w c (uW s w c)) aj k h;refine⟨o,λv e y b=>?_,λe x A=>?_,?_⟩
  ·rw[p v e y b];by_cases q:v=w/\((c+1:Nat):Int)<=e/\e<((c+1:Nat):Int)+m
   ·rw[au q,au aj];have E:wO s (yT X ⟨w,c,uW s w c⟩ (rA s)) w e=wO s X w e:=till_eq k hX λz=>by
     rw[a w e z b,aq aj]
    rw[E]
   ·rw[aq q,a v e y b];by_cases f:v=w/\e=c
    ·rw[au f,au (show v=w/\(c:Int)<=e/\e<(c:Int)+((m+1:Nat):Int)from⟨f.1,by omega,by omega⟩),f.1,f.2];rfl
    ·rw[aq f,aq aj]
  ·rcases dN c e with q|q
   ·exact r e aj aj
   ·obtain rfl:e=c:=aj
    exact l
  ·rw[u,vX,dS]
theorem OK{s:af}(hr:s.right):∀(ws:List Int)(X:List aB)(D:List aH),ws.Nodup->(∀w∈ws,1<=w/\w<=16)->nQ bN bI X=true->(lO s ws (X,D)).2=0 ->
  nQ bN bI (lO s ws (X,D)).1.1=true/\(∀(v e:Int)(y:aB),0<=e/\e<=2->(MP (lO s ws (X,D)).1.1 v e y↔if v∈ws then 0<uW s v e/\y=⟨v,e,uW s v e,wO s X v e⟩else MP X v e y))/\(∀w∈ws,∀e:Nat,e<3->Mt s w e=0)/\(lO s ws (X,D)).1.2=D++ws.flatMap λw=>vX s w 3 0
 | [],X,D,_,_,hX,_=>by
  refine⟨hX,λv e y _=>?_,(λw f=>by cases f),by simp[lO]⟩;rw[aq sT];rfl
 |w::r,X,D,hn,f,hX,h=>by
  simp only[lO]at h |-;split at h
  case isFalse a=>exact absurd h a
  rename_i j;rw[au j];obtain⟨n1,x⟩:=nodup_cons.1 hn;obtain⟨c,a2,a3,a4⟩:=TC hr (f w sT) 3 0 X D aj hX j;obtain⟨P,t⟩:=aL ((lz s w 3 0 (X,D)).1);rw[<-t]at c a2 a4 h |-;obtain⟨i,l⟩:=P;dsimp only at c a2 a4;obtain⟨m,n,o,p⟩:=OK hr r i l x (λv b=>f v (by simp[b])) c h;refine⟨m,λv e y d=>?_,λv b=>?_,?_⟩
  ·rw[n v e y d];by_cases q:v∈r
   ·have a:v≠w:=λe=>n1 (e ▸ q);rw[au q,au (by simp[q])];have u:wO s i v e=wO s X v e:=till_eq c hX λz=>by
     rw[a2 v e z d,aq (λk=>a k.1)]
    rw[u]
   ·rw[aq q,a2 v e y d];by_cases g:v=w
    ·rw[au aj,au (by simp[g]),g]
    ·rw[aq (λk=>g k.1),aq (by simp[q,g])]
  ·rcases mem_cons.1 b with rfl|b
   ·exact λe d=>a3 e aj aj
   ·exact o v b
  ·rw[p,a4,flatMap_cons,dS]
def u9{r:ay}(h:r.okB=true){w:Int}:w∈iP r [1]↔bF r w=1:=by
 have:=Ou h w;rw[lZ]at this;simpa[tO]using this
def UY{r:ay}(h:r.okB=true):(iP r [1]).Pairwise λa b=>a<b:=by
 have c:=(fF.1 h).1.2;have key:∀{l:List av},l.Pairwise (λa b=>a.no<b.no)->(pick (λm:av=>tO [1] m.state) av.no l).Pairwise λa b=>a<b:=by
  intro l;induction l with
  |nil=>intro _;exact Pairwise.nil
  |cons x r ih =>
   intro c;obtain⟨g,d⟩:=jR.1 c;unfold pick at ih |-;rw[flatMap_cons];split
   ·refine jR.2 ⟨λb e=>?_,ih d⟩;obtain⟨y,f,_,rfl⟩:=pV (show b∈pick (λm:av=>tO [1] m.state) av.no r from e);exact g y f
   ·exact ih d
 exact key c
def aao{r:ay}(h:r.okB=true):iP r [1]=n6 (λi=>if bF r ((i:Int)+1)=1 then[(i:Int)+1]else[]) 16:=by
 refine Lb (no:=λx:Int=>x) (UY h) ?_ λx=>?_
 ·refine Wm (key:=λx:Int=>x) (λi b=>?_) λi b x a=>?_
  ·split<;>simp
  ·split at a
   ·exact iD.1 a
   ·cases a
 ·rw[u9 h,jf];constructor
  ·intro a;have:=(xH h (w:=x) aj).2;refine⟨(x-1).toNat,by omega,?_⟩;rw[show(((x-1).toNat:Nat):Int)+1=x by omega,au a];simp
  ·rintro⟨i,_,a⟩;split at a
   ·rename_i q;rw[iD.1 a];exact q
   ·cases a
def TD{s:af}(a:fH s=0):(∀w c:Int,0<=c/\c<=2->(bF s.ak w=1->Mt s w c=0/\(0<uW s w c->¬bL w c (bW s).calls<0/\lM w c (bW s).calls=⟨w,c,uW s w c,wO s s.calls w c⟩)/\(¬ 0<uW s w c->bL w c (bW s).calls<0))/\(bF s.ak w≠1->bL w c (bW s).calls<0))/\kK s=n6 (λi=>if bF s.ak ((i:Int)+1)=1 then vX s ((i:Int)+1) 3 0 else[]) 16:=by
 have f:=a;unfold fH at a;split at a
 case isFalse=>cases a
 rename_i o;split at a
 case isFalse=>cases a
 have hr:=bU.1 o;obtain⟨g,a2,a3,a4⟩:=OK hr (iP s.ak [1]) s.calls [] ((UY hr.ak).imp λh e=>by omega) (λw p=>(xH hr.ak (by have:=(u9 hr.ak).1 p;omega)).2) hr.calls a;have j:(bW s).calls=(lO s (iP s.ak [1]) (s.calls,[])).1.1:=by unfold bW;rw[au f];rfl
 refine⟨λw c m=>⟨λb=>⟨?_,λn=>?_,λn=>?_⟩,λb=>?_⟩,?_⟩
 ·have:=a3 w ((u9 hr.ak).2 b) c.toNat aj
  rwa[show((c.toNat:Nat):Int)=c by omega]at this
 ·have d:=(a2 w c _ m).2 (by rw[au ((u9 hr.ak).2 b)];exact⟨n,rfl⟩);rw[j];exact xT (pN g) d.1 d.2
 ·rw[j,Cb g];intro y d;have:=(a2 w c y m).1 d;rw[au ((u9 hr.ak).2 b)]at this;exact n this.1
 ·rw[j,Cb g];intro y d;have l:=(a2 w c y m).1 d;rw[aq (λk=>b ((u9 hr.ak).1 k))]at l;exact b (by rw[<-l.2.1];exact hr.known.cs y l.1)
 ·unfold kK;rw[au f];show(lO s (iP s.ak [1]) (s.calls,[])).1.2=_;rw[a4,nil_append,aao hr.ak];unfold n6;rw[List.flatMap_assoc];congr 1;funext i;split<;>simp
def aaK(l:List aB)(m:av):av:=if l.any (λc=>c.who==m.no)then m.put 2 else m
theorem ahK{xs:List av}{w p:Int}(f:xs.Pairwise (λa b=>a.no<b.no)):BZ av.no w (av.put p) xs=xs.map λm=>if m.no=w then m.put p else m:=by
 induction xs with
 |nil=>rfl
 |cons x r ih =>
  obtain⟨c,d⟩:=jR.1 f;rw[BZ,map_cons];by_cases q:x.no=w
  ·rw[au q,au q];congr 1;rw[map_congr_left (g:=id)]
   ·simp
   ·intro m e;have:=c m e;rw[aq aj];rfl
  ·rw[aq q,aq q,ih d]
theorem aaT:∀(l:List aB)(r:ay)(a:List aB),(∀c∈l,bF r c.who≠0)->r.okB=true->(nF l (r,a)).1.ms=r.ms.map (aaK l)/\(nF l (r,a)).1.ns=r.ns/\(nF l (r,a)).1.xs=r.xs/\(nF l (r,a)).1.okB=true
 | [],r,a,_,h=>by
  refine⟨?_,rfl,rfl,h⟩;have:aaK []=id:=by funext m;simp[aaK]
  simp[nF,this]
 |c::t,r,a,h1,h2=>by
  have h:=Cn h2 (h1 c sT) (p:=2) aj;obtain⟨g,i,j,k⟩:=La h
  obtain⟨n,b,o,s⟩:=aaT t (jU r c.who 2) (dQ a [c.who]) (λy f=>by
   rw[i];split
   ·decide
   ·exact h1 y (by simp[f])) g
  rw[nF];refine⟨?_,by rw[b,j],by rw[o,k],s⟩;rw[n];have d:(jU r c.who 2).ms=r.ms.map λm=>if m.no=c.who then m.put 2 else m:=by
   rw[jU,au h];exact ahK (fF.1 h2).1.2
  rw[d,map_map];refine map_congr_left λm _=>?_;simp only[Function.comp,aaK,any_cons];by_cases q:m.no=c.who
  ·have b:(c.who==m.no)=true:=su q.symm;rw[au q];simp only[b,Bool.true_or,if_true];split<;>rfl
  ·have b:(c.who==m.no)=false:=by simpa using λe=>q e.symm
   rw[aq q];simp only[b,Bool.false_or]
def amR{s:af}(hr:s.right)(n:Int):∀c∈jM n s.calls,bF s.ak c.who≠0:=λc a=>by
 obtain⟨x,b,a⟩:=mem_flatMap.1 a;split at a
 ·obtain rfl:=iD.1 a;have:=hr.known.cs _ b;omega
 ·cases a
theorem aaJ(n:Int)(xs:List aB)(p:aB->Bool):(jM n xs).any p=xs.any λc=>decide (c.till<=n)&&p c:=by
 induction xs with
 |nil=>rfl
 |cons x r ih =>
  rw[show jM n (x::r)=(if x.till<=n then[x]else[])++jM n r from rfl,any_append,ih,any_cons];by_cases q:x.till<=n<;>simp[q]
def aaC(n:Int)(cs:List aB)(w:Int):Bool:=cs.any λc=>decide (c.till<=n)&&c.who==w
def ahE{s:af}{n:Int}(hr:s.right)(f:pF s n=0):jc s n={ s with now:=s.now+n,ak:=⟨s.ak.ms.map (λm=>if aaC (s.now+n) s.calls m.no then m.put 2 else m),s.ak.ns,s.ak.xs⟩,calls:=s.calls.filter λc=>!aaC (s.now+n) s.calls c.who }:=by
 rw[jc,au f];obtain⟨b,d,e,_⟩:=aaT _ s.ak s.calls (amR hr (s.now+n)) hr.ak;have a:(nF (jM (s.now+n) s.calls) (s.ak,s.calls)).1=⟨s.ak.ms.map (λm=>if aaC (s.now+n) s.calls m.no then m.put 2 else m),s.ak.ns,s.ak.xs⟩:=by
  have:∀r:ay,r=⟨r.ms,r.ns,r.xs⟩:=λ_=>rfl;rw[this (nF (jM (s.now+n) s.calls) (s.ak,s.calls)).1,b,d,e];congr 1;refine map_congr_left λm _=>?_;rw[aaK,aaJ];rfl
 have e2:(nF (jM (s.now+n) s.calls) (s.ak,s.calls)).2=s.calls.filter λc=>!aaC (s.now+n) s.calls c.who:=by
  rw[D4];refine filter_congr λc _=>?_;rw[SS,aaJ];rfl
 rw[a,e2]
def am0{X:List aB}(i:nQ bN bI X=true){d:aH}(m:(1<=d.who/\d.who<=16)/\0<=d.cur/\d.cur<=2)(n:ym X d=0)(hn:0<=d.bT){k:aB}(h:MP X d.who d.cur k){w c:Int}(hc:0<=c/\c<=2){y:aB} :
  MP (Aj X d) w c y↔if w=d.who/\c=d.cur then d.bT<k.bT/\y=⟨w,c,k.bT-d.bT,k.till⟩else MP X w c y:=by
 have o:=pN i;obtain⟨j,e2⟩:=xT o h.1 h.2;have hka:=(lV.1 ((oL.1 i).1 k h.1)).2.2.1;have l:TG X d=⟨d.who,d.cur,max (k.bT-d.bT) 0,k.till⟩:=by
  unfold TG;rw[aq j,e2];obtain⟨k1,k2,k3,k4⟩:=k;obtain⟨-,a,b⟩:=h;rw[show k1=d.who from a,show k2=d.cur from b]
 unfold MP Aj;rw[au n,l,BW i m];dsimp only;by_cases g:w=d.who/\c=d.cur
 ·rw[au g,g.1,g.2];constructor
  ·rintro⟨⟨a,b⟩| ⟨a,b⟩,f,h4⟩
   ·refine⟨by omega,?_⟩;rw[a,Int.max_eq_left aj]
   ·exact absurd (by simp only[gv];rw[f,h4]) b
  ·rintro⟨a,rfl⟩;exact⟨.inl ⟨by rw[Int.max_eq_left aj],by omega⟩,rfl,rfl⟩
 ·rw[aq g];constructor
  ·rintro⟨⟨a,b⟩| ⟨a,b⟩,f,h4⟩
   ·rw[a]at f h4;exact absurd ⟨f.symm,h4.symm⟩ g
   ·exact⟨a,f,h4⟩
  ·rintro⟨a,b,f⟩;refine⟨.inr ⟨a,λe=>g ?_⟩,b,f⟩;simp only[gv,b,f]at e;omega
def aaQ{w:Int}{c:Nat}{n:Int}{d:aH}:d∈jT w c n↔n≠0/\d=⟨w,c,n⟩:=by
 unfold jT;by_cases h:n=0
 ·simp[h]
 ·simp[h]
theorem aaA{s:af}{w:Int}:∀(m c:Nat) {d:aH},d∈vX s w m c↔∃e:Nat,(c<=e/\e<c+m)/\uW s w e≠0/\d=⟨w,e,uW s w e⟩
 | 0,c,d=>by
  simp only[vX,not_mem_nil,false_iff];rintro⟨e,h,_⟩;omega
 |m+1,c,d=>by
  rw[vX,mem_append,aaQ,aaA m (c+1)];constructor
  ·rintro(⟨b,a⟩| ⟨e,b,a⟩)
   ·exact⟨c,by omega,b,a⟩
   ·exact⟨e,by omega,a⟩
  ·rintro⟨e,b,a⟩;by_cases q:e=c
   ·subst q;exact .inl a
   ·exact .inr ⟨e,by omega,a⟩
def aaG{s:af}(c:fH s=0){d:aH}:d∈kK s↔(bF s.ak d.who=1/\(1<=d.who/\d.who<=16))/\(0<=d.cur/\d.cur<=2)/\d.bT≠0/\d.bT=uW s d.who d.cur:=by
 rw[(TD c).2,jf];constructor
 ·rintro⟨i,hi,h⟩;split at h
  ·rename_i q;obtain⟨e,a,b,rfl⟩:=(aaA 3 0).1 h;exact⟨⟨q,by dsimp only;omega,by dsimp only;omega⟩,⟨by dsimp only;omega,by dsimp only;omega⟩,b,rfl⟩
  ·cases h
 ·rintro⟨⟨a,b⟩,h3,h4,h5⟩;refine⟨(d.who-1).toNat,by omega,?_⟩;rw[show(((d.who-1).toNat:Nat):Int)+1=d.who by omega,au a,aaA];refine⟨d.cur.toNat,by omega,?_⟩;rw[show((d.cur.toNat:Nat):Int)=d.cur by omega,<-h5];exact⟨h4,rfl⟩
def amE{s:af}(k:fH s=0):(kK s).Pairwise λa b=>a.who*4+a.cur<b.who*4+b.cur:=by
 rw[(TD k).2];have key:∀(w:Int)(m c:Nat),c+m<=3->(vX s w m c).Pairwise (λa b=>a.who*4+a.cur<b.who*4+b.cur):=by
  intro w m;induction m with
  |zero=>intro c _;exact Pairwise.nil
  |succ m ih =>
   intro c hc;rw[vX,pairwise_append];refine⟨?_,ih (c+1) aj,λa d b g=>?_⟩
   ·unfold jT;split<;>simp
   ·obtain⟨-,rfl⟩:=aaQ.1 d;obtain⟨e,h,-,rfl⟩:=(aaA m (c+1)).1 g;dsimp only;omega
 refine zI (λi _=>?_) λi j hij _ a d b g=>?_
 ·split
  ·exact key _ 3 0 aj
  ·exact Pairwise.nil
 ·split at d
  ·obtain⟨e,h,-,rfl⟩:=(aaA 3 0).1 d;split at g
   ·obtain⟨f,h2,-,rfl⟩:=(aaA 3 0).1 g;dsimp only;omega
   ·cases g
  ·cases d
structure brI(r:ay)(D:List aH)(who T:Int)(less:Bool)(i:Nat)(x:bu×List aB):Prop where
 bp:x.1.okB=true
 good:nQ bN bI x.2=true
 act:∀y∈x.2,bF r y.who=1
 a:∀y∈x.2,y.who=who->y.till=T/\((∃j,∃h:j<D.length,i<=j/\D[j].who=who/\D[j].cur=y.cur)\/(less=true/\0<i/\∃h:0<D.length,D[0].cur=y.cur))
 b:∀j,∀h:j<D.length,i<=j->D[j].who=who->MP x.2 who D[j].cur ⟨who,D[j].cur,D[j].bT,T⟩
 c:less=true->0<i->∃h:0<D.length,∃y,MP x.2 who D[0].cur y
def ae0{s:af}(b:fH s=0)(x:s.calls=[])(less:Bool)(who:Int):brI (bW s).ak (kK s) who (rA s) less 0 ((bW s).bp,(bW s).calls):=by
 have a:=ER b;obtain⟨t,-⟩:=TD b;have l:(bW s).ak=s.ak:=by unfold bW;rw[au b]
 have r:∀w c,wO s s.calls w c=rA s:=λw c=>by unfold wO;rw[x];rfl
 refine⟨a.bp,a.calls,a.known.cs,λy n m=>?_,λj g _ m=>?_,λ_ h=>by omega⟩
 ·have i:=lV.1 ((oL.1 a.calls).1 y n);have q:bF s.ak y.who=1:=by rw[<-l];exact a.known.cs y n
  obtain⟨z,p,u⟩:=(t y.who y.cur i.2.1).1 q;obtain⟨f,e2⟩:=xT (pN a.calls) n ⟨rfl,rfl⟩;have k:0<uW s y.who y.cur:=Decidable.byContradiction λh=>f (u h);have o:=e2.symm.trans (p k).2;refine⟨by rw[o];exact r _ _,.inl ?_⟩;have d:(⟨y.who,y.cur,uW s y.who y.cur⟩:aH)∈kK s:=(aaG b).2 ⟨⟨q,i.1⟩,i.2.1,by dsimp only;omega,rfl⟩;obtain⟨j,g,e⟩:=getElem_of_mem d;exact⟨j,g,by omega,by rw[e];exact m,by rw[e]⟩
 ·obtain⟨⟨v,d2⟩,d3,d4,d5⟩:=(aaG b).1 (dH g);have k:0<uW s (kK s)[j].who (kK s)[j].cur:=by
   have:=LV s (kK s)[j].who (kK s)[j].cur;omega
  obtain⟨z,p,u⟩:=(t (kK s)[j].who (kK s)[j].cur d3).1 v;obtain⟨f,e2⟩:=p k;have d:=mQ f;rw[e2,r]at d;rw[m]at d d5;rw[d5];exact d
def afR{r:ay}{D:List aH}{who T:Int}{less:Bool}{i:Nat}{x:bu×List aB}(d:brI r D who T less i x)(hi:i<D.length)(n:D[i].who≠who)(l:∃h:0<D.length,D[0].who=who):brI r D who T less (i+1) x:=by
 obtain⟨h00,l⟩:=l;have hne:i≠0:=λe=>by subst e;exact n l
 refine⟨d.bp,d.good,d.act,λy p o=>?_,λj m f g=>d.b j m aj g,λf _=>d.c f aj⟩;obtain⟨t,h⟩:=d.a y p o;refine⟨t,?_⟩;rcases h with⟨j,m,f,g,k⟩| ⟨f,g,k⟩
 ·refine .inl ⟨j,m,?_,g,k⟩;have:j≠i:=λe=>by subst e;exact n g
  omega
 ·exact .inr ⟨f,by omega,k⟩
def agU{r:ay}{D:List aH}{who T:Int}{less:Bool}{i:Nat}{x:bu×List aB}(d:brI r D who T less i x)(o:less=true)(l:i=0)(m:∃h:0<D.length,D[0].who=who):brI r D who T less (i+1) x:=by
 obtain⟨c,n⟩:=m;subst l;refine⟨d.bp,d.good,d.act,λy s p=>?_,λj g k e=>d.b j g aj e,λ_ _=>⟨c,_,d.b 0 c aj n⟩⟩;obtain⟨t,h⟩:=d.a y s p;refine⟨t,?_⟩;rcases h with⟨j,g,k,e,f⟩| ⟨k,e,f⟩
 ·by_cases q:j=0
  ·subst q;exact .inr ⟨o,by omega,c,f⟩
  ·exact .inl ⟨j,g,by omega,e,f⟩
 ·omega
def amA{r:ay}{D:List aH}{who T:Int}{less:Bool}{i:Nat}{x:bu×List aB}(s:brI r D who T less i x)(K:D.Pairwise λa b=>a.who*4+a.cur<b.who*4+b.cur)(F:i<D.length)(H:∀d∈D,(1<=d.who/\d.who<=16)/\(0<=d.cur/\d.cur<=2)/\0<d.bT)(L:D[i].who=who)(O:∀h:0<D.length,D[0].who=who){n:Int}(J:n=if less=true/\i=0 then D[i].bT-1 else D[i].bT)(hn0:0<n){l:bu}(R:l.okB=true)(S:ym x.2 ⟨who,D[i].cur,n⟩=0):brI r D who T less (i+1) (l,Aj x.2 ⟨who,D[i].cur,n⟩):=by
 have u:=H D[i] (dH F);have Q:=s.b i F (fO _) L;obtain⟨M,V⟩:=ab7 (d:=⟨who,D[i].cur,n⟩) s.good;have f:=λ(w c:Int)(y:aB) hc=>am0 s.good (d:=⟨who,D[i].cur,n⟩) ⟨by dsimp only;rw[<-L];exact u.1,u.2.1⟩ S (by dsimp only;omega) Q (w:=w) (c:=c) (y:=y) hc;dsimp only at f;have A:∀y∈Aj x.2 ⟨who,D[i].cur,n⟩,0<=y.cur/\y.cur<=2:=λy p=>(lV.1 ((oL.1 M).1 y p)).2.1;have o:∀j,∀h:j<D.length,j≠i->D[j].who=who->D[j].cur≠D[i].cur:=λj m hji E v=>by
  rcases dN j i with q|q
  ·have:=Ay.1 K j i m F q;omega
  ·have:=Ay.1 K i j F m aj;omega
 refine⟨R,M,λy p=>?_,λy p C=>?_,λj m E v=>?_,λE _=>?_⟩
 ·obtain⟨z,U,e⟩:=V y p;rw[e];exact s.act z U
 ·have h:=(f who y.cur y (A y p)).1 ⟨p,C,rfl⟩;by_cases q:y.cur=D[i].cur
  ·rw[au ⟨rfl,q⟩]at h;have B:less=true/\i=0:=by
    refine Decidable.byContradiction λP=>?_;rw[aq P]at J;omega
   have N:=B.2;refine⟨by rw[h.2],.inr ⟨B.1,by omega,by omega,?_⟩⟩;subst N;exact q.symm
  ·rw[aq (λk=>q k.2)]at h;obtain⟨t,v⟩:=s.a y h.1 C;refine⟨t,?_⟩;rcases v with⟨j,m,k1,k2,k3⟩| ⟨k1,k2,k3⟩
   ·refine .inl ⟨j,m,?_,k2,k3⟩;have:j≠i:=λe=>by subst e;exact q k3.symm
    omega
   ·exact .inr ⟨k1,by omega,k3⟩
 ·have I:=o j m aj v;exact(f who D[j].cur _ (H D[j] (dH m)).2.1).2 (by rw[aq (λk=>I k.2)];exact s.b j m aj v)
 ·have g:0<D.length:=aj
  refine⟨g,?_⟩;by_cases q:i=0
  ·subst q;refine⟨⟨who,D[0].cur,D[0].bT-n,T⟩,(f who D[0].cur _ u.2.1).2 ?_⟩;rw[au ⟨rfl,rfl⟩];rw[au ⟨E,rfl⟩]at J;exact⟨by omega,rfl⟩
  ·obtain⟨_,y,p⟩:=s.c E aj;have G:=o 0 g aj (O g);exact⟨y,(f who D[0].cur y (H D[0] (dH g)).2.1).2 (by rw[aq (λk=>G k.2)];exact p)⟩
def ame{r:ay}{D:List aH}{who T:Int}{less:Bool}{x:bu×List aB}(e:brI r D who T less D.length x)(h:0<D.length):aaC T x.2 who=less:=by
 cases g:less
 ·rw[aaC,any_eq_false];intro y b f;simp only[cU,bO,fE]at f;rcases(e.a y b f.2).2 with⟨j,hj,d,-⟩| ⟨d,-⟩
  ·omega
  ·rw[g]at d;cases d
 ·obtain⟨_,y,b⟩:=e.c g h;rw[aaC,any_eq_true];refine⟨y,b.1,?_⟩;rw[(e.a y b.1 b.2.1).1,b.2.1];simp
def aaI{t:af}(b:t.right){D:List aH}{who T:Int}{less:Bool}{i:Nat}{x:bu×List aB}(a:brI t.ak D who T less i x):({ t with bp:=x.1,calls:=x.2 }:af).right:=
 Uu (ZU b a.bp) a.good a.act
theorem acd{t:af}(a:M3 t){D:List aH}{who T:Int}{less:Bool}{i:Nat}{x:bu×List aB}(b:brI t.ak D who T less i x)(c:x.1.lo):M3 { t with bp:=x.1,calls:=x.2 }:=
 ⟨⟨aaI a.right b,c,a.fY.fit⟩,a.sm⟩
theorem afV{t:af}(f:M3 t){D:List aH}{who:Int}{less:Bool}{x:bu×List aB}(i:brI t.ak D who (t.now+3) less D.length x)(k:0<D.length)(g:bF t.ak who=1)(hn:t.now+3<=1099511627776) :
  pF { t with bp:=x.1,calls:=x.2 } 3=0/\(∀m∈(jc { t with bp:=x.1,calls:=x.2 } 3).ak.ms,m.no=who->m.state=if less then 2 else 1)/\∃m∈(jc { t with bp:=x.1,calls:=x.2 } 3).ak.ms,m.no=who:=by
 have hr:=aaI f.right i;have j:pF { t with bp:=x.1,calls:=x.2 } 3=0:=by
  unfold pF;rw[au (bU.2 hr),au (by decide),aq (by dsimp only;omega)]
 have l:=ahE hr j;have n:=ame i k;have c:(jc { t with bp:=x.1,calls:=x.2 } 3).ak.ms=t.ak.ms.map λm=>if aaC (t.now+3) x.2 m.no then m.put 2 else m:=by rw[l]
 have e:∀m∈t.ak.ms,m.no=who->m.state=1:=λm d a=>by
  have:fj t.ak who=m:=y9 (fF.1 f.right.ak).1.2 d a;unfold bF at g;rw[this]at g;exact g
 refine⟨j,λm d a=>?_,?_⟩
 ·rw[c]at d;obtain⟨y,h,rfl⟩:=mem_map.1 d;have b:y.no=who:=by
   by_cases q:aaC (t.now+3) x.2 y.no=true
   ·rw[au q]at a;exact a
   ·rw[aq q]at a;exact a
  rw[b,n];cases less
  ·exact e y h b
  ·rfl
 ·rw[c];obtain⟨y,h,b⟩:=yp.1 ((tc f.right.ak).1 (by omega:bF t.ak who≠0));refine⟨_,mem_map.2 ⟨y,h,rfl⟩,?_⟩;split
  ·exact b
  ·exact b
theorem aaH(l:List bB)(less:Bool):Sq 7 [] [.sl 17 (l.map bB.cells),.bool less] [] (.bool true):=by
 rcases dN 1000 l.length with hlen|hlen
 ·have d:decide ((1000:Int)<(l.length:Int))=true:=jw;refine aX 180 2 [.tmp 4] mixed func7 ?_;simp -implicitDefEqProofs only[go_sem,seval,d]
 have d:decide ((1000:Int)<(l.length:Int))=false:=lJ;have W:=wR;have cG:=qp l hlen;have R0:=vL l;obtain⟨s0,F⟩:∃s,s=Af l:=⟨_,rfl⟩
 rw[<-F]at cG R0;clear F;have c0:=nG s0 R0.small R0.right R0.sm;simp only[af.cells]at cG |-;refine aX 180 2 [.tmp 4] mixed func7 ?_;refine rL d cG ?_;by_cases B:s0.phase=0/\cu s0≠0
 case pos =>
  have dp:(s0.phase==0)=true:=by simpa using B.1
  have d0:(cu s0==0)=false:=by simpa using B.2
  simp only[af.cells]at c0;simp -implicitDefEqProofs only[go_sem,seval,dp];refine rL trivial c0 ?_;simp -implicitDefEqProofs only[go_sem,seval,bne,d0];try refine aV ?_
  exact aaS trivial W
 obtain⟨s,R,F⟩:∃s,M3 s/\((s0.phase=0/\cu s0=0/\s=bz s0)\/(s0.phase≠0/\s=s0)):=by
  by_cases Y:s0.phase=0
  ·have e0:cu s0=0:=Classical.byContradiction λe=>B ⟨Y,e⟩;exact⟨_,zT R0 e0,.inl ⟨Y,e0,rfl⟩⟩
  ·exact⟨_,R0,.inr ⟨Y,rfl⟩⟩
 rcases F with⟨Y,e0,F⟩| ⟨Y,F⟩
 case' inl =>
  have dp:(s0.phase==0)=true:=by simpa using Y
  have d0:(cu s0==0)=true:=by simpa using e0
  rw[<-F]at c0;simp only[af.cells]at c0;simp -implicitDefEqProofs only[go_sem,seval,dp];refine rL trivial c0 ?_;simp -implicitDefEqProofs only[go_sem,seval,bne,d0];clear dp d0 e0
 case' inr =>
  have dp:(s0.phase==0)=false:=by simpa using Y
  simp -implicitDefEqProofs only[go_sem,seval,dp];rw[<-F];clear dp
 all_goals as_aux_lemma =>
  clear R0 c0 cG F Y B;have RS:=aaO R;have Q:=vi { s with calls:=[] } RS.small RS.right RS.sm;replace Q:=Spec.IQ Q (ds':=[.agg [.int .i64 s.now,.int .i64 s.day,.int .i64 s.phase,.sl 3 (s.ak.ms.map av.cells),.sl 12 (s.ak.ns.map aF.cells),.sl 4 (s.ak.xs.map aD.cells),.int .i64 s.book.next,.sl 7 (s.book.ts.map aT.cells),.sl 4 (s.book.qs.map aE.cells),.int .i64 s.bp.last,.sl 4 (s.bp.bs.map bY.cells),.sl 3 (pl s.ps),.nil,.sl 5 (s.aZ.map bn.cells),.sl 7 (s.aR.map bZ.cells)]]) (by simp[af.cells,nM,nT]);obtain⟨s1,V⟩:∃s1:af,s1={ s with calls:=[] }:=⟨_,rfl⟩
  rw[<-V]at Q RS;have aa:s1.calls=[]:=by rw[V]
  have hs1n:s1.now=s.now:=by rw[V]
  by_cases T:fH s1=0
  case neg =>
   have d1:(fH s1==0)=false:=by simpa using T
   simp only[af.cells]at Q;refine rL trivial Q ?_;simp -implicitDefEqProofs only[go_sem,seval,bne,d1];try refine aV ?_
   exact aaS trivial W
  have d1:(fH s1==0)=true:=by simpa using T
  have R1:=KC RS T;have K:=λ{d}=>aaG (d:=d) T;have aw:=amE T;have C:=λwho=>ae0 T aa less who;have aU:(bW s1).now=s1.now:=by unfold bW;rw[au T]
  have hclk:=RS.right.HT;have N:(bW s1).ak=s1.ak:=by unfold bW;rw[au T]
  have aK:=Hu RS.right.lens;have am:=λw c=>bf.1 (ac2 s1 w c);have al:=λw c=>LV s1 w c;obtain⟨t,ht⟩:=aL (bW s1);rw[<-ht]at Q R1 aU N;simp only[<-ht]at C;obtain⟨D,hD⟩:=aL (kK s1);rw[<-hD]at Q aw aK;simp only[<-hD]at K C;have w3:IntKind.wrap .i64 (t.now+3)=t.now+3:=gx aj aj;simp only[af.cells]at Q;refine rL trivial Q ?_;by_cases aA:1099511627776<t.now+3
  ·have d2:decide (1099511627776<t.now+3)=true:=dw aA;simp -implicitDefEqProofs only[go_sem,seval,bne,d1,w3,d2];try refine aV ?_
   exact aaS trivial W
  have d2:decide (1099511627776<t.now+3)=false:=gB aA;by_cases ag:D.length=0
  ·have d3:((D.length:Int)==0)=true:=by simp[ag]
   simp -implicitDefEqProofs only[go_sem,seval,bne,d1,w3,d2,d3];try refine aV ?_
   exact aaS trivial W
  have d3:((D.length:Int)==0)=false:=by simpa using ag
  have h0:0<D.length:=aj
  have ax:=aM (c:=aH.cells) D h0;have ay:rA s1=t.now+3:=by unfold rA;omega
  have ar:=K.1 (dH h0);have aC:bF t.ak D[0].who=1:=by rw[N];exact ar.1.1
  obtain⟨who,o⟩:=aL (D[0].who);rw[<-o]at aC;have C:=C who;rw[ay]at C;have X:∀d∈D,(1<=d.who/\d.who<=16)/\(0<=d.cur/\d.cur<=2)/\0<d.bT:=λd hd=>by
   obtain⟨k1,k2,k3,k4⟩:=K.1 hd;have:=al d.who d.cur;exact⟨k1.2,k2,by omega⟩
  have ap:∀d∈D,d.bT<=4611686018427387904:=λd hd=>by
   obtain⟨k1,k2,k3,k4⟩:=K.1 hd;have:=am d.who d.cur;omega
  have aP:(0:Int)<(D.length:Int):=aj
  simp only[aH.cells,<-o]at ax;clear K am al hD ht V aa T RS R ar;simp -implicitDefEqProofs only[go_sem,seval,bne,d1,w3,d2,d3,ax,aP];refine aG.rT (S:=bu×List aB) D.length [1,9,10,12] [688] (λi _=>[(13,.int .i64 i)]) (λi x=>[(160,.box (af.cells { t with bp:=x.1,calls:=x.2 }))]) (λi x=>brI t.ak D who (t.now+3) less i x/\x.1.lo) (t.bp,t.calls) ⟨C,R1.fY.last⟩ ?_ ?_ ?_
  ·simp -implicitDefEqProofs only[go_sem,seval,af.cells]
  ·as_aux_lemma =>
   intro i x E f O A;obtain⟨A,L⟩:=A;have b:=aM (c:=aH.cells) D E;have a:(i:Int)<(D.length:Int):=aj
   have hk:=X _ (dH E);have aO:=ap _ (dH E);have Rx:=acd R1 A L;have v:=λ(hw:D[i].who≠who)=>afR A E hw ⟨h0,o.symm⟩;have r:=λ(hw:D[i].who=who)(n:Int) B m (l:bu) (hl:l.okB=true) b=>amA A aw E X hw (λ_=>o.symm) (n:=n) B m (l:=l) hl b;have P:=λ(h1:less=true)(h2:i=0)=>agU A h1 h2 ⟨h0,o.symm⟩;obtain⟨y,hy⟩:=aL (D[i]);rw[<-hy]at b hk aO v r;clear hy;simp only[aH.cells]at b;by_cases hw:y.who=who
   case neg =>
    have I:(y.who==who)=false:=by simpa using hw
    simp only[af.cells,go_sem,seval,f,b,bne,I,O];try refine aV ?_
    refine ah.jP x E ⟨v hw,L⟩ ?_;simp -implicitDefEqProofs only[go_sem,seval,af.cells]
   have I:(y.who==who)=true:=by simpa using hw
   obtain⟨n,B⟩:=aL (if less=true/\i=0 then y.bT-1 else y.bT);have aQ:0<=n/\n<=4611686018427387904:=by rw[B];split<;>omega
   have ac:=nK ⟨1,0,y.cur⟩ ⟨2,who,y.cur⟩ n;have H:=xy x.1 (nextId x.1) (cr ⟨1,0,y.cur⟩ ⟨2,who,y.cur⟩ n) (by have:=Rx.right.lens.bs;dsimp only at this;omega) Rx.gq.bs (by simp[cr]);have ab:=Fi x.2 ⟨who,y.cur,n⟩ (by have:=Rx.right.lens.calls;dsimp only at this;omega);have az:ym x.2 ⟨who,y.cur,n⟩=0:=by
    unfold ym;rw[au A.good,au (show wo ⟨who,y.cur,n⟩=true from JS.2 ⟨by dsimp only;omega,hk.2.1,aQ⟩)]
   have Z:=λ(m:0<n)(l:bu)(hl:l.okB=true)=>r hw n B m l hl az;clear r v A Rx;obtain⟨G,hG⟩:=aL (cr ⟨1,0,y.cur⟩ ⟨2,who,y.cur⟩ n);rw[<-hG]at ac H;have J:fM x.1 (nextId x.1) G=0->(jO x.1 (nextId x.1) G).okB=true/\(jO x.1 (nextId x.1) G).lo:=λh=>⟨T7 h,T6 h⟩
   obtain⟨PE,an⟩:∃e,e=fM x.1 (nextId x.1) G:=⟨_,rfl⟩
   obtain⟨PL,ao⟩:∃e,e=jO x.1 (nextId x.1) G:=⟨_,rfl⟩
   obtain⟨M,hM⟩:∃e,e=Aj x.2 ⟨who,y.cur,n⟩:=⟨_,rfl⟩
   rw[<-an,<-ao]at H J;rw[<-hM]at ab;simp only[<-hM]at Z;clear hG an ao hM az;simp only[nextId]at H;simp only[bu.cells,aI.cells,aH.cells]at ac H ab;by_cases ae:(less=true/\i=0)/\¬ 0<n
   case pos =>
    obtain⟨⟨p,g⟩,m⟩:=ae;have q0:((i:Int)==0)=true:=by simpa using g
    have wn:IntKind.wrap .i64 (y.bT-1)=n:=by rw[B,au ⟨p,g⟩];exact gx aj aj
    have dn:decide (0<n)=false:=gB m;have hz:=P p g;subst p;simp only[af.cells,go_sem,seval,f,b,a,bne,I,q0,wn,dn,O];try refine aV ?_
    refine ah.jP x E ⟨hz,L⟩ ?_;simp -implicitDefEqProofs only[go_sem,seval,af.cells]
   have m:0<n:=Classical.byContradiction λh=>by
    by_cases q:less=true/\i=0
    ·exact ae ⟨q,h⟩
    ·rw[B,aq q]at h;exact h hk.2.2
   have dn:decide (0<n)=true:=dw m;have aJ:less=false\/(less=true/\i≠0)\/(less=true/\i=0):=by
    cases less
    ·exact .inl rfl
    ·by_cases q:i=0
     ·exact .inr (.inr ⟨rfl,q⟩)
     ·exact .inr (.inl ⟨rfl,q⟩)
   clear P ae;rcases aJ with rfl| ⟨rfl,g⟩| ⟨rfl,g⟩
   case' inl =>
    have en:n=y.bT:=by rw[B];simp
    rw[<-en]at b;simp only[af.cells,go_sem,seval,f,b,a,bne,I,dn]
   case' inr.inl =>
    have q0:((i:Int)==0)=false:=by simpa using g
    have en:n=y.bT:=by rw[B,aq (λk=>g k.2)]
    rw[<-en]at b;simp only[af.cells,go_sem,seval,f,b,a,bne,I,q0,dn]
   case' inr.inr =>
    have q0:((i:Int)==0)=true:=by simpa using g
    have wn:IntKind.wrap .i64 (y.bT-1)=n:=by rw[B,au ⟨rfl,g⟩];exact gx aj aj
    simp only[af.cells,go_sem,seval,f,b,a,bne,I,q0,wn,dn]
   all_goals as_aux_lemma =>
    by_cases hL:549755813888<=x.1.last
    ·have dL:decide ((549755813888:Int)<=x.1.last)=true:=dw hL;simp -implicitDefEqProofs only[go_sem,seval,dL];try refine aV ?_
     exact aaS trivial W
    have dL:decide ((549755813888:Int)<=x.1.last)=false:=gB hL;refine rL (a3 dL b a) ac ?_;refine rL trivial H ?_;by_cases U:PE=0
    case neg =>
     have ad:(PE==0)=false:=by simpa using U
     simp -implicitDefEqProofs only[go_sem,seval,bne,ad];try refine aV ?_
     exact aaS trivial W
    have ad:(PE==0)=true:=by simpa using U
    simp -implicitDefEqProofs only[go_sem,seval,bne,ad];refine rL (a2 b a) ab ?_;simp -implicitDefEqProofs only[go_sem,seval,O];try refine aV ?_
    refine ah.jP (PL,M) E ⟨Z m PL (J U).1,(J U).2⟩ ?_;simp -implicitDefEqProofs only[go_sem,seval,af.cells]
  ·as_aux_lemma =>
   intro x aN A;obtain⟨A,L⟩:=A;have Rx:=acd R1 A L;have cT:=Qj { t with bp:=x.1,calls:=x.2 } 3 Rx.right Rx.small Rx.sm ⟨by decide,by decide⟩;obtain⟨b1,b2,b3⟩:=afV R1 A h0 aC aj;rw[b1]at cT;obtain⟨u,hu⟩:=aL (jc { t with bp:=x.1,calls:=x.2 } 3);have aW:=(WQ b1).lens.ms;rw[<-hu]at cT b2 b3 aW;clear hu A Rx;simp only[af.cells]at cT |-;refine rL aN cT ?_;refine aG.w1 u.ak.ms.length 19 [1,12,17] [288,688] (λi _=>∀j,∀h:j<u.ak.ms.length,j<i->u.ak.ms[j].no≠who) (by intros;omega) ?_ ?_
   ·intro i _ E f O hJ;have b:=aM (c:=av.cells) u.ak.ms E;have a:(i:Int)<(u.ak.ms.length:Int):=aj
    have hb:=b2 _ (dH E);have ai:u.ak.ms[i].no≠who->∀j,∀h:j<u.ak.ms.length,j<i+1->u.ak.ms[j].no≠who:=λaS j hj h2=>by
     rcases dN j i with q|q
     ·exact hJ j hj q
     ·obtain rfl:j=i:=aj
      exact aS
    obtain⟨z,hz⟩:=aL (u.ak.ms[i]);rw[<-hz]at b hb ai;simp only[av.cells]at b;by_cases hq:z.no=who
    ·have I:(z.no==who)=true:=by simpa using hq
     have F:=hb hq;cases less
     ·rw[show z.state=1 from F]at b;simp -implicitDefEqProofs only[go_sem,seval,f,b,a,I];try refine aV ?_
      exact aaS trivial W
     ·rw[show z.state=2 from F]at b;simp -implicitDefEqProofs only[go_sem,seval,f,b,a,I];try refine aV ?_
      exact aaS trivial W
    ·have I:(z.no==who)=false:=by simpa using hq
     simp -implicitDefEqProofs only[go_sem,seval,f,b,a,I,O];try refine aV ?_
     refine ah.u E (ai hq) ?_;simp -implicitDefEqProofs only[go_sem,seval]
   ·intro _ _ hJ;obtain⟨z,hz,aY⟩:=b3;obtain⟨j,hj,e⟩:=getElem_of_mem hz;exact absurd (by rw[e];exact aY) (hJ j hj hj)
