/- Parts. -/
import Derived.Test.YtfhdodehnpbeoaaGreatRA
set_option linter.all false
set_option maxHeartbeats 4000000
set_option maxRecDepth 16000
namespace Go.Proofs.YtfhdodehnpbeoaaGreat
open Go.Abs Tryz
def Qv(a b:aH):Sq 24 [] [.agg a.cells,.agg b.cells] [] (.bool (decide (a=b))):=by
 simp only[aH.cells];refine aX 24 2 [.tmp 4] mixed func24 ?_;refine s0 ?_;repeat' with_reducible first|apply And.intro|exact .dq|refine az.aP (by assumption) ?_|refine mW (λh=>?_) λh=>?_|refine .id ?_|refine ah.eI aj ?_ ?_|exact aK|simp only[*,go_sem,seval]
 all_goals(rw[lZ];cases a;cases b;simp_all)
def MP(X:List aB)(w c:Int)(y:aB):Prop:=y∈X/\y.who=w/\y.cur=c
def wO(s:af)(X:List aB)(w c:Int):Int:=if bL w c X<0 then rA s else(lM w c X).till
def Cb{X:List aB}(h:nQ bN bI X=true){w c:Int}:bL w c X<0↔∀y,¬MP X w c y:=by
 constructor
 ·intro q y ⟨h1,h2⟩;exact(xT (pN h) h1 h2).1 q
 ·intro q;refine Decidable.byContradiction λe=>?_;have:=mQ e;exact q _ ⟨this.1,this.2⟩
def till_eq{s:af}{X Y:List aB}(f:nQ bN bI X=true)(b:nQ bN bI Y=true){w c:Int}(h:∀y,MP X w c y↔MP Y w c y):wO s X w c=wO s Y w c:=by
 unfold wO;by_cases q:bL w c X<0
 ·have g:bL w c Y<0:=(Cb b).2 λy a=>(Cb f).1 q y ((h y).2 a);rw[au q,au g]
 ·have d:=mQ q;have a:=(h _).1 ⟨d.1,d.2⟩;have e:=xT (pN b) a.1 a.2;rw[aq q,aq e.1,e.2]
def LV(s:af)(w c:Int):0<=uW s w c:=by
 unfold uW Ai;(repeat' split)<;>omega
def ais{X:List aB}(h:nQ bN bI X=true){d:aH}{t:Int}(i:(1<=d.who/\d.who<=16)/\0<=d.cur/\d.cur<=2)(j:vV X d t=0){w c:Int}(hc:0<=c/\c<=2){y:aB} :
  MP (yT X d t) w c y↔if w=d.who/\c=d.cur then 0<d.bT/\y=⟨w,c,d.bT,if bL w c X<0 then t else(lM w c X).till⟩else MP X w c y:=by
 unfold MP yT;rw[au j,BW h i];by_cases g:w=d.who/\c=d.cur
 ·rw[au g,g.1,g.2];constructor
  ·rintro⟨⟨a,b⟩| ⟨a,b⟩,f,h4⟩
   ·exact⟨b,a⟩
   ·exact absurd (by simp only[gv];rw[f,h4]) b
  ·rintro⟨a,rfl⟩;exact⟨.inl ⟨rfl,a⟩,rfl,rfl⟩
 ·rw[aq g];constructor
  ·rintro⟨⟨a,b⟩| ⟨a,b⟩,f,h4⟩
   ·rw[a]at f h4;exact absurd ⟨f.symm,h4.symm⟩ g
   ·exact⟨a,f,h4⟩
  ·rintro⟨a,b,f⟩;refine⟨.inr ⟨a,λe=>g ?_⟩,b,f⟩;simp only[gv,b,f]at e;omega
def vX(s:af)(w:Int):Nat->Nat->List aH
 | 0,_=>[]
 |m+1,c=>jT w c (uW s w c)++vX s w m (c+1)
theorem TC{s:af}(hr:s.right){w:Int}(j:1<=w/\w<=16):∀(m c:Nat)(X:List aB)(D:List aH),c+m<=3->nQ bN bI X=true->(lz s w m c (X,D)).2=0 ->
  nQ bN bI (lz s w m c (X,D)).1.1=true/\(∀(v e:Int)(y:aB),0<=e/\e<=2->(MP (lz s w m c (X,D)).1.1 v e y↔if v=w/\(c:Int)<=e/\e<(c:Int)+m then 0<uW s w e/\y=⟨w,e,uW s w e,wO s X w e⟩else MP X v e y))/\(∀e:Nat,c<=e->e<c+m->Mt s w e=0)/\(lz s w m c (X,D)).1.2=D++vX s w m c
 | 0,c,X,D,_,hX,_=>by
  refine⟨hX,λv e y _=>?_,(λe x A=>by omega),by simp[lz,vX]⟩;rw[aq aj];rfl
 |m+1,c,X,D,hm,hX,h=>by
  simp only[lz]at h |-;split at h
  case isFalse hne=>exact absurd h hne
  rename_i l;rw[au l];have i:0<=rA s/\rA s<=1099511627776:=by have:=hr.HT;unfold rA;omega
  have C:=LV s w c;have g:=bf.1 (ac2 s w c);have B:=R9 (w:=w) (c:=(c:Int)) (n:=uW s w c) hX j aj ⟨C,g.2⟩ i;obtain⟨k,-⟩:=P0 (d:=⟨w,c,uW s w c⟩) (t:=rA s) hX;have a:=λ(v e:Int)(y:aB) b=>ais (w:=v) (c:=e) (y:=y) hX (d:=⟨w,c,uW s w c⟩) (t:=rA s) ⟨j,by dsimp only;omega,by dsimp only;omega⟩ B b;dsimp only at a;obtain⟨o,p,r,u⟩:=TC hr j m (c+1) _ (D++jT w c (uW s w c)) aj k h;refine⟨o,λv e y b=>?_,λe x A=>?_,?_⟩
  ·rw[p v e y b];by_cases q:v=w/\((c+1:Nat):Int)<=e/\e<((c+1:Nat):Int)+m
   ·rw[au q,au aj];have E:wO s (yT X ⟨w,c,uW s w c⟩ (rA s)) w e=wO s X w e:=till_eq k hX λz=>by
     rw[a w e z b,aq aj]
    rw[E]
   ·rw[aq q,a v e y b];by_cases f:v=w/\e=c
    ·rw[au f,au (show v=w/\(c:Int)<=e/\e<(c:Int)+((m+1:Nat):Int)from⟨f.1,by omega,by omega⟩),f.1,f.2];rfl
    ·rw[aq f,aq aj]
  ·rcases dN c e with q|q
   ·exact r e aj aj
   ·obtain rfl:e=c:=aj
    exact l
  ·rw[u,vX,dS]
theorem OK{s:af}(hr:s.right):∀(ws:List Int)(X:List aB)(D:List aH),ws.Nodup->(∀w∈ws,1<=w/\w<=16)->nQ bN bI X=true->(lO s ws (X,D)).2=0 ->
  nQ bN bI (lO s ws (X,D)).1.1=true/\(∀(v e:Int)(y:aB),0<=e/\e<=2->(MP (lO s ws (X,D)).1.1 v e y↔if v∈ws then 0<uW s v e/\y=⟨v,e,uW s v e,wO s X v e⟩else MP X v e y))/\(∀w∈ws,∀e:Nat,e<3->Mt s w e=0)/\(lO s ws (X,D)).1.2=D++ws.flatMap λw=>vX s w 3 0
 | [],X,D,_,_,hX,_=>by
  refine⟨hX,λv e y _=>?_,(λw f=>by cases f),by simp[lO]⟩;rw[aq sT];rfl
 |w::r,X,D,hn,f,hX,h=>by
  simp only[lO]at h |-;split at h
  case isFalse a=>exact absurd h a
  rename_i j;rw[au j];obtain⟨n1,x⟩:=List.nodup_cons.1 hn;obtain⟨c,a2,a3,a4⟩:=TC hr (f w sT) 3 0 X D aj hX j;obtain⟨P,t⟩:=aL ((lz s w 3 0 (X,D)).1);rw[<-t]at c a2 a4 h |-;obtain⟨i,l⟩:=P;dsimp only at c a2 a4;obtain⟨m,n,o,p⟩:=OK hr r i l x (λv b=>f v (by simp[b])) c h;refine⟨m,λv e y d=>?_,λv b=>?_,?_⟩
  ·rw[n v e y d];by_cases q:v∈r
   ·have a:v≠w:=λe=>n1 (e ▸ q);rw[au q,au (by simp[q])];have u:wO s i v e=wO s X v e:=till_eq c hX λz=>by
     rw[a2 v e z d,aq (λk=>a k.1)]
    rw[u]
   ·rw[aq q,a2 v e y d];by_cases g:v=w
    ·rw[au aj,au (by simp[g]),g]
    ·rw[aq (λk=>g k.1),aq (by simp[q,g])]
  ·rcases List.mem_cons.1 b with rfl|b
   ·exact λe d=>a3 e aj aj
   ·exact o v b
  ·rw[p,a4,List.flatMap_cons,dS]
def u9{r:ay}(h:r.okB=true){w:Int}:w∈iP r [1]↔bF r w=1:=by
 have:=Ou h w;rw[lZ]at this;simpa[tO]using this
def UY{r:ay}(h:r.okB=true):(iP r [1]).Pairwise λa b=>a<b:=by
 have c:=(fF.1 h).1.2;have key:∀{l:List av},l.Pairwise (λa b=>a.no<b.no)->(pick (λm:av=>tO [1] m.state) av.no l).Pairwise λa b=>a<b:=by
  intro l;induction l with
  |nil=>intro _;exact List.Pairwise.nil
  |cons x r ih =>
   intro c;obtain⟨g,d⟩:=jR.1 c;unfold pick at ih |-;rw[List.flatMap_cons];split
   ·refine jR.2 ⟨λb e=>?_,ih d⟩;obtain⟨y,f,_,rfl⟩:=pV (show b∈pick (λm:av=>tO [1] m.state) av.no r from e);exact g y f
   ·exact ih d
 exact key c
def aao{r:ay}(h:r.okB=true):iP r [1]=n6 (λi=>if bF r ((i:Int)+1)=1 then[(i:Int)+1]else[]) 16:=by
 refine Lb (no:=λx:Int=>x) (UY h) ?_ λx=>?_
 ·refine Wm (key:=λx:Int=>x) (λi b=>?_) λi b x a=>?_
  ·split<;>simp
  ·split at a
   ·exact iD.1 a
   ·cases a
 ·rw[u9 h,jf];constructor
  ·intro a;have:=(xH h (w:=x) aj).2;refine⟨(x-1).toNat,by omega,?_⟩;rw[show(((x-1).toNat:Nat):Int)+1=x by omega,au a];simp
  ·rintro⟨i,_,a⟩;split at a
   ·rename_i q;rw[iD.1 a];exact q
   ·cases a
def TD{s:af}(a:fH s=0):(∀w c:Int,0<=c/\c<=2->(bF s.ak w=1->Mt s w c=0/\(0<uW s w c->¬bL w c (bW s).calls<0/\lM w c (bW s).calls=⟨w,c,uW s w c,wO s s.calls w c⟩)/\(¬ 0<uW s w c->bL w c (bW s).calls<0))/\(bF s.ak w≠1->bL w c (bW s).calls<0))/\kK s=n6 (λi=>if bF s.ak ((i:Int)+1)=1 then vX s ((i:Int)+1) 3 0 else[]) 16:=by
 have f:=a;unfold fH at a;split at a
 case isFalse=>cases a
 rename_i o;split at a
 case isFalse=>cases a
 have hr:=bU.1 o;obtain⟨g,a2,a3,a4⟩:=OK hr (iP s.ak [1]) s.calls [] ((UY hr.ak).imp λh e=>by omega) (λw p=>(xH hr.ak (by have:=(u9 hr.ak).1 p;omega)).2) hr.calls a;have j:(bW s).calls=(lO s (iP s.ak [1]) (s.calls,[])).1.1:=by unfold bW;rw[au f];rfl
 refine⟨λw c m=>⟨λb=>⟨?_,λn=>?_,λn=>?_⟩,λb=>?_⟩,?_⟩
 ·have:=a3 w ((u9 hr.ak).2 b) c.toNat aj
  rwa[show((c.toNat:Nat):Int)=c by omega]at this
 ·have d:=(a2 w c _ m).2 (by rw[au ((u9 hr.ak).2 b)];exact⟨n,rfl⟩);rw[j];exact xT (pN g) d.1 d.2
 ·rw[j,Cb g];intro y d;have:=(a2 w c y m).1 d;rw[au ((u9 hr.ak).2 b)]at this;exact n this.1
 ·rw[j,Cb g];intro y d;have l:=(a2 w c y m).1 d;rw[aq (λk=>b ((u9 hr.ak).1 k))]at l;exact b (by rw[<-l.2.1];exact hr.known.cs y l.1)
 ·unfold kK;rw[au f];show(lO s (iP s.ak [1]) (s.calls,[])).1.2=_;rw[a4,List.nil_append,aao hr.ak];unfold n6;rw[List.flatMap_assoc];congr 1;funext i;split<;>simp
def Dj(s:af)(i:Nat):List aH:=if bF s.ak ((i:Int)+1)=1 then vX s ((i:Int)+1) 3 0 else[]
theorem KS(s:af)(w:Int):∀a b c:Nat,vX s w (a+b) c=vX s w a c++vX s w b (c+a)
 | 0,b,c=>by rw[Nat.zero_add,Nat.add_zero];rfl
 |a+1,b,c=>by
  rw[show a+1+b=(a+b)+1 by omega,vX,vX,KS s w a b (c+1),dS,show c+1+a=c+(a+1)by omega]
theorem Xn{B:Type}(f:Nat->List B)(i:Nat):∀k,n6 f (i+k)=n6 f i++n6 (λj=>f (i+j)) k
 | 0=>by rw[Nat.add_zero,l9,List.append_nil]
 |k+1=>by rw[show i+(k+1)=(i+k)+1 by omega,iS,iS,Xn f i k,dS]
def ue(s:af)(i c:Nat):Nat:=(n6 (Dj s) i).length+if bF s.ak ((i:Int)+1)=1 then(vX s ((i:Int)+1) c 0).length else 0
def F8(s:af)(i:Nat):ue s i 0=(n6 (Dj s) i).length:=by unfold ue;split<;>simp[vX]
def Yu(s:af)(i:Nat):ue s i 3=ue s (i+1) 0:=by
 rw[F8,iS,ct];unfold ue Dj;split<;>simp
def NI{s:af}{i c:Nat}(a:bF s.ak ((i:Int)+1)=1):ue s i (c+1)=ue s i c+(jT ((i:Int)+1) c (uW s ((i:Int)+1) c)).length:=by
 unfold ue;rw[au a,au a,KS s _ c 1 0,ct,vX,vX,List.append_nil,Nat.zero_add];omega
def aa6{s:af}{i c:Nat}(a:bF s.ak ((i:Int)+1)≠1):ue s i (c+1)=ue s i c:=by
 unfold ue;rw[aq a,aq a]
def aeI{s:af}{i c:Nat}(hi:i<16)(hc:c<3)(d:bF s.ak ((i:Int)+1)=1)(h:uW s ((i:Int)+1) c≠0):(n6 (Dj s) 16)[ue s i c]?=some ⟨(i:Int)+1,c,uW s ((i:Int)+1) c⟩:=by
 have e:n6 (Dj s) 16=n6 (Dj s) i++(vX s ((i:Int)+1) c 0++(⟨(i:Int)+1,c,uW s ((i:Int)+1) c⟩::(vX s ((i:Int)+1) (2-c) (c+1)++n6 (λj=>Dj s (i+1+j)) (15-i)))):=by
  have a:=Xn (Dj s) (i+1) (15-i);have f:n6 (Dj s) (i+1)=n6 (Dj s) i++Dj s i:=iS ..;rw[show i+1+(15-i)=16 by omega,f]at a;rw[a,dS];congr 1;have b:=KS s ((i:Int)+1) c (3-c) 0;rw[show c+(3-c)=3 by omega,Nat.zero_add,show 3-c=(2-c)+1 by omega,show vX s ((i:Int)+1) (2-c+1) c=jT ((i:Int)+1) c (uW s ((i:Int)+1) c)++vX s ((i:Int)+1) (2-c) (c+1)from rfl]at b;have g:Dj s i=vX s ((i:Int)+1) 3 0:=by unfold Dj;rw[au d]
  rw[g,b];unfold jT;rw[aq (su h)];simp
 have e2:ue s i c=(n6 (Dj s) i).length+(vX s ((i:Int)+1) c 0).length:=by unfold ue;rw[au d]
 rw[e,e2,<-dS,<-ct,List.getElem?_append_right (fO _),Nat.sub_self];rfl
def NT{X:List aB}{w c:Int}(h:¬bL w c X<0):∃(j:Nat)(a:j<X.length),bL w c X=j/\X[j]=lM w c X:=by
 obtain⟨j,a,e,-⟩:=sG h;refine⟨j,a,e,?_⟩;unfold lM;rw[e,Int.toNat_natCast,List.getD_eq_getElem?_getD,gF a];rfl
def Qz(l:List bB):Sq 4 [] [.sl 17 (l.map bB.cells)] [] (.bool true):=by
 rcases dN 1000 l.length with hlen|hlen
 ·have d:decide ((1000:Int)<(l.length:Int))=true:=jw;refine aX 170 1 [.tmp 2] mixed func4 ?_;exact eo d
 have d:decide ((1000:Int)<(l.length:Int))=false:=lJ;have V:=wR;have N:=qp l hlen;have m:=vL l;obtain⟨s0,h⟩:∃s,s=Af l:=⟨_,rfl⟩
 rw[<-h]at N m;clear h;have c0:=nG s0 m.small m.right m.sm;simp only[af.cells]at N |-;refine aX 170 1 [.tmp 2] mixed func4 ?_;refine sc d N ?_;by_cases u:s0.phase=0/\cu s0≠0
 case pos =>
  have o:(s0.phase==0)=true:=su u.1;have O:(cu s0==0)=false:=su u.2;simp only[af.cells]at c0;refine sm o ?_;refine sc aK c0 ?_;refine sm (a2 dV O) ?_;try refine aV ?_
  exact lX aK V
 obtain⟨s,R,h⟩:∃s,M3 s/\((s0.phase=0/\cu s0=0/\s=bz s0)\/(s0.phase≠0/\s=s0)):=by
  by_cases a:s0.phase=0
  ·have e0:cu s0=0:=Classical.byContradiction λe=>u ⟨a,e⟩;exact⟨_,zT m e0,.inl ⟨a,e0,rfl⟩⟩
  ·exact⟨_,m,.inr ⟨a,rfl⟩⟩
 rcases h with⟨a,e0,h⟩| ⟨a,h⟩
 case' inl =>
  have o:(s0.phase==0)=true:=su a;have O:(cu s0==0)=true:=su e0;rw[<-h]at c0;simp only[af.cells]at c0;refine sm o ?_;refine sc aK c0 ?_;refine sm (a2 dV O) ?_;clear o O e0
 case' inr =>
  have o:(s0.phase==0)=false:=su a;refine sm o ?_;rw[<-h];clear o
 all_goals
  clear m c0 N h a u;have c1:=vi s R.small R.right R.sm;by_cases p:fH s=0
  case neg =>
   have X:(fH s==0)=false:=su p;have S:kK s=[]:=by unfold kK;rw[aq p]
   rw[S]at c1;simp only[af.cells]at c1;refine sc aK c1 ?_;simp only[go_sem,seval,bne,X,List.map_nil,List.length_nil];try refine aV ?_
   exact lX aK V
  have X:(fH s==0)=true:=su p;have U:=KC R p;obtain⟨m1,L⟩:=TD p;have L:kK s=n6 (Dj s) 16:=L;have K:(bW s).phase=2:=by unfold bW;rw[au p]
  have cM:=λw=>dK s.ak w R.small.ak.small;have n:=λw c=>kq w c (bW s).calls (by have:=U.right.lens.calls;omega);have A:=λw c=>kq w c s.calls (by have:=R.right.lens.calls;omega);have cS:=λw c=>xD s w c ⟨R.small.ak.small,R.small.book,R.small.bp,R.small.ps⟩ R.gq (by have:=R.right.lens.bs;omega) (by have:=R.right.lens.ps;omega);have ab:=Hu R.right.lens;have hclk:=R.right.HT;have w3:IntKind.wrap .i64 (s.now+3)=s.now+3:=gx aj aj;have ae:=λ{w}=>tc R.right.ak (w:=w);have C:=U.right.lens.calls;have hcl0:=R.right.lens.calls;have aa:=λw c=>LV s w c;obtain⟨T,hT⟩:=aL (bW s);rw[<-hT]at c1 K C;simp only[<-hT]at m1 n;obtain⟨D,S⟩:=aL (kK s);rw[<-S]at c1 L ab;clear hT S R U p;simp only[af.cells,ay.cells,av.cells]at c1 cM n A cS;refine sc aK c1 ?_;refine sm (a2 dV X) ?_;refine aG.wv 16 [3,7,8] [64,128,672] (λi=>[(11,.I ((i:Int)+1)),(10,.I (ue s i 0))]) (λ_=>[]) ?_ ?_ ?_
  ·simp only[go_sem,seval]<;>simp[F8,l9]
  ·intro i _ hi _ _ _;have hw:(i:Int)+1<=16:=aj
   have hd:decide ((i:Int)+1<=16)=true:=dw hw;have al:IntKind.wrap .i64 ((i:Int)+1+1)=((i+1:Nat):Int)+1:=fU;have cm:=cM ((i:Int)+1);refine sc hd cm ?_;refine aG.wv 3 [3,7,8,11,12,13] [64,128,208,672,992] (λc=>[(14,.I c),(10,.I (ue s i c))]) (λ_=>[]) ?_ ?_ ?_
   ·exact jh
   ·intro c _ r b f _;have b:decide ((c:Int)<3)=true:=jw;have B:=n ((i:Int)+1) c;obtain⟨q1,q2⟩:=m1 ((i:Int)+1) c aj;by_cases k:bF s.ak ((i:Int)+1)=1
    case neg =>
     have z:=q2 k;have P:decide (0<=bL ((i:Int)+1) c T.calls)=false:=gB aj;have x:=aa6 (c:=c) k;cases y:gp s.ak ((i:Int)+1)
     ·refine sc b B ?_;refine sm (a3 y P f) ?_;try refine aV ?_
      refine ah.v r ?_;exact eo x
     ·have M:((fj s.ak ((i:Int)+1)).state==1)=false:=by have:(fj s.ak ((i:Int)+1)).state≠1:=k;simpa using this
      refine sc b B ?_;refine sm (a5 dV y M P f) ?_;try refine aV ?_
      refine ah.v r ?_;exact eo x
    have y:gp s.ak ((i:Int)+1)=true:=ae.1 aj;have M:((fj s.ak ((i:Int)+1)).state==1)=true:=by have:(fj s.ak ((i:Int)+1)).state=1:=k;simpa using this
    obtain⟨q3,q4,q5⟩:=q1 k;have cs:=cS ((i:Int)+1) c;rw[q3]at cs;by_cases a:0<uW s ((i:Int)+1) c
    case neg =>
     have z:=q5 a;have P:decide (0<=bL ((i:Int)+1) c T.calls)=false:=gB aj;have Z:decide (0<uW s ((i:Int)+1) c)=false:=gB a;have f3:decide (bL ((i:Int)+1) c T.calls<0)=true:=dw z;have x:ue s i (c+1)=ue s i c:=by
      have:=aa ((i:Int)+1) c;rw[NI k,show uW s ((i:Int)+1) c=0 by omega];rfl
     refine sc b B ?_;refine sm (a3 dV y M) ?_;refine sc aK cs ?_;refine sm (a4 P Z f3 f) ?_;try refine aV ?_
     refine ah.v r ?_;exact eo x
    obtain⟨z1,z2⟩:=q4 a;obtain⟨j,hj,ej,hv⟩:=NT z1;rw[z2]at hv;have t:=aM (c:=aB.cells) T.calls hj;rw[hv]at t;rw[ej]at B;have G:(j:Int)<(T.calls.length:Int):=aj
    have Z:decide (0<uW s ((i:Int)+1) c)=true:=dw a;have E:=aeI hi r k aj;rw[<-L]at E;obtain⟨u,ag⟩:=ia.1 E;have g:=aM (c:=aH.cells) D u;rw[ag]at g;have hln:((ue s i c:Nat):Int)<(D.length:Int):=aj
    have f5:decide ((D.length:Int)<=((ue s i c:Nat):Int))=false:=gB aj;have kD:=Qv ⟨(i:Int)+1,c,uW s ((i:Int)+1) c⟩ ⟨(i:Int)+1,c,uW s ((i:Int)+1) c⟩;rw[dw rfl]at kD;have x:ue s i (c+1)=ue s i c+1:=by
     rw[NI k];unfold jT;rw[aq (by simpa using(by omega:uW s ((i:Int)+1) c≠0))];rfl
    have wn:IntKind.wrap .i64 (((ue s i c:Nat):Int)+1)=((ue s i (c+1):Nat):Int):=by rw[x];exact fU
    have W:=A ((i:Int)+1) c;have J:min (s.now+3) 1099511627776=rA s:=rfl;simp only[aB.cells]at t;simp only[aH.cells]at g kD;refine sc b B ?_;refine sm (a3 dV y M) ?_;refine sc aK cs ?_;have g1:decide (0<=(j:Int))=true:=jw;have g2:decide ((j:Int)<0)=false:=lJ;simp only[go_sem,seval,bne,g1,g2,Z,w3,J,beq_self_eq_true];by_cases k0:bL ((i:Int)+1) c s.calls<0
    ·have Q:decide (0<=bL ((i:Int)+1) c s.calls)=false:=gB aj;have ht:wO s s.calls ((i:Int)+1) c=rA s:=by unfold wO;rw[au k0]
     rw[ht]at t;refine sc aK W ?_;simp only[go_sem,seval,Q,t,G,f5,beq_self_eq_true];refine sc g kD ?_;refine sm (a2 wn f) ?_;try refine aV ?_
     refine ah.v r ?_;exact iB
    ·obtain⟨j0,ad,Y,ai⟩:=NT k0;have Q:decide (0<=bL ((i:Int)+1) c s.calls)=true:=dw aj;have ht:wO s s.calls ((i:Int)+1) c=(lM ((i:Int)+1) c s.calls).till:=by unfold wO;rw[aq k0]
     have q:=aM (c:=aB.cells) s.calls ad;rw[ai]at q;rw[ht]at t;rw[Y]at W Q;have H:(j0:Int)<(s.calls.length:Int):=aj
     simp only[aB.cells]at q;refine sc aK W ?_;simp only[go_sem,seval,Q,q,H,t,G,f5,beq_self_eq_true];refine sc g kD ?_;refine sm (a2 wn f) ?_;try refine aV ?_
     refine ah.v r ?_;exact iB
   ·intro _ ac _;simp only[go_sem,seval,ac,Yu,al];try refine aV ?_
    refine ah.v hi ?_;exact iB
  ·intro _ _ _;have F:((ue s 16 0:Nat):Int)=(D.length:Int):=by rw[F8,L]
   simp only[go_sem,seval,F,K,beq_self_eq_true];try refine aV ?_
   exact lX aK V
