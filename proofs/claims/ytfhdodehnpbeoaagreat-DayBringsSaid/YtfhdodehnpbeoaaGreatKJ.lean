/- Parts. -/
import Derived.Test.YtfhdodehnpbeoaaGreatKH
import Derived.Test.YtfhdodehnpbeoaaGreatKG
set_option linter.all false
set_option maxHeartbeats 4000000
set_option maxRecDepth 16000
namespace Go.Proofs.YtfhdodehnpbeoaaGreat
open Go.Abs Tryz
open List hiding max min
def qk(r:ay)(n:Int):aD:=jS aD.a n ⟨0,0,0,0⟩ r.xs
def tN(r:ay)(a:aD):Int:=if r.okB then(if a.ok&&!(o7 r a.a&&!((qk r a.a).b==a.b))then 0 else 3)else 14
def Qs(r:ay)(a:aD)(i:Nat):List aD:=if(i:Int)+1==a.a then[a]else if o7 r ((i:Int)+1)then[qk r ((i:Int)+1)]else[]
def vp(r:ay)(a:aD):ay:=if tN r a=0 then⟨r.ms,r.ns,n6 (Qs r a) 6⟩else .none
def abF(r:ay)(m:aD)(i:Nat):(Qs r m i).length<=1:=by
 unfold Qs;split
 ·simp
 ·split<;>simp
def Ug(r:ay)(a:aD)(h:r.jQ):Sq 231 [] [.agg r.cells,.agg a.cells] [.own 4 ((vp r a).xs.map aD.cells)] (.bD [.agg [.sl 3 ((vp r a).ms.map av.cells),.sl 12 ((vp r a).ns.map aF.cells),.ref 0],.int .i64 (tN r a)]):=by
 have c1:=gW r h.small;have c2:=xA a;have c3:∀n,Sq 66 [] [.agg r.cells,.int .i64 n] [] (.bD [.agg (qk r n).cells,.bool (o7 r n)]):=λn=>rH r n h.small;have c4:=uz r h;simp only[ay.cells]at c1 c3 c4 |-;simp only[aD.cells]at c2;have c:=c3 a.a;obtain⟨g,j⟩:=aL (qk r a.a);rw[<-j]at c;simp only[aD.cells]at c;refine aX 68 2 [.cell 4 29,.tmp 5] mixed func231 ?_;simp only[go_sem,seval,aD.cells];refine sc aK c1 ?_;cases p:r.okB
 ·have e:tN r a=14:=by simp[tN,p]
  simp only[go_sem,seval,vp,e]<;>simp[ay.none]
 refine sc aK c ?_;refine sc aK c2 ?_;cases s:a.ok
 ·have e:tN r a=3:=by simp[tN,p,s]
  simp only[go_sem,seval,vp,e]<;>simp[ay.none]
 cases d:o7 r a.a&&!(g.b==a.b)
 case true =>
  have e:tN r a=3:=by simp only[tN,p,s,<-j,d];rfl
  simp only[cU,iN]at d;simp only[go_sem,seval,vp,e,d.1,d.2,bne,Bool.not_false]<;>simp[ay.none]
 have e:tN r a=0:=by simp only[tN,p,s,<-j,d];rfl
 have hfin:∀{Q:Prop},Q->Q:=λq=>q;cases l:o7 r a.a<;>cases m:g.b==a.b<;>(try(rw[l,m]at d;exact absurd d (by decide)))
 all_goals simp only[go_sem,seval,vp,e,l,m,bne]
 all_goals(with_reducible and_intros)<;>first|exact .dq|omega|skip
 all_goals refine az.aP c4 ?_
 all_goals clear c1 c2 c4 c j l m d
 all_goals simp only[go_sem,seval]
 all_goals(with_reducible and_intros)<;>first|exact .dq|omega|skip
 all_goals refine aG.wv 6 [2,3,4,8] [48,64,80] (λi=>[(9,.int .i64 ((i:Int)+1))]) (λi=>[(144,.box [.sl 3 (r.ms.map av.cells),.sl 12 (r.ns.map aF.cells),.ref 1056]),(1056,.own 4 ((n6 (Qs r a) i).map aD.cells))]) ?_ ?_ ?_
 all_goals try(simp only[go_sem,seval,l9]<;>simp;done)
 all_goals
  intro i _ y _ _ _;have u:decide ((i:Int)+1<=6)=true:=jw;have x:IntKind.wrap .i64 ((i:Int)+1+1)=((i+1:Nat):Int)+1:=fU;have o:=iS (Qs r a) i;have z:=nS (abF r a) i;obtain⟨L,t⟩:=aL (n6 (Qs r a) i);obtain⟨k,w⟩:=aL ((i:Int)+1);have f:=c3 k;obtain⟨g,j⟩:=aL (qk r k);rw[<-t]at o z |-;simp only[Qs,<-w]at o;rw[<-j]at f o;rw[<-w]at u x |-;simp only[aD.cells]at f;clear c3 t;refine sc u f ?_
  cases m:k==a.a<;>cases l:o7 r k<;>(
   simp only[l,m]at o;simp only[go_sem,seval,l,m,x,ct];refine aV ?_;try refine ah.v y ?_
   try simp only[go_sem,seval,o])
  all_goals simp
def Rd(r:ay)(a:aD)(h:r.jQ):Sq 231 [] [.agg r.cells,.agg a.cells] [] (.bD [.agg (vp r a).cells,.int .i64 (tN r a)]):=by
 refine Spec.frozen (Ug r a h) [0] rfl ?_;intro r;rcases r with _|r<;>rfl
def BZ{A:Type}(no:A->Int)(n:Int)(f:A->A):List A->List A
 | []=>[]
 |x::r=>if no x=n then f x::r else x::BZ no n f r
theorem B0{A:Type}{no:A->Int}{n:Int}{f:A->A}:∀{xs:List A} {i:Nat} (h:i<xs.length),(∀j (b:j<xs.length),j<i->no xs[j]≠n)->no xs[i]=n->BZ no n f xs=xs.set i (f xs[i])
 | [],i,h,_,_=>by simp at h
 |x::r,0,h,_,a=>by
  have a:no x=n:=a;simp[BZ,a]
 |x::r,i+1,h,hn,a=>by
  have c:no x≠n:=hn 0 sT aj;have d:=B0 (f:=f) (xs:=r) (i:=i) (su h) (λj b hji=>hn (j+1) (su b) aj) a;simp only[BZ,aq c,d,getElem_cons_succ,set_cons_succ]
def Of{A:Type}{no:A->Int}{n:Int}{xs:List A}{i:Nat}(b:∀j (a:j<xs.length),j<i->no xs[j]≠n)(h:i<xs.length)(c:(no xs[i]==n)=false):∀j (a:j<xs.length),j<i+1->no xs[j]≠n:=by
 intro j a hji;rcases dN j i with h|h
 ·exact b j a h
 ·obtain rfl:j=i:=aj
  simpa using c
def Dg(r:ay)(n p:Int):Int:=if r.okB then(if bE r n then(if within p 1 1073741824 then 0 else 3)else 10)else 14
def aF.told(p:Int)(x:aF):aF:={ x with set:=p }
def Dh(r:ay)(n p:Int):ay:=if Dg r n p=0 then⟨r.ms,BZ aF.no n (aF.told p) r.ns,r.xs⟩else .none
def Uo(r:ay)(n p:Int)(h:r.jQ):Sq 291 [] [.agg r.cells,.int .i64 n,.int .i64 p] [.own 12 ((Dh r n p).ns.map aF.cells)] (.bD [.agg [.sl 3 ((Dh r n p).ms.map av.cells),.ref 0,.sl 4 ((Dh r n p).xs.map aD.cells)],.int .i64 (Dg r n p)]):=by
 have c1:=gW r h.small;have c4:=Mf r h;have A:=bP p 1 1073741824;have hl:=h.2.1;simp only[ay.cells]at c1 c4 |-;refine aX 43 3 [.cell 6 29,.tmp 7] mixed func291 ?_;refine sc aK c1 ?_;cases w:r.okB
 ·have e:Dg r n p=14:=by simp[Dg,w]
  simp only[go_sem,seval,Dh,e]<;>simp[ay.none]
 have e:Dg r n p=if bE r n then(if within p 1 1073741824 then 0 else 3)else 10:=by simp[Dg,w]
 simp only[Dh];rw[e];clear e c1;refine so aK c4 ?_;refine aG.w1 r.ns.length 9 [1,2,6,8] [112,144,257] (λi _=>∀j (s:j<r.ns.length),j<i->r.ns[j].no≠n) (by intros;omega) ?_ ?_
 ·intro i _ d o t b;have k:=aM (c:=aF.cells) r.ns d;have hli:(i:Int)<(r.ns.length:Int):=aj
  obtain⟨x,v⟩:=aL (r.ns[i]);have a:=Of b d;rw[<-v]at k a;simp only[aF.cells]at k;simp only[go_sem,seval,o,k];refine aV ?_;cases y:x.no==n
  ·simp only[go_sem,seval,t];refine ah.u d (a y) ?_;simp only[go_sem,seval]
  have g:r.ns[i].no=n:=by rw[<-v];simpa using y
  obtain⟨B,m⟩:=nj (z:=aF.zero) d b g;have C:=B0 (f:=aF.told p) d b g;have l:bE r n=true:=by simp[bE,m]
  rw[l];refine sc aK A ?_;cases b3:within p 1 1073741824
  ·simp only[go_sem,seval]<;>simp[ay.none]
  rw[C,<-v];simp only[go_sem,seval,k];refine aV ?_;all_goals simp[aF.told,map_set]
 ·intro _ q b;obtain⟨B,m⟩:=kY (z:=aF.zero) (λj s=>b j s s);have l:bE r n=false:=by simp[bE,m]
  rw[l];simp only[go_sem,seval,q]<;>simp[ay.none]
def Rl(r:ay)(n p:Int)(h:r.jQ):Sq 291 [] [.agg r.cells,.int .i64 n,.int .i64 p] [] (.bD [.agg (Dh r n p).cells,.int .i64 (Dg r n p)]):=by
 refine Spec.frozen (Uo r n p h) [0] rfl ?_;intro r;rcases r with _|r<;>rfl
def CM(r:ay)(n p:Int):Int:=if r.okB then(if gp r n then(if within p 1 3 then 0 else 3)else 10)else 14
def av.put(p:Int)(x:av):av:={ x with state:=p }
def jU(r:ay)(n p:Int):ay:=if CM r n p=0 then⟨BZ av.no n (av.put p) r.ms,r.ns,r.xs⟩else .none
def Wq(r:ay)(n p:Int)(h:r.jQ):Sq 302 [] [.agg r.cells,.I n,.I p] [.own 3 ((jU r n p).ms.map av.cells)] (.bD [.agg [.ref 0,.sl 12 ((jU r n p).ns.map aF.cells),.sl 4 ((jU r n p).xs.map aD.cells)],.I (CM r n p)]):=by
 have c1:=gW r h.small;have c4:=WT r h;have A:=bP p 1 3;have hl:=h.1;simp only[ay.cells]at c1 c4 |-;refine aX 43 3 [.cell 6 29,.tmp 7] mixed func302 ?_;refine sc aK c1 ?_;cases w:r.okB
 ·have e:CM r n p=14:=by simp[CM,w]
  simp only[go_sem,seval,jU,e]<;>simp[ay.none]
 have e:CM r n p=if gp r n then(if within p 1 3 then 0 else 3)else 10:=by simp[CM,w]
 simp only[jU];rw[e];clear e c1;refine so aK c4 ?_;refine aG.w1 r.ms.length 9 [1,2,6,8] [112,144,256] (λi _=>∀j (s:j<r.ms.length),j<i->r.ms[j].no≠n) (by intros;omega) ?_ ?_
 ·intro i _ d o t b;have k:=aM (c:=av.cells) r.ms d;have hli:(i:Int)<(r.ms.length:Int):=aj
  obtain⟨x,v⟩:=aL (r.ms[i]);have a:=Of b d;rw[<-v]at k a;simp only[av.cells]at k;refine sm (a2 o k) ?_;refine aV ?_;cases y:x.no==n
  ·refine sm t ?_;refine ah.u d (a y) ?_;exact iB
  have g:r.ms[i].no=n:=by rw[<-v];simpa using y
  obtain⟨B,m⟩:=nj (z:=av.zero) d b g;have C:=B0 (f:=av.put p) d b g;have l:gp r n=true:=by simp[gp,m]
  rw[l];refine sc aK A ?_;cases b3:within p 1 3
  ·simp only[go_sem,seval]<;>simp[ay.none]
  rw[C,<-v];refine sm k ?_;refine aV ?_;all_goals simp[av.put,map_set]
 ·intro _ q b;obtain⟨B,m⟩:=kY (z:=av.zero) (λj s=>b j s s);have l:gp r n=false:=by simp[gp,m]
  rw[l];simp only[go_sem,seval,q]<;>simp[ay.none]
def HE(r:ay)(n p:Int)(h:r.jQ):Sq 302 [] [.agg r.cells,.I n,.I p] [] (.bD [.agg (jU r n p).cells,.I (CM r n p)]):=by
 refine Spec.frozen (Wq r n p h) [0] rfl ?_;intro r;rcases r with _|r<;>rfl
def qx{A:Type}(f:A->A)(xs:List A)(i:Nat):List A:=(xs.take i).map f++xs.drop i
def Ch{A:Type}(f:A->A)(xs:List A):qx f xs 0=xs:=by simp[qx]
def Bu{A:Type}(f:A->A)(xs:List A):qx f xs xs.length=xs.map f:=by simp[qx]
def tU{A:Type}(f:A->A)(xs:List A)(i:Nat):(qx f xs i).length=xs.length:=by simp[qx];omega
def ES{A:Type}(f:A->A){xs:List A}{i:Nat}(h:i<xs.length):(qx f xs i)[i]'(by rw[tU];exact h)=xs[i]:=by
 have hl:((xs.take i).map f).length=i:=by simp;omega
 simp only[qx];rw[getElem_append_right aj];simp[Nat.min_eq_left (Nat.le_of_lt h)]
def Bv{A:Type}(f:A->A){xs:List A}{i:Nat}(h:i<xs.length):(qx f xs i).set i (f xs[i])=qx f xs (i+1):=by
 have a:((xs.take i).map f).length=i:=by simp;omega
 simp only[qx];rw[set_append_right _ _ aj,a,Nat.sub_self,drop_eq_getElem_cons h,set_cons_zero,j7 h,jv,dS];rfl
def OO{A:Type}(f:A->A){xs:List A}{i:Nat}(h:i<xs.length)(a:f xs[i]=xs[i]):qx f xs (i+1)=qx f xs i:=by
 rw[<-Bv f h,a]
 conv=>lhs;rw[<-ES f h]
 exact set_getElem_self _
def aF.mY(x:aF):aF:=if x.set==0 then x else{ x with aS:=x.set,set:=0 }
def sB(r:ay):ay:=⟨r.ms,r.ns.map aF.mY,r.xs⟩
def Uq(r:ay)(h:r.jQ):Sq 298 [] [.agg r.cells] [.own 12 (r.ns.map aF.mY |>.map aF.cells)] (.agg [.sl 3 (r.ms.map av.cells),.ref 0,.sl 4 (r.xs.map aD.cells)]):=by
 have c4:=Mf r h;have hl:=h.2.1;simp only[ay.cells]at c4 |-;refine aX 38 1 [.cell 2 29] mixed func298 ?_;refine so aK c4 ?_;refine aV ?_;refine aG.wv r.ns.length [2,3] [48] (λi=>[(4,.I i)]) (λi=>[(64,.box [.sl 3 (r.ms.map av.cells),.ref 368,.sl 4 (r.xs.map aD.cells)]),(368,.own 12 ((qx aF.mY r.ns i).map aF.cells))]) ?_ ?_ ?_
 ·simp only[go_sem,seval,Ch]<;>simp
 ·intro i _ e m j _;have b:=tU aF.mY r.ns i;have hi2:i<(qx aF.mY r.ns i).length:=aj
  have f:=aM (c:=aF.cells) (qx aF.mY r.ns i) hi2;have l:=ES aF.mY e;have d:=Bv aF.mY e;have a:=OO aF.mY e;have hli:(i:Int)<(r.ns.length:Int):=aj
  obtain⟨x,p⟩:=aL (r.ns[i]);rw[l]at f;rw[<-p]at f d a;obtain⟨M,o⟩:=aL (qx aF.mY r.ns i);rw[<-o]at f d a b |-;simp only[aF.cells]at f;refine sm (a3 b m f) ?_;refine aV ?_;cases k:x.set==0
  ·have d:M.set i { x with aS:=x.set,set:=0 }=qx aF.mY r.ns (i+1):=by rw[<-d];simp only[aF.mY,k];rfl
   have g:∀Z,((M.map aF.cells).set i Z).getD i []=Z:=λZ=>by simp[b,e]
   refine sm (a5 dV k b f (a2 j g)) ?_
   and_intros<;>first|exact .dq|omega|skip
   all_goals first
    | (simp only[length_set,qO];omega)
    | (refine ah.v e ?_
       simp only[go_sem,seval,<-d,map_set,set_set,g])
  ·have a:=a (by simp[aF.mY,k]);refine sm (a3 dV k j) ?_;refine ah.v e ?_;simp only[go_sem,seval,a]
 ·intro _ n _;have b:=tU aF.mY r.ns r.ns.length;simp only[go_sem,seval,b,n,Bu]
def Ro(r:ay)(h:r.jQ):Sq 298 [] [.agg r.cells] [] (.agg (sB r).cells):=by
 refine Spec.frozen (Uq r h) [0] rfl ?_;intro r;rcases r with _|r<;>rfl
def iP(r:ay)(a:List Int):List Int:=pick (λm:av=>tO a m.state) av.no r.ms
def Rm(r:ay)(b:List Int)(h:r.jQ)(hs:b.length<2^30):Sq 299 [] [.agg r.cells,.sl 1 (ints b)] [.own 1 (ints (iP r b))] (.ref 0):=by
 have hl:=h.1;simp only[ay.cells];refine aX 47 2 [.tmp 4] mixed func299 ?_;refine s0 ?_;refine aG.wv r.ms.length [1,2] [48] (λi=>[(6,.I i),(5,.ref 736)]) (λi=>[(736,.own 1 (ints (pick (λm:av=>tO b m.state) av.no (r.ms.take i))))]) ?_ ?_ ?_
 ·simp only[go_sem,seval]<;>simp[pick,ints]
 ·intro i _ o p j _;have g:=aM (c:=av.cells) r.ms o;have a:=ga (λm:av=>tO b m.state) av.no o;have f:=bR (λm:av=>tO b m.state) av.no (r.ms.take i);have hlt:(r.ms.take i).length=i:=by simp;omega
  have hli:(i:Int)<(r.ms.length:Int):=aj
  obtain⟨L,t⟩:=aL (pick (λm:av=>tO b m.state) av.no (r.ms.take i));obtain⟨x,u⟩:=aL (r.ms[i]);rw[<-u]at g a;rw[<-t]at a f |-;simp only[av.cells]at g;simp only[go_sem,seval,p,aA];refine aG.wv b.length [1,2,5,6] [48,736] (λk=>[(8,.I k),(7,.bool (tO (b.take k) x.state))]) (λ_=>[]) ?_ ?_ ?_
  ·simp only[go_sem,seval]<;>simp[tO]
  ·intro k _ e d l _;have a:=EI b x.state e;have hlk:(k:Int)<(b.length:Int):=aj
   cases s:tO (b.take k) x.state
   ·rw[s,Bool.false_or]at a;simp only[go_sem,seval,aA,d,ints_at b e,g,l];refine aV ?_;refine ah.v e ?_;exact eo a
   ·rw[s,Bool.true_or]at a;simp only[go_sem,seval,aA,d,ints_at b e,g,l];refine aV ?_;refine ah.v e ?_;exact eo a
  ·intro _ d _;cases n:tO b x.state
   ·rw[n]at a;simp only[go_sem,seval,aA,d,eU,n,j];refine aV ?_;refine ah.v o ?_;exact gH a
   ·rw[n]at a;simp only[go_sem,seval,aA,d,eU,n,g,j];refine aV ?_;refine ah.v o ?_;exact gH a
 ·intro _ q _;simp only[go_sem,seval,aA,q,eU,iP]
def Db(r:ay)(a:List Int)(h:r.jQ)(b:a.length<2^30):Sq 299 [] [.agg r.cells,.sl 1 (ints a)] [] (.sl 1 (ints (iP r a))):=by
 refine Spec.frozen (Rm r a h b) [0] rfl ?_;intro r;rcases r with _|r<;>rfl
def cZ(w n:Int)(p:aE):Bool:=p.who==w&&p.inst==n
def posOf(w n:Int):List aE->aE
 | []=>⟨w,n,0,0⟩
 |p::r=>if cZ w n p then p else posOf w n r
def oS(b:aJ)(w n:Int)(m:b.small):Sq 38 [] [.agg b.cells,.agg [.I w,.I n]] [] (.agg (posOf w n b.qs).cells):=by
 obtain⟨h1,h2⟩:=m;simp only[aJ.cells];refine aX 42 2 [.cell 4 58] mixed func38 ?_;refine s0 ?_;refine aG.w1 b.qs.length 5 [2,3,4] [48,64,80] (λi _=>posOf w n (b.qs.drop i)=posOf w n b.qs) rfl ?_ ?_
 ·intro i _ h d g a;have f:=aM (c:=aE.cells) b.qs h;have hli:(i:Int)<(b.qs.length:Int):=aj
  obtain⟨x,l⟩:=aL (b.qs[i]);rw[dI h,<-l]at a;rw[<-l]at f;simp only[posOf,cZ]at a;simp only[aE.cells]at f;cases e:x.who==w
  ·simp only[e,dU,iI,if_false]at a;refine sm (a4 d f e g) ?_;refine aV ?_;refine ah.u h a ?_;exact iB
  cases j:x.inst==n
  ·simp only[e,j,Bool.and_false,iI,if_false]at a;refine sm (a5 d f e j g) ?_;refine aV ?_;refine ah.u h a ?_;exact iB
  simp only[e,j,Bool.and_self,if_true]at a;rw[<-a];refine sm (a4 d f e j) ?_;exact RS
 ·intro _ k a;rw[jJ]at a;rw[<-a];simp only[go_sem,seval,k,posOf]
def onB(n:Int)(t:aT):Bool:=t.no==n&&!t.off
def l8(n:Int):List aT->Int
 | []=>-1
 |t::r=>if onB n t then 0 else if l8 n r<0 then -1 else l8 n r+1
theorem Oe{n:Int}:∀{xs:List aT} {i:Nat} (h:i<xs.length),(∀j (b:j<xs.length),j<i->onB n xs[j]=false)->onB n xs[i]=true->l8 n xs=i
 | [],i,h,_,_=>by simp at h
 |x::r,0,h,_,a=>by
  have a:onB n x=true:=a;simp[l8,a]
 |x::r,i+1,h,hn,a=>by
  have c:onB n x=false:=hn 0 sT aj;have d:=Oe (xs:=r) (i:=i) (su h) (λj b hji=>hn (j+1) (su b) aj) a;simp only[l8,c,d];rw[aq sT,aq aj];omega
theorem JY{n:Int}:∀{xs:List aT},(∀j (a:j<xs.length),onB n xs[j]=false)->l8 n xs = -1
 | [],_=>rfl
 |x::r,hn=>by
  have b:onB n x=false:=hn 0 sT;have c:=JY (xs:=r) (λj a=>hn (j+1) (su a));simp[l8,b,c]
def zL(b:aJ)(n:Int)(s:b.small):Sq 292 [] [.agg b.cells,.int .i64 n] [] (.int .i64 (l8 n b.ts)):=by
 obtain⟨h1,h2⟩:=s;simp only[aJ.cells];refine aX 31 2 [.tmp 4] mixed func292 ?_;simp only[go_sem,seval];refine aG.w1 b.ts.length 5 [1,2] [48] (λi _=>∀j (f:j<b.ts.length),j<i->onB n b.ts[j]=false) (by intros;omega) ?_ ?_
 ·intro i _ o e k m;have g:=aM (c:=aT.cells) b.ts o;have hli:(i:Int)<(b.ts.length:Int):=aj
  have d:=Oe o m;have a:onB n b.ts[i]=false->∀j (f:j<b.ts.length),j<i+1->onB n b.ts[j]=false:=λr j f hji=>by
   rcases dN j i with h|h
   ·exact m j f h
   ·obtain rfl:j=i:=aj
    exact r
  obtain⟨x,t⟩:=aL (b.ts[i]);rw[<-t]at g d a;simp only[onB]at d a;simp only[aT.cells]at g;cases l:x.no==n
  ·simp only[go_sem,seval,e,g,l,k];refine aV ?_;refine ah.u o (a (by simp[l])) ?_;simp only[go_sem,seval]
  cases p:x.off
  case true =>
   simp only[go_sem,seval,e,g,l,p,k];refine aV ?_;refine ah.u o (a (by simp[p])) ?_;simp only[go_sem,seval]
  simp only[go_sem,seval,e,g,l,p,d (by simp[l,p])]
  and_intros<;>first|exact .dq|omega|skip
 ·intro _ q m;simp only[go_sem,seval,q,JY (λj f=>m j f f)]
def tH(x:aF):Sq 16 [] [.agg x.cells] [] (.bD [.I (if x.set==0 then x.aS else x.set),.bool (!(x.set==0&&x.aS==0))]):=by
 simp only[aF.cells];refine aX 14 1 [.tmp 2,.tmp 3] mixed func16 ?_;cases a:x.set==0<;>cases b:x.aS==0<;>simp only[go_sem,seval,bne,a,b,dU,Bool.and_self,Bool.and_false,Bool.not_true,Bool.not_false]
 all_goals(with_reducible and_intros)<;>first|exact .dq|omega|skip
def HB(a b:Int)(e:jB a)(f:jB b):Sq 329 [] [.I a,.I b] [] (.bD [.I (if bA (a*b)then a*b else 0),.bool (bA (a*b))]):=by
 have c:=sV a b e f;have d:=qH (a*b);simp only[wd]at c d;refine aX 12 2 [.tmp 4,.tmp 5] mixed func329 ?_;refine sc aK c ?_;exact lX aK d
def RO(b:aJ)(h:b.small):Sq 247 [] [.agg b.cells] [.own 7 (b.ts.map aT.cells)] (.agg [.I b.next,.ref 0,.sl 4 (b.qs.map aE.cells)]):=by
 refine Spec.frozen (xI b h) [1] rfl ?_;intro r;rcases r with _| _|r<;>rfl
def mK(p:aE):Bool:=vv p.who p.inst&&(bA p.aQ&&bA p.cost)
def Bc(g:List aE):Bool:=(range 8).all λi=>aC (pick (λp:aE=>p.inst==(i:Int)+1) aE.aQ g)==0
def CP(b:aJ)(g:List aE)(w n:Int):Int:=aC ((posOf w n b.qs).aQ::pick (cZ w n) aE.aQ g)
def Mp(b:aJ)(g:List aE)(w n:Int):Int:=aC ((posOf w n b.qs).cost::pick (cZ w n) aE.cost g)
def xQ(b:aJ)(g:List aE)(w n:Int):Bool:=bA (CP b g w n)&&(bA (Mp b g w n)&&within (CP b g w n) (-1099511627776) 1099511627776)
def ID(b:aJ)(g:List aE)(w n:Int):List aE:=if CP b g w n==0&&Mp b g w n==0 then[]else[⟨w,n,CP b g w n,Mp b g w n⟩]
def Mq(b:aJ)(g:List aE)(w:Int)(i:Nat):List aE:=(range i).flatMap λ(k:Nat)=>ID b g w ((k:Int)+1)
def AG(b:aJ)(g:List aE)(i:Nat):List aE:=(range i).flatMap λ(k:Nat)=>Mq b g ((k:Int)+1) 8
def Eh(b:aJ)(g:List aE)(w:Int):Bool:=(range 8).all λ(k:Nat)=>xQ b g w ((k:Int)+1)
def vY(b:aJ)(g:List aE):Bool:=(range 16).all λ(k:Nat)=>Eh b g ((k:Int)+1)
def kR(b:aJ)(g:List aE):Int:=if b.okB then(if g.all mK then(if Bc g then(if vY b g then 0 else 1)else 12)else 3)else 14
def qW(b:aJ)(g:List aE):aJ:=if kR b g=0 then⟨b.next,b.ts,AG b g 16⟩else⟨0,[],[]⟩
def aeb(b:aJ)(g:List aE)(w n:Int):(ID b g w n).length<=1:=by unfold ID;split<;>simp
def PR(b:aJ)(g:List aE)(w:Int)(i:Nat):(Mq b g w i).length<=i:=by
 have:=Gi (f:=λ(k:Nat)=>ID b g w ((k:Int)+1)) (m:=1) (λk=>aeb _ _ _ _) i;simpa[Mq]using this
def Ei(b:aJ)(g:List aE)(i:Nat):(AG b g i).length<=8*i:=Gi (f:=λ(k:Nat)=>Mq b g ((k:Int)+1) 8) (λk=>PR _ _ _ _) i
theorem O0{w n:Int}:∀{qs:List aE},(∀p∈qs,p.gq)->jB (posOf w n qs).aQ/\jB (posOf w n qs).cost
 | [],_=>by simp[posOf,jB]
 |p::r,h=>by
  simp only[posOf];split
  ·have:=h p sT;exact⟨this.2.2.1,this.2.2.2⟩
  ·exact O0 λq a=>h q (by simp[a])
def zK(b:aJ)(g:List aE)(Z:b.small)(hr:∀p∈b.qs,p.gq)(hg:g.length<2^29):Sq 327 [] [.agg b.cells,.sl 4 (g.map aE.cells)] [.own 7 ((qW b g).ts.map aT.cells),.own 4 ((qW b g).qs.map aE.cells)] (.bD [.agg [.int .i64 (qW b g).next,.ref 0,.ref 1],.int .i64 (kR b g)]):=by
 have c1:=mV b Z hr;have c2:=RO b Z;have c3:=λw n=>oS b w n Z;have I:=λw n=>O0 (w:=w) (n:=n) hr;simp only[aJ.cells]at c1 c2 c3 |-;refine aX 199 2 [.cell 4 33,.tmp 5] mixed func327 ?_;simp only[go_sem,seval];refine sc aK c1 ?_;cases s:b.okB
 ·have e:kR b g=14:=by simp[kR,s]
  simp only[go_sem,seval,qW,e]<;>simp
 have e:kR b g=if g.all mK then(if Bc g then(if vY b g then 0 else 1)else 12)else 3:=by simp[kR,s]
 simp only[qW];rw[e];clear e c1;simp only[go_sem,seval];refine aG.w1 g.length 6 [1,2,4] [48,80] (λi _=>(g.drop i).all mK=g.all mK) rfl ?_ ?_
 ·intro i _ r C y f;have B:=aM (c:=aE.cells) g r;have ae:(i:Int)<(g.length:Int):=aj
  obtain⟨x,A⟩:=aL (g[i]);have k1:=wH x.who x.inst;have k2:=gE x.aQ;have k3:=gE x.cost;rw[dI r,<-A]at f;rw[<-A]at B;simp only[all_cons,mK]at f;simp only[aE.cells]at B;clear c2 c3;simp only[go_sem,seval,C,B];refine sc aK k1 ?_;cases o:vv x.who x.inst
  ·rw[o,dU,dU]at f;have G:g.all mK=false:=f.symm;simp only[go_sem,seval,o,G];all_goals simp
  simp only[go_sem,seval,o,B];refine sc aK k2 ?_;cases E:bA x.aQ
  ·rw[o,E,dU,Bool.and_false,dU]at f;have G:g.all mK=false:=f.symm;simp only[go_sem,seval,E,G];all_goals simp
  simp only[go_sem,seval,E,B];refine sc aK k3 ?_;cases q3:bA x.cost
  ·rw[o,E,q3,Bool.and_false,Bool.and_false,dU]at f;have G:g.all mK=false:=f.symm;simp only[go_sem,seval,q3,G];all_goals simp
  rw[o,E,q3,Bool.and_self,Bool.and_self,cz]at f;simp only[go_sem,seval,q3,y]
  and_intros<;>first|exact .dq|omega|skip
  refine ah.u r f ?_;simp only[go_sem,seval]
 intro _ F f;rw[jJ]at f;have H:g.all mK=true:=f.symm;have Q:∀p∈g,bA p.aQ=true/\bA p.cost=true:=λp O=>by
  have:=cg.1 H p O;simp only[mK,cU]at this;exact this.2
 rw[H];simp only[go_sem,seval,F];clear f F;refine aG.wu 8 [1,2,4] [48,80] (λi=>[(7,.int .i64 ((i:Int)+1))]) (λ_=>[]) (λi=>∀k<i,(aC (pick (λp:aE=>p.inst==((k:Nat):Int)+1) aE.aQ g)==0)=true) sT ?_ ?_ ?_
 ·simp only[go_sem,seval]<;>simp
 ·intro c _ hc _ _ f;obtain⟨n,N⟩:=aL ((c:Int)+1);have hd:decide (n<=8)=true:=jw;have hw:IntKind.wrap .i64 (n+1)=((c+1:Nat):Int)+1:=fU;have hA:=fX (pick (λp:aE=>p.inst==n) aE.aQ g) (lB λp O=>vq (Q p O).1) (by have:=bR (λp:aE=>p.inst==n) aE.aQ g;omega);have h0:=aij (pick (λp:aE=>p.inst==n) aE.aQ g);have d:(aC (pick (λp:aE=>p.inst==n) aE.aQ g)==0)=false->Bc g=false:=λh=>by
   rw[Bc,all_eq_false];exact⟨c,mem_range.2 hc,by rw[<-N,h];simp⟩
  rw[<-N];clear c2 c3;simp only[go_sem,seval,hd];refine aG.wv g.length [1,2,4,7] [48,80] (λi=>[(9,.int .i64 i),(8,.ref 1360)]) (λi=>[(1360,.own 1 (ints (pick (λp:aE=>p.inst==n) aE.aQ (g.take i))))]) ?_ ?_ ?_
  ·simp only[go_sem,seval]<;>simp[pick,ints]
  ·intro i _ r C y _;have B:=aM (c:=aE.cells) g r;have hs:=ga (λp:aE=>p.inst==n) aE.aQ r;have ad:=bR (λp:aE=>p.inst==n) aE.aQ (g.take i);have ai:(g.take i).length=i:=by simp;omega
   have ae:(i:Int)<(g.length:Int):=aj
   obtain⟨L,K⟩:=aL (pick (λp:aE=>p.inst==n) aE.aQ (g.take i));obtain⟨x,A⟩:=aL (g[i]);rw[<-A,<-K]at hs;rw[<-A]at B;rw[<-K]at ad |-;simp only[aE.cells]at B;simp only[go_sem,seval,C,B];(with_reducible and_intros)<;>first|exact .dq|omega|skip
   cases Z:x.inst==n
   ·rw[Z]at hs;simp only[go_sem,seval,y];refine ah.v r ?_;exact gH hs
   ·rw[Z]at hs;simp only[go_sem,seval,y,aA,B]
    and_intros<;>first|exact .dq|omega|skip
    refine ah.v r ?_;exact gH hs
  ·intro _ F _;simp only[go_sem,seval,F,eU];refine az.iw [] [] true sT ?_;simp only[go_sem,seval];refine dL.ij hA ?_;obtain⟨L,K⟩:=aL (pick (λp:aE=>p.inst==n) aE.aQ g);rw[<-K]at h0 d |-;cases s:bA (aC L)
   ·have d:=d (by rw[<-h0,s];rfl);simp only[go_sem,seval,s,d];all_goals simp
   cases J:addN L==0
   ·have d:=d (by rw[<-h0,s,J];rfl);refine sm (a4 s dV J d) ?_;all_goals simp
   rw[s,J]at h0;refine sm (a4 s dV J hw) ?_
   and_intros<;>first|exact .dq|omega|skip
   refine ah.u hc ?_ ?_
   ·intro k hk;rcases dN k c with h|h
    ·exact f k h
    ·obtain rfl:k=c:=aj
     rw[<-N,<-K];exact h0.symm
   ·simp only[go_sem,seval]
 intro _ _ f;have aa:Bc g=true:=cg.2 λc hc=>f c (mem_range.1 hc);rw[aa];clear f aa H;simp only[go_sem,seval]
 and_intros<;>first|exact .dq|omega|skip
 refine az.iw [] [] false sT ?_;simp only[go_sem,seval];refine dL.ij c2 ?_;clear c2;simp only[go_sem,seval]
 and_intros<;>first|exact .dq|omega|skip
 refine aG.wu 16 [1,2,4,12] [48,80,1584] (λi=>[(13,.int .i64 ((i:Int)+1))]) (λi=>[(208,.box [.int .i64 b.next,.ref 1584,.ref 3152]),(3152,.own 4 ((AG b g i).map aE.cells))]) (λi=>∀k<i,Eh b g (((k:Nat):Int)+1)=true) sT ?_ ?_ ?_
 ·simp only[go_sem,seval]<;>simp[AG]
 ·intro i _ r _ _ f;obtain⟨w,hw⟩:=aL ((i:Int)+1);have hd:decide (w<=16)=true:=jw;have al:IntKind.wrap .i64 (w+1)=((i+1:Nat):Int)+1:=fU;have R:AG b g (i+1)=AG b g i++Mq b g w 8:=by rw[hw];exact wA _ i
  have ak:=Ei b g i;have d:Eh b g w=false->vY b g=false:=λh=>by
   rw[vY,all_eq_false];exact⟨i,mem_range.2 r,by rw[<-hw,h];simp⟩
  obtain⟨W,hW⟩:=aL (AG b g i);rw[<-hW]at R ak |-;rw[<-hw];simp only[go_sem,seval,hd];refine aG.wu 8 [1,2,4,12,13] [48,80,1584] (λj=>[(14,.int .i64 ((j:Int)+1))]) (λj=>[(208,.box [.int .i64 b.next,.ref 1584,.ref 3152]),(3152,.own 4 ((W++Mq b g w j).map aE.cells))]) (λj=>∀k<j,xQ b g w (((k:Nat):Int)+1)=true) sT ?_ ?_ ?_
  ·simp only[go_sem,seval]<;>simp[Mq]
  ·intro j _ hj _ _ hJ;obtain⟨n,N⟩:=aL ((j:Int)+1);have hd:decide (n<=8)=true:=jw;have T:IntKind.wrap .i64 (n+1)=((j+1:Nat):Int)+1:=fU;have af:Mq b g w (j+1)=Mq b g w j++ID b g w n:=by rw[N];exact wA _ j
   have hnl:=PR b g w j
   have a:xQ b g w n=false->vY b g=false:=λh=>d (by
    rw[Eh,all_eq_false]
    exact⟨j,mem_range.2 hj,by rw[<-N,h];simp⟩)
   have hP:=c3 w n;have I:=I w n;obtain⟨p,O⟩:=aL (posOf w n b.qs);rw[<-O]at hP I;obtain⟨V,hV⟩:=aL (W++Mq b g w j);have hVl:V.length<=200:=by rw[hV,ct];omega
   have t:W++Mq b g w (j+1)=V++ID b g w n:=by rw[af,hV,dS]
   have hA:=fX (p.aQ::pick (cZ w n) aE.aQ g) (λx A=>by
    rcases mem_cons.1 A with rfl|A
    ·exact I.1
    ·exact lB (λq hq=>vq (Q q hq).1) x A) (by have:=bR (cZ w n) aE.aQ g;simp only[length_cons];omega)
   have hB:=fX (p.cost::pick (cZ w n) aE.cost g) (λx A=>by
    rcases mem_cons.1 A with rfl|A
    ·exact I.2
    ·exact lB (λq hq=>vq (Q q hq).2) x A) (by have:=bR (cZ w n) aE.cost g;simp only[length_cons];omega)
   have eq:aC (p.aQ::pick (cZ w n) aE.aQ g)=CP b g w n:=by rw[O];rfl
   have ec:aC (p.cost::pick (cZ w n) aE.cost g)=Mp b g w n:=by rw[O];rfl
   rw[<-hV,<-N];simp only[aE.cells]at hP;clear c3 hV O hW af R;simp only[go_sem,seval,hd];refine sc aK hP ?_
   and_intros<;>first|exact .dq|omega|skip
   refine aG.wv g.length [1,2,4,12,13,14] [48,80,208,1584,3152] (λi=>[(18,.int .i64 i),(16,.ref 2416),(17,.ref 2544)]) (λi=>[(2416,.own 1 (ints (p.aQ::pick (cZ w n) aE.aQ (g.take i)))),(2544,.own 1 (ints (p.cost::pick (cZ w n) aE.cost (g.take i))))]) ?_ ?_ ?_
   ·simp only[go_sem,seval]<;>simp[pick,ints]
   ·intro i _ r C y _;have B:=aM (c:=aE.cells) g r;have l:=ga (cZ w n) aE.aQ r;have m:=ga (cZ w n) aE.cost r;have ab:=bR (cZ w n) aE.aQ (g.take i);have ac:=bR (cZ w n) aE.cost (g.take i);have ai:(g.take i).length=i:=by simp;omega
    have ae:(i:Int)<(g.length:Int):=aj
    have l:ints (p.aQ::pick (cZ w n) aE.aQ (g.take (i+1)))=ints (p.aQ::pick (cZ w n) aE.aQ (g.take i))++(if cZ w n g[i]then[[.int .i64 g[i].aQ]]else[]):=congrArg (λz:List (List D)=>([D.int .i64 p.aQ]:List D)::z) l;have m:ints (p.cost::pick (cZ w n) aE.cost (g.take (i+1)))=ints (p.cost::pick (cZ w n) aE.cost (g.take i))++(if cZ w n g[i]then[[.int .i64 g[i].cost]]else[]):=congrArg (λz:List (List D)=>([D.int .i64 p.cost]:List D)::z) m;have ab:(p.aQ::pick (cZ w n) aE.aQ (g.take i)).length<=i+1:=by simp only[length_cons];omega
    have ac:(p.cost::pick (cZ w n) aE.cost (g.take i)).length<=i+1:=by simp only[length_cons];omega
    obtain⟨L,K⟩:=aL (p.aQ::pick (cZ w n) aE.aQ (g.take i));obtain⟨M,hM⟩:=aL (p.cost::pick (cZ w n) aE.cost (g.take i));obtain⟨x,A⟩:=aL (g[i]);rw[<-A,<-K]at l;rw[<-A,<-hM]at m;rw[<-A]at B;rw[<-K]at ab;rw[<-hM]at ac;rw[<-K,<-hM];simp only[cZ]at l m;simp only[aE.cells]at B;clear K hM;cases o:x.who==w
    ·simp only[o,dU,iI,if_false,append_nil]at l m;simp only[go_sem,seval,C,B,o,y]
     and_intros<;>first|exact .dq|omega|skip
     refine ah.v r ?_;simp only[go_sem,seval,l,m]
    cases E:x.inst==n
    ·simp only[o,E,Bool.and_false,iI,if_false,append_nil]at l m;simp only[go_sem,seval,C,B,o,E,y]
     and_intros<;>first|exact .dq|omega|skip
     refine ah.v r ?_;simp only[go_sem,seval,l,m]
    simp only[o,E,Bool.and_self,if_true]at l m;simp only[go_sem,seval,C,B,o,E,y,aA]
    and_intros<;>first|exact .dq|omega|skip
    refine ah.v r ?_;simp only[go_sem,seval,l,m]
   ·intro _ F _;simp only[go_sem,seval,F,eU];refine aV ?_;refine sl aK hA ?_;refine aV ?_;refine sl aK hB ?_;simp only[addN,eq,ec];clear hA hB;have hW:=bP (CP b g w n) (-1099511627776) 1099511627776;simp only[xQ]at a;simp only[ID]at t;obtain⟨X,hX⟩:=aL (CP b g w n);obtain⟨Y,hY⟩:=aL (Mp b g w n);have ag:(bA X&&(bA Y&&within X (-1099511627776) 1099511627776))=xQ b g w n:=by rw[hX,hY];rfl
    rw[<-hX,<-hY]at a t;rw[<-hX]at hW;rw[<-hX,<-hY];cases s:bA X
    ·have a:=a (by rw[s];rfl);simp only[go_sem,seval,s,a];all_goals simp
    cases J:bA Y
    ·have a:=a (by rw[s,J];rfl);simp only[go_sem,seval,s,J,a];all_goals simp
    simp only[go_sem,seval,s,J];refine sc aK hW ?_;cases U:within X (-1099511627776) 1099511627776
    ·have a:=a (by rw[s,J,U];rfl);simp only[go_sem,seval,U,a];all_goals simp
    have P:∀k<j+1,xQ b g w (((k:Nat):Int)+1)=true:=λk hk=>by
     rcases dN k j with h|h
     ·exact hJ k h
     ·obtain rfl:k=j:=aj
      rw[<-N,<-ag,s,J,U];rfl
    cases o:X==0
    ·simp only[o,dU,iI,if_false]at t;refine sm (a4 U dV o T) ?_
     and_intros<;>first|exact .dq|omega|skip
     refine ah.u hj P ?_;exact gH t
    cases E:Y==0
    ·simp only[o,E,Bool.and_false,iI,if_false]at t;refine sm (a5 U dV o E T) ?_
     and_intros<;>first|exact .dq|omega|skip
     refine ah.u hj P ?_;exact gH t
    simp only[o,E,Bool.and_self,if_true,append_nil]at t;refine sm (a5 U dV o E T) ?_
    and_intros<;>first|exact .dq|omega|skip
    refine ah.u hj P ?_;simp only[go_sem,seval,t]
  ·intro _ _ hJ;have S:Eh b g w=true:=cg.2 λk hk=>hJ k (mem_range.1 hk);simp only[go_sem,seval,al]
   and_intros<;>first|exact .dq|omega|skip
   refine ah.u r ?_ ?_
   ·intro k hk;rcases dN k i with h|h
    ·exact f k h
    ·obtain rfl:k=i:=aj
     rw[<-hw];exact S
   ·simp only[go_sem,seval,R]
 ·intro _ _ f;have S:vY b g=true:=cg.2 λk hk=>f k (mem_range.1 hk);simp only[go_sem,seval,S]
def Yz{b:aJ}(h:b.okB=true):0<=b.next/\b.next<=1099511627776/\b.ts.length<=128:=by
 simp only[aJ.okB,cU,iN,gP]at h;omega
def qX{b:aJ}{g:List aE}(h:kR b g=0):b.okB=true/\qW b g=⟨b.next,b.ts,AG b g 16⟩:=by
 refine⟨?_,by simp[qW,h]⟩;unfold kR at h;split at h
 ·assumption
 ·cases h
def W8{b:aJ}{g:List aE}(h:kR b g≠0):qW b g=⟨0,[],[]⟩:=by simp[qW,h]
def kU(b:aJ)(t:aT):Int:=if b.okB then(if t.okB then(if 128<=b.ts.length then 9 else if b.next=1099511627776 then 1 else kR b (mm t false))else 3)else 14
def om(b:aJ)(t:aT):aJ:=if kU b t=0 then⟨b.next+1,b.ts++[{ t with no:=b.next+1,off:=false }],AG b (mm t false) 16⟩else⟨0,[],[]⟩
def xd(b:aJ)(t:aT):Int:=if kU b t=0 then b.next+1 else 0
def OE(t:aT)(k:Bool):(mm t k).length<=2:=by unfold mm;split<;>simp
def Rb(b:aJ)(t:aT)(j:b.small)(hr:∀p∈b.qs,p.gq):Sq 290 [] [.agg b.cells,.agg t.cells] [.own 7 ((om b t).ts.map aT.cells),.own 4 ((om b t).qs.map aE.cells)] (.bD [.agg [.int .i64 (om b t).next,.ref 0,.ref 1],.int .i64 (xd b t),.int .i64 (kU b t)]):=by
 have c1:=mV b j hr;have c2:=Ar t;have c3:=BJ t false;have c4:=zK b (mm t false) j hr (by have:=OE t false;omega);have hlt:=j.1;simp only[aJ.cells,aT.cells]at c1 c2 c3 c4 |-;refine aX 54 2 [.cell 4 33,.tmp 5,.tmp 6] mixed func290 ?_;refine sc aK c1 ?_;cases a:b.okB
 ·have e:kU b t=14:=by simp[kU,a]
  simp only[go_sem,seval,om,xd,e];all_goals simp
 obtain⟨n1,n2,n3⟩:=Yz a;refine sc aK c2 ?_;cases f:t.okB
 ·have e:kU b t=3:=by simp[kU,a,f]
  simp only[go_sem,seval,om,xd,e];all_goals simp
 by_cases h:128<=b.ts.length
 ·have e:kU b t=9:=by simp[kU,a,f,h]
  have d:decide ((128:Int)<=(b.ts.length:Int))=true:=jw;simp only[go_sem,seval,d,om,xd,e];all_goals simp
 have k:decide ((128:Int)<=(b.ts.length:Int))=false:=lJ;by_cases g:b.next=1099511627776
 ·have e:kU b t=1:=by simp only[kU,a,f,aq h,au g];rfl
  have d:(b.next==1099511627776)=true:=su g;simp only[go_sem,seval,k,d,om,xd,e];all_goals simp
 have l:(b.next==1099511627776)=false:=su g;have e:kU b t=kR b (mm t false):=by simp only[kU,a,f,aq h,aq g];rfl
 have w:IntKind.wrap .i64 (b.next+1)=b.next+1:=gx aj aj
 simp only[om,xd];rw[e];clear e c1 c2;refine sc (a2 k l) c3 ?_;refine so aK c4 ?_;by_cases c:kR b (mm t false)=0
 ·have i:=(qX c).2;rw[i,c];simp only[go_sem,seval,w];refine aV ?_;all_goals simp
 ·have i:=W8 c;have m:(kR b (mm t false)==0)=false:=su c;rw[i,aq c,aq c];refine sm (a2 dV m) ?_
  and_intros<;>first|exact .dq|omega|skip
  all_goals simp
def C5(b:aJ)(t:aT)(a:b.small)(hr:∀p∈b.qs,p.gq):Sq 290 [] [.agg b.cells,.agg t.cells] [] (.bD [.agg (om b t).cells,.int .i64 (xd b t),.int .i64 (kU b t)]):=by
 refine Spec.frozen (Rb b t a hr) [0,1] rfl ?_;intro r;rcases r with _| _|r<;>rfl
theorem Ba{n:Int}:∀{ts:List aT},¬l8 n ts<0->∃(i:Nat)(h:i<ts.length),l8 n ts=i/\onB n ts[i]=true
 | [],h=>by simp[l8]at h
 |t::r,h=>by
  simp only[l8]at h |-;split at h
  ·rename_i a;exact⟨0,by simp,by rw[au a];rfl,a⟩
  ·rename_i a;split at h
   ·omega
   ·rename_i b;obtain⟨i,hi,e,c⟩:=Ba (ts:=r) b;refine⟨i+1,by simp;omega,?_,su c⟩;rw[aq a,aq b,e];rfl
def fS(n:Int)(ts:List aT):aT:=ts.getD (l8 n ts).toNat ⟨0,0,0,0,0,0,false⟩
def Zv(n:Int)(ts:List aT):List aT:=ts.set (l8 n ts).toNat { fS n ts with off:=true }
def jd(b:aJ)(n:Int):Int:=if b.okB then(if l8 n b.ts<0 then 10 else kR b (mm (fS n b.ts) true))else 14
def iE(b:aJ)(n:Int):aJ:=if jd b n=0 then⟨b.next,Zv n b.ts,AG b (mm (fS n b.ts) true) 16⟩else⟨0,[],[]⟩
def Na(b:aJ)(n:Int)(l:b.small)(hr:∀p∈b.qs,p.gq):Sq 293 [] [.agg b.cells,.int .i64 n] [.own 7 ((iE b n).ts.map aT.cells),.own 4 ((iE b n).qs.map aE.cells)] (.bD [.agg [.int .i64 (iE b n).next,.ref 0,.ref 1],.int .i64 (jd b n)]):=by
 have c1:=mV b l hr;have c2:=zL b n l;have c3:=BJ (fS n b.ts) true;have c4:=zK b (mm (fS n b.ts) true) l hr (by have:=OE (fS n b.ts) true;omega);have hlt:=l.1;simp only[aJ.cells]at c1 c2 c3 c4 |-;refine aX 40 2 [.cell 4 33,.tmp 5] mixed func293 ?_;refine sc aK c1 ?_;cases m:b.okB
 ·have e:jd b n=14:=by simp[jd,m]
  simp only[go_sem,seval,iE,e];all_goals simp
 refine sc aK c2 ?_;by_cases h:l8 n b.ts<0
 ·have e:jd b n=10:=by simp[jd,m,h]
  have d:decide (l8 n b.ts<0)=true:=dw h;simp only[go_sem,seval,d,iE,e];all_goals simp
 have o:decide (l8 n b.ts<0)=false:=gB h;have e:jd b n=kR b (mm (fS n b.ts) true):=by simp only[jd,m,aq h];rfl
 obtain⟨i,r,a,hon⟩:=Ba h;have k:=aM (c:=aT.cells) b.ts r;have g:fS n b.ts=b.ts[i]:=by simp[fS,a,r]
 have hli:(i:Int)<(b.ts.length:Int):=aj
 have f:Zv n b.ts=b.ts.set i { b.ts[i]with off:=true }:=by simp[Zv,g,a]
 simp only[iE];rw[e];rw[g]at c3 c4 |-;rw[f];clear e c1 c2 g f;obtain⟨t,u⟩:=aL (b.ts[i]);rw[<-u]at k c3 c4 |-;simp only[aT.cells]at k c3;simp only[go_sem,seval,o,a,k];rw[a]at o;refine sc (a3 o a k) c3 ?_;refine so aK c4 ?_;by_cases j:kR b (mm t true)=0
 ·have q:=(qX j).2;rw[q,j];simp only[go_sem,seval,k];refine aV ?_;all_goals simp[map_set]
 ·have q:=W8 j;have s:(kR b (mm t true)==0)=false:=su j;rw[q,aq j];refine sm (a2 dV s) ?_
  and_intros<;>first|exact .dq|omega|skip
  all_goals simp
def BI(b:aJ)(n:Int)(a:b.small)(hr:∀p∈b.qs,p.gq):Sq 293 [] [.agg b.cells,.int .i64 n] [] (.bD [.agg (iE b n).cells,.int .i64 (jd b n)]):=by
 refine Spec.frozen (Na b n a hr) [0,1] rfl ?_;intro r;rcases r with _| _|r<;>rfl
def MA(b:aJ)(n:Int)(a:b.small):(iE b n).small:=by
 unfold iE;split
 ·refine⟨by simpa[Zv]using a.1,?_⟩;have:=Ei b (mm (fS n b.ts) true) 16;show(AG b (mm (fS n b.ts) true) 16).length<_;omega
 ·exact⟨by simp,by simp⟩
def aec{b:aJ}{g:List aE}{w n:Int}(d:jB w)(c:jB n)(h:xQ b g w n=true):∀p∈ID b g w n,p.gq:=by
 intro p a;unfold ID at a;split at a
 ·cases a
 ·obtain rfl:=iD.1 a;simp only[xQ,cU]at h;exact⟨d,c,vq h.1,vq h.2.1⟩
def uG{b:aJ}{g:List aE}{p:aE}:∀{i:Nat},p∈AG b g i->∃k m:Nat,k<i/\m<8/\p∈ID b g ((k:Int)+1) ((m:Int)+1):=by
 intro i a;obtain⟨k,c,a⟩:=mem_flatMap.1 a;obtain⟨m,d,a⟩:=mem_flatMap.1 a;exact⟨k,m,mem_range.1 c,mem_range.1 d,a⟩
def Jg{b:aJ}{g:List aE}(h:vY b g=true){k m:Nat}(a:k<16)(c:m<8):xQ b g ((k:Int)+1) ((m:Int)+1)=true:=by
 have:=cg.1 h k (mem_range.2 a);exact cg.1 this m (mem_range.2 c)
def F4{b:aJ}{g:List aE}(h:kR b g=0):g.all mK=true/\Bc g=true/\vY b g=true:=by
 unfold kR at h;split at h
 ·split at h
  ·split at h
   ·split at h
    ·exact⟨by assumption,by assumption,by assumption⟩
    ·cases h
   ·cases h
  ·cases h
 ·cases h
def W7{b:aJ}{g:List aE}(h:kR b g=0):∀p∈AG b g 16,p.gq:=by
 intro p a;obtain⟨k,m,c,d,a⟩:=uG a;exact aec ⟨by omega,by omega⟩ ⟨by omega,by omega⟩ (Jg (F4 h).2.2 c d) p a
def yW{b:aJ}{n:Int}(h:jd b n=0):b.okB=true/\¬l8 n b.ts<0/\kR b (mm (fS n b.ts) true)=0:=by
 unfold jd at h;split at h
 ·split at h
  ·cases h
  ·exact⟨by assumption,by assumption,h⟩
 ·cases h
def So{b:aJ}{n:Int}:∀p∈(iE b n).qs,p.gq:=by
 unfold iE;split
 ·rename_i h;exact W7 (yW h).2.2
 ·intro p a;cases a
def xX(b:aJ)(n q p:Int):Int:=if jd b n=0 then kU (iE b n) { fS n b.ts with aQ:=q,aS:=p }else jd b n
def xW(b:aJ)(n q p:Int):aJ:=if jd b n=0 then om (iE b n) { fS n b.ts with aQ:=q,aS:=p }else⟨0,[],[]⟩
def JL(b:aJ)(n q p:Int):Int:=if jd b n=0 then xd (iE b n) { fS n b.ts with aQ:=q,aS:=p }else 0
def Il(b:aJ)(n q p:Int)(f:b.small)(hr:∀p∈b.qs,p.gq):Sq 294 [] [.agg b.cells,.int .i64 n,.int .i64 q,.int .i64 p] [] (.bD [.agg (xW b n q p).cells,.int .i64 (JL b n q p),.int .i64 (xX b n q p)]):=by
 have c1:=BI b n f hr;have c2:=zL b n f;have c3:=C5 (iE b n) { fS n b.ts with aQ:=q,aS:=p } (MA b n f) So;have hlt:=f.1;simp only[xX,xW,JL];obtain⟨B,g⟩:=aL (iE b n);obtain⟨T,h⟩:=aL (fS n b.ts);rw[<-g,<-h]at c3;rw[<-g]at c1;rw[<-g,<-h];simp only[aJ.cells,aT.cells]at c1 c2 c3 |-;refine aX 41 4 [.cell 8 33,.tmp 9,.tmp 10] mixed func294 ?_;refine sc aK c1 ?_;by_cases a:jd b n=0
 case neg =>
  have d:(jd b n==0)=false:=su a;rw[aq a,aq a,aq a];refine sm (a2 dV d) ?_;all_goals simp
 obtain⟨i,l,e,hon⟩:=Ba (yW a).2.1;have j:=aM (c:=aT.cells) b.ts l;have k:T=b.ts[i]:=by rw[h];simp[fS,e,l]
 have hli:(i:Int)<(b.ts.length:Int):=aj
 rw[<-k]at j;rw[e]at c2;simp only[aT.cells]at j;rw[a];refine sc j c2 ?_;exact lX aK c3
def bC(x:aF):Int:=if x.set==0 then x.aS else x.set
def eG(x:aF):Bool:=!(x.set==0&&x.aS==0)
def yJ(r:ay)(p:aE):Int:=
 if bE r p.inst then(if !eG (aU r p.inst)&&!(p.aQ==0)then 20 else if bA (gN p (aU r p.inst).mult (bC (aU r p.inst)))&&bA (p.aQ*bC (aU r p.inst))then 0 else 1)else 10
def lG(r:ay):List aE->Int
 | []=>0
 |p::t=>if yJ r p=0 then lG r t else yJ r p
def pz(r:ay)(p:aE):aH:=⟨p.who,(aU r p.inst).cur,gN p (aU r p.inst).mult (bC (aU r p.inst))⟩
def mw(r:ay)(p:aE):List aE:=if p.aQ==0&&p.aQ*bC (aU r p.inst)==0 then[]else[⟨p.who,p.inst,p.aQ,p.aQ*bC (aU r p.inst)⟩]
def oW(r:ay)(b:aJ):Int:=if r.okB&&b.okB then lG r b.qs else 14
def rV(r:ay)(b:aJ):aJ:=if oW r b=0 then⟨b.next,b.ts,b.qs.flatMap (mw r)⟩else⟨0,[],[]⟩
def lU(r:ay)(b:aJ):List aH:=if oW r b=0 then b.qs.map (pz r)else[]
def uy(b:aJ)(h:b.small):Sq 247 [] [.agg b.cells] [] (.agg b.cells):=by
 refine Spec.frozen (xI b h) [0,1] rfl ?_;intro r;rcases r with _| _|r<;>rfl
def Hp{x:aF}(h:x.ok=true):0<=bC x/\bC x<=1073741824:=by
 simp only[aF.ok,within,cU,bO]at h;unfold bC;split<;>omega
def AK{b:aJ}(h:b.okB=true):∀p∈b.qs,p.okB=true:=by
 intro p c;simp only[aJ.okB,cU]at h;obtain⟨i,a,rfl⟩:=mem_iff_getElem.1 c;exact Qc h.1 a
def BB{p:aE}(h:p.okB=true):-1099511627776<=p.aQ/\p.aQ<=1099511627776/\bA p.cost=true:=by
 simp only[aE.okB,within,cU,bO]at h;exact⟨h.2.1.1,h.2.1.2,h.2.2.1⟩
def Wr(r:ay)(b:aJ)(h:r.jQ)(R:b.small)(hr:∀p∈b.qs,p.gq):Sq 295 [] [.agg r.cells,.agg b.cells] [.own 4 ((rV r b).qs.map aE.cells),.own 3 ((lU r b).map aH.cells)] (.bD [.agg [.I (rV r b).next,.sl 7 ((rV r b).ts.map aT.cells),.ref 0],.ref 1,.I (oW r b)]):=by
 have c1:=gW r h.small;have c2:=mV b R hr;have c3:=λn=>fu r n h.small;have c4:=uy b R;have B:=R.2;simp only[ay.cells,aJ.cells]at c1 c2 c3 c4 |-;refine aX 117 2 [.cell 4 33,.tmp 5,.tmp 6] mixed func295 ?_;refine sc aK c1 ?_;cases E:r.okB
 ·have e:oW r b=14:=by simp[oW,E]
  simp only[go_sem,seval,rV,lU,e];all_goals simp
 refine sc aK c2 ?_;cases N:b.okB
 ·have e:oW r b=14:=by simp[oW,E,N]
  simp only[go_sem,seval,rV,lU,e];all_goals simp
 have e:oW r b=lG r b.qs:=by simp[oW,E,N]
 have s:=AK N;simp only[rV,lU];rw[e];clear e c1 c2;refine s0 ?_;refine aV ?_;refine az.aP c4 ?_;clear c4;refine s0 ?_;refine aV ?_;refine aG.wu b.qs.length [2,3,4,7] [48,64,80] (λi=>[(9,.I i),(8,.ref 1552)]) (λi=>[(128,.box [.I b.next,.sl 7 (b.ts.map aT.cells),.ref 1824]),(1552,.own 3 (((b.qs.take i).map (pz r)).map aH.cells)),(1824,.own 4 (((b.qs.take i).flatMap (mw r)).map aE.cells))]) (λi=>lG r (b.qs.drop i)=lG r b.qs) rfl ?_ ?_ ?_
 ·exact jh
 ·intro i _ q S v a;have U:=aM (c:=aE.cells) b.qs q;have hli:(i:Int)<(b.qs.length:Int):=aj
  have hlt:(b.qs.take i).length=i:=by simp;omega
  have o:=gU (mw r) q;have B:((b.qs.take i).flatMap (mw r)).length<=i:=by
   have:=gJ (f:=mw r) (m:=1) (λp=>by unfold mw;split<;>simp) (b.qs.take i);omega
  have y:(b.qs.take (i+1)).map (pz r)=(b.qs.take i).map (pz r)++[pz r b.qs[i]]:=by rw[j7 q,jv];rfl
  obtain⟨n1,n2,Z⟩:=BB (s b.qs[i] (dH q));obtain⟨p,A⟩:=aL (b.qs[i]);obtain⟨Q,J⟩:=aL ((b.qs.take i).flatMap (mw r));obtain⟨L,H⟩:=aL ((b.qs.take i).map (pz r));have hLl:L.length=i:=by rw[H];simp;omega
  have t:=c3 p.inst;have d:=λhh=>x9 (r:=r) (n:=p.inst) E hh;obtain⟨x,M⟩:=aL (aU r p.inst);rw[dI q,<-A]at a;simp only[lG,yJ,<-M]at a;rw[<-A,<-J]at o;rw[<-A,<-H]at y;rw[<-J]at B;simp only[mw,<-M]at o;simp only[pz,<-M]at y;rw[<-A]at U n1 n2 Z;rw[<-M]at t d;rw[<-J,<-H];simp only[aE.cells]at U;simp only[aF.cells]at t;clear c3 J H A s;refine sc (a2 S U) t ?_;cases D:bE r p.inst
  ·simp only[D,iI,if_false]at a;have j:lG r b.qs=10:=a.symm;refine sm (a2 D j) ?_;all_goals simp
  simp only[D,if_true]at a;have d:=d D;have V:=Hp d;have hmu:=(qq d).1;have O:=tH x;have F:=xF p x.mult (bC x) ⟨by omega,by omega⟩ Z aj V;have P:=HB p.aQ (bC x) ⟨by omega,by omega⟩ ⟨by omega,by omega⟩;have Y:(if x.set==0 then x.aS else x.set)=bC x:=rfl;have X:(!(x.set==0&&x.aS==0))=eG x:=rfl;rw[Y,X]at O;obtain⟨W,K⟩:=aL (gN p x.mult (bC x));obtain⟨C,G⟩:=aL (p.aQ*bC x);rw[<-K]at F;rw[<-G]at P;rw[<-K,<-G]at a;rw[<-G]at o;rw[<-K]at y;simp only[aF.cells]at O;simp only[aE.cells]at F;clear Y X K G;refine sc D O ?_;cases z:eG x
  case false =>
   cases k:p.aQ==0
   ·simp only[z,k,Bool.not_false,Bool.and_self,if_true]at a;have j:lG r b.qs=20:=a.symm;refine sm (a4 z dV k j) ?_;all_goals simp
   simp only[z,k,Bool.not_true,Bool.and_false,iI,if_false]at a;refine sm (a3 z dV k) ?_;refine sc aK F ?_;refine sc aK P ?_;cases g:bA W
   ·simp only[g,dU,iI,if_false]at a;have j:lG r b.qs=1:=a.symm;refine sm (a2 g j) ?_;all_goals simp
   cases l:bA C
   ·simp only[g,l,Bool.and_false,iI,if_false]at a;have j:lG r b.qs=1:=a.symm;refine sm (a3 g l j) ?_;all_goals simp
   simp only[g,l,Bool.and_self,if_true]at a;cases w:C==0
   ·simp only[k,w,Bool.and_false,iI,if_false]at o;refine sm (a5 g l dV k (a2 w v)) ?_;refine aV ?_;refine ah.u q a ?_;exact gH (a2 o y)
   ·simp only[k,w,Bool.and_self,if_true,append_nil]at o;refine sm (a5 g l dV k (a2 w v)) ?_;refine aV ?_;refine ah.u q a ?_;exact gH (a2 o y)
  simp only[z,Bool.not_true,dU,iI,if_false]at a;refine sc z F ?_;refine sc aK P ?_;cases g:bA W
  ·simp only[g,dU,iI,if_false]at a;have j:lG r b.qs=1:=a.symm;refine sm (a2 g j) ?_;all_goals simp
  cases l:bA C
  ·simp only[g,l,Bool.and_false,iI,if_false]at a;have j:lG r b.qs=1:=a.symm;refine sm (a3 g l j) ?_;all_goals simp
  simp only[g,l,Bool.and_self,if_true]at a
  cases k:p.aQ==0<;>cases w:C==0<;>(
   simp only[k,w,Bool.and_self,Bool.and_false,dU,iI,if_false,if_true,append_nil]at o;refine sm (a5 g l dV k (a2 w v)) ?_;refine aV ?_;try refine ah.u q a ?_
   try simp only[go_sem,seval,o,y])
  all_goals simp
 ·intro _ T a;rw[jJ]at a;have j:lG r b.qs=0:=a.symm;simp only[go_sem,seval,T,j,eU];all_goals simp
def Um(r:ay)(b:aJ)(h:r.jQ)(a:b.small)(hr:∀p∈b.qs,p.gq):Sq 295 [] [.agg r.cells,.agg b.cells] [] (.bD [.agg (rV r b).cells,.sl 3 ((lU r b).map aH.cells),.I (oW r b)]):=by
 refine Spec.frozen (Wr r b h a hr) [0,1] rfl ?_;intro r;rcases r with _| _|r<;>rfl
def nh(b:bn):Bool:=within b.aQ 1 1048576&&within b.aS 1 1073741824
def mF:Int->List bn->List dX×Int
 |left,[]=>([],left)
 |left,b::r=>if 0<left then(⟨b.src,min left b.aQ,b.aS⟩::(mF (left-min left b.aQ) r).1,(mF (left-min left b.aQ) r).2)else([],left)
def mD(q:Int)(l:List bn):Int:=if within q (-1099511627776) 1099511627776&&l.all nh then 0 else 3
def jz(q:Int)(l:List bn):List dX×Int:=if mD q l=0 then mF (max q (-q)) (zC (decide (0<q)) l)else([],0)
theorem Oa:∀(l:List bn)(a:Int),(mF a l).1.length<=l.length
 | [],_=>fO _
 |b::r,a=>by
  simp only[mF];split
  ·have:=Oa r (a-min a b.aQ);simp only[length_cons];omega
  ·simp
def Uf(q:Int)(l:List bn)(hl:l.length<2^28):Sq 352 [] [.int .i64 q,.sl 5 (l.map bn.cells)] [.own 3 ((jz q l).1.map dX.cells)] (.bD [.ref 0,.int .i64 (jz q l).2,.int .i64 (mD q l)]):=by
 have c1:=j5 q (-1099511627776) 1099511627776;have c2:=Nh (decide (0<q)) l aj;have G:(zC (decide (0<q)) l).length=l.length:=by rw[zC,ET];simp
 refine aX 83 2 [.tmp 4,.tmp 5,.tmp 6] mixed func352 ?_;refine sc aK c1 ?_;cases E:within q (-1099511627776) 1099511627776
 ·have e:mD q l=3:=by simp[mD,E]
  simp only[go_sem,seval,jz,e]<;>simp
 have e:mD q l=if l.all nh then 0 else 3:=by simp[mD,E]
 have hq:-1099511627776<=q/\q<=1099511627776:=by simpa[within]using E
 simp only[jz];rw[e];clear e c1;simp only[go_sem,seval];refine aG.w1 l.length 7 [0,1] [] (λi _=>(l.drop i).all nh=l.all nh) rfl ?_ ?_
 ·intro i _ t k y h;have p:=aM (c:=bn.cells) l t;have F:(i:Int)<(l.length:Int):=aj
  obtain⟨x,z⟩:=aL (l[i]);have k1:=j5 x.aQ 1 1048576;have k2:=j5 x.aS 1 1073741824;rw[dI t,<-z]at h;rw[<-z]at p;simp only[all_cons,nh]at h;simp only[bn.cells]at p;clear c2;refine sc (a2 k p) k1 ?_;cases B:within x.aQ 1 1048576
  ·rw[B,dU,dU]at h;have w:l.all nh=false:=h.symm;exact gH (a2 B w)
  refine sc (a2 B p) k2 ?_;cases C:within x.aS 1 1073741824
  ·rw[B,C,Bool.and_false,dU]at h;have w:l.all nh=false:=h.symm;exact gH (a2 C w)
  rw[B,C,Bool.and_self,cz]at h;simp only[go_sem,seval,C,y];refine ah.u t h ?_;simp only[go_sem,seval]
 intro _ n h;rw[jJ]at h;have h:l.all nh=true:=h.symm;have v:∀b∈zC (decide (0<q)) l,nh b=true:=by
  have key:∀(long:Bool)(m out:List bn),(∀b∈out,nh b=true)->(∀b∈m,nh b=true)->∀b∈DG long out m,nh b=true:=by
   intro long m;induction m with
   |nil=>intro out f _;exact f
   |cons x r ih =>
    intro out f g;refine ih _ ?_ λb j=>g b (by simp[j]);intro b j;rcases mem_append.1 j with j|j
    ·exact f b (mem_of_mem_take j)
    ·rcases mem_cons.1 j with rfl|j
     ·exact g b sT
     ·exact f b (mem_of_mem_drop j)
  exact key _ l [] sT λb j=>cg.1 h b j
 rw[h];clear h;obtain⟨o,I⟩:=aL (zC (decide (0<q)) l);rw[<-I]at c2 G v |-;have H:IntKind.wrap .i64 (0-q) = -q:=fU;refine sc (a2 n H) c2 ?_;refine aV ?_;clear c2 n;refine aG.rT (S:=List dX×Int) o.length [9] [] (λi s=>[(11,.int .i64 i),(8,.int .i64 s.2),(10,.ref 1296)]) (λi s=>[(1296,.own 3 (s.1.map dX.cells))]) (λi s=>(s.1++(mF s.2 (o.drop i)).1=(mF (max q (-q)) o).1/\(mF s.2 (o.drop i)).2=(mF (max q (-q)) o).2)/\s.1.length=i/\(0<=s.2/\s.2<=1099511627776)) ([],max q (-q)) ⟨⟨rfl,rfl⟩,rfl,by omega⟩ ?_ ?_ ?_
 ·exact jh
 ·rintro i ⟨L,a⟩ t k y ⟨⟨f,g⟩,h3,h4⟩;dsimp only at f g h3 h4;have p:=aM (c:=bn.cells) o t;have F:(i:Int)<(o.length:Int):=aj
  have A:=v _ (dH t);obtain⟨x,z⟩:=aL (o[i]);rw[dI t,<-z]at f g;rw[<-z]at p A;simp only[nh,within,cU,bO]at A;simp only[mF]at f g;simp only[bn.cells]at p;by_cases D:0<a
  ·have d:decide (0<a)=true:=dw D;rw[au D]at f g;have J:IntKind.wrap .i64 (a-min a x.aQ)=a-min a x.aQ:=gx aj aj;simp only[go_sem,seval,k,p,d,J,y];refine aV ?_;refine ah.jP (L++[⟨x.src,min a x.aQ,x.aS⟩],a-min a x.aQ) t ⟨⟨by rw[dS];exact f,g⟩,by simp[h3],by dsimp only;omega⟩ ?_;exact jh
  ·have d:decide (0<a)=false:=gB D;rw[aq D]at f g;rw[append_nil]at f;simp only[go_sem,seval,k,p,d,if_true,<-f,<-g];all_goals simp
 ·rintro⟨L,a⟩ n ⟨⟨f,g⟩,h3,h4⟩;dsimp only at f g;rw[jJ]at f g;simp only[mF,append_nil]at f g;simp only[go_sem,seval,n,if_true,<-f,<-g];all_goals simp
def sP(q n:Int)(p:aE):Bool:=p.inst==n&&((decide (0<q)&&decide (p.aQ<0))||(decide (q<0)&&decide (0<p.aQ)))
def uv(q n:Int)(l:List aE):List Int:=pick (sP q n) aE.who l
def kk(q n:Int)(l:List aE):List Int:=pick (sP q n) (λp=>max p.aQ (-p.aQ)) l
def Ni(b:aJ)(w n:Int)(t:b.small)(hr:∀p∈b.qs,-1099511627776<=p.aQ/\p.aQ<=1099511627776):Sq 371 [] [.agg b.cells,.agg [.int .i64 w,.int .i64 n]] [.own 1 (ints (uv (posOf w n b.qs).aQ n b.qs)),.own 1 (ints (kk (posOf w n b.qs).aQ n b.qs))] (.bD [.ref 0,.ref 1]):=by
 have c1:=oS b w n t;have hbl:=t.2;obtain⟨p,u⟩:=aL (posOf w n b.qs);rw[<-u]at c1 |-;simp only[aJ.cells,aE.cells]at c1 |-;clear u;refine aX 68 2 [.tmp 4,.tmp 5] mixed func371 ?_;refine sc aK c1 ?_;refine aV ?_;clear c1;refine aG.wv b.qs.length [2,3,6] [48,64] (λi=>[(9,.int .i64 i),(7,.ref 912),(8,.ref 1056)]) (λi=>[(912,.own 1 (ints (uv p.aQ n (b.qs.take i)))),(1056,.own 1 (ints (kk p.aQ n (b.qs.take i))))]) ?_ ?_ ?_
 ·simp only[go_sem,seval]<;>simp[uv,kk,pick,ints]
 ·intro i _ e f g _;have h:=aM (c:=aE.cells) b.qs e;have a:ints (uv p.aQ n (b.qs.take (i+1)))=ints (uv p.aQ n (b.qs.take i))++_:=ga (sP p.aQ n) aE.who e;have d:ints (kk p.aQ n (b.qs.take (i+1)))=ints (kk p.aQ n (b.qs.take i))++_:=ga (sP p.aQ n) (λp=>max p.aQ (-p.aQ)) e;have l:(uv p.aQ n (b.qs.take i)).length<=(b.qs.take i).length:=bR _ _ _;have m:(kk p.aQ n (b.qs.take i)).length<=(b.qs.take i).length:=bR _ _ _;have hlt:(b.qs.take i).length=i:=by simp;omega
  have hli:(i:Int)<(b.qs.length:Int):=aj
  have q:=hr _ (dH e);obtain⟨L,r⟩:=aL (uv p.aQ n (b.qs.take i));obtain⟨M,s⟩:=aL (kk p.aQ n (b.qs.take i));obtain⟨x,C⟩:=aL (b.qs[i]);rw[<-r]at a l;rw[<-s]at d m;rw[<-C]at a d h q;rw[<-r,<-s];have o:IntKind.wrap .i64 (0-x.aQ) = -x.aQ:=fU;simp only[sP]at a d;simp only[aE.cells]at h;cases j:x.inst==n
  ·simp only[j,dU,iI,if_false,append_nil]at a d;simp only[go_sem,seval,f,h,j,g];refine aV ?_;refine ah.v e ?_;simp only[go_sem,seval,a,d]
  cases y:decide (0<p.aQ)<;>cases z:decide (x.aQ<0)<;>cases A:decide (p.aQ<0)<;>cases B:decide (0<x.aQ)<;>(
   simp only[j,y,z,A,B,cz,dU,Bool.and_self,Bool.and_false,Bool.or_self,Bool.or_false,Bool.false_or,Bool.or_true,Bool.true_or,iI,if_false,if_true,append_nil]at a d;simp only[go_sem,seval,f,h,j,y,z,A,B,o,g,aA];refine aV ?_;refine ah.v e ?_
   simp only[go_sem,seval,a,d])
 ·intro _ k _;simp only[go_sem,seval,k,eU]
def Bt(x:aF):Sq 102 [] [.agg x.cells] [] (.bD [.I (bC x),.I (if eG x then 0 else 20)]):=by
 cases a:x.set==0
 ·have c:bC x=x.set:=by rw[bC,a];rfl
  have e2:eG x=true:=by rw[eG,a];rfl
  rw[c,e2];simp only[aF.cells];refine aX 16 1 [.tmp 2,.tmp 3] mixed func102 ?_;exact eo (a2 dV a)
 ·have c:bC x=x.aS:=by rw[bC,a];rfl
  cases b:x.aS==0
  ·have e2:eG x=true:=by rw[eG,a,b];rfl
   rw[c,e2];simp only[aF.cells];refine aX 16 1 [.tmp 2,.tmp 3] mixed func102 ?_;exact eo (a3 dV a b)
  ·have e2:eG x=false:=by rw[eG,a,b];rfl
   have d:x.aS=0:=su b;rw[c,e2,d];rw[d]at b;simp only[aF.cells];refine aX 16 1 [.tmp 2,.tmp 3] mixed func102 ?_;exact eo (a3 dV a d)
def Mj(p:aE)(m c:Int)(hq:-1099511627776<=p.aQ/\p.aQ<=1099511627776)(D:bA p.cost=true)(hm:1<=m/\m<=1024)(hp:0<=c/\c<=1073741824):Sq 122 [] [.agg p.cells,.I m,.I c] [] (.bD [.I (if bA (gN p m c)then gN p m c else 0),.I (if bA (gN p m c)then 0 else 1)]):=by
 have u:=bf.1 D;have s:=eH [p.cost] sT;rw[zN,D]at s;simp only[ints,map_cons,map_nil]at s;have k1:=iK (a:=m) (b:=p.aQ) (A:=1024) (B:=1099511627776) aj aj;have k2:=iK (a:=m*p.aQ) (b:=c) (A:=1125899906842624) (B:=1073741824) aj aj;have k3:=iK (a:=-p.cost) (b:=m) (A:=4611686018427387904) (B:=1024) aj aj;have v:IntKind.wrap .i64 (m*p.aQ)=m*p.aQ:=gx aj aj;have K:IntKind.wrap .i64 (-p.cost) = -p.cost:=gx aj aj;have w:IntKind.wrap .i64 (0-p.cost) = -p.cost:=fU;have e:=oG (m*p.aQ) c ⟨by omega,by omega⟩ ⟨by omega,by omega⟩;have q:=oG (-p.cost) m ⟨by omega,by omega⟩ ⟨by omega,by omega⟩;have H:xK (m*p.aQ*c)=true:=by simp only[xK,cU,bO];omega
 have J:xK (-p.cost*m)=true:=by simp only[xK,cU,bO];omega
 have d:=zX [m*p.aQ*c,-p.cost*m] sT (by intro n E;simp only[mem_cons,not_mem_nil,or_false]at E;rcases E with rfl|rfl<;>assumption);have o:m*p.aQ*c=p.aQ*(c*m):=by rw[Int.mul_comm m,Int.mul_assoc,Int.mul_comm m c]
 have l:aC [m*p.aQ*c,-p.cost*m]=gN p m c:=by rw[o];simp[aC,gN]
 have G:xK (gN p m c)=true:=by
  have F:gN p m c=m*p.aQ*c + -p.cost*m:=by rw[o];rfl
  rw[F];clear F l d q e;simp only[xK,cU,bO];constructor<;>omega
 rw[l,G,au rfl,au rfl]at d;have r:=oZ (gN p m c);simp only[sC,wd,map_cons,map_nil]at d r;have j:decide (p.aQ < -1099511627776)=false:=lJ;have k:decide (1099511627776<p.aQ)=false:=lJ;have f:decide (m<1)=false:=lJ;have g:decide (1024<m)=false:=lJ;have h:decide (c<0)=false:=lJ;have i:decide (1073741824<c)=false:=lJ;simp only[aE.cells];obtain⟨Q,t⟩:=aL (m*p.aQ);rw[<-t]at e d;replace v:=v.trans t.symm;obtain⟨A,x⟩:=aL (Q*c);obtain⟨B,y⟩:=aL (-p.cost*m);obtain⟨C,z⟩:=aL (gN p m c);rw[<-x]at e d;rw[<-y]at q d;rw[<-z]at d r |-;clear x y z k1 k2 k3 H J l G u o t;refine aX 64 3 [.tmp 6,.tmp 7] mixed func122 ?_;refine sl (a5 j k f g (a3 h i v)) s ?_;refine sc (a2 K w) e ?_;refine sc aK q ?_;refine sl aK d ?_;exact lX aK r
