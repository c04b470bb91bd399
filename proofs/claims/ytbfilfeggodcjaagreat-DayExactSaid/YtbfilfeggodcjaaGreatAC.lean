/- The evaluator, part 3; no theorem of a claim. -/
import Derived.Test.YtbfilfeggodcjaaGreatAB
set_option linter.all false
namespace Go.Abs
open Go.RowKit
variable{l off j r c by_ c2 off2 r2 l2 b2 N:Nat}{cs cs2 as:List D}{ea f:Bool}{b:Array (Nat×Operand)}{y x:Operand}
section
variable{P:Program}{n:Nat}{e:Env}{K:Env->Prop}{T T2 ty:TypeId}{d:Nat}{pos:String}{after:Array Edge}{gu:Option (Nat×Bool)}
variable{w0 w w':World}{l0:Nat->Option Nat}{G:Nat->Option (Nat×Nat)}{S0:Nat->Option Value}{lev own:Nat->Option Nat}{S:Nat->Option Value}{tm:Nat->Value}
def ahy(cs:List D):List (List D):=cs.map λd=>[d]
end
end Go.Abs
namespace Go.Abs
open List
open Go.RowKit
variable{l off j r c by_ c2 off2 r2 l2 b2 N M z:Nat}{cs cs2 as:List D}{ea f:Bool}{b:Array (Nat×Operand)}{y x:Operand}{rows:List (List D)}
section
variable{P:Program}{n:Nat}{e:Env}{K:Env->Prop}{T T2 ty:TypeId}{d:Nat}{pos:String}{after:Array Edge}{gu:Option (Nat×Bool)}
variable{w0 w w' w2:World}{l0:Nat->Option Nat}{G:Nat->Option (Nat×Nat)}{S0:Nat->Option Value}{lev own lev2 own2:Nat->Option Nat}{S S2:Nat->Option Value}{tm:Nat->Value}{env:Env}
def Cu(h:Inv w0 l0 G S0 w lev own S e tm){v:Value}(hr:aD (cx w lev S) v (.bz r 0 z 1 c))(F:e.o r=.box cs)(I:cs.length=z)(t:∀x∈cs,cG x):pQ w (cx w lev S) v z [cs]:=by
 obtain⟨a,C,k,D,rfl,O,Q,R,rfl,q4⟩:=hr.eg;have E:=h.xy F D;refine⟨C,k,rfl,Q,?_,?_,?_,?_⟩
 ·intro row g;rw[kK.1 g];exact I
 ·intro row g;rw[kK.1 g];exact t
 ·intro J;have:=R J;omega
 ·intro ad m i j row x p H;have B:=O (by omega);rw[m]at B;obtain rfl:=Option.some.inj B;cases i with
  |zero =>
   simp only[getElem?_cons_zero,gy]at p;subst p;obtain⟨u,L,A⟩:=E _ _ H;exact⟨u,by rw[show 0*z+j=j by omega];exact L,A⟩
  |succ i=>simp at p
def KZ(hT:bY P T=.slice z by_ ea)(I:∃e,P.underlying T2=some (.slice e)){a a2:Option Addr}{cap cap2 n m:Nat}{g news:List Value}(h:g.length=n*z)(F:news.length=m*z)
  (hx:(Builtin.firstCells z n (.slice a n cap)).run P w.drew=.ok g.toArray w.drew) (hy:(Builtin.firstCells z m (.slice a2 m cap2)).run P w.drew=.ok news.toArray w.drew) (D:¬n+m<=cap) (Y:(by_+1)*(n+m)<=2^45) (hby:by_<=2^32) (T3:TypeId) :
  ∃(N:Nat)(e:TypeId)(cells:Array Value),n+m<=N/\cells.size=N*z /\
   (Builtin.append_ #[T,T2] T3 #[.slice a n cap,.slice a2 m cap2]).run P w=.ok (.slice (some ⟨w.heap.size,0,none⟩) (n+m) N) (w.drew.alloc (.cells cells e)) /\
   (∀j,j<n*z->cells[j]?=g[j]?)/\∀j,j<m*z->cells[n*z+j]?=news[j]?:=by
 obtain⟨e,i,hu,hl,o,L,hz,X,V,W⟩:=bK hT;obtain⟨e2,R⟩:=I;have hroom:Builtin.nextslicecap (n+m) cap*by_<=2^48:=by
  have t:=nextslicecap_le (m:=n+m) (c:=cap) (by omega);have h1:Builtin.nextslicecap (n+m) cap*by_<=(2*(n+m)+192)*by_:=gK _ t;have h2:by_*(n+m)<=2^45:=Nat.le_trans (by rw[Nat.succ_mul];omega) Y;have h3:(2*(n+m)+192)*by_=2*(by_*(n+m))+192*by_:=by rw[Nat.add_mul,Nat.mul_assoc,Nat.mul_comm (n+m) by_]
  omega
 have hneed:n+m<=2^48:=by
  refine Nat.le_trans (Nat.le_trans ?_ Y) (by omega);rw[Nat.succ_mul];omega
 have hcl:cap<n+m:=by omega
 have k:¬Builtin.nextslicecap (n+m) cap*i.bytes>2^48:=by rw[L];omega
 obtain⟨N,B⟩:∃N,N=(Question.appendCap (n+m) cap e).cut (w.tape w.drawn (.appendCap (n+m) cap e)):=⟨_,rfl⟩
 have Z:n+m<=N:=by rw[B];simp only[Question.cut];omega
 let cells:Array Value:=g.toArray++news.toArray++Builtin.zeroCells X.cells (N-(n+m))
 have A:cells.size=N*z:=by
  simp only[cells,Builtin.zeroCells,Array.size_append,size_toArray,Array.size_map,Array.size_range,h,F,W];rw[<-Nat.add_mul,<-Nat.add_mul];congr 1;omega
 have C:∀n,(askRoom n).run P w.drew=.ok () w.drew:=by
  intro n;unfold askRoom;split<;>simp[mark,Sem.run,pure]
 have O:(Question.appendCap (n+m) cap e).forced=false:=rfl;have U:(zeroValue e).run P w.drew=.ok X w.drew:=by
  simp[zeroValue,Sem.run_bind,fB o,V,Sem.run,pure]
 have E:(typeInfo e).run P w=.ok i w:=fB o w;have p:(typeInfo e).run P w.drew=.ok i w.drew:=fB o _;refine⟨N,e,cells,Z,A,?_,?_,?_⟩
 ·have H:(newRow e cells).run P w.drew=.ok ⟨w.heap.size,0,none⟩ (w.drew.alloc (.cells cells e)):=by
   simp[newRow,newObj,Sem.run,Sem.bind,pure,bind,World.alloc]
  have RS:¬((9223372036854775807:Int)<(n:Int)+(m:Int)/\i.bytes=0):=by omega
  have J:¬ 281474976710656<Builtin.nextslicecap (n+m) cap*i.bytes:=by
   intro hh;exact k (by simpa using hh)
  have u:(newRow e (g.toArray++(news.toArray++Builtin.zeroCells X.cells (N-(n+m))))).run P w.drew=.ok ⟨w.heap.size,0,none⟩ (w.drew.alloc (.cells cells e)):=by
   rw[<-Array.append_assoc];exact H
  simp[Builtin.append_,Sem.run_bind,aT hu,aT R,aZ hl,Builtin.lenOf,D,E,RS,J,O,<-B,C,p,hx,hy,U,u,Sem.run,pure]
 ·intro j Q;simp only[cells];rw[Array.append_assoc,Array.getElem?_append_left (by simp[h];exact Q)];simp
 ·intro j Q;simp only[cells];rw[Array.append_assoc,Array.getElem?_append_right (by simp[h]),Array.getElem?_append_left (by simp[h,F];exact Q)];simp[h]

def Ic(o:Nat->D):D->D
 | .ref s=>mG (o s)
 |d=>d
def OO(o:Nat->D):D->Prop
 | .ref s=>∃z R,o s=.own z R/\∀row∈R,∀d∈row,At d
 |d=>At d
def Qb:D->Prop
 | .sl _ _=>True
 |d=>At d
theorem HN:∀{cs:List D},(D.aQ cs).Nodup->∀{j g s:Nat},cs[j]?=some (.ref s)->cs[g]?=some (.ref s)->j=g
 | [],_,_,_,_,h,_=>by simp at h
 |d::cs,hn,j,g,s,h,h'=>by
  simp only[D.aQ]at hn;obtain⟨n1,p,m⟩:=nodup_append.1 hn;have i:∀{k:Nat},cs[k]?=some (D.ref s)->s∈D.aQ cs:=λo=>cj.2 ⟨_,bM o,by simp[D.names]⟩;cases j with
  |zero =>
   cases g with
   |zero=>rfl
   |succ g =>
    simp only[getElem?_cons_zero,gy]at h;simp only[getElem?_cons_succ]at h';exact(m s (by rw[h];simp[D.names]) s (i h') rfl).elim
  |succ j =>
   cases g with
   |zero =>
    simp only[getElem?_cons_zero,gy]at h';simp only[getElem?_cons_succ]at h;exact(m s (by rw[h'];simp[D.names]) s (i h) rfl).elim
   |succ g =>
    simp only[getElem?_cons_succ]at h h';rw[HN p h h']

def Kg(h:Inv w0 l0 G S0 w lev own S env tm){bo bT cap2:Nat}{c cc:Array Value}{E:TypeId}(hr:env.o r=.iI z rows)(ae:∀row∈rows,row.length=z)(af:∀row∈rows,∀d∈row,Qb d)(ar:cs.length=z)(ad:∀d∈cs,OO env.o d)(az:(D.aQ cs).Nodup)
  (aq:lev bo=some 0->own bo=some r) (ab:∀(i j:Nat) row d,rows[i]?=some row->row[j]?=some d->∃u,c[i*z+j]?=some u/\MD w0.heap.size G w lev own r bo u d) (an:MA c (rows.length*z))
  (aa:∀(j:Nat) d,cs[j]?=some d->∃u,cc[rows.length*z+j]?=some u/\aD (cx w lev S) u d) (X:∀j,j<rows.length*z->cc[j]?=c[j]?)
  (am:S2 M=some (.slice (some ⟨bT,0,none⟩) (rows.length+1) cap2)) (ap:w2.heap[bT]?=some (.cells cc E (0,0))) (aG:cc.size=cap2*z) (ah:rows.length+1<=cap2) (ay:lev2 bT=some 0) (aB:own2 bT=some M) (au:EI G w0.heap.size bT 0 cc.size)
  (hk:∀p s,own p=some s->(s=r\/s∈D.aQ cs)->lev p=some 0->p≠bo->w2.heap[p]?=w.heap[p]?/\lev2 p=some 0/\own2 p=some M/\p≠bT) :
  gM w0.heap.size G w2 lev2 own2 S2 M (.iI z (rows++[cs.map (Ic env.o)])):=by
 have C:(rows++[cs.map (Ic env.o)]).length=rows.length+1:=by simp
 have ac:∀s,.ref s∈cs->s≠r:=by
  rintro s hs rfl;obtain⟨z1,R,h1,_⟩:=ad _ hs;rw[hr]at h1;cases h1
 -- whose a slice in a cell is
 have O:∀(m:Nat) a l k,m<rows.length*z->cc[m]?=some (.slice (some a) l k)->k≠0->own a.block=some r:=by
  intro m a l k hm A hl;have hz:z≠0:=by rintro rfl;simp at hm
  have I:m/z<rows.length:=Nat.div_lt_of_lt_mul (by rw[Nat.mul_comm];exact hm);have aE:=ae _ (cZ I);have J:m%z<(rows[m/z]).length:=by rw[aE];exact Nat.mod_lt _ (Nat.pos_of_ne_zero hz)
  obtain⟨u,Y,g⟩:=ab _ _ _ _ (ec I) (ec J);rw[show m/z*z+m%z=m by rw[Nat.mul_comm];exact Nat.div_add_mod m z,<-X m hm,A]at Y;obtain rfl:=Option.some.inj Y;have V:=af _ (cZ I) _ (cZ J);rcases g with g|g| ⟨z1,R,_,⟨a1,g,_⟩| ⟨p,c1,E1,cap1,g1,g2,g3,g4,g5,g6,g7,g8,g9,g10,g11⟩⟩
  ·exact((At.rep (V':=Pj) g.1 g.2).2.2 _ _ _ rfl).elim
  ·rw[g]at V;exact V.elim
  ·cases g;exact(hl rfl).elim
  ·cases g1;exact g8
 have B:∀(j:Nat) a l k,j<z->cc[rows.length*z+j]?=some (.slice (some a) l k)->k≠0->∃s,cs[j]?=some (.ref s)/\own a.block=some s:=by
  intro j a l k J A hl;have W:cs[j]?=some (cs[j]'(by omega)):=ec _;obtain⟨u,Y,g⟩:=aa _ _ W;rw[A]at Y;obtain rfl:=Option.some.inj Y;have V:=ad _ (bM W);generalize cs[j]'(by omega)=q at W g V;by_cases hq:∃s,q=.ref s
  ·obtain⟨s,rfl⟩:=hq;obtain⟨Z,_,_,_,hv⟩:=g.gx;obtain⟨z1,R,h1,_⟩:=V;have L:=h.objs s;rw[h1]at L;rcases L with⟨a1,F,_⟩| ⟨p,c1,E1,cap1,F,_,_,_,_,_,_,h8,_⟩
   ·simp only[cx]at Z;rw[Z]at F;cases F;exact(hl rfl).elim
   ·simp only[cx]at Z;rw[Z]at F;cases F;exact⟨s,W,h8⟩
  ·have:At q:=by cases q<;>first|exact V|exact(hq ⟨_,rfl⟩).elim
   exact((At.rep (V':=Pj) this g).2.2 _ _ _ rfl).elim
 refine .inr ⟨bT,cc,E,cap2,by rw[C];exact am,ap,aG,by rw[C];exact ah,?_,ay,aB,au,?_,?_⟩
 ·intro row t;rcases mem_append.1 t with t|t
  ·exact ae row t
  ·rw[kK.1 t];simpa using ar
 ·rw[C,Nat.succ_mul];intro m Q a a' l1 l2 k1 k2 hm hm' A H n1 n2 U;by_cases q:m<rows.length*z
  ·have o1:=O m a l1 k1 q A n1;by_cases q':Q<rows.length*z
   ·rw[X m q]at A;rw[X Q q']at H;exact an m Q a a' l1 l2 k1 k2 q q' A H n1 n2 U
   ·obtain⟨s,hs,o2⟩:=B (Q-rows.length*z) a' l2 k2 (by omega) (by rw[show rows.length*z+(Q-rows.length*z)=Q by omega];exact H) n2;rw[<-U,o1]at o2;exact(ac s (bM hs) (Option.some.inj o2).symm).elim
  ·obtain⟨s,hs,o1⟩:=B (m-rows.length*z) a l1 k1 (by omega) (by rw[show rows.length*z+(m-rows.length*z)=m by omega];exact A) n1;by_cases q':Q<rows.length*z
   ·have o2:=O Q a' l2 k2 q' H n2;rw[<-U,o1]at o2;exact(ac s (bM hs) (Option.some.inj o2)).elim
   ·obtain⟨s',aF,o2⟩:=B (Q-rows.length*z) a' l2 k2 (by omega) (by rw[show rows.length*z+(Q-rows.length*z)=Q by omega];exact H) n2;rw[<-U,o1]at o2;obtain rfl:=Option.some.inj o2;have:=HN az hs aF;omega
 ·intro i j row x I J;by_cases q:i<rows.length
  ·rw[getElem?_append_left q]at I;have ax:j<z:=by rw[<-ae row (bM I)];exact(cJ.1 J).1
   obtain⟨u,Y,g⟩:=ab i j row x I J;refine⟨u,(X _ (j7 ax q)).trans Y,?_⟩;rcases g with g|g| ⟨z1,R,rfl,g| ⟨p,c1,E1,cap1,g1,g2,g3,g4,g5,g6,g7,g8,g9,g10,g11⟩⟩
   ·exact .inl g
   ·exact .inr (.inl g)
   ·exact .inr (.inr ⟨z1,R,rfl,.inl g⟩)
   ·obtain⟨k1,k2,k3,k4⟩:=hk p r g8 (.inl rfl) g7 g9;exact .inr (.inr ⟨z1,R,rfl,.inr ⟨p,c1,E1,cap1,g1,k1.trans g2,g3,g4,g5,g6,k2,k3,k4,g10,g11⟩⟩)
  ·have aw:=(cJ.1 I).1;rw[C]at aw;have av:i=rows.length:=by omega
   subst av;rw[getElem?_append_right (cX _)]at I;simp only[Nat.sub_self,getElem?_cons_zero,gy]at I;subst I;simp only[getElem?_map]at J;cases A:cs[j]? with
   |none=>rw[A]at J;cases J
   |some q =>
    rw[A]at J;cases J;obtain⟨u,Y,g⟩:=aa j q A;refine⟨u,Y,?_⟩;have V:=ad _ (bM A);by_cases hq:∃s,q=.ref s
    ·obtain⟨s,rfl⟩:=hq;obtain⟨Z,a1,l1,aI,rfl⟩:=g.gx;obtain⟨z1,R,h1,hR⟩:=V;simp only[Ic,h1,mG];have L:=h.objs s;rw[h1]at L;simp only[cx]at Z;rcases L with⟨a1,F,rfl⟩| ⟨p,c1,E1,cap1,F,h3,h4,h5,h6,h7,h8,h9,h10,h11⟩
     ·rw[Z]at F;cases F;exact .inr (.inr ⟨z1,[],rfl,.inl ⟨_,rfl,rfl⟩⟩)
     ·rw[Z]at F;cases F;have aA:s∈D.aQ cs:=cj.2 ⟨_,bM A,by simp[D.names]⟩;have ao:p≠bo:=by
       rintro rfl;have:=aq h8;rw[h9]at this;exact ac s (bM A) (Option.some.inj this)
      obtain⟨k1,k2,k3,k4⟩:=hk p s h9 (.inr aA) h8 ao;by_cases ag:aI=0
      ·subst ag;have al:R=[]:=length_eq_zero_iff.1 (by omega);subst al;exact .inr (.inr ⟨z1,[],rfl,.inl ⟨_,rfl,rfl⟩⟩)
      refine .inr (.inr ⟨z1,R,rfl,.inr ⟨p,c1,E1,_,rfl,k1.trans h3,h4,h5,h6,h7,k2,k3,k4,h10,?_,ag⟩⟩);intro i' j' ak x' ai aj;obtain⟨u',aH,aC⟩:=h11 i' j' ak x' ai aj;exact⟨u',aH,(At.rep (hR _ (bM ai) _ (bM aj)) aC).1⟩
    ·have h0:At q:=by cases q<;>first|exact V|exact(hq ⟨_,rfl⟩).elim
     have:Ic env.o q=q:=by cases q<;>first|rfl|exact(hq ⟨_,rfl⟩).elim
     rw[this];exact .inl ⟨h0,(At.rep h0 g).1⟩
def OO.cG{o:Nat->D}{d:D}(h:OO o d):cG d:=by cases d<;>first|exact h.elim|exact aI
def Inv.II(h:Inv w0 l0 G S0 w lev own S env tm){vx vy:Value}(hr:env.o r=.iI z rows)(J:∀row∈rows,∀d∈row,Qb d)(hN:env.o N=.box cs)(Q:cs.length=z)(U:∀d∈cs,OO env.o d)(aq:(D.aQ cs).Nodup)
  (al:16<=M) (hf:(fQ (r::N::D.aQ cs) env).o M=.undef) (hT:bY P T=.slice z by_ ea) (an:∃e,P.underlying T2=some (.slice e)) (hx:S r=some vx) (hy:aD (cx w lev S) vy (.bz N 0 z 1 c2)) (hb:(by_+1)*(rows.length+1)<=2^45) (ay:by_<=2^32) (T3:TypeId) :
  ∃v w' lev' own' S',(Builtin.append_ #[T,T2] T3 #[vx,vy]).run P w=.ok v w'/\Inv w0 l0 G S0 w' lev' own' S' (bu (fQ (r::N::D.aQ cs) env) M (.iI z (rows++[cs.map (Ic env.o)]))) tm/\S' M=some v/\∃a l c,v=.slice a l c:=by
 obtain⟨Sk,hk,hSk⟩:=h.gN (r::N::D.aQ cs);have hz:z≠0:=by obtain⟨_,_,_,_,_,_,hz,_⟩:=bK hT;exact hz
 have aj:=Cu h hy hN Q λx hx=>(U x hx).cG;obtain⟨news,aB,ag,ar,ap⟩:=nU (P:=P) (w:=w) hz aj;obtain⟨ak,aa,Z,au,-⟩:=nU (P:=P) (w:=w.drew) hz (aj.at (w':=w.drew) rfl);obtain⟨a2,cap2,rfl,_⟩:=aj;simp only[length_singleton,Nat.one_mul]at ag Z aB aa;have Y:∀(l:List Value),(∀(i j:Nat) r d,[cs][i]?=some r->r[j]?=some d->∃u,l[i*z+j]?=some u/\aD (cx w lev S) u d)->∀(j:Nat) d,cs[j]?=some d->∃u,l[j]?=some u/\aD (cx w lev S) u d:=by
  intro l B j d g;have:=B 0 j cs d rfl g;rwa[show 0*z+j=j by omega]at this
 let own2:Nat->Option Nat:=λb=>match own b with
  |some s=>if s=r\/s∈D.aQ cs then some M else some s
  |none=>none
 have ah:∀b s,own b=some s->(s=r\/s∈D.aQ cs)->own2 b=some M:=by
  intro b s hb F;simp only[own2,hb];rw[aE F]
 have ab:∀b s,own b=some s->(fQ (r::N::D.aQ cs) env).o s≠.undef->own2 b=own b:=by
  intro b s hb F;simp only[own2,hb];rw[az];rintro(rfl|hm)
  ·exact F (n8 _ (by simp))
  ·exact F (n8 _ (by simp[hm]))
 have am:Sk M=none:=hk.fresh hf;have ac:=h.objs r;rw[hr]at ac
 -- a new array
 have X:∀(a:Option Addr)(cap bo:Nat)(c:Array Value)(H:List Value),vx=.slice a rows.length cap->(lev bo=some 0->own bo=some r)->(∀row∈rows,row.length=z) ->
   (∀(i j:Nat) row d,rows[i]?=some row->row[j]?=some d->∃u,c[i*z+j]?=some u/\MD w0.heap.size G w lev own r bo u d)->MA c (rows.length*z)->H.length=rows.length*z->(∀j,j<rows.length*z->H[j]?=c[j]?) ->
   (Builtin.firstCells z rows.length (.slice a rows.length cap)).run P w.drew=.ok H.toArray w.drew->¬rows.length+1<=cap ->
   ∃v w' lev' own' S',(Builtin.append_ #[T,T2] T3 #[vx,.slice a2 [cs].length cap2]).run P w=.ok v w'/\Inv w0 l0 G S0 w' lev' own' S' (bu (fQ (r::N::D.aQ cs) env) M (.iI z (rows++[cs.map (Ic env.o)]))) tm/\S' M=some v/\∃a l c,v=.slice a l c:=by
  intro a cap bo c H aI ax aG av O aF aC C k;subst aI;obtain⟨Nn,e',cells,k1,k2,k3,k4,k5⟩:=KZ (P:=P) (w:=w) hT an (n:=rows.length) (m:=1) aF (by rw[Z];omega) C aa k hb ay T3;have ao:∀L,lev L=some 0->L<w.heap.size:=λL B=>h.priv L 0 B;refine⟨_,_,fD lev w.heap.size (some 0),fD own2 w.heap.size (some M),fD Sk M (some (.slice (some ⟨w.heap.size,0,none⟩) (rows.length+1) Nn)),k3,?_,aW _ _ _,_,_,_,rfl⟩;refine hk.drew.setObj (w':=w.drew.alloc (.cells cells e')) (vm hk.drew _ _) (oU _ _ _ _) (λs F=>bN _ _ F) (λu W=>by rw[am]at W;cases W) (.inl al) ?_ ?_
  ·intro b s F p hb B;have t:=ao b B;exact⟨heap_alloc_old w.drew _ t,bN _ _ (by omega),by rw[bN _ _ (by omega)];exact ab b s hb p⟩
  ·refine Kg (bo:=bo) (bT:=w.heap.size) (cap2:=Nn) (c:=c) (cc:=cells) (E:=e') h hr aG J Q U aq ax av O ?_ ?_ (aW _ _ _) (heap_alloc_new w.drew _) k2 (by omega) (aW _ _ _) (aW _ _ _) (.inl h.size) ?_
   ·intro j d g;obtain⟨u,W,ai⟩:=Y ak au j d g;have af:=(cJ.1 g).1;exact⟨u,(k5 j (by omega)).trans W,ai⟩
   ·intro j g;rw[k4 j g,aC j g]
   ·intro L s ae F B _;have t:=ao L B;exact⟨heap_alloc_old w.drew _ t,by rw[bN _ _ (by omega)];exact B,by rw[bN _ _ (by omega)];exact ah L s ae F,by omega⟩
 rcases ac with⟨a,h1,rfl⟩| ⟨b,c,E,cap,h1,h2,h3,h4,h5,h7,h8,h9,O,h10⟩
 ·rw[h1]at hx;cases hx;refine X a 0 w.heap.size #[] [] rfl (λB=>by have:=h.priv _ _ B;omega) (by simp) (by simp) (by intro m m' _ _ _ _ _ _ hm;simp at hm) (by simp) (by simp) ?_ (by simp);cases a with
  |none=>simp[Builtin.firstCells,Sem.run,pure]
  |some ad =>
   have:=run_loadCells_list (P:=P) (w:=w.drew) ad [] (by simp);simpa[Builtin.firstCells]using this
 ·rw[h1]at hx;cases hx;by_cases k:rows.length+1<=cap
  ·obtain⟨news,ag,ar,ap,C⟩:=zQ (P:=P) (w:=w) (V:=cx w lev S) hT an (a:=some ⟨b,0,none⟩) (len:=rows.length) (cap:=cap) (Cu h hy hN Q λx hx=>(U x hx).cG) (by simpa using k) T3;simp only[length_singleton,Nat.one_mul]at ag C;have aA:(rows.length+1)*z<=cap*z:=gK z k;rw[Nat.succ_mul]at aA;have I:0+rows.length*z+news.length<=c.size:=by omega
   have aw:=eE (P:=P) b (rows.length*z) E news 0 c w h2 (by simpa using I) ap;simp only[Nat.add_zero]at aw;have A:∀j,(bL c (rows.length*z) news)[j]?=if rows.length*z<=j/\j<rows.length*z+news.length then news[j-rows.length*z]? else c[j]?:=
    λj=>gl news c _ j (by simpa using I)
   have aH:jB w lev (cO w b (bL c (rows.length*z) news) E) lev:=ig h7;refine⟨_,cO w b (bL c (rows.length*z) news) E,lev,own2,fD Sk M (some (.slice (some ⟨b,0,none⟩) (rows.length+1) cap)),C _ (by simpa[cm]using aw),?_,aW _ _ _,_,_,_,rfl⟩;refine hk.setObj (jl h h2 (bp _ _ _) h9 (λj g=>?_)) aH (λs F=>bN _ _ F) (λu W=>by rw[am]at W;cases W) (.inl al) ?_ ?_
   ·rcases g with g|g
    ·omega
    ·rw[A,az (by omega)]
   ·intro b' s F p t _;have R:b'≠b:=by
     rintro rfl;rw[h8]at t;cases t;exact p (n8 _ (by simp))
    exact⟨fU R _ _,rfl,ab b' s t p⟩
   ·refine Kg (bo:=b) (bT:=b) (cap2:=cap) (c:=c) (cc:=bL c (rows.length*z) news) (E:=E) h hr h5 J Q U aq (λ_=>h8) h10 O ?_ ?_ (aW _ _ _) (gh (lt_of_block h2) _ _) (by rw[bp];exact h3) k h7 (ah b r h8 (.inl rfl)) (by rw[bp];exact h9) ?_
    ·intro j d g;obtain⟨u,W,ai⟩:=Y news ar j d g;have af:=(cJ.1 g).1;refine⟨u,?_,ai⟩;rw[A,aE (by omega),show rows.length*z+j-rows.length*z=j by omega];exact W
    ·intro j g;rw[A,az (by omega)]
    ·intro L s ae F B R;exact⟨fU R _ _,B,ah L s ae F,R⟩
  ·refine X (some ⟨b,0,none⟩) cap b c (c.toList.take (rows.length*z)) rfl (λ_=>h8) h5 h10 O ?_ ?_ ?_ k
   ·have:rows.length*z<=cap*z:=gK z h4;simp;omega
   ·intro j g;rw[getElem?_take_of_lt g];simp
   ·have B:(c.toList.take (rows.length*z)).length=rows.length*z:=by
     have:rows.length*z<=cap*z:=gK z h4;simp;omega
    have:=run_loadCells_list (P:=P) (w:=w.drew) ⟨b,0,none⟩ (c.toList.take (rows.length*z)) ?_
    ·rw[B]at this;simpa[Builtin.firstCells]using this
    ·intro j v g;have af:j<rows.length*z:=by rw[<-B];exact(cJ.1 g).1
     rw[getElem?_take_of_lt af]at g;rw[cm,Nat.zero_add,eP w.drew b _ h2];simpa using g
def bO.II(V:bY P T=.slice z by_ ea)(A:bY P T2=.slice l b2 f)(hx:rd e x=.ref r)(hr:e.o r=.iI z rows)(hy:rd e y=.bz N 0 z 1 c2)(R:e.o N=.box cs)(C:cs.length=z)(i:∀row∈rows,∀d∈row,Qb d)(H:∀d∈cs,OO e.o d)(F:(D.aQ cs).Nodup)
  (X:d<n) (B:by_<=2^32) (W:(by_+1)*(rows.length+1)<=2^45) (Y:(fQ (r::N::D.aQ cs) e).o (nm d 0)=.undef) (O:K (bk (bu (fQ (r::N::D.aQ cs) e) (nm d 0) (.iI z (rows++[cs.map (Ic e.o)]))) d (.ref (nm d 0)))) :
  bO P n ⟨some d,.call ⟨.builtin .append,#[x,y],#[T,T2]⟩,ty,pos,after,gu⟩ e K:=by
 intro w0 l0 G S0 w lev own S a next Q h hn E g
 have k:=h.pL a rfl x;have m:=h.pL a rfl y;rw[hx]at k;rw[hy]at m;obtain⟨U,_⟩:=k.gx;have I:∃e,P.underlying T2=some (.slice e):=by
  obtain⟨e,_,hu,_⟩:=bK A;exact⟨e,hu⟩
 obtain⟨v,w',lev',own',S',p,Z,t,J,L,k1,rfl⟩:=h.II (P:=P) hr i R C H F (oM d 0) Y V I U m W B ty;have hm:(#[x,y].map a.eval:Array Value) = #[a.eval x,a.eval y]:=by simp
 refine upon_value rfl (u:=.slice J L k1) ?_ (cK hn E g X (Z.put (.ref (nm d 0) J L k1 t)) O);simp only[execOp,resolve,Sem.run_bind,pure,Sem.run,Result.andThen_ok,invoke,builtin,hm,p]
def bO.PT{t:TypeId}{len z:Nat}{zc:List D}(hT:bY P t=.slice z by_ ea)(Z:bW P t=some zc)(g:zc.length=z)(H:qC zc e z len b.toList=cs)(h24:len*z<=2^24)(A:j6 (len*z) (fG e z b.toList))(hd:d<n)(hf:e.o (nm d 0)=.undef)
  (hK:K (bk (bu e (nm d 0) (.box cs)) d (.bz (nm d 0) 0 z len len))):bO P n ⟨some d,.buildSlice t len b,ty,pos,after,gu⟩ e K:=by
 intro w0 l0 G S0 w lev own S a next Q h hn ac I
 obtain⟨el,inf,hu,hl,hin,hb,hz,zv0,hzv0,hzz0⟩:=bK hT;have af:bW P t=iG P el:=by simp[bW,hu]
 have ae:iG P el=some zc:=by rw[<-af];exact Z
 obtain⟨O,ag,aa,L⟩:=kn ae w;have E:=oJ g len
 let zs:Array Value:=(Array.range (len*z)).map (λi=>O.cells[i%O.cells.size]!)
 have B:zs.size=len*z:=by simp[zs]
 unfold qC at H;obtain⟨m,e1,e2,e3⟩:=wM (V:=cx w lev S) (λi=>some (i*z,z)) (b.map λx=>(x.1,a.eval x.2)).toList (fG e z b.toList) zs (replicate len zc).flatten (by simp[fG]) (by rw[B,E])
  (by
   intro i v x Y hx;have hi:i<len*z:=by rw[<-B];exact(Array.getElem?_eq_some_iff.1 Y).1
   rw[vK g hz len i hi]at hx;have R:i%z<O.cells.size:=by rw[aa,g];exact Nat.mod_lt _ (Nat.pos_of_ne_zero hz)
   have ad:v=O.cells[i%z]:=by
    simp only[zs,Array.getElem?_map]at Y;rw[Array.getElem?_eq_getElem (by simpa using hi)]at Y;simp only[Option.map_some,gy,Array.getElem_range]at Y;rw[<-Y,aa,g];simp[R]
   refine L (cx w lev S) (i%z) v x ?_ hx
   rw[ad];simp[R])
  (by
   intro k p q W hq;simp only[Array.toList_map,getElem?_map]at W;cases J:b.toList[k]? with
   |none=>rw[J]at W;cases W
   |some p0 =>
    rw[J]at W;cases W;simp only[fG,getElem?_map,J,Option.map_some,gy]at hq;subst hq
    exact⟨rfl,h.pL a rfl p0.2⟩) (by rw[E];exact A)
 rw[H]at e2 e3;have hlen:cs.length=len*z:=by
  have key:∀(qs:List (Nat×Nat×D))(ds:List D),j6 ds.length qs->(jd ds qs).length=ds.length:=by
   intro qs;induction qs with
   |nil=>intro ds _;rfl
   |cons q qs ih =>
    intro ds hq;obtain⟨off,sz,x⟩:=q;obtain⟨g1,g2,g3,g4⟩:=hq;have hw:=eF (cs:=ds) (xs:=x.cells) (o:=off) (by omega);rw[jd,ih _ (by rw[hw];exact g4),hw]
  rw[<-H,key _ _ (by rw[E];exact A),E]
 have hi:=h.NS (oM d 0) hf (vs:=m) (cs:=cs) el e2 (λj u x hu hx=>e3 j u x hu hx);have X:=hi.put (s:=d) (v:=.slice (some ⟨w.heap.size,0,none⟩) len len) (d:=.bz (nm d 0) 0 z len len) (.bz (nm d 0) 0 z len len ⟨w.heap.size,0,none⟩ _ (aW _ _ _) (λ_=>by simp[Addr.add]) (cX _));refine upon_value rfl (u:=.slice (some ⟨w.heap.size,0,none⟩) len len) ?_ (cK hn ac I hd X hK);have U:¬len*z>2^24:=by omega
 have F:(newRow el m).run P w=.ok ⟨w.heap.size,0,none⟩ (w.alloc (.cells m el)):=by simp[newRow,newObj,Sem.run,Sem.bind,pure,bind]
 show(execOp a.eval _).run P w=_;simp only[execOp];refine gp ?_;simp only[Instr.buildSlice,Sem.run_bind,aT hu,aZ hl,Result.andThen_ok,az U];by_cases h0:len*z=0
 ·have ab:zs = #[]:=Array.eq_empty_of_size_eq_zero (by rw[B,h0]);have C:Instr.fill (λi=>some (i*z,z)) ((Array.range (len*z)).map (λi=>(#[]:Array Value)[i%(#[]:Array Value).size]!)) (b.map λx=>(x.1,a.eval x.2)).toList=some m:=by
   rw[<-e1,ab,h0,show(Array.range 0:Array Nat) = #[]from rfl];simp
  simp[h0]at C |-;simp[Sem.run_bind,C,F,Sem.run,pure]
 ·have C:Instr.fill (λi=>some (i*z,z)) ((Array.range (len*z)).map (λi=>O.cells[i%O.cells.size]!)) (b.map λx=>(x.1,a.eval x.2)).toList=some m:=e1;rw[az h0];simp only[Sem.run_bind,ag,Result.andThen_ok,pure,Sem.run];rw[C];simp[Sem.run_bind,F,Sem.run,pure]
def Inv.IT(h:Inv w0 l0 G S0 w lev own S env tm){i k z1:Nat}{R:List (List D)}{row:List D}(hr:env.o r=.iI z rows)(t:rows[i]?=some row)(hk:row[k]?=some (.sl z1 R))(af:16<=N)(hf:env.o N=.undef) :
  ∃own' S' u,Inv w0 l0 G S0 w lev own' S' (bu (bu env r (.iI z (rows.set i (row.set k .undef)))) N (.own z1 R)) tm/\S' N=some u/\(∃a l c,u=.slice a l c)/\(∀s,s≠N->S' s=S s) /\
   ∃b len cap,S r=some (.slice (some ⟨b,0,none⟩) len cap)/\w.cell? ⟨b,i*z+k,none⟩=some u:=by
 have ai:=h.fresh hf;have ag:N≠r:=by rintro rfl;rw[hr]at hf;cases hf
 have I:=h.objs r;rw[hr]at I;rcases I with⟨a,h1,rfl⟩| ⟨b,c,E,cap,h1,h2,h3,h4,h5,h7,h8,h9,hap,h10⟩
 ·simp at t
 have aa:=(cJ.1 t).1;have W:=h5 row (bM t);have V:k<z:=by rw[<-W];exact(cJ.1 hk).1
 obtain⟨u,X,hx⟩:=h10 i k row _ t hk;have L:∀g∈rows.set i (row.set k .undef),g.length=z:=by
  intro g hm;rcases mem_or_eq_of_mem_set hm with hm|rfl
  ·exact h5 _ hm
  ·simpa using W
 -- what the cells hold then
 have cells:∀(Q:Value->D->Prop),(∀(B A:Nat) g d,rows[B]?=some g->g[A]?=some d->(B,A)≠(i,k)->∃u,c[B*z+A]?=some u/\Q u d)->(∀u,Q u .undef)->∀(B A:Nat) g d,(rows.set i (row.set k .undef))[B]?=some g->g[A]?=some d->∃u,c[B*z+A]?=some u/\Q u d:=by
  intro Q hQ ah B A g d m p;by_cases e:B=i
  ·subst e;rw[getElem?_set_self aa]at m;cases m;by_cases e2:A=k
   ·subst e2;rw[getElem?_set_self (by rw[W];exact V)]at p;cases p;exact⟨u,X,ah u⟩
   ·rw[getElem?_set_ne (Ne.symm e2)]at p;exact hQ B A row d t p (by simp[e2])
  ·rw[getElem?_set_ne (Ne.symm e)]at m;exact hQ B A g d m p (by simp[e])
 have U:w.cell? ⟨b,i*z+k,none⟩=some u:=by rw[eP w b _ h2];exact X
 have O:∀{w:World},jB w lev w lev:=λ{w}=>.refl _ _;have ad:PN w0 l0 G w w lev:=⟨rfl,rfl,rfl,cX _,λ_ _ _=>rfl,λb lo hi hg=>(h.part b lo hi hg).of_same rfl,h.priv,h.gV⟩
 have two:∀(own':Nat->Option Nat)(v:Value),(∃a l c,v=.slice a l c)->u=v->(∀b s,s≠r->env.o s≠.undef->own b=some s->own' b=own b)->gM w0.heap.size G w lev own' S r (.iI z (rows.set i (row.set k .undef)))->gM w0.heap.size G w lev own' (fD S N (some v)) N (.own z1 R) ->
   ∃own' S' u,Inv w0 l0 G S0 w lev own' S' (bu (bu env r (.iI z (rows.set i (row.set k .undef)))) N (.own z1 R)) tm/\S' N=some u/\(∃a l c,u=.slice a l c)/\(∀s,s≠N->S' s=S s) /\
   ∃b len cap,S r=some (.slice (some ⟨b,0,none⟩) len cap)/\w.cell? ⟨b,i*z+k,none⟩=some u:=by
  intro own' v hv am ho ab ac;have i1:=h.setObj (r:=r) (own':=own') (S':=S) ad O (λ_ _=>rfl) (λ_ h=>h) (.inr (by rw[hr];simp)) (λb s J hl hb _=>⟨rfl,rfl,ho b s J hl hb⟩) ab;have hf1:(bu env r (.iI z (rows.set i (row.set k .undef)))).o N=.undef:=by rw[tH ag];exact hf
  have i2:=i1.setObj (r:=N) (own':=own') (S':=fD S N (some v)) ad O (λs J=>bN _ _ J) (λu X=>by rw[ai]at X;cases X) (.inl af) (λb s J hl hb _=>⟨rfl,rfl,rfl⟩) ac;exact⟨own',fD S N (some v),v,i2,aW _ _ _,hv,λs J=>bN _ _ J,b,_,_,h1,am ▸ U⟩
 rcases hx with hx|hx| ⟨z2,R2,ae,⟨a,rfl,rfl⟩| ⟨b1,c1,E1,cap1,g1,g2,g3,g4,g5,g6,g7,g8,g9,g10,g11,g12⟩⟩
 ·exact hx.1.elim
 ·cases hx
 ·cases ae;refine two own _ ⟨a,0,0,rfl⟩ rfl (λ_ _ _ _ _=>rfl) ?_ (.inl ⟨a,aW _ _ _,rfl⟩);refine .inr ⟨b,c,E,cap,by rw[length_set];exact h1,h2,h3,by rw[length_set];exact h4,L,h7,h8,h9,by rw[length_set];exact hap,?_⟩;exact cells _ (λB A g d m p _=>h10 B A g d m p) λ_=>.inr (.inl rfl)
 ·cases ae;refine two (fD own b1 (some N)) _ ⟨_,_,_,g1⟩ rfl ?_ ?_ ?_
  ·intro b' s J hl Y;have:b'≠b1:=by rintro rfl;rw[g8]at Y;exact J (Option.some.inj Y).symm
   exact bN _ _ this
  ·refine .inr ⟨b,c,E,cap,by rw[length_set];exact h1,h2,h3,by rw[length_set];exact h4,L,h7,by rw[bN _ _ (Ne.symm g9)];exact h8,h9,by rw[length_set];exact hap,?_⟩;refine cells _ (λB A g d m p ak=>?_) λ_=>.inr (.inl rfl);obtain⟨u',F,C⟩:=h10 B A g d m p;refine⟨u',F,?_⟩;rcases C with C|C| ⟨z3,R3,rfl,C| ⟨b2,c2,E2,cap2,f1,f2,f3,f4,f5,f6,f7,f8,f9,f10,f11,f12⟩⟩
   ·exact .inl C
   ·exact .inr (.inl C)
   ·exact .inr (.inr ⟨z3,R3,rfl,.inl C⟩)
   ·have aj:b2≠b1:=by
     rintro rfl;have Z:=(cJ.1 m).1;have H:A<z:=by rw[<-h5 g (bM m)];exact(cJ.1 p).1
     subst f1;subst g1;have:=hap _ _ _ _ _ _ _ _ (j7 H Z) (j7 V aa) F X f12 g12 rfl;obtain⟨rfl,rfl⟩:=Fa H V this;exact ak rfl
    exact .inr (.inr ⟨z3,R3,rfl,.inr ⟨b2,c2,E2,cap2,f1,f2,f3,f4,f5,f6,f7,by rw[bN _ _ aj];exact f8,f9,f10,f11,f12⟩⟩)
  ·refine .inr ⟨b1,c1,E1,cap1,by rw[aW,g1],g2,g3,g4,g5,g6,g7,aW _ _ _,g10,?_⟩;intro B A g x' m p;obtain⟨u',F,al⟩:=g11 B A g x' m p;exact⟨u',F,zT al⟩
def NA(h:Inv w0 l0 G S0 w lev own S env tm){i k:Nat}{row:List D}{x:D}{t:Addr}{len cap:Nat}(hr:env.o r=.iI z rows)(C:S r=some (.slice (some t) len cap))(m:rows[i]?=some row)(F:row[k]?=some x) :
  ∃u,w.cell? (t.add (i*z+k))=some u/\(At x->aD Pj u x):=by
 have g:=h.objs r;rw[hr]at g;rcases g with⟨a,B,rfl⟩| ⟨b,c,E,cap,B,h2,h3,h4,h5,h7,h8,h9,hap,h10⟩
 ·simp at m
 rw[B]at C;cases C;obtain⟨u,H,p⟩:=h10 i k row _ m F;refine⟨u,by rw[cm,Nat.zero_add,eP w b _ h2];exact H,λA=>?_⟩;rcases p with p|rfl| ⟨_,_,rfl,_⟩
 ·exact p.2
 ·exact A.elim
 ·exact A.elim
def bO.aab{t:TypeId}{ly:yA}{i k z1 z2:Nat}{R1 R2:List (List D)}{row p:List D}(hl:dS P t=some ly)(V:ly.agg=true)(hx:rd e x=.bB r z i k)(hr:e.o r=.iI z rows)(m:rows[i]?=some row)(hp:∀d∈p,At d)
  (aj:∀(j:Nat) d,p[j]?=some d->row[k+j]?=some d) (al:ly.sz=p.length+2) (ah:row[k+p.length]?=some (.sl z1 R1)) (ai:row[k+p.length+1]?=some (.sl z2 R2)) (hd:d<n) (F:e.o (nm d 0)=.undef) (H:e.o (nm d 1)=.undef)
  (hK:K (bk (bu (bu (bu (bu e r (.iI z (rows.set i (row.set (k+p.length) .undef)))) (nm d 0) (.own z1 R1)) r (.iI z ((rows.set i (row.set (k+p.length) .undef)).set i ((row.set (k+p.length) .undef).set (k+p.length+1) .undef)))) (nm d 1) (.own z2 R2)) d (.agg (p++[.ref (nm d 0),.ref (nm d 1)])))) :
  bO P n ⟨some d,.load t x,ty,pos,after,gu⟩ e K:=by
 intro w0 l0 G S0 w lev own S a next Q h hn ae J
 have Y:=h.pL a rfl x;rw[hx]at Y;obtain⟨ad,len',cap',hS,hv⟩:=Y.gD;simp only[cx]at hS;have af:=(cJ.1 m).1;have C:nm d 0≠nm d 1:=λh=>by have:=NV h;omega
 have aa:nm d 0≠r:=by rintro rfl;rw[hr]at F;cases F
 have ak:nm d 1≠r:=by rintro rfl;rw[hr]at H;cases H
 obtain⟨own1,S1,u1,i1,g1,⟨a1,n1,m1,rfl⟩,g3,O,ll1,cc1,g4,g5⟩:=h.IT (N:=nm d 0) hr m ah (oM d 0) F;have ac:(bu (bu e r (.iI z (rows.set i (row.set (k+p.length) .undef)))) (nm d 0) (.own z1 R1)).o r=.iI z (rows.set i (row.set (k+p.length) .undef)):=by rw[tH (Ne.symm aa),EC]
 have ab:(bu (bu e r (.iI z (rows.set i (row.set (k+p.length) .undef)))) (nm d 0) (.own z1 R1)).o (nm d 1)=.undef:=by rw[tH (Ne.symm C),tH ak];exact H
 obtain⟨own2,S2,u2,i2,q1,⟨a2,n2,m2,rfl⟩,q3,b2,ll2,cc2,q4,q5⟩:=i1.IT (N:=nm d 1) (k:=k+p.length+1) (z1:=z2) (R:=R2) (row:=row.set (k+p.length) .undef) ac (by rw[getElem?_set_self af]) (by rw[getElem?_set_ne (by omega)];exact ai) (oM d 1) ab;rw[hS]at g4;cases g4;rw[g3 r (Ne.symm aa),hS]at q4;cases q4;have Z:∀(j:Nat) x,p[j]?=some x->∃u,w.cell? ((⟨O,0,none⟩:Addr).add (i*z+(k+j)))=some u/\aD Pj u x:=by
  intro j x A;obtain⟨u,hu,L⟩:=NA h hr hS m (aj j x A);exact⟨u,hu,L (hp x (bM A))⟩
 let B:Nat->Value:=λj=>(w.cell? ((⟨O,0,none⟩:Addr).add (i*z+(k+j)))).getD Go.undef
 have W:∀j,j<p.length+2->w.cell? ((⟨O,0,none⟩:Addr).add (i*z+(k+j)))=some (B j):=by
  intro j A;rcases cq j p.length with h1|h1
  ·obtain⟨u,hu,_⟩:=Z j _ (ec h1);simp only[B,hu,Option.getD_some]
  ·rcases cq j (p.length+1)with h2|h2
   ·have:j=p.length:=by omega
    subst this;have:w.cell? ((⟨O,0,none⟩:Addr).add (i*z+(k+p.length)))=some (.slice a1 n1 m1):=by rw[cm,Nat.zero_add];exact g5
    simp only[B,this,Option.getD_some]
   ·have:j=p.length+1:=by omega
    subst this;have:w.cell? ((⟨O,0,none⟩:Addr).add (i*z+(k+(p.length+1))))=some (.slice a2 n2 m2):=by rw[cm,Nat.zero_add];exact q5
    simp only[B,this,Option.getD_some]
 have X:((range ly.sz).map B).length=ly.sz:=by simp
 have E:=u7 (P:=P) (w:=w) (a:=(⟨O,0,none⟩:Addr).add (i*z+k)) hl (by rw[V];intro h;cases h) ((range ly.sz).map B) X (by
  intro j v A;have I:j<ly.sz:=by have:=(cJ.1 A).1;simpa using this
  simp only[getElem?_map,getElem?_range I,Option.map_some,gy]at A;subst A;rw[add_add,show i*z+k+j=i*z+(k+j)by omega]
  exact W j (by omega))
 rw[aE V]at E;refine upon_value rfl (u:=.agg ((range ly.sz).map B).toArray) ?_ (cK hn ae J hd (i2.put (.agg _ _ (by simp[al]) ?_)) hK)
 ·simp only[execOp,hv];exact gp E
 ·intro j v x A g;have I:j<ly.sz:=by have:=(Array.getElem?_eq_some_iff.1 A).1;simpa using this
  have ag:v=B j:=by simpa[I]using A.symm
  subst ag;have U:=W j (by omega);rcases cq j p.length with h1|h1
  ·rw[getElem?_append_left h1]at g;obtain⟨u,hu,L⟩:=Z j x g;rw[hu]at U;cases U;exact zT L
  ·rw[getElem?_append_right h1]at g;rcases cq j (p.length+1)with h2|h2
   ·have:j=p.length:=by omega
    subst this;simp only[Nat.sub_self,getElem?_cons_zero,gy]at g;subst g;rw[cm,Nat.zero_add,g5]at U;rw[<-Option.some.inj U];exact .ref (nm d 0) _ _ _ (by show S2 (nm d 0)=_;rw[q3 _ C];exact g1)
   ·have:j=p.length+1:=by omega
    subst this;simp only[show p.length+1-p.length=1 by omega,getElem?_cons_succ,getElem?_cons_zero,gy]at g;subst g;rw[cm,Nat.zero_add,show i*z+(k+(p.length+1))=i*z+(k+p.length+1)by omega,q5]at U;rw[<-Option.some.inj U];exact .ref (nm d 1) _ _ _ q1

def aen:D->Bool
 | .own _ _| .iI _ _=>true
 | _=>false
def bO.eat{k:FuncId}{args:Array Operand}{Ts:Array TypeId}{f:Operand}{gs:List Nat}{ds hs hs':List D}{dv:D}(hd:d<n)(hf:rd e f=.fn k [])(hsp:Spec P k hs ds hs' dv)(hds:ds=args.toList.map (λx=>cv e false gs 4 (rd e x)))(hhs:hs=gs.map λr=>e.o r)
  (hnd:gs.Nodup) (hlive:∀r∈gs,aen (e.o r)=true) (hK:K (bk (fQ gs e) d .undef)):bO P n ⟨some d,.call ⟨.value f,args,Ts⟩,ty,pos,after,gu⟩ e K:=by
 intro w0 l0 G S0 w lev own S a next Q h hn hdf hnext
 obtain⟨⟨fn,e1,e2,e3⟩,hsp⟩:=hsp;have hof:=h.pL a rfl f;rw[hf]at hof;obtain⟨cv,hv,hcs,hcc⟩:=hof.uE;have hcv:cv = #[]:=Array.eq_empty_of_size_eq_zero hcs;subst hcv
 let vs:Array Value:=args.map a.eval
 have hr:(execOp a.eval ⟨some d,.call ⟨.value f,args,Ts⟩,ty,pos,after,gu⟩).run P w=.ok (.enter k vs) w:=by
  have e3' : fn.name ≠ "runtime.NumGoroutine" := by simpa using e3
  have e2':fn.body≠none:=by rintro e;rw[e]at e2;cases e2
  simp[execOp,resolve,hv,Deferred.ofValue,Sem.run_bind,invoke,callFunc,program,e1,e3',e2',Sem.run,pure,vs]
 -- the blocks that are given
 let Gp:Nat->Nat->Prop:=λb m=>∃r∈gs,own b=some r/\lev b=some 0/\(∃c E,w.heap[b]?=some (.cells c E (0,0))/\c.size=m)/\EI G w0.heap.size b 0 m
 obtain⟨G0,hG1,hG2⟩:∃G0:Nat->Option (Nat×Nat),(∀b m,Gp b m->G0 b=some (0,m))/\∀b lo hi,G0 b=some (lo,hi)->lo=0/\Gp b hi:=by
  classical
  refine⟨λb=>if hh:∃m,Gp b m then some (0,Classical.choose hh)else none,?_,?_⟩
  ·intro b m hm;have hh:∃m,Gp b m:=⟨m,hm⟩
   simp only[dif_pos hh];obtain⟨_,_,_,_,⟨c,E,g1,g2⟩,_⟩:=Classical.choose_spec hh;obtain⟨_,_,_,_,⟨c',E',g1',g2'⟩,_⟩:=hm;rw[g1]at g1';cases g1';rw[<-g2,<-g2']
  ·intro b lo hi hb;by_cases hh:∃m,Gp b m
   ·simp only[dif_pos hh,gy,Prod.mk.injEq]at hb;obtain⟨rfl,rfl⟩:=hb;exact⟨rfl,Classical.choose_spec hh⟩
   ·simp only[dif_neg hh]at hb;cases hb
 have hown0:∀{i r b:Nat},gs[i]?=some r->own b=some r->uQ gs own b=some i:=by
  intro i r b hi hb;unfold uQ;simp only[hb,Option.bind_some];exact Fb hnd hi
 have hll:∀b,mJ false gs lev own b=lev b:=by
  intro b;unfold mJ;split
  ·split<;>simp
  ·rfl
 have hll':mJ false gs lev own=lev:=funext hll;have hc:=hsp w lev G0 (uQ gs own) (qA gs S) vs
  (by
   intro t ht;obtain⟨t1,E,x,c9,t2,t3⟩:=h.os.2 t ht;have hlt:=lt_of_block t2;refine⟨?_,E,x,c9,(h.old _ hlt t1).trans t2,t3⟩;cases hg:G0 t.1 with
   |none=>rfl
   |some p =>
    obtain⟨_,r,_,_,_,_,hin⟩:=hG2 _ _ _ hg;rcases hin with hin| ⟨_,_,hin,_⟩
    ·omega
    ·rw[t1]at hin;cases hin)
  (λb m hb=>h.priv b m hb)
  (by
   intro b lo hi hg;obtain⟨_,r,_,_,_,⟨c,E,hb,_⟩,_⟩:=hG2 _ _ _ hg
   exact⟨c,c,E,hb,hb,rfl,λ_ _=>rfl⟩)
  (by rw[hds];simp[vs])
  (by
   intro i v x hi hx;rw[hds]at hx;simp only[getElem?_map]at hx;cases hy:args.toList[i]? with
   |none=>rw[hy]at hx;cases hx
   |some y =>
    rw[hy]at hx;cases hx;have hya:args[i]?=some y:=by simpa using hy
    simp only[vs,Array.getElem?_map,hya,Option.map_some,gy]at hi;subst hi;have:=vF (bw:=false) (gs:=gs) h 4 (rd e y) _ (h.pL a rfl y);rw[hll']at this
    exact this)
  (by
   intro i;rw[hhs];by_cases hlt:i<gs.length
   ·have hg:gs[i]?=some gs[i]:=ec hlt;have:(gs.map e.o).getD i .undef=e.o gs[i]:=by simp[getD,hg]
    rw[this];have hS0:qA gs S i=S gs[i]:=by unfold qA;rw[hg];rfl
    have hl:=hlive _ (cZ hlt);have hob:=h.objs gs[i];generalize hgr:gs[i]=r at hg hS0 hl hob;cases hd:e.o r<;>rw[hd]at hl hob<;>try(cases hl;done)
    ·rename_i z rows;rcases hob with⟨a,h1,rfl⟩| ⟨b,c,E,cap,h1,h2,h3,h4,h5,h6,h7,h8,h9,h10⟩
     ·exact .inl ⟨a,hS0.trans h1,rfl⟩
     ·refine .inr ⟨b,c,E,cap,hS0.trans h1,h2,h3,h4,h5,h6,h7,hown0 hg h8,.inr ⟨0,c.size,hG1 b _ ⟨r,bM hg,h8,h7,⟨c,E,h2,rfl⟩,h9⟩,cX _,cX _⟩,?_⟩;intro i' j row x hi' hj;obtain⟨u,hu,hru⟩:=h10 i' j row x hi' hj;exact⟨u,hu,hru.dQ (.refl _ _) (by rw[(h6 row (bM hi') x (bM hj)).2];simp)⟩
    ·exact vR hob (λu hu=>hS0.trans hu) λb c E h1 h2 h3 h4=>⟨rfl,h2,hown0 hg h1,.inr ⟨0,c.size,hG1 b _ ⟨r,bM hg,h1,h2,⟨c,E,h3,rfl⟩,h4⟩,cX _,cX _⟩⟩
   ·have:(gs.map e.o).getD i .undef=.undef:=by simp[getD,hlt]
    rw[this];show qA gs S i=none
    simp[qA,hlt])
 unfold Oper.wp;rw[hr];simp only[Oper.upon];refine hc.mono ?_;rintro _ w' ⟨v,rfl,q1,q2,q3,q4,q5,q6,_⟩;obtain⟨Sk,hk,_⟩:=h.gN gs;have hpost:Inv w0 l0 G S0 w' (λb=>if b<w.heap.size then lev b else none) own Sk (fQ gs e) (jk a.tmps):=by
  have hvl:jB w lev w' (λb=>if b<w.heap.size then lev b else none):=by
   intro ad u hu;have hlt:=World.block_lt_of_cell? _ _ (lD hu);have hg:G0 ad.block=none:=by
    cases e:G0 ad.block with
    |none=>rfl
    |some x =>
     obtain⟨_,r,_,_,hl,_⟩:=hG2 _ _ _ e;unfold vis at hu;rw[hl]at hu;simp at hu
   unfold vis at hu |-;simp only[hlt,if_true];rw[World.cell?_of_block (w:=w) (q5 _ hlt hg)];exact hu
  refine⟨⟨q1.trans hk.os.1,hk.os.2⟩,q2.trans hk.tape,q3.trans hk.output,Nat.le_trans hk.size q4,?_,?_,?_,?_,hk.It,?_,?_⟩
  ·intro b hb hg;have hlt:b<w.heap.size:=Nat.lt_of_lt_of_le hb h.size;refine(q5 b hlt ?_).trans (h.old b hb hg);cases e:G0 b with
   |none=>rfl
   |some x =>
    obtain⟨_,r,_,_,_,_,hin⟩:=hG2 _ _ _ e;rcases hin with hin| ⟨_,_,hin,_⟩
    ·omega
    ·rw[hg]at hin;cases hin
  ·intro b lo hi hg;have hp:=h.part b lo hi hg;refine hp.trans ?_;cases e:G0 b with
   |none =>
    refine hp.of_same (q5 b ?_ e);obtain⟨_,_,_,_,hb,_⟩:=hp;exact lt_of_block hb
   |some x =>
    obtain⟨lo',hi'⟩:=x;obtain⟨rfl,r,_,_,_,_,hin⟩:=hG2 _ _ _ e;rcases hin with hin| ⟨l,m,hin,m1,m2⟩
    ·obtain⟨c0,_,_,hc0,_⟩:=hp;have:=lt_of_block hc0;omega
    ·rw[hg]at hin;cases hin;exact(q6 b _ _ e).mono m1 m2
  ·intro b m hb;split at hb
   ·omega
   ·cases hb
  ·intro b hb hg;have hlt:b<w.heap.size:=Nat.lt_of_lt_of_le hb h.size;simp only[hlt,if_true];exact h.gV b hb hg
  ·intro s;exact(hk.lV s).dQ hvl λ_ _ _ h=>h
  ·intro s;have ho:=hk.objs s;by_cases hu:(fQ gs e).o s=.undef
   ·rw[hu]at ho |-;exact ho
   refine ho.keep hvl (λ_ _ _ h=>h) (λhu'=>(hu hu').elim) ?_;intro b hb hl;have hlt:=h.priv b 0 hl;refine⟨q5 b hlt ?_,by simp only[hlt,if_true],rfl⟩;cases e':G0 b with
   |none=>rfl
   |some x =>
    exfalso;obtain⟨_,r,hr,hb',_⟩:=hG2 _ _ _ e';rw[hb]at hb';cases hb';exact hu (n8 gs hr)
 exact cK hn hdf hnext hd (hpost.put (.undef v)) hK
def bO.T0{t:TypeId}{len:Nat}{bs:Array (Nat×Operand)}(k:d<n)(h:PD e len bs.toList false d K (bY P t) (bW P t) (lm (D.aQ (bs.toList.map λx=>rd e x.2)))):bO P n ⟨some d,.buildSlice t len bs,ty,pos,after,gu⟩ e K:=by
 intro w0 l0 G S0 w lev own S a next Q m o i g
 exact BL m o i g ⟨k,λ_=>h,λh=>by cases h⟩
end
section
variable{e:Env}{rs:List Nat}{r s q:Nat}{rows:List (List D)}{rh:Nat->Option Nat}{lv:Nat->Bool}{e':Env}{k':Nat}{v:D}{K:Env->Prop}{sz:Nat}{a:Bool}{x:List Nat}
theorem Ut:fQ [] e=e:=rfl
theorem R6:fQ (r::rs) e=fQ rs (gn r e):=rfl
theorem Y8(i k:Nat)(g:Nat):KX e r z i k v K (some ⟨a,sz⟩) (.iI g rows) =
  (g=z/\i<rows.length/\k+sz<=z/\v.cells.length=sz/\(∀c∈v.cells,At c)/\Norm (dm (.iI z (rows.set i (dc (rows.getD i []) k v.cells)))) (uoK e r K)):=rfl
def Z3:D.kill q (.iI z rows)=.iI z rows:=by rw[D.kill.eq_def]
def aeD:fz e q (.iI z rows)=.iI z rows:=by rw[fz,jt.eq_def]
def adp(q:Nat->Option Nat):D.iV q (.iI z rows)=.iI z rows:=by rw[D.iV.eq_def]
theorem RZ:cV (.iI z rows)=false:=rfl
def acX(g:Nat)(a b:List (List D)):I4 rh lv (.iI z a) (.iI g b)=(z=g/\a=b):=by simp[I4]
def ade(x:D):pM (.iI z rows) x=[]:=by cases x<;>simp[pM]
theorem Un:xK (.iI z rows)=(rows=[]):=rfl
theorem XW(g:Nat)(i:Int):Hv z i (.iI g rows)=(g=z/\i<rows.length):=rfl
theorem Sv(r:List (List D)):tq (.iI z r)=.int .i64 r.length:=rfl
theorem QA(r:List (List D)):sI (.iI z r)=True:=rfl
theorem abZ(k:IntKind)(n:Int):At (.int k n)=True:=rfl
attribute [go_sem ↓] Ut R6 ade
attribute [go_sem] Y8 Z3 aeD adp RZ acX Un XW Sv QA abZ
end
end Go.Abs
namespace Go.Abs
def oV{S:Type}(n:Nat)(I:Nat->S->Prop)(x:Nat×S):Prop:=x.1<=n/\I x.1 x.2
def oW{S:Type}(n:Nat)(x:Nat×S):Nat:=n-x.1
variable{kO kT:EL}{body:(Exit->Env->Prop)->Env->Prop}{S:Type}{e:Env}{Q:Exit->Env->Prop}
def aF.mN(n:Nat)(l k:List Nat)(ts os:Nat->S->EL)(I:Nat->S->Prop)(s0:S)
  (g:I 0 s0) (d:DG e (ts 0 s0++kT) (os 0 s0++kO))
  (hr:∀i s,i<n->decide ((i:Int)<(n:Int))=true->IntKind.wrap .i64 ((i:Int)+1)=((i+1:Nat):Int)->I i s->body (jL (λx:Nat×S=>ts x.1 x.2++kT) (λx:Nat×S=>os x.1 x.2++kO) (oV n I) (oW n) (i,s) Q) (qz (ts i s++kT) (os i s++kO)))
  (j:∀s,decide ((n:Int)<(n:Int))=false->I n s->body (jL (λx:Nat×S=>ts x.1 x.2++kT) (λx:Nat×S=>os x.1 x.2++kO) (oV n I) (oW n) (n,s) Q) (qz (ts n s++kT) (os n s++kO))) (hn:n<9223372036854775807:=by omega)
  (hT:sA e.t l=kT:=by simp only[go_sem,seval]<;>exact rfl) (hO:sB e.o k=kO:=by simp only[go_sem,seval]<;>exact rfl):aF body Q e:=by
 refine⟨Nat×S,λx=>ts x.1 x.2++kT,λx=>os x.1 x.2++kO,oV n I,oW n,(0,s0),⟨Nat.zero_le _,g⟩,d,?_⟩;rintro⟨i,s⟩ ⟨f,hI⟩;rcases cq i n with h|h
 ·exact hr i s h (gJ (by omega)) (by rw[IntKind.wrap_i64];omega) hI
 ·have f:i<=n:=f;obtain rfl:i=n:=by omega
  exact j s (kY (by omega)) hI
structure Tg(t o:List Nat)(k:Nat):Prop where
def aF.w1(n k:Nat)(g f:List Nat)(I:Nat->Unit->Prop)(h:I 0 ())
  (hr:∀i (s:Unit),i<n->decide ((i:Int)<(n:Int))=true->IntKind.wrap .i64 ((i:Int)+1)=((i+1:Nat):Int)->I i s->body (jL (λx:Nat×Unit=>[(k,.int .i64 x.1)]++kT) (λ_=>[]++kO) (oV n I) (oW n) (i,s) Q) (qz ([(k,.int .i64 i)]++kT) ([]++kO)))
  (p:∀s:Unit,decide ((n:Int)<(n:Int))=false->I n s->body (jL (λx:Nat×Unit=>[(k,.int .i64 x.1)]++kT) (λ_=>[]++kO) (oV n I) (oW n) (n,s) Q) (qz ([(k,.int .i64 n)]++kT) ([]++kO))) (m:n<9223372036854775807:=by omega)
  (l:sA e.t g=kT:=by simp only[go_sem,seval]<;>exact rfl) (j:sB e.o f=kO:=by simp only[go_sem,seval]<;>exact rfl)
  (d:DG e ([(k,.int .i64 ((0:Nat):Int))]++kT) ([]++kO):=by simp only[go_sem,seval]<;>simp):aF body Q e:=
 aF.mN n g f (λi _=>[(k,.int .i64 i)]) (λ_ _=>[]) I () h d hr p m l j
def aF.wu(n:Nat)(g f:List Nat)(ts os:Nat->EL)(I:Nat->Prop)
  (h:I 0) (d:DG e (ts 0++kT) (os 0++kO))
  (hr:∀i (s:Unit),i<n->decide ((i:Int)<(n:Int))=true->IntKind.wrap .i64 ((i:Int)+1)=((i+1:Nat):Int)->I i->body (jL (λx:Nat×Unit=>ts x.1++kT) (λx:Nat×Unit=>os x.1++kO) (oV n λi _=>I i) (oW n) (i,s) Q) (qz (ts i++kT) (os i++kO)))
  (m:∀s:Unit,decide ((n:Int)<(n:Int))=false->I n->body (jL (λx:Nat×Unit=>ts x.1++kT) (λx:Nat×Unit=>os x.1++kO) (oV n λi _=>I i) (oW n) (n,s) Q) (qz (ts n++kT) (os n++kO))) (l:n<9223372036854775807:=by omega)
  (k:sA e.t g=kT:=by simp only[go_sem,seval]<;>exact rfl) (j:sB e.o f=kO:=by simp only[go_sem,seval]<;>exact rfl):aF body Q e:=
 aF.mN n g f (λi _=>ts i) (λi _=>os i) (λi _=>I i) () h d hr m l k j
def aF.wv(n:Nat)(g f:List Nat)(ts os:Nat->EL)
  (d:DG e (ts 0++kT) (os 0++kO))
  (hr:∀i (s:Unit),i<n->decide ((i:Int)<(n:Int))=true->IntKind.wrap .i64 ((i:Int)+1)=((i+1:Nat):Int)->True->body (jL (λx:Nat×Unit=>ts x.1++kT) (λx:Nat×Unit=>os x.1++kO) (oV n λ_ _=>True) (oW n) (i,s) Q) (qz (ts i++kT) (os i++kO)))
  (l:∀s:Unit,decide ((n:Int)<(n:Int))=false->True->body (jL (λx:Nat×Unit=>ts x.1++kT) (λx:Nat×Unit=>os x.1++kO) (oV n λ_ _=>True) (oW n) (n,s) Q) (qz (ts n++kT) (os n++kO))) (k:n<9223372036854775807:=by omega)
  (j:sA e.t g=kT:=by simp only[go_sem,seval]<;>exact rfl) (h:sB e.o f=kO:=by simp only[go_sem,seval]<;>exact rfl):aF body Q e:=
 aF.mN n g f (λi _=>ts i) (λi _=>os i) (λ_ _=>True) () trivial d hr l k j h
variable{a b:List Nat}
def aF.wt{k:Nat}(g:Tg a b k)(n:Nat)(I:Nat->Unit->Prop)(f:I 0 ())
  (hr:∀i (s:Unit),i<n->decide ((i:Int)<(n:Int))=true->IntKind.wrap .i64 ((i:Int)+1)=((i+1:Nat):Int)->I i s->body (jL (λx:Nat×Unit=>[(k,.int .i64 x.1)]++kT) (λ_=>[]++kO) (oV n I) (oW n) (i,s) Q) (qz ([(k,.int .i64 i)]++kT) ([]++kO)))
  (m:∀s:Unit,decide ((n:Int)<(n:Int))=false->I n s->body (jL (λx:Nat×Unit=>[(k,.int .i64 x.1)]++kT) (λ_=>[]++kO) (oV n I) (oW n) (n,s) Q) (qz ([(k,.int .i64 n)]++kT) ([]++kO))) (l:n<9223372036854775807:=by omega)
  (j:sA e.t a=kT:=by simp only[go_sem,seval]<;>exact rfl) (h:sB e.o b=kO:=by simp only[go_sem,seval]<;>exact rfl)
  (d:DG e ([(k,.int .i64 ((0:Nat):Int))]++kT) ([]++kO):=by simp only[go_sem,seval]<;>simp):aF body Q e:=
 aF.w1 n k a b I f hr m l j h d
variable{i n:Nat}
def af.jz{s:S}{ts os:Nat×S->EL}{I:Nat->S->Prop}(d:S)(f:i<n)(h:I (i+1) d)(g:DG e (ts (i+1,d)) (os (i+1,d))):af ts os (oV n I) (oW n) (i,s) e:=
 ⟨(i+1,d),⟨f,h⟩,g,by show n-(i+1)<n-i;omega⟩
variable{ts os:Nat×Unit->EL}{s:Unit}{c:Nat->Unit->Prop}
def af.u(d:i<n)(h:c (i+1) ())(f:DG e (ts (i+1,())) (os (i+1,()))):af ts os (oV n c) (oW n) (i,s) e:=af.jz () d h f
def af.v(d:i<n)(f:DG e (ts (i+1,())) (os (i+1,()))):af ts os (oV n λ_ _=>True) (oW n) (i,s) e:=af.jz () d trivial f
def fX{A:Type}{xs:List A}(h:i<xs.length):xs.drop i=xs[i]::xs.drop (i+1):=List.drop_eq_getElem_cons h
variable{r:Nat}
def Lz{d:D}(h:iS d=true):d.kill r=d:=by
 cases d<;>first| (cases h;done)|rfl
def j9{X:List D}(h:∀d∈X,iS d=true):D.gN r X=X:=by
 rw[iJ];exact(List.map_congr_left λd f=>Lz (h d f)).trans (List.map_id' _)
end Go.Abs
namespace Go.Abs
variable{np:Nat}
def dH.dq{os:Array Oper}(h:uC np os=true:=by kernel_rfl):dH np os:=dH.mk h
def tL.dq{ops:List Oper}{o:Oper}{r:Nat}(h:om np ops o r=true:=by kernel_rfl):tL np ops o r:=tL.mk h
structure Hd(q:Prop):Prop where
 out:q
variable{p:Prop}
def bG{q:Prop}(k:q) (h:Hd q->p:=by
 intro k
 (with_reducible and_intros)<;>first|exact .dq|omega|exact k.out):p:=h ⟨k⟩
variable{a:Int}
def eM{x:Int}(h1:-9223372036854775808<=x:=by omega)(h2:x<9223372036854775808:=by omega)(h:x=a:=by omega):IntKind.wrap .i64 x=a:=by rw[IntKind.wrap_i64];omega
def kN[Decidable p](h:p:=by omega):decide p=true:=gJ h
def kR[Decidable p](h:¬p:=by omega):decide p=false:=kY h
def CO (h:p:=by
 first
  |omega
  |rfl
  | (refine e0 ?_;clear e0 e1;rw[hk];clear hk;simp_all;done)
  | (refine e0 ?_;clear e0 e1;rw[hk];clear hk;simp_all;omega)
  | (rw[e1 ?_];clear e0 e1;rw[hk];clear hk;simp_all;done)
  | (rw[e1 ?_];clear e0 e1;rw[hk];clear hk;simp_all;omega)
  | (rw [e1 ?_]
     ·rfl
     ·clear e0 e1;rw[hk];clear hk;simp_all;done)
  | (rw [e1 ?_]
     ·rfl
     ·clear e0 e1;rw[hk];clear hk;simp_all;omega)):p:=h
variable{A:Type _}
def aV(a:A):∃x,x=a:=⟨_,rfl⟩
def mY{B:Type _}{f:A->B}{l:List A}:(l.map f).length=l.length:=List.length_map f
def dO(a b:Bool):((a&&b)=true)=(a=true/\b=true):=Bool.and_eq_true a b
def jm:(false=true)=False:=Bool.false_eq_true
variable{B:Type}
def jr{A:Type}(f:A->List B){xs:List A}{i:Nat}(h:i<xs.length):(xs.take (i+1)).flatMap f=(xs.take i).flatMap f++f xs[i]:=by
 rw[kM h,List.flatMap_append];simp
def zW(f:Nat->List B)(i:Nat):(List.range (i+1)).flatMap f=(List.range i).flatMap f++f i:=by
 rw[List.range_succ,List.flatMap_append];simp
theorem gB{A B:Type}{f:A->List B}{m:Nat}(h:∀a,(f a).length<=m):∀xs:List A,(xs.flatMap f).length<=m*xs.length
 | []=>by simp
 |x::r=>by
  have h1:=h x;have h2:=gB h r;simp only[List.flatMap_cons,cT,List.length_cons,Nat.mul_succ];omega
def E7{f:Nat->List B}{m:Nat}(h:∀a,(f a).length<=m)(i:Nat):((List.range i).flatMap f).length<=m*i:=by
 have:=gB h (List.range i);simpa using this
end Go.Abs
namespace Go.Abs
section
variable(τ:TypeId->TypeId)(ρ:FuncId->FuncId)
def Ad:Operand->Operand
 | .func f=>.func (ρ f)
 |o=>o
def L3:Callee->Callee
 | .value f=>.value (Ad ρ f)
 |c=>c
def ya:Op->Op
 | .load t a=>.load (τ t) (Ad ρ a)
 | .store t a v=>.store (τ t) (Ad ρ a) (Ad ρ v)
 | .binOp o t x y u=>.binOp o (τ t) (Ad ρ x) (Ad ρ y) (τ u)
 | .unOp o t x=>.unOp o (τ t) (Ad ρ x)
 | .convert a b x=>.convert (τ a) (τ b) (Ad ρ x)
 | .slice t x l h m=>.slice (τ t) (Ad ρ x) l h m
 | .indexAddr t x i=>.indexAddr (τ t) (Ad ρ x) (Ad ρ i)
 | .makeSlice t l c=>.makeSlice (τ t) l c
 | .call c=>.call ⟨L3 ρ c.callee,c.args,⟨c.argTypes.toList.map τ⟩⟩
 |o=>o
def L4(o:Oper):Oper:=⟨o.dst,ya τ ρ o.op,τ o.type,o.pos,o.after,o.guard⟩
def Ac:Code->Code
 | .region i ops d=>.region i ⟨ops.toList.map (L4 τ ρ)⟩ d
 | .seq a b=>.seq (Ac a) (Ac b)
 | .cond c a b=>.cond (Ad ρ c) (Ac a) (Ac b)
 | .block i b=>.block i (Ac b)
 | .loop b=>.loop (Ac b)
 |c=>c
end
def eC(np:Nat):Code->Bool
 | .region _ ops d=>!d||uC np ops
 | .seq a b=>eC np a&&eC np b
 | .cond _ a b=>eC np a&&eC np b
 | .block _ b=>eC np b
 | .loop b=>eC np b
 | _=>true
structure CU(P:Program)(τ:TypeId->TypeId)(ρ:FuncId->FuncId)(k:FuncId)(np:Nat):Prop where
 ok : ∃ f0 f c0, P.funcs[k]? = some f0 /\ P.funcs[ρ k]? = some f /\ f0.body = some c0 /\ f.body = some (Ac τ ρ c0) /\ eC np (Ac τ ρ c0) = true /\ f.ntmps = f0.ntmps /\ f.results = f0.results /\ (f.name == "runtime.NumGoroutine") = false
variable{ρ:FuncId->FuncId}{τ:TypeId->TypeId}{b:Code}{a:Func}
def wJ {P : Program} {k np : Nat} {f : Func} (h0 : P.funcs[k]? = some a) (h1 : P.funcs[ρ k]? = some f) (hb : a.body = some b := by exact rfl) (hc : f.body = some (Ac τ ρ b) := by kernel_rfl) (hd : eC np (Ac τ ρ b) = true := by kernel_rfl) (hn : f.ntmps = a.ntmps := by kernel_rfl) (hr : f.results = a.results := by kernel_rfl) (hx : (f.name == "runtime.NumGoroutine") = false := by kernel_rfl) : CU P τ ρ k np :=
 ⟨a,f,b,h0,h1,hb,hc,hd,hn,hr,hx⟩
variable{e g:List D}
def zG(n np:Nat)(rs:List ResultVar){P:Program}{k:FuncId}(R:CU P τ ρ k np)(v:P.follows .mixedOrders=true){fn:Func}{c:Code}(u:P.funcs[k]?=some fn){ds:List D}{d:D}(x:eC np (Ac τ ρ c)=true->jU P n np (Ac τ ρ c) (Js P rs e.length g d) (qz (KP 0 ds) (tj 0 e)))
  (r:fn.body=some c:=by exact rfl) (hr:fn.results.toList=rs:=by exact rfl) (w:fn.ntmps=n:=by exact rfl) (m:ds.length=np:=by exact rfl) (i:np<=n:=by simp) (j:e.length<=16:=by simp):Abs.Spec P (ρ k) e ds g d:=by
 obtain⟨f0,f,c0,p,q,h,s,t,l,o,y⟩:=R.ok;rw[u]at p;obtain rfl:=Option.some.inj p;rw[r]at h;obtain rfl:=Option.some.inj h;exact Spec.qu v q s (by rw[o,hr]) (by rw[l,w]) y m i j (x t)
end Go.Abs
namespace Go.Abs
def a2{a b:Prop}(x:a)(y:b):a/\b:=⟨x,y⟩
def a3{a b c:Prop}(x:a)(y:b)(z:c):a/\b/\c:=⟨x,y,z⟩
def a4{a b c d:Prop}(x:a)(y:b)(z:c)(w:d):a/\b/\c/\d:=⟨x,y,z,w⟩
def a5{a b c d e:Prop}(x:a)(y:b)(z:c)(w:d)(v:e):a/\b/\c/\d/\e:=⟨x,y,z,w,v⟩
section
variable{E C p q:Prop}
def sm(e:E)(k:q)(h:E->p=q:=by intro e;simp only[go_sem,seval,e]<;>exact rfl):p:=(h e).mpr k
def s0(k:q)(h:p=q:=by simp only[go_sem,seval]<;>exact rfl):p:=h.mpr k
def dJ(e:E)(h:E->p:=by intro e;simp only[go_sem,seval,e]):p:=h e
def iM(h:p:=by simp only[go_sem,seval]):p:=h
def U0(h:p:=by(with_reducible and_intros)<;>first|exact .dq|omega):p:=h
def sc(e:E)(c:C)(k:q) (h:E->C->Hd q->p:=by
 intro e c k;try simp only[go_sem,seval,e]
 (with_reducible and_intros)<;>first
  | (refine ak.aH c ?_;try simp only [go_sem,seval,e]
     exact k.out)
  |exact .dq
  |omega):p:=h e c ⟨k⟩
def sl(e:E)(c:C)(k:q) (h:E->C->Hd q->p:=by
 intro e c k;try simp only[go_sem,seval,e]
 (with_reducible and_intros)<;>first
  | (refine ak.fk [] [] true (by simp) ?_;simp only [go_sem,seval,e];refine bX.fV c ?_;try simp only [go_sem,seval,e]
     exact k.out)
  |exact .dq
  |omega):p:=h e c ⟨k⟩
def so(e:E)(c:C)(k:q) (h:E->C->Hd q->p:=by
 intro e c k;try simp only[go_sem,seval,e]
 (with_reducible and_intros)<;>first
  | (refine ak.fk [] [] false (by simp) ?_;simp only [go_sem,seval,e];refine bX.fV c ?_;try simp only [go_sem,seval,e]
     exact k.out)
  |exact .dq
  |omega):p:=h e c ⟨k⟩
def sg(g:List Nat)(e:E)(c:C)(k:q) (h:∀r,r=g->E->C->Hd q->p:=by
 intro r hr e c k;try simp only[go_sem,seval,e]
 (with_reducible and_intros)<;>first
  | (refine ak.fk [] r false (by simp) ?_;subst hr;simp only [go_sem,seval,e];refine bX.fV c ?_;try simp only [go_sem,seval,e]
     exact k.out)
  |exact .dq
  |omega):p:=h g rfl e c ⟨k⟩
def sp(g:List Nat)(e:E)(c:C)(k:q) (h:∀r,r=g->E->C->Hd q->p:=by
 intro r hr e c k;try simp only[go_sem,seval,e]
 (with_reducible and_intros)<;>first
  | (refine Ga.afk r (by subst hr;kernel_rfl) ?_;subst hr;simp only [go_sem,seval,e]
     (with_reducible and_intros)<;>first
      | (refine DF.intro c ?_;try simp only [go_sem,seval,e]
         exact k.out)
      |exact .dq
      |omega)
  |exact .dq
  |omega):p:=h g rfl e c ⟨k⟩
def qt(e:E)(c:C) (h:E->C->p:=by
 intro e c;try simp only[go_sem,seval,e]
 (with_reducible and_intros)<;>first
  | (refine ak.aH c ?_;simp only[go_sem,seval,e];try((with_reducible and_intros)<;>first|exact .dq|omega))
  |exact .dq
  |omega):p:=h e c
def slx(e:E)(c:C) (h:E->C->p:=by
 intro e c;try simp only[go_sem,seval,e]
 (with_reducible and_intros)<;>first
  | (refine ak.fk [] [] true (by simp) ?_;simp only[go_sem,seval,e];refine bX.fV c ?_;simp only[go_sem,seval,e];try((with_reducible and_intros)<;>first|exact .dq|omega))
  |exact .dq
  |omega):p:=h e c
def Vs(e:E)(c:C) (h:E->C->p:=by
 intro e c;try simp only[go_sem,seval,e]
 (with_reducible and_intros)<;>first
  | (refine ak.fk [] [] false (by simp) ?_;simp only[go_sem,seval,e];refine bX.fV c ?_;simp only[go_sem,seval,e];try((with_reducible and_intros)<;>first|exact .dq|omega))
  |exact .dq
  |omega):p:=h e c
def Yf(g:List Nat)(e:E)(c:C) (h:∀r,r=g->E->C->p:=by
 intro r hr e c;try simp only[go_sem,seval,e]
 (with_reducible and_intros)<;>first
  | (refine ak.fk [] r false (by simp) ?_;subst hr;simp only[go_sem,seval,e];refine bX.fV c ?_;simp only[go_sem,seval,e];try((with_reducible and_intros)<;>first|exact .dq|omega))
  |exact .dq
  |omega):p:=h g rfl e c

def su{a b:Prop}(x:a)(h:a->b:=by intro x;simpa using x):b:=h x
def sT(h:p:=by simp):p:=h
def lG(e:E)(h:E->p:=by intro e;simp only[go_sem,seval,e]<;>simp):p:=h e
def lA(h:p:=by simp only[go_sem,seval]<;>simp):p:=h
def Zh(h:p:=by repeat' with_reducible first|apply And.intro|exact .dq|refine ak.aH (by assumption) ?_|refine gr (λh=>?_) λh=>?_|refine .id ?_|refine af.bF (by omega) ?_ ?_|exact aI|simp only[*,go_sem,seval]):p:=h
theorem lH(a b:Int):(a != b) = !(a==b):=rfl

end
end Go.Abs
