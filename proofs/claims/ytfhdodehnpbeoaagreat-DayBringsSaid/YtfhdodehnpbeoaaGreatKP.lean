/- Parts. -/
import Derived.Test.YtfhdodehnpbeoaaGreatKM
import Derived.Test.YtfhdodehnpbeoaaGreatKO
import Derived.Test.YtfhdodehnpbeoaaGreatKN
set_option linter.all false
set_option maxHeartbeats 4000000
set_option maxRecDepth 16000
namespace Go.Proofs.YtfhdodehnpbeoaaGreat
open Go.Abs Tryz
open List hiding lt max min
def YB{a b c:aB}(d:bI a b=true)(e:bI b c=true):bI a c=true:=by
 simp only[bI,Bool.or_eq_true,cU,bO,fE]at d e |-;omega
def yM{a b c:bZ}(d:gT a b=true)(e:gT b c=true):gT a c=true:=by
 simp only[gT,bO]at d e |-;omega
def oL{xs:List aB}:nQ bN bI xs=true↔(∀x∈xs,bN x=true)/\xs.Pairwise (λa b=>bI a b=true):=tA (lt:=bI) YB
def lV{x:aB}:bN x=true↔(1<=x.who/\x.who<=16)/\(0<=x.cur/\x.cur<=2)/\(1<=x.bT/\x.bT<=4611686018427387904)/\0<=x.till/\x.till<=1099511627776:=by
 simp only[bN,within,cU,bO];omega
def JS{x:aH}:wo x=true↔(1<=x.who/\x.who<=16)/\(0<=x.cur/\x.cur<=2)/\0<=x.bT/\x.bT<=4611686018427387904:=by
 simp only[wo,within,cU,bO];omega
def mQ{w c:Int}{xs:List aB}(h:¬bL w c xs<0):lM w c xs∈xs/\(lM w c xs).who=w/\(lM w c xs).cur=c:=by
 obtain⟨i,b,d,a⟩:=sG h;unfold lM;rw[d,Int.toNat_natCast,getD_eq_getElem?_getD,gF b];simp only[pI,cU,fE]at a;exact⟨dH b,a⟩
def BV{xs:List aB}{x y:aB}{w c:Int}(h:y∈GY xs x w c):(y.who=w/\y.cur=c)/\((y=x/\0<x.bT)\/y∈xs):=by
 unfold GY at h;split at h
 ·rename_i a;simp only[cU,fE]at a;split at h
  ·rename_i b;obtain rfl:=iD.1 h;exact⟨a,.inl ⟨rfl,b⟩⟩
  ·cases h
 ·split at h
  ·cases h
  ·rename_i d;obtain rfl:=iD.1 h;have:=mQ d;exact⟨this.2,.inr this.1⟩
def LR{xs:List aB}{x y:aB}(h:y∈vQ xs x 16):(y=x/\0<x.bT)\/y∈xs:=by
 obtain⟨k,_,h⟩:=jf.1 h;obtain⟨c,_,h⟩:=jf.1 h;exact(BV h).2
def Rx{xs:List aB}{x:aB}(h:nQ bN bI xs=true)(n:0<x.bT->bN x=true):nQ bN bI (vQ xs x 16)=true:=by
 rw[oL]at h |-;refine⟨λy g=>?_,?_⟩
 ·rcases LR g with⟨rfl,d⟩|g
  ·exact n d
  ·exact h.1 y g
 ·unfold vQ;refine zI (λk _=>?_) λi j f _ a d b e=>?_
  ·unfold GX;refine zI (λc _=>BF (UH _ _ _ _)) λi j f _ a d b e=>?_;have l:=(BV d).1;have m:=(BV e).1;simp only[bI,Bool.or_eq_true,cU,bO,fE];omega
  ·obtain⟨_,_,d⟩:=jf.1 d;obtain⟨_,_,e⟩:=jf.1 e;have l:=(BV d).1;have m:=(BV e).1;simp only[bI,Bool.or_eq_true,cU,bO,fE];omega
def P0{xs:List aB}{d:aH}{t:Int}(h:nQ bN bI xs=true):nQ bN bI (yT xs d t)=true/\∀y∈yT xs d t,y.who=d.who\/y∈xs:=by
 unfold yT;split
 case isFalse=>exact⟨rfl,λy b=>by cases b⟩
 rename_i c;unfold vV at c;rw[au h]at c;split at c
 case isFalse=>cases c
 rename_i a;rw[cU]at a;obtain⟨a,e⟩:=a;rw[JS]at a;simp only[within,cU,bO]at e;refine⟨Rx h λf=>?_,λy b=>?_⟩
 ·dsimp only at f;rw[lV];dsimp only;refine⟨a.1,a.2.1,by omega,?_⟩;split
  ·exact e
  ·rename_i g;exact(lV.1 ((oL.1 h).1 _ (mQ g).1)).2.2.2
 ·rcases LR b with⟨rfl,_⟩|b
  ·exact .inl rfl
  ·exact .inr b
def ab7{xs:List aB}{d:aH}(h:nQ bN bI xs=true):nQ bN bI (Aj xs d)=true/\∀y∈Aj xs d,∃x∈xs,y.who=x.who:=by
 unfold Aj;split
 case isFalse=>exact⟨rfl,λy c=>by cases c⟩
 rename_i e;unfold ym at e;rw[au h]at e;split at e
 case isFalse=>cases e
 rename_i g;rw[JS]at g;refine⟨Rx h λa=>?_,λy c=>?_⟩
 ·unfold TG at a |-;split at a
  ·dsimp only at a;omega
  ·rename_i b;rw[aq b];have f:=lV.1 ((oL.1 h).1 _ (mQ b).1);dsimp only at a;rw[lV];dsimp only;exact⟨f.1,f.2.1,by omega,f.2.2.2⟩
 ·rcases LR c with⟨rfl,a⟩|c
  ·unfold TG at a |-;split at a
   ·dsimp only at a;omega
   ·rename_i b;rw[aq b];exact⟨_,(mQ b).1,rfl⟩
  ·exact⟨y,c,rfl⟩
def uX{xs:List aB}{ws:List Int}{y:aB}:y∈dQ xs ws↔y∈xs/\tO ws y.who=false:=by
 unfold dQ;rw[mem_flatMap];constructor
 ·rintro⟨x,d,h⟩;split at h
  ·cases h
  ·rename_i c;obtain rfl:=iD.1 h;exact⟨d,su c⟩
 ·rintro⟨a,b⟩;exact⟨y,a,by rw[b];simp⟩
def WK{A:Type}{R:A->A->Prop}{q:A->Bool}{xs:List A}(h:xs.Pairwise R):(xs.flatMap λx=>if q x=true then[]else[x]).Pairwise R:=by
 refine Q1 h (λa _=>BF (by split<;>simp)) λa b _ _ c x d y e=>?_;split at d
 ·cases d
 split at e
 ·cases e
 obtain rfl:=iD.1 d;obtain rfl:=iD.1 e;exact c
def HO{xs:List aB}{ws:List Int}(h:nQ bN bI xs=true):nQ bN bI (dQ xs ws)=true:=by
 rw[oL]at h |-;exact⟨λy a=>h.1 y (uX.1 a).1,WK h.2⟩
structure oo(r:ay)(qs:List aE)(ts:List aT)(ps:List iu)(cs:List aB):Prop where
 qs:∀p∈qs,(bF r p.who=1\/bF r p.who=2)/\bE r p.inst=true
 ts:∀t∈ts,bF r t.lg≠0/\bF r t.iH≠0/\bE r t.inst=true
 ps:∀p∈ps,(bF r p.who=1\/bF r p.who=2)/\o7 r p.bV=true
 cs:∀c∈cs,bF r c.who=1
structure af.right(s:af):Prop where
 HT:(0<=s.now/\s.now<=1099511627776)/\(0<=s.day/\s.day<=1099511627776)/\0<=s.phase/\s.phase<=2
 ak:s.ak.okB=true
 book:s.book.okB=true
 bp:s.bp.okB=true
 ps:kf s.ps=true
 calls:nQ bN bI s.calls=true
 known:oo s.ak s.book.qs s.book.ts s.ps s.calls
 bl:s.aZ.length<=32
 aZ:∀b∈s.aZ,q8 b=true
 aR:nQ jI gT s.aR=true
def bU{s:af}:bS s=true↔s.right:=by
 simp only[bS,ug,sL,KX,CN,BA,v8,C2,within,cU,Bool.or_eq_true,iN,bO,gP,fE,beq_eq_false_iff_ne,cg,ne_eq];constructor
 ·rintro⟨h0,a,b,c,d,e,⟨k1,k2,k3,f⟩,h7,h8,h9⟩;exact⟨by omega,a,b,c,d,e,⟨k1,k2,k3,f⟩,by omega,h8,h9⟩
 ·intro h;have:=h.bl;have:=h.HT;exact⟨by omega,h.ak,h.book,h.bp,h.ps,h.calls,⟨h.known.qs,h.known.ts,h.known.ps,h.known.cs⟩,by omega,h.aZ,h.aR⟩
def oo.ext{r b:ay}{qs ts ps cs}(h:oo r qs ts ps cs)(e:r.ext b):oo b qs ts ps cs:=by
 have d:∀w,(bF r w=1\/bF r w=2)->bF b w=1\/bF b w=2:=λw i=>by
  rw[e.st w aj];exact i
 refine⟨λp a=>⟨d _ (h.qs p a).1,e.inst _ (h.qs p a).2⟩,λt g=>?_,λp a=>⟨d _ (h.ps p a).1,e.ast _ (h.ps p a).2⟩,λc f=>?_⟩
 ·have:=h.ts t g;rw[e.st _ this.1,e.st _ this.2.1];exact⟨this.1,this.2.1,e.inst _ this.2.2⟩
 ·have:=h.cs c f;rw[e.st _ aj];exact this
def zO{s:af}(h:s.right){a:ay}(b:a.okB=true/\s.ak.ext a):({ s with ak:=a }:af).right:=
 ⟨h.HT,b.1,h.book,h.bp,h.ps,h.calls,h.known.ext b.2,h.bl,h.aZ,h.aR⟩
def ZU{s:af}(h:s.right){l:bu}(a:l.okB=true):({ s with bp:=l }:af).right:=
 ⟨h.HT,h.ak,h.book,a,h.ps,h.calls,h.known,h.bl,h.aZ,h.aR⟩
def Uu{s:af}(h:s.right){cs:List aB}(a:nQ bN bI cs=true)(b:∀c∈cs,bF s.ak c.who=1):({ s with calls:=cs }:af).right:=
 ⟨h.HT,h.ak,h.book,h.bp,h.ps,a,⟨h.known.qs,h.known.ts,h.known.ps,b⟩,h.bl,h.aZ,h.aR⟩
def u7{s:af}(h:s.right)(g:List aN):(sQ s g).right:=by
 unfold sQ;split
 ·rename_i a;exact ZU h (T7 a)
 ·exact h
def LB{s:af}(h:s.right)(d:aH):({ s with calls:=Aj s.calls d }:af).right:=by
 obtain⟨a,b⟩:=ab7 (d:=d) h.calls;refine Uu h a λc e=>?_;obtain⟨x,g,f⟩:=b c e;rw[f];exact h.known.cs x g
def ZD{s:af}(h:s.right)(c:bB):(xw s c).1.right:=by
 unfold xw;split
 case isFalse=>exact h
 split
 case isFalse=>exact h
 split
 ·exact u7 h _
 split
 ·split
  ·exact LB (u7 h _) _
  ·exact u7 h _
 ·exact u7 h _
def aaZ{r:ay}{w:Int}(h:Jf r w=0):bF r w=1:=by
 unfold Jf at h;split at h
 ·split at h
  ·assumption
  ·cases h
 ·cases h
def QW{s:af}(h:s.right)(c:bB)(n:Int):(sq s c n).1.right:=by
 unfold sq;split
 case isFalse=>exact h
 split
 case isFalse=>exact h
 rename_i d;rw[cU]at d;split
 case isFalse=>exact h
 rename_i f;split
 case isFalse=>exact h
 rename_i b;have e:=Ep b;have key:({ s with ps:=gy s.ps c.who c.no n }:af).right:=by
  refine⟨h.HT,h.ak,h.book,h.bp,lN.2 e,h.calls,⟨h.known.qs,h.known.ts,λp a=>?_,h.known.cs⟩,h.bl,h.aZ,h.aR⟩;dsimp only at a |-;unfold gy at a;rw[au b]at a;rcases IG a with a| ⟨rfl,_⟩
  ·exact h.known.ps p a
  ·exact⟨.inl f,d.2⟩
 split
 ·exact key
 split
 ·exact LB key _
 ·exact key
def OF{t:aT}{b:Bool}{p:aE}(h:p∈mm t b):(p.who=t.lg\/p.who=t.iH)/\p.inst=t.inst:=by
 unfold mm at h;split at h
 ·simp only[mem_cons,not_mem_nil,or_false]at h;rcases h with rfl|rfl<;>simp
 ·cases h
def Gu{r:ay}{b:aJ}{g:List aE}{ts ps cs}(h:oo r b.qs ts ps cs)(d:∀p∈g,(bF r p.who=1\/bF r p.who=2)/\bE r p.inst=true):oo r (AG b g 16) ts ps cs:=by
 refine⟨λp e=>?_,h.ts,h.ps,h.cs⟩;rcases aed e with⟨q,c,a,e2⟩| ⟨q,c,a,e2⟩
 ·rw[<-a,<-e2];exact h.qs q c
 ·rw[<-a,<-e2];exact d q c
def DN{s:af}(h:s.right){b:aJ}(a:b.okB=true)(c:oo s.ak b.qs b.ts s.ps s.calls):({ s with book:=b }:af).right:=
 ⟨h.HT,h.ak,a,h.bp,h.ps,h.calls,c,h.bl,h.aZ,h.aR⟩
def aat{r:ay}{t:aT}(h:D6 r t=0):bF r t.lg=1/\bF r t.iH=1/\bE r t.inst=true:=by
 unfold D6 at h;split at h
 case isFalse=>cases h
 split at h
 case isFalse=>cases h
 split at h
 case isFalse=>cases h
 rename_i b;split at h
 ·cases h
 split at h
 case isFalse=>cases h
 rename_i a;simp only[cU,fE]at b a;exact⟨a.1,a.2,b.1⟩
def Hi{s:af}{b:aJ}{t:aT}{ps cs}(i:kU b t=0)(c:oo s.ak b.qs b.ts ps cs)(f:bF s.ak t.lg=1)(h:bF s.ak t.iH=1)(d:bE s.ak t.inst=true):oo s.ak (om b t).qs (om b t).ts ps cs:=by
 unfold om;rw[au i];have k:=Gu (g:=mm t false) c λp j=>by
  have:=OF j;rw[this.2];exact⟨by rcases this.1 with e|e<;>rw[e]<;>simp[f,h],d⟩
 refine⟨k.qs,λx a=>?_,c.ps,c.cs⟩;rcases mem_append.1 a with a|a
 ·exact c.ts x a
 ·obtain rfl:=iD.1 a;exact⟨by dsimp only;omega,by dsimp only;omega,d⟩
def Eo{s:af}{b:aJ}{n:Int}{ps cs}(d:jd b n=0)(a:oo s.ak b.qs b.ts ps cs)(h:bF s.ak (fS n b.ts).lg=1)(i:bF s.ak (fS n b.ts).iH=1):oo s.ak (iE b n).qs (iE b n).ts ps cs:=by
 have f:=(JX (yW d).2.1).1;have j:=(a.ts _ f).2.2;unfold iE;rw[au d];have l:=Gu (g:=mm (fS n b.ts) true) a λp k=>by
  have:=OF k;rw[this.2];exact⟨by rcases this.1 with e|e<;>rw[e]<;>simp[h,i],j⟩
 refine⟨l.qs,λx c=>?_,a.ps,a.cs⟩;rcases mem_or_eq_of_mem_set c with c|rfl
 ·exact a.ts x c
 ·have:=a.ts _ f;exact⟨this.1,this.2.1,this.2.2⟩
def U4{s:af}(h:s.right)(c:bB)(a:(qa s c).2.2=0):(qa s c).1.right:=by
 unfold qa at a |-;split
 ·rename_i b;rw[au b]at a;split
  ·rename_i i;rw[au i]at a;obtain⟨k,t2,t3⟩:=aat i;exact DN h (N7 a) (Hi (s:=s) a h.known k t2 t3)
  ·exact h
 rename_i b;rw[aq b]at a;split
 ·rename_i b;rw[au b]at a;exact zO h (af4 a)
 rename_i b;rw[aq b]at a;split
 ·exact h
 rename_i g;rw[aq g]at a;split
 case isFalse=>exact h
 rename_i e;rw[au e]at a;have d:=aaZ e.1;have a2:=aaZ e.2;split
 ·rename_i b;rw[au b]at a;exact DN h (VB a) (Eo (s:=s) a h.known d a2)
 ·rename_i b;rw[aq b]at a;obtain⟨f,e2⟩:=Hg a;have k1:=Eo (s:=s) f h.known d a2;have j:=(h.known.ts _ (JX g).1).2.2;refine DN h (Sv a) ?_;unfold xW;rw[au f];exact Hi (s:=s) e2 k1 d a2 j
def Yx{s:af}(h:s.right)(c:bB):(Az s c).1.right:=by
 unfold Az;split
 case isFalse=>exact h
 rename_i d;split
 case isFalse=>exact h
 rename_i e;split
 ·exact h
 split
 case isFalse=>exact h
 rename_i hs;split
 ·exact h
 rename_i hl;simp only[cU]at e d;have r1:=xH h.ak (w:=c.who) (by unfold bF;omega);have r2:=xH h.ak (w:=c.other) (by unfold bF;omega);have r3:=vr e.2.2;have r4:=EJ ((fF.1 h.ak).2.1.1 _ r3.1);rw[r3.2]at r4;refine⟨h.HT,h.ak,h.book,h.bp,h.ps,h.calls,h.known,by dsimp only;simp;omega,λb a=>?_,h.aR⟩;rcases mem_append.1 a with a|a
 ·exact h.aZ b a
 ·obtain rfl:=iD.1 a;simp only[q8,vv,d.1,d.2,within,cU,bO];simp only[within,cU,bO]at d;omega
theorem UT:∀{ps:List Int} {j:Nat},j<ps.length->aC (ps.set j (ps.getD j 0+1))=aC ps+1
 | [],j,h=>by simp at h
 |x::r,0,_=>by simp[aC];omega
 |x::r,j+1,h=>by
  have:=UT (ps:=r) (j:=j) (su h);simp only[set_cons_succ,getD_cons_succ,aC,this];omega
theorem Oo(rs:List Int):∀(n:Nat)(gs:List Bool)(ps:List Int),gs.length=rs.length->ps.length=rs.length->gs.count true+n<=gs.length->aC (o9 rs n gs ps)=aC ps+n
 | 0,_,_,_,_,_=>by simp[o9]
 |n+1,gs,ps,h1,h2,h3=>by
  have a:=IK (gs:=gs) aj;rw[h1]at a;have c:=IF rs gs rs.length a;have hr:=u0 rs gs rs.length;have b:=AL rs gs rs.length c;simp only[o9];rw[Oo rs n _ _ (by simp[h1]) (by simp[h2]) (by rw[count_set b,length_set];omega),UT aj];omega
theorem ED(rs:List Int):∀(n:Nat)(gs:List Bool)(ps:List Int),(∀x∈ps,0<=x)->∀x∈o9 rs n gs ps,0<=x
 | 0,_,_,h=>h
 |n+1,gs,ps,h=>by
  simp only[o9];refine ED rs n _ _ λx a=>?_;rcases mem_or_eq_of_mem_set a with a|rfl
  ·exact h x a
  ·have:0<=ps.getD (jD rs gs rs.length).toNat 0:=by
    rw[getD_eq_getElem?_getD];cases b:ps[(jD rs gs rs.length).toNat]? with
    |none=>simp
    |some y=>exact h y (fC b)
   omega
def Pq{t:Int}{ws:List Int}(h:jt t ws=0):0<=t/\(∀x∈ws,0<=x):=by
 unfold jt at h;split at h
 case isFalse=>cases h
 rename_i a;split at h
 case isFalse=>cases h
 rename_i b;simp only[cU,iN,gP]at a;refine⟨by omega,λx c=>?_⟩;have:=cg.1 b x c;simp only[iN,gP]at this;omega
def DY{t:Int}{ws:List Int}(h:jt t ws=0)(f:aC ws≠0):aC (cy t ws)=t/\(∀x∈cy t ws,0<=x):=by
 obtain⟨d,a⟩:=Pq h;have hn:=qA a;have hl:=vA d rfl (show 1<=aC ws by omega) a;unfold cy;rw[au h,aq f];have b:(pW t (aC ws) ws).length=(vU t (aC ws) ws).length:=by simp[pW,vU]
 have c:(vU t (aC ws) ws).length=ws.length:=by simp[vU]
 refine⟨?_,ED _ _ _ _ λx g=>?_⟩
 ·rw[Oo _ _ _ _ (by simp[c]) b (by simp[count_replicate];omega)];omega
 ·obtain⟨w,e,rfl⟩:=mem_map.1 g;exact(zE d aj (a w e) (FC a w e)).1
def CG(f:List dX):Int:=aC (f.map dX.aQ)
theorem Oc:∀(l:List bn)(k:Int),CG (mF k l).1+(mF k l).2=k
 | [],k=>by simp[mF,CG,aC]
 |b::r,k=>by
  simp only[mF];split
  ·have:=Oc r (k-min k b.aQ);simp only[CG,map_cons,aC]at this |-;omega
  ·simp[CG,aC]
theorem Ob:∀(l:List bn)(k:Int) {f:dX},f∈(mF k l).1->∃b∈l,f.src=b.src
 | [],k,f,h=>by simp[mF]at h
 |b::r,k,f,h=>by
  simp only[mF]at h;split at h
  ·rcases mem_cons.1 h with rfl|h
   ·exact⟨b,by simp,rfl⟩
   ·obtain⟨x,a,e⟩:=Ob r _ h;exact⟨x,by simp[a],e⟩
  ·cases h
theorem TY(long:Bool){y:bn}:∀(l out:List bn),y∈DG long out l->y∈out\/y∈l
 | [],out,h=>.inl h
 |x::r,out,h=>by
  simp only[DG]at h;rcases TY long r _ h with h|h
  ·unfold J' at h;rcases mem_append.1 h with h|h
   ·exact .inl (mem_of_mem_take h)
   ·rcases mem_cons.1 h with rfl|h
    ·exact .inr sT
    ·exact .inl (mem_of_mem_drop h)
  ·exact .inr (by simp[h])
def abo{q:Int}{l:List bn}(h:mD q l=0):CG (jz q l).1+(jz q l).2=max q (-q)/\∀f∈(jz q l).1,∃b∈l,f.src=b.src:=by
 unfold jz;rw[au h];refine⟨Oc _ _,λf c=>?_⟩;obtain⟨b,a,e⟩:=Ob _ _ c;rcases TY _ _ _ a with a|a
 ·cases a
 ·exact⟨b,a,e⟩
theorem abq{w n m:Int}{long:Bool}:∀{f:List dX},(∀x∈f,x.src≠w)->aC (pick (cZ w m) aE.aQ (f.flatMap (vl w n long)))=if m=n then -xG long (CG f)else 0
 | [],_=>by simp[pick,aC,CG,xG]
 |x::r,h=>by
  have d:=abq (w:=w) (n:=n) (m:=m) (long:=long) (f:=r) λy c=>h y (by simp[c]);have b:=h x sT;rw[flatMap_cons,show vl w n long x=[⟨x.src,n,xG long x.aQ,xG long (x.aQ*x.aS)⟩,⟨w,n,-xG long x.aQ,-xG long (x.aQ*x.aS)⟩]from rfl];rw[cons_append,cons_append,nil_append,nJ,nJ,d];rw[aq (λh=>b (mq.1 h).1)];by_cases a:m=n
  ·rw[au (show cZ w m ⟨w,n,-xG long x.aQ,-xG long (x.aQ*x.aS)⟩=true from mq.2 ⟨rfl,a.symm⟩),au a,au a];simp only[CG,map_cons,aC,xG];split<;>omega
  ·rw[aq (λh=>a (mq.1 h).2.symm),aq a,aq a];rfl
def OY{b:aJ}{g:List aE}{w n:Int}(hw:1<=w/\w<=16)(hn:1<=n/\n<=8):(posOf w n (AG b g 16)).aQ=CP b g w n:=by
 by_cases h:CP b g w n=0/\Mp b g w n=0
 ·rw[iW,h.1];intro p d c;obtain⟨k,m,_,_,d⟩:=uG d;obtain⟨rfl,a⟩:=qV d;dsimp only at c;rw[c.1,c.2]at a;exact a h
 ·have e:(⟨w,n,CP b g w n,Mp b g w n⟩:aE)∈AG b g 16:=by
   refine mem_flatMap.2 ⟨(w-1).toNat,mem_range.2 aj,mem_flatMap.2 ⟨(n-1).toNat,mem_range.2 aj,?_⟩⟩;rw[show(((w-1).toNat:Nat):Int)+1=w by omega,show(((n-1).toNat:Nat):Int)+1=n by omega];unfold ID;rw[aq (by simp only[cU,fE];exact h)];simp
  rw[tY (FZ b g) e ⟨rfl,rfl⟩]
structure Ic(r:ay)(w:Int)(b:aJ)(ts:List aT)(ps:List iu)(cs:List aB):Prop where
 ok:b.okB=true
 known:oo r b.qs ts ps cs
 ts:b.ts=ts
def LP{r:ay}{w n:Int}{b:aJ}{ts ps cs}{long:Bool}{f:List dX}(q:1<=w/\w<=16)(t:1<=n/\n<=8)(i:Ic r w b ts ps cs)(v:bF r w=2)(l:bE r n=true)(k:∀x∈f,x.src≠w/\(bF r x.src=1\/bF r x.src=2))(h:(mO b w n long f).2=0) :
  Ic r w (mO b w n long f).1 ts ps cs/\(posOf w n (mO b w n long f).1.qs).aQ=(posOf w n b.qs).aQ-xG long (CG f)/\∀m,1<=m/\m<=8->m≠n->(posOf w m (mO b w n long f).1.qs).aQ=(posOf w m b.qs).aQ:=by
 unfold mO at h |-;split
 case isFalse a=>rw[aq a]at h;exact absurd h a
 rename_i j;rw[au j]at h;dsimp only at h |-;have o:lR w n long f=f.flatMap (vl w n long):=by unfold lR;rw[au j]
 have u:=λm=>abq (w:=w) (n:=n) (m:=m) (long:=long) (f:=f) λx e=>(k x e).1;have c:∀m,CP b (lR w n long f) w m=(posOf w m b.qs).aQ+if m=n then -xG long (CG f)else 0:=λm=>by
  unfold CP;rw[aC,o,u]
 refine⟨⟨W9 h,?_,?_⟩,?_,λm s a=>?_⟩
 ·rw[(qX h).2];refine Gu i.known λp d=>?_;rw[o]at d;obtain⟨x,e,d⟩:=mem_flatMap.1 d;have g:=k x e;unfold vl at d;simp only[mem_cons,not_mem_nil,or_false]at d;rcases d with rfl|rfl
  ·exact⟨g.2,l⟩
  ·exact⟨.inr v,l⟩
 ·rw[(qX h).2];exact i.ts
 ·rw[(qX h).2];show(posOf w n (AG b _ 16)).aQ=_;rw[OY q t,c,au rfl];omega
 ·rw[(qX h).2];show(posOf w m (AG b _ 16)).aQ=_;rw[OY q s,c,aq a];omega
theorem UX{ws ps:List Int}(h:∀x∈ps,0<=x):∀k,k<=ps.length->CG (n6 (pZ ws ps) k)=aC (ps.take k)
 | 0,_=>rfl
 |k+1,hk=>by
  have b:=UX (ws:=ws) h k aj;have a:k<ps.length:=aj
  rw[iS,j7 a,gO];unfold CG at b |-;rw[jv,gO,b];congr 1;have c:ps.getD k 0=ps[k]:=by rw[getD_eq_getElem?_getD,gF a];rfl
  have h0:=h ps[k] (dH a);unfold pZ;rw[c];split
  ·rfl
  ·have:ps[k]=0:=aj
   rw[this];rfl
def adn{ws ps:List Int}(hl:ps.length<=ws.length){f:dX}(h:f∈Df ws ps):f.src∈ws:=by
 obtain⟨i,hi,h⟩:=jf.1 h;unfold pZ at h;split at h
 ·obtain rfl:=iD.1 h;dsimp only;rw[getD_eq_getElem?_getD,gF aj];exact dH _
 ·cases h
def UW{b:aJ}{w n k:Int}(h:j4 b w n k=0):b.okB=true/\(0<=k/\k<=1099511627776)/\k<=aC (kk (posOf w n b.qs).aQ n b.qs):=by
 unfold j4 at h;split at h
 case isFalse=>cases h
 rename_i c;split at h
 case isFalse=>cases h
 rename_i a;split at h
 ·cases h
 rename_i h3;simp only[within,cU,bO]at a;exact⟨c,a,by omega⟩
def yw{q n:Int}{p:aE}:sP q n p=true↔p.inst=n/\((0<q/\p.aQ<0)\/(q<0/\0<p.aQ)):=by
 simp only[sP,cU,Bool.or_eq_true,fE,bO]
def pV{A:Type}{q:A->Bool}{f:A->Int}{xs:List A}{v:Int}(h:v∈pick q f xs):∃x∈xs,q x=true/\v=f x:=by
 obtain⟨x,b,h⟩:=mem_flatMap.1 h;split at h
 ·rename_i a;exact⟨x,b,a,iD.1 h⟩
 ·cases h
def vg{b:aJ}(h:b.okB=true):b.qs.length<=128:=by
 have f:=dY.1 h;have j:(b.qs.map λp=>p.who*8+p.inst).Pairwise (λa c=>a<c):=by
  rw[pairwise_map];refine(Pairwise.imp_of_mem (λ{p q} d hq hpq=>?_) f.pw);have k1:=jG.1 (f.ok p d);have k2:=jG.1 (f.ok q hq);simp only[lC,MU,Bool.or_eq_true,cU,bO,fE]at hpq;omega
 have key:∀(l:List Int)(lo e:Int),l.Pairwise (λa c=>a<c)->(∀x∈l,lo<=x/\x<e)->lo<=e->(l.length:Int)<=e-lo:=by
  intro l;induction l with
  |nil=>intro lo e _ _ h;simp;omega
  |cons x r ih =>
   intro lo e d g hlh;rw[jR]at d;have hx0:=g x sT;have:=ih (x+1) e d.2 (λy i=>by have:=d.1 y i;have:=g y (by simp[i]);omega) aj;simp only[length_cons];omega
 have:=key _ 9 137 j (λx g=>by
  obtain⟨p,d,rfl⟩:=mem_map.1 g;have:=jG.1 (f.ok p d)
  omega) aj
 simp only[qO]at this;omega
def ac0{r:ay}{w n p rest:Int}{b:aJ}{ts ps cs}{long:Bool}(I:1<=w/\w<=16)(F:1<=n/\n<=8)(B:Ic r w b ts ps cs)(H:bF r w=2)(E:bE r n=true)(G:(posOf w n b.qs).aQ=xG long rest)(hr:rest≠0)(h:(Au b w n p long rest).2=0) :
  Ic r w (Au b w n p long rest).1 ts ps cs/\(posOf w n (Au b w n p long rest).1.qs).aQ=0/\∀m,1<=m/\m<=8->m≠n->(posOf w m (Au b w n p long rest).1.qs).aQ=(posOf w m b.qs).aQ:=by
 unfold Au at h |-;split
 case isFalse hne=>rw[aq hne]at h;exact absurd h hne
 rename_i o;rw[au o]at h;obtain⟨D,t2,t3⟩:=UW o;have j:=dY.1 D;obtain⟨ws,g⟩:∃l,l=uv (posOf w n b.qs).aQ n b.qs:=⟨_,rfl⟩
 obtain⟨ns,a⟩:∃l,l=kk (posOf w n b.qs).aQ n b.qs:=⟨_,rfl⟩
 have hlen:ns.length=ws.length:=by rw[g,a];exact Cl _ _ _ _
 have c:∀x∈ns,0<x/\x<=1099511627776:=λx d=>by
  rw[a]at d;obtain⟨y,i,t,rfl⟩:=pV d;have k:=yw.1 t;have h2:=jG.1 (j.ok y i);omega
 rw[<-a]at t3;have hnl:ns.length<=128:=by
  rw[a];exact Nat.le_trans (bR _ _ _) (vg D)
 have s:jt rest ns=0:=by
  unfold jt;rw[au,au,aq aj,aq aj]
  ·exact cg.2 λx d=>by have:=c x d;simp only[iN,gP];omega
  ·simp only[cU,iN,gP];refine⟨⟨by omega,by rw[bf];omega⟩,cg.2 λx d=>by have:=c x d;rw[bf];omega⟩
 obtain⟨s1,s2⟩:=DY s aj;have hsl:=oE rest ns;have A:kG b w n rest=Df ws (cy rest ns):=by unfold kG;rw[au o,<-g,<-a]
 have q:CG ((kG b w n rest).map (eK p))=rest:=by
  have:CG ((kG b w n rest).map (eK p))=CG (kG b w n rest):=by
   unfold CG;rw[map_map];rfl
  rw[this,A];have:=UX (ws:=ws) s2 _ (fO _);rw[eU,s1]at this;exact this
 obtain⟨J,K,L⟩:=LP (long:=long) (f:=(kG b w n rest).map (eK p)) I F B H E (λx d=>by
  obtain⟨y,i,rfl⟩:=mem_map.1 d;rw[A]at i;have i:=adn aj i;rw[g]at i;obtain⟨z,C,u,e⟩:=pV i;show y.src≠w/\_;rw[show(eK p y).src=y.src from rfl,e];refine⟨λv=>?_,(B.known.qs z C).1⟩;have k:=yw.1 u;rw[tY j.pw C ⟨v,k.1⟩]at k
  omega) h
 refine⟨J,?_,L⟩;rw[K,q,G];omega
def UE{s:af}{w n:Int}{b:aJ}(h:s.right)(D:1<=w/\w<=16)(B:1<=n/\n<=8)(v:Ic s.ak w b s.book.ts s.ps s.calls)(r:bF s.ak w=2)(C:(posOf w n b.qs).aQ≠0)(c:(nB s b w n (posOf w n b.qs).aQ).2=0) :
  Ic s.ak w (nB s b w n (posOf w n b.qs).aQ).1 s.book.ts s.ps s.calls/\(posOf w n (nB s b w n (posOf w n b.qs).aQ).1.qs).aQ=0/\∀m,1<=m/\m<=8->m≠n->(posOf w m (nB s b w n (posOf w n b.qs).aQ).1.qs).aQ=(posOf w m b.qs).aQ:=by
 have A:bE s.ak n=true:=by
  by_cases t:∃p∈b.qs,p.who=w/\p.inst=n
  ·obtain⟨p,l,_,e⟩:=t;rw[<-e];exact(v.known.qs p l).2
  ·rw[iW λp l O=>t ⟨p,l,O⟩]at C;exact absurd rfl C
 obtain⟨q,f⟩:=aL ((posOf w n b.qs).aQ);rw[<-f]at C c |-;unfold nB at c |-;split
 case isFalse a=>rw[aq a]at c;cases c
 rename_i l;rw[au l]at c;split
 case isFalse a=>rw[aq a]at c;exact absurd c a
 rename_i G;rw[au G]at c;obtain⟨L,E⟩:=abo G;obtain⟨F,N⟩:=aL (jz q (gQ s w n s.aZ));rw[<-N]at L E c |-
 have g:∀k:Int,xG (decide (0<q)) k=if 0<q then k else -k:=λk=>by
  unfold xG;by_cases M:0<q<;>simp[M]
 have d:∀x∈F.1,x.src≠w/\(bF s.ak x.src=1\/bF s.ak x.src=2):=λx t=>by
  obtain⟨y,o,e⟩:=E x t;obtain⟨z,_,o⟩:=mem_flatMap.1 o;split at o
  ·rename_i i;obtain rfl:=iD.1 o;simp only[F9,cU,fE]at i;rw[e];refine⟨λh=>?_,.inl i.2⟩;rw[h,r]at i;omega
  ·cases o
 split
 ·rename_i j;rw[au j]at c;obtain⟨u,a2,a3⟩:=LP (long:=decide (0<q)) D B v r A d j.1
  obtain⟨I,J,K⟩:=ac0 (p:=bC (aU s.ak n)) (long:=decide (0<q)) (rest:=F.2) D B u r A (by
   rw[a2,<-f,g,g]
   split<;>omega) j.2 c
  exact⟨I,J,λm H a=>by rw[K m H a,a3 m H a]⟩
 ·rename_i j;rw[aq j]at c;obtain⟨u,a2,a3⟩:=LP (long:=decide (0<q)) D B v r A d c;have i:F.2=0:=by
   by_cases i:F.2=0
   ·exact i
   ·exact absurd ⟨c,i⟩ j
  refine⟨u,?_,a3⟩;rw[a2,<-f,g];split<;>omega
def K0{s:af}{w n:Int}{b:aJ}(h:s.right)(g:1<=w/\w<=16)(e:1<=n/\n<=8)(d:Ic s.ak w b s.book.ts s.ps s.calls)(f:bF s.ak w=2)(c:(jA s w b n).2=0) :
  Ic s.ak w (jA s w b n).1 s.book.ts s.ps s.calls/\(posOf w n (jA s w b n).1.qs).aQ=0/\∀m,1<=m/\m<=8->m≠n->(posOf w m (jA s w b n).1.qs).aQ=(posOf w m b.qs).aQ:=by
 unfold jA at c |-;split
 ·rename_i a;exact⟨d,su a,λ_ _ _=>rfl⟩
 ·rename_i a;rw[aq a]at c;exact UE h g e d f (su a) c
theorem QX{s:af}{w:Int}(h:s.right)(d:1<=w/\w<=16)(c:bF s.ak w=2):∀(m i:Nat) {b:aJ},i+m=8->Ic s.ak w b s.book.ts s.ps s.calls->(∀k:Nat,k<i->(posOf w ((k:Int)+1) b.qs).aQ=0)->(mo s w m i b).2=0 ->
  Ic s.ak w (mo s w m i b).1 s.book.ts s.ps s.calls/\∀k:Nat,k<8->(posOf w ((k:Int)+1) (mo s w m i b).1.qs).aQ=0
 | 0,i,b,hi,hb,hz,_=>⟨hb,λk f=>hz k aj⟩
 |m+1,i,b,hi,hb,hz,he=>by
  simp only[mo]at he |-;split
  ·rename_i a;rw[au a]at he;obtain⟨e,a2,a3⟩:=K0 h d (n:=(i:Int)+1) aj hb c a;refine QX h d c m (i+1) aj e (λk f=>?_) he;rcases dN k i with hki|hki
   ·rw[a3 _ aj aj];exact hz k hki
   ·obtain rfl:k=i:=aj
    exact a2
  ·rename_i a;rw[aq a]at he;exact absurd he a
def Gs{w:Int}{l:List aE}{p:aE}:p∈mg w l↔p∈l/\p.who≠w:=by
 unfold mg;rw[mem_flatMap];constructor
 ·rintro⟨x,d,h⟩;split at h
  ·cases h
  ·rename_i c;obtain rfl:=iD.1 h;exact⟨d,su c⟩
 ·rintro⟨a,b⟩;exact⟨p,a,by rw[aq (su b)];simp⟩
def rE{s:af}{w:Int}(h:jN s w=0):Gz s w=0/\(mo s w 8 0 s.book).2=0:=by
 unfold jN at h;split at h
 case isFalse hne=>exact absurd h hne
 rename_i a;split at h
 case isFalse hne=>exact absurd h hne
 rename_i b;exact⟨a,b⟩
def EZ{s:af}{w:Int}(h:jN s w=0):(kQ s w).okB=true/\oo s.ak (kQ s w).qs (kQ s w).ts s.ps s.calls/\∀p∈(kQ s w).qs,p.who≠w:=by
 obtain⟨m,o⟩:=rE h;obtain⟨hr,u⟩:=rB m;have hr:=bU.1 hr;have v:=(xH hr.ak (w:=w) aj).2;obtain⟨e,a2⟩:=QX hr v u 8 0 rfl (b:=s.book) ⟨hr.book,hr.known,rfl⟩ (λk hk=>by omega) o;have a:=dY.1 e.ok;unfold kQ;rw[au h];refine⟨dY.2 ⟨λp c=>a.ok p (Gs.1 c).1,WK a.pw,λn f g=>?_,a.tok,a.tpw,a.tl,a.n0,a.n1⟩,⟨λp c=>e.known.qs p (Gs.1 c).1,λt i=>?_,e.known.ps,e.known.cs⟩,λp c=>(Gs.1 c).2⟩
 ·dsimp only;rw[<-a.level n f g];have key:∀l:List aE,(∀p∈l,p.who=w->p.aQ=0)->aC (fB n (mg w l))=aC (fB n l):=λl=>by
   induction l with
   |nil=>intro _;rfl
   |cons p t ih =>
    intro j;rw[sU,<-ih λq r=>j q (by simp[r])];unfold mg;rw[flatMap_cons,Pc,gO];congr 1;split
    ·rename_i d;rw[j p sT (su d)];split<;>rfl
    ·rw[sU];simp[fB,aC]
  refine key _ λp c d=>?_;have hpi:=(jG.1 (a.ok p c)).2.1;have:=a2 (p.inst-1).toNat aj;rw[show(((p.inst-1).toNat:Nat):Int)+1=p.inst by omega,tY a.pw c ⟨d,rfl⟩]at this;exact this
 ·dsimp only at i;rw[e.ts]at i;exact e.known.ts t i
def Lu{s:af}(h:s.right)(c:Int):(Fj s c).1.right:=by
 unfold Fj;split
 ·exact u7 h _
 ·exact h
theorem Lo:∀(m c:Nat) {s:af} (ds:List aH),s.right->(rU m c s ds).1.right
 | 0,_,_,_,h=>h
 |m+1,c,s,ds,h=>by
  simp only[rU];split
  ·exact Lo m _ _ (Lu h _)
  ·exact Lu h _
def Fu{s:af}(a:cu s=0):(bz s).right:=by
 unfold bz;rw[au a];unfold cu at a;split at a
 case isFalse=>cases a
 rename_i f;split at a
 case isFalse=>cases a
 split at a
 case isFalse hne=>exact absurd a hne
 rename_i d;split at a
 case isFalse hne=>exact absurd a hne
 have hr:=bU.1 f;obtain⟨h,t2⟩:=Md hr.ak;have k:=hr.known.ext t2;have e:rV s.ak s.book=⟨s.book.next,s.book.ts,s.book.qs.flatMap (mw s.ak)⟩:=by unfold rV;rw[au d]
 refine⟨⟨hr.HT.1,hr.HT.2.1,by dsimp only;decide,by dsimp only;decide⟩,h,afI d,O8 hr.bp a,hr.ps,hr.calls,⟨λp b=>?_,λt c=>?_,k.ps,k.cs⟩,hr.bl,hr.aZ,hr.aR⟩
 ·dsimp only at b |-;rw[e]at b;obtain⟨q,g,b⟩:=mem_flatMap.1 b;rw[(Cq b).1];exact k.qs q g
 ·dsimp only at c |-;rw[e]at c;exact k.ts t c
def Mc{r:ay}(h:r.okB=true){w:Int}(c:w∈iP r [1]):bF r w=1:=by
 obtain⟨m,a,b,rfl⟩:=pV c;have e:fj r m.no=m:=y9 (fF.1 h).1.2 a rfl;unfold bF;rw[e];simp only[tO,any_cons,any_nil,Bool.or_false,fE]at b;exact b.symm
theorem KB{s:af}{w:Int}(h:bF s.ak w=1):∀(m c:Nat)(x:List aB×List aH),(nQ bN bI x.1=true/\∀y∈x.1,bF s.ak y.who=1)->nQ bN bI (lz s w m c x).1.1=true/\∀y∈(lz s w m c x).1.1,bF s.ak y.who=1
 | 0,_,_,hx=>hx
 |m+1,c,x,hx=>by
  simp only[lz];split
  ·obtain⟨b,a2⟩:=P0 (d:=⟨w,c,uW s w c⟩) (t:=rA s) hx.1;refine KB h m _ _ ⟨b,λy a=>?_⟩;rcases a2 y a with e|a
   ·rw[e];exact h
   ·exact hx.2 y a
  ·exact hx
theorem OL{s:af}:∀(ws:List Int)(x:List aB×List aH),(∀w∈ws,bF s.ak w=1)->(nQ bN bI x.1=true/\∀y∈x.1,bF s.ak y.who=1)->nQ bN bI (lO s ws x).1.1=true/\∀y∈(lO s ws x).1.1,bF s.ak y.who=1
 | [],_,_,hx=>hx
 |w::r,x,hw,hx=>by
  simp only[lO];split
  ·exact OL r _ (λv a=>hw v (by simp[a])) (KB (hw w sT) 3 0 x hx)
  ·exact KB (hw w sT) 3 0 x hx
def ER{s:af}(a:fH s=0):(bW s).right:=by
 unfold bW;rw[au a];unfold fH at a;split at a
 case isFalse=>cases a
 rename_i c;have hr:=bU.1 c;obtain⟨b,a2⟩:=OL (s:=s) (iP s.ak [1]) (s.calls,[]) (λw d=>Mc hr.ak d) ⟨hr.calls,hr.known.cs⟩;exact⟨⟨hr.HT.1,hr.HT.2.1,by dsimp only;decide,by dsimp only;decide⟩,hr.ak,hr.book,hr.bp,hr.ps,b,⟨hr.known.qs,hr.known.ts,hr.known.ps,a2⟩,hr.bl,hr.aZ,hr.aR⟩
def DF{s:af}(a:mI s=0):(oz s).right:=by
 unfold oz;rw[au a];unfold mI at a;split at a
 case isFalse=>cases a
 rename_i d;split at a
 case isFalse=>cases a
 split at a
 ·cases a
 have hr:=bU.1 d;have b:=dY.1 hr.book;have e:=hr.HT;exact⟨⟨e.1,by dsimp only;omega,by dsimp only;decide,by dsimp only;decide⟩,hr.ak,dY.2 ⟨b.ok,b.pw,b.level,λt c=>(by cases c),Pairwise.nil,Nat.zero_le _,b.n0,b.n1⟩,hr.bp,hr.ps,hr.calls,⟨hr.known.qs,λt c=>(by cases c),hr.known.ps,hr.known.cs⟩,hr.bl,hr.aZ,hr.aR⟩
def Cn{r:ay}{w p:Int}(h:r.okB=true)(a:bF r w≠0)(hp:1<=p/\p<=3):CM r w p=0:=by
 unfold CM;rw[au h,au ((tc h).1 a),au (by simp only[within,cU,bO];omega)]
def IP{w v:Int}:tO [w] v=decide (v=w):=by
 simp only[tO,any_cons,any_nil,Bool.or_false];rw[lZ];simp only[fE,bO];exact eq_comm
def Fb{r:ay}{w p:Int}(h:CM r w p=0)(n:Int):bE (jU r w p) n=bE r n/\o7 (jU r w p) n=o7 r n:=by
 obtain⟨_,_,a,b⟩:=La h;unfold bE o7;rw[a,b];exact⟨rfl,rfl⟩
def Wl{r:ay}{qs ts ps cs}{w:Int}(hr:r.okB=true)(q:bF r w≠0)(k:oo r qs ts ps cs):(jU r w 2).okB=true/\oo (jU r w 2) qs ts ps (dQ cs [w])/\∀v,bF r v≠0->bF (jU r w 2) v≠0:=by
 have h:=Cn hr q (p:=2) aj;obtain⟨s,f,_⟩:=La h;have i:=λn=>(Fb h n).1;have m:=λn=>(Fb h n).2;have j:∀v,(bF r v=1\/bF r v=2)->bF (jU r w 2) v=1\/bF (jU r w 2) v=2:=λv e=>by rw[f];split;exact .inr rfl;exact e
 have b:∀v,bF r v≠0->bF (jU r w 2) v≠0:=λv e=>by rw[f];split;decide;exact e
 refine⟨s,⟨λp a=>⟨j _ (k.qs p a).1,by rw[i];exact(k.qs p a).2⟩,λt d=>⟨b _ (k.ts t d).1,b _ (k.ts t d).2.1,by rw[i];exact(k.ts t d).2.2⟩,λp a=>⟨j _ (k.ps p a).1,by rw[m];exact(k.ps p a).2⟩,λc o=>?_⟩,b⟩;obtain⟨l,g⟩:=uX.1 o;rw[IP]at g;rw[f,aq (su g)];exact k.cs c l
theorem UZ{qs ts ps}:∀(l:List aB)(x:ay×List aB),(∀c∈l,bF x.1 c.who≠0)->x.1.okB=true->oo x.1 qs ts ps x.2->nQ bN bI x.2=true->(nF l x).1.okB=true/\oo (nF l x).1 qs ts ps (nF l x).2/\nQ bN bI (nF l x).2=true
 | [],_,_,h2,h3,h4=>⟨h2,h3,h4⟩
 |c::r,x,h1,h2,h3,h4=>by
  obtain⟨a,a2,a3⟩:=Wl h2 (h1 c sT) h3;simp only[nF];exact UZ r _ (λy b=>a3 _ (h1 y (by simp[b]))) a a2 (HO h4)
def WQ{s:af}{n:Int}(a:pF s n=0):(jc s n).right:=by
 unfold jc;rw[au a];unfold pF at a;split at a
 case isFalse=>cases a
 rename_i e;split at a
 case isFalse=>cases a
 rename_i f;split at a
 ·cases a
 simp only[within,cU,bO]at f;have hr:=bU.1 e;have b:=hr.HT
 obtain⟨d,a2,a3⟩:=UZ (jM (s.now+n) s.calls) (s.ak,s.calls) (λc b=>by
  obtain⟨x,g,b⟩:=mem_flatMap.1 b;split at b
  ·obtain rfl:=iD.1 b;have:=hr.known.cs _ g;dsimp only;omega
  ·cases b) hr.ak hr.known hr.calls
 exact⟨⟨by dsimp only;omega,b.2⟩,d,hr.book,hr.bp,hr.ps,a3,a2,hr.bl,hr.aZ,hr.aR⟩
theorem XQ{s:af}{w:Int}:∀(m i:Nat)(l:bu)(p:List aH),l.okB=true->(qQ s w m i l p).2.2=0->(qQ s w m i l p).1.okB=true
 | 0,_,_,_,h,_=>h
 |m+1,i,l,p,h,he=>by
  simp only[qQ]at he |-;split
  ·rename_i a;rw[au a]at he;exact XQ m _ _ _ (O8 h a) he
  ·rename_i a;rw[aq a]at he;exact absurd he a
def zD{s:af}{w:Int}(h:n7 s w=0):jN s w=0/\gI (vG s w) 3 0=0/\gI (rD s w) 3 0=0/\(qQ s w 3 0 s.bp []).2.2=0:=by
 unfold n7 at h;split at h
 case isFalse hne=>exact absurd h hne
 rename_i a;split at h
 case isFalse hne=>exact absurd h hne
 rename_i b;split at h
 case isFalse hne=>exact absurd h hne
 rename_i c;exact⟨a,b,c,h⟩
def DB{w:Int}{l:List iu}{p:iu}:p∈ur w l↔p∈l/\p.who≠w:=by
 unfold ur;rw[mem_flatMap];constructor
 ·rintro⟨x,d,h⟩;split at h
  ·cases h
  ·rename_i c;obtain rfl:=iD.1 h;exact⟨d,su c⟩
 ·rintro⟨a,b⟩;exact⟨p,a,by rw[aq (su b)];simp⟩
def Ko{w:Int}{l:List bn}{b:bn}:b∈uq w l↔b∈l/\b.who≠w/\b.src≠w:=by
 unfold uq;rw[mem_flatMap];constructor
 ·rintro⟨x,d,h⟩;split at h
  ·cases h
  ·rename_i a;obtain rfl:=iD.1 h;simp only[Bool.or_eq_true,fE]at a;exact⟨d,λe=>a (.inl e),λe=>a (.inr e)⟩
 ·rintro⟨c,h2,h3⟩;exact⟨b,c,by rw[aq (by simp only[Bool.or_eq_true,fE];omega)];simp⟩
def OT{s:af}{w:Int}(k:n7 s w=0):(iG s w).right:=by
 unfold iG;rw[au k];obtain⟨h,_,_,y⟩:=zD k;obtain⟨B,_⟩:=rE h;obtain⟨e,hs⟩:=rB B;have hr:=bU.1 e;have a:=Cn hr.ak (w:=w) (p:=3) aj aj;obtain⟨C,r,_⟩:=La a;have m:=λn=>(Fb a n).1;have z:=λn=>(Fb a n).2;obtain⟨u,g,x⟩:=EZ h;have d:∀v,v≠w->bF (jU s.ak w 3) v=bF s.ak v:=λv f=>by rw[r,aq f]
 have l:=lN.1 hr.ps;refine⟨hr.HT,C,u,XQ 3 0 s.bp [] hr.bp y,lN.2 ⟨λp a=>l.1 p (DB.1 a).1,WK l.2⟩,HO hr.calls,⟨λp a=>?_,λt q=>?_,λp a=>?_,λc j=>?_⟩,Nat.le_trans (Kn _ _) hr.bl,λb A=>hr.aZ b (Ko.1 A).1,hr.aR⟩
 ·dsimp only at a |-;rw[d _ (x p a),m];exact g.qs p a
 ·dsimp only at q |-;have:=g.ts t q;have o:∀v,bF s.ak v≠0->bF (jU s.ak w 3) v≠0:=λv f=>by rw[r];split;decide;exact f
  exact⟨o _ this.1,o _ this.2.1,by rw[m];exact this.2.2⟩
 ·dsimp only at a |-;have:=DB.1 a;rw[d _ this.2,z];exact hr.known.ps p this.1
 ·dsimp only at j |-;obtain⟨e,i⟩:=uX.1 j;rw[IP]at i;rw[d _ (su i)];exact hr.known.cs c e
def CW(c:bB):aF:=⟨c.inst,c.cur,c.aQ,c.bT,0,0,c.s0,c.s1,c.s2,c.s3,c.s4,c.s5⟩
def kg(s:af)(c:bB):af×Int×Int×Int×List aH×List eu:=
 if c.kind=1 then({ s with ak:=qj s.ak c.who c.bT },n9 s.ak c.who c.bT,0,0,[],[])
 else if c.kind=2 then({ s with ak:=vB s.ak (CW c) },tT s.ak (CW c),0,0,[],[])
 else if c.kind=3 then({ s with ak:=vp s.ak ⟨c.no,c.cur,c.aS,c.bT⟩ },tN s.ak ⟨c.no,c.cur,c.aS,c.bT⟩,0,0,[],[])
 else if c.kind=4\/c.kind=5\/c.kind=8 then((xw s c).1,(xw s c).2,0,0,[],[])
 else if c.kind=6\/c.kind=7 then((sq s c (vH c)).1,(sq s c (vH c)).2,0,0,[],[])
 else if c.kind=9 then(if within c.cur 0 2&&within c.bT 1 4611686018427387904 then(sQ s (cr ⟨1,0,c.cur⟩ ⟨4,0,c.cur⟩ c.bT),AB s (cr ⟨1,0,c.cur⟩ ⟨4,0,c.cur⟩ c.bT),0,0,[],[])else(s,3,0,0,[],[]))
 else if c.kind=10\/c.kind=11\/c.kind=12\/c.kind=13 then(if s.phase=0 then((qa s c).1,(qa s c).2.2,(qa s c).2.1,0,[],[])else(s,15,0,0,[],[]))
 else if c.kind=14 then(bz s,cu s,0,0,jV s,[])
 else if c.kind=15 then(bW s,fH s,0,0,kK s,[])
 else if c.kind=16 then(oz s,mI s,0,0,[],[])
 else if c.kind=17 then(jc s c.bT,pF s c.bT,0,0,qK s c.bT,[])
 else if c.kind=18 then((Az s c).1,(Az s c).2,0,0,[],[])
 else if c.kind=19 then(iG s c.who,n7 s c.who,0,0,EU s c.who,tX s c.who)
 else if c.kind=20 then((rU 3 0 s []).1,(rU 3 0 s []).2.2,0,0,(rU 3 0 s []).2.1,[])
 else if c.kind=21 then(if aI.right ⟨c.no,c.who,c.cur⟩then(s,0,0,gw ⟨c.no,c.who,c.cur⟩ s.bp.bs,[],[])else(s,3,0,0,[],[]))
 else if c.kind=22 then(if vv c.who c.inst then(s,0,0,(posOf c.who c.inst s.book.qs).aQ,[],[])else(s,3,0,0,[],[]))
 else(s,0,0,0,[],[])
def bX(s:af)(m:af×Int×Int×Int×List aH×List eu):af×bH:=if m.2.1=0 then(m.1,⟨0,m.2.2.1,m.2.2.2.1,m.2.2.2.2.1,m.2.2.2.2.2⟩)else(s,.err m.2.1)
def bq(s:af)(c:bB):af×bH:=bX s (kg s c)
def aiV(s:af)(c:bB)(h:s.good)(i:c.kind=1):Sq 117 [] [.agg s.cells,.agg c.cells] [] (.bD [.agg (bq s c).1.cells,.agg (bq s c).2.cells]):=by
 have a:=λe=>cj e;have c0:=bg s h.small;have f:bq s c=bX s ({ s with ak:=qj s.ak c.who c.bT },n9 s.ak c.who c.bT,0,0,[],[]):=by unfold bq;congr 1;simp[kg,i]
 rw[f];clear f;have c1:=M8 s.ak c.who c.bT h.small.ak;obtain⟨A,b⟩:=aL (qj s.ak c.who c.bT);obtain⟨e,g⟩:=aL (n9 s.ak c.who c.bT);rw[<-b,<-g]at c1 |-;clear b g;simp only[ay.cells]at c1;simp only[af.cells]at c0 |-;simp only[bB.cells,i];refine aX 227 2 [.cell 4 42,.cell 5 121] mixed func117 ?_;simp only[go_sem,seval];refine sc aK c0 ?_;refine aV ?_;refine sc aK c1 ?_;(with_reducible and_intros)<;>first|exact .dq|omega|skip
 by_cases q:e=0
 ·have d:(e==0)=true:=su q;simp only[bX,au q];simp only[go_sem,seval,bne,d];(with_reducible and_intros)<;>first|exact .dq|omega|skip
  all_goals simp[pl]
 ·have d:(e==0)=false:=su q;simp only[bX,aq q];simp only[go_sem,seval,bne,d];refine aV ?_;refine sc aK (a e) ?_;(with_reducible and_intros)<;>first|exact .dq|omega|skip
  all_goals simp[bH.err]
def aiW(s:af)(c:bB)(h:s.good)(i:c.kind=2):Sq 117 [] [.agg s.cells,.agg c.cells] [] (.bD [.agg (bq s c).1.cells,.agg (bq s c).2.cells]):=by
 have a:=λe=>cj e;have c0:=bg s h.small;have f:bq s c=bX s ({ s with ak:=vB s.ak (CW c) },tT s.ak (CW c),0,0,[],[]):=by unfold bq;congr 1;simp[kg,i]
 rw[f];clear f;have c1:=Rg s.ak (CW c) h.small.ak;obtain⟨A,b⟩:=aL (vB s.ak (CW c));obtain⟨e,g⟩:=aL (tT s.ak (CW c));rw[<-b,<-g]at c1 |-;clear b g;simp only[ay.cells,CW,aF.cells]at c1;simp only[af.cells]at c0 |-;simp only[bB.cells,i];refine aX 227 2 [.cell 4 42,.cell 5 121] mixed func117 ?_;simp only[go_sem,seval];refine sc aK c0 ?_;refine aV ?_;refine sc aK c1 ?_;(with_reducible and_intros)<;>first|exact .dq|omega|skip
 by_cases q:e=0
 ·have d:(e==0)=true:=su q;simp only[bX,au q];simp only[go_sem,seval,bne,d];(with_reducible and_intros)<;>first|exact .dq|omega|skip
  all_goals simp[pl]
 ·have d:(e==0)=false:=su q;simp only[bX,aq q];simp only[go_sem,seval,bne,d];refine aV ?_;refine sc aK (a e) ?_;(with_reducible and_intros)<;>first|exact .dq|omega|skip
  all_goals simp[bH.err]
def aiX(s:af)(c:bB)(h:s.good)(i:c.kind=3):Sq 117 [] [.agg s.cells,.agg c.cells] [] (.bD [.agg (bq s c).1.cells,.agg (bq s c).2.cells]):=by
 have a:=λe=>cj e;have c0:=bg s h.small;have f:bq s c=bX s ({ s with ak:=vp s.ak ⟨c.no,c.cur,c.aS,c.bT⟩ },tN s.ak ⟨c.no,c.cur,c.aS,c.bT⟩,0,0,[],[]):=by unfold bq;congr 1;simp[kg,i]
 rw[f];clear f;have c1:=Rd s.ak ⟨c.no,c.cur,c.aS,c.bT⟩ h.small.ak;obtain⟨A,b⟩:=aL (vp s.ak ⟨c.no,c.cur,c.aS,c.bT⟩);obtain⟨e,g⟩:=aL (tN s.ak ⟨c.no,c.cur,c.aS,c.bT⟩);rw[<-b,<-g]at c1 |-;clear b g;simp only[ay.cells,aD.cells]at c1;simp only[af.cells]at c0 |-;simp only[bB.cells,i];refine aX 227 2 [.cell 4 42,.cell 5 121] mixed func117 ?_;simp only[go_sem,seval];refine sc aK c0 ?_;refine aV ?_;refine sc aK c1 ?_;(with_reducible and_intros)<;>first|exact .dq|omega|skip
 by_cases q:e=0
 ·have d:(e==0)=true:=su q;simp only[bX,au q];simp only[go_sem,seval,bne,d];(with_reducible and_intros)<;>first|exact .dq|omega|skip
  all_goals simp[pl]
 ·have d:(e==0)=false:=su q;simp only[bX,aq q];simp only[go_sem,seval,bne,d];refine aV ?_;refine sc aK (a e) ?_;(with_reducible and_intros)<;>first|exact .dq|omega|skip
  all_goals simp[bH.err]
def AY(s:af)(c:bB){P:af×Int×Int×Int×List aH×List eu->Prop}
  (A:P ({ s with ak:=qj s.ak c.who c.bT },n9 s.ak c.who c.bT,0,0,[],[]))
  (a2:P ({ s with ak:=vB s.ak (CW c) },tT s.ak (CW c),0,0,[],[]))
  (a3:P ({ s with ak:=vp s.ak ⟨c.no,c.cur,c.aS,c.bT⟩ },tN s.ak ⟨c.no,c.cur,c.aS,c.bT⟩,0,0,[],[]))
  (a4:P ((xw s c).1,(xw s c).2,0,0,[],[]))
  (B:P ((sq s c (vH c)).1,(sq s c (vH c)).2,0,0,[],[]))
  (C:P (sQ s (cr ⟨1,0,c.cur⟩ ⟨4,0,c.cur⟩ c.bT),AB s (cr ⟨1,0,c.cur⟩ ⟨4,0,c.cur⟩ c.bT),0,0,[],[]))
  (j:P ((qa s c).1,(qa s c).2.2,(qa s c).2.1,0,[],[]))
  (k:P (bz s,cu s,0,0,jV s,[]))
  (l:P (bW s,fH s,0,0,kK s,[]))
  (m:P (oz s,mI s,0,0,[],[]))
  (n:P (jc s c.bT,pF s c.bT,0,0,qK s c.bT,[]))
  (o:P ((Az s c).1,(Az s c).2,0,0,[],[]))
  (p:P (iG s c.who,n7 s c.who,0,0,EU s c.who,tX s c.who))
  (q:P ((rU 3 0 s []).1,(rU 3 0 s []).2.2,0,0,(rU 3 0 s []).2.1,[]))
  (a:∀e v,P (s,e,0,v,[],[])):P (kg s c):=by
 unfold kg;by_cases r:c.kind=1
 ·rw[au r];exact A
 rw[aq r];by_cases k1:c.kind=2
 ·rw[au k1];exact a2
 rw[aq k1];by_cases k2:c.kind=3
 ·rw[au k2];exact a3
 rw[aq k2];by_cases k3:c.kind=4\/c.kind=5\/c.kind=8
 ·rw[au k3];exact a4
 rw[aq k3];by_cases t:c.kind=6\/c.kind=7
 ·rw[au t];exact B
 rw[aq t];by_cases u:c.kind=9
 ·rw[au u];split
  ·exact C
  ·exact a _ _
 rw[aq u];by_cases w:c.kind=10\/c.kind=11\/c.kind=12\/c.kind=13
 ·rw[au w];split
  ·exact j
  ·exact a _ _
 rw[aq w];by_cases x:c.kind=14
 ·rw[au x];exact k
 rw[aq x];by_cases y:c.kind=15
 ·rw[au y];exact l
 rw[aq y];by_cases z:c.kind=16
 ·rw[au z];exact m
 rw[aq z];by_cases b:c.kind=17
 ·rw[au b];exact n
 rw[aq b];by_cases d:c.kind=18
 ·rw[au d];exact o
 rw[aq d];by_cases f:c.kind=19
 ·rw[au f];exact p
 rw[aq f];by_cases g:c.kind=20
 ·rw[au g];exact q
 rw[aq g];by_cases h:c.kind=21
 ·rw[au h];split
  ·exact a _ _
  ·exact a _ _
 rw[aq h];by_cases i:c.kind=22
 ·rw[au i];split
  ·exact a _ _
  ·exact a _ _
 rw[aq i];exact a _ _
def SF{s:af}{c:bB}(h:s.right)(a:(kg s c).2.1=0):(kg s c).1.right:=by
 revert a;exact AY s c (P:=λm=>m.2.1=0->m.1.right) (λa=>zO h (aa1 a)) (λa=>zO h (ae6 a)) (λa=>zO h (aeR a)) (λ_=>ZD h c) (λ_=>QW h c _) (λ_=>u7 h _) (λa=>U4 h c a)
  (λa=>Fu a) (λa=>ER a) (λa=>DF a) (λa=>WQ a) (λ_=>Yx h c) (λa=>OT a) (λ_=>Lo 3 0 [] h) (λ_ _ _=>h)
def SG{s:af}{c:bB}(h:s.right):(bq s c).1.right:=by
 unfold bq bX;split
 ·rename_i a;exact SF h a
 ·exact h
theorem OA:∀(l:List Int)(lo b:Int),l.Pairwise (λa c=>a<c)->(∀x∈l,lo<=x/\x<b)->lo<=b->(l.length:Int)<=b-lo
 | [],lo,b,_,_,h=>by simp;omega
 |x::r,lo,b,hp,hx,hlh=>by
  rw[jR]at hp;have hx0:=hx x sT;have:=OA r (x+1) b hp.2 (λy d=>by have:=hp.1 y d;have:=hx y (by simp[d]);omega) aj;simp only[length_cons];omega
def Bp{A:Type}{xs:List A}(f:A->Int)(lo d:Int){R:A->A->Prop}(e:xs.Pairwise R)(j:∀a∈xs,∀b∈xs,R a b->f a<f b)(k:∀x∈xs,lo<=f x/\f x<d)(h:lo<=d):(xs.length:Int)<=d-lo:=by
 have i:(xs.map f).Pairwise (λa c=>a<c):=by
  rw[pairwise_map];exact Pairwise.imp_of_mem (λ{p q} e hq hpq=>j p e q hq hpq) e
 have:=OA _ lo d i (λx g=>by
  obtain⟨y,l,rfl⟩:=mem_map.1 g
  exact k y l) h
 rwa[qO]at this
structure af.lens(s:af):Prop where
 ms:s.ak.ms.length<=16
 ns:s.ak.ns.length<=8
 xs:s.ak.xs.length<=6
 ts:s.book.ts.length<=128
 qs:s.book.qs.length<=128
 bs:s.bp.bs.length<=1000
 ps:s.ps.length<=1000
 calls:s.calls.length<=1000
 aZ:s.aZ.length<=32
 aR:s.aR.length<=8
def af.right.lens{s:af}(h:s.right):s.lens:=by
 obtain⟨⟨o1,m⟩,⟨o2,p2⟩,⟨o3,p3⟩⟩:=fF.1 h.ak;have k:=sN.1 h.bp;have i:=lN.1 h.ps;have g:=oL.1 h.calls;have j:=(tA (lt:=gT) yM).1 h.aR;refine⟨?_,?_,?_,(dY.1 h.book).tl,vg h.book,?_,?_,?_,h.bl,?_⟩
 ·have:=Bp av.no 1 17 m (λ_ _ _ _ h=>h) (λx c=>by have:=uS (o1 x c);omega) (by decide);omega
 ·have:=Bp aF.no 1 9 p2 (λ_ _ _ _ h=>h) (λx c=>by have:=EJ (o2 x c);omega) (by decide);omega
 ·have:=Bp aD.a 1 7 p3 (λ_ _ _ _ h=>h) (λx c=>by have:=Jk (o3 x c);omega) (by decide);omega
 ·have hr:=λb e=>GR (Gw h.bp b e)
  have:=Bp (λb:bY=>b.br.kind*64+b.br.who*3+b.br.cur) 0 500 k.2.1.2 (λa f b e d=>by
   have:=hr a f;have:=hr b e
   rw[tS]at d;omega) (λx c=>by have:=hr x c;omega) (by decide)
  omega
 ·have hr:∀p∈s.ps,0<=p.key/\p.key<500:=λp l=>by
   have:=sW.1 (i.1 p l).1;unfold iu.key;omega
  have:=Bp iu.key 0 500 i.2 (λ_ _ _ _ h=>h) hr (by decide);omega
 ·have hr:=λb e=>lV.1 (g.1 b e)
  have:=Bp (λb:aB=>b.who*3+b.cur) 0 500 g.2 (λa f b e d=>by
   have:=hr a f;have:=hr b e
   simp only[bI,Bool.or_eq_true,cU,bO,fE]at d;omega) (λx c=>by have:=hr x c;omega) (by decide)
  omega
 ·have hr:∀x∈s.aR,1<=x.client/\x.client<=8:=λx c=>by
   have:=j.1 x c;simp only[jI,within,cU,bO]at this;omega
  have:=Bp bZ.client 1 9 j.2 (λa _ b _ d=>by simpa[gT]using d) (λx c=>by have:=hr x c;omega) (by decide);omega
structure af.fY(s:af):Prop where
 right:s.right
 last:s.bp.last<=1099511627776
 fit:∀x∈s.aR,x.r.fits
def Xw{n:Int}(h:bA n=true):jB n:=by
 rw[bf]at h;exact⟨by omega,by omega⟩
def af.right.gq{s:af}(h:s.right)(hla:s.bp.last<=1099511627776)(m:∀x∈s.aR,x.r.fits):s.gq:=by
 obtain⟨⟨o1,p1⟩,⟨o2,p2⟩,⟨o3,p3⟩⟩:=fF.1 h.ak;have d:=dY.1 h.book;have o:=sN.1 h.bp;have n:=lN.1 h.ps;have l:=oL.1 h.calls;have p:=(tA (lt:=gT) yM).1 h.aR;have hk:=h.HT;have n0:=d.n0;have n1:=d.n1;refine⟨⟨by omega,by omega⟩,⟨by omega,by omega⟩,⟨by omega,by omega⟩,λx a=>?_,λx a=>?_,λx a=>?_,⟨by omega,by omega⟩,λx a=>?_,λx a=>?_,?_,λx a=>?_,λx a=>acr (n.1 x a),λx a=>?_,λx a=>?_,λx a=>?_⟩
 ·have:=uS (o1 x a);exact⟨⟨by omega,by omega⟩,⟨by omega,by omega⟩,⟨by omega,by omega⟩⟩
 ·have:=o2 x a;simp only[aF.ok,within,cU,bO]at this;have b:=λj=>Fv (o2 x a) j;have f:=b 0;have e:=b 1;have c:=b 2;have g:=b 3;have i:=b 4;have k:=b 5;simp only[aF.sh]at f e c g i k;exact⟨⟨by omega,by omega⟩,⟨by omega,by omega⟩,⟨by omega,by omega⟩,⟨by omega,by omega⟩,⟨by omega,by omega⟩,⟨by omega,by omega⟩,⟨by omega,by omega⟩,⟨by omega,by omega⟩,⟨by omega,by omega⟩,⟨by omega,by omega⟩,⟨by omega,by omega⟩,⟨by omega,by omega⟩⟩
 ·have:=o3 x a;simp only[aD.ok,within,cU,bO]at this;exact⟨⟨by omega,by omega⟩,⟨by omega,by omega⟩,⟨by omega,by omega⟩,⟨by omega,by omega⟩⟩
 ·have:=d.tok x a;simp only[ji,aT.okB,vv,within,cU,iN,gP,bO]at this;exact⟨⟨by omega,by omega⟩,⟨by omega,by omega⟩,⟨by omega,by omega⟩,⟨by omega,by omega⟩,⟨by omega,by omega⟩,⟨by omega,by omega⟩⟩
 ·have:=jG.1 (d.ok x a);exact⟨⟨by omega,by omega⟩,⟨by omega,by omega⟩,⟨by omega,by omega⟩,Xw this.2.2.2.1⟩
 ·exact⟨by omega,by omega⟩
 ·have e:=GR (Gw h.bp x a);have c:=o.2.1.1 x a;simp only[o8,cU]at c;simp only[bY.br]at e;exact⟨⟨by omega,by omega⟩,⟨by omega,by omega⟩,⟨by omega,by omega⟩,Xw c.2.1⟩
 ·have:=lV.1 (l.1 x a);exact⟨⟨by omega,by omega⟩,⟨by omega,by omega⟩,⟨by omega,by omega⟩,⟨by omega,by omega⟩⟩
 ·have:=h.aZ x a;simp only[q8,vv,within,cU,bO]at this;exact⟨⟨by omega,by omega⟩,⟨by omega,by omega⟩,⟨by omega,by omega⟩,⟨by omega,by omega⟩,⟨by omega,by omega⟩⟩
 ·have:=p.1 x a;simp only[jI,within,cU,bO]at this;exact⟨⟨by omega,by omega⟩,⟨by omega,by omega⟩,aK,aK,aK,aK,aK,m x a⟩
def af.fY.good{s:af}(h:s.fY):s.good:=by
 have l:=h.right.lens;have h1:=l.ms;have h2:=l.ns;have h3:=l.xs;have h4:=l.ts;have h5:=l.qs;have h6:=l.bs;have h7:=l.ps;have h8:=l.calls;have h9:=l.aZ;have h10:=l.aR;exact⟨⟨⟨by omega,by omega,by omega⟩,⟨by omega,by omega⟩,by omega,by omega,by omega,by omega,by omega,h.fit⟩,h.right.gq h.last h.fit,by omega,by omega,by omega,by omega,by omega⟩
def aiY(s:af)(c:bB)(h:s.good)(a:c.kind=4):Sq 117 [] [.agg s.cells,.agg c.cells] [] (.bD [.agg (bq s c).1.cells,.agg (bq s c).2.cells]):=by
 have b:=λe=>cj e;have c0:=bg s h.small;have f:bq s c=bX s ((xw s c).1,(xw s c).2,0,0,[],[]):=by unfold bq;congr 1;simp[kg,a]
 rw[f];clear f;have c1:=xx s c h;obtain⟨R,g⟩:=aL (xw s c);rw[<-g]at c1 |-;clear g;obtain⟨T,e⟩:=R;dsimp only at c1 |-;simp only[af.cells,bB.cells,a]at c1;simp only[af.cells]at c0 |-;simp only[bB.cells,a];refine aX 227 2 [.cell 4 42,.cell 5 121] mixed func117 ?_;refine rL trivial c0 ?_;refine sgE [112] aK c1 ?_;refine aV ?_;by_cases q:e=0
 ·have d:(e==0)=true:=su q;simp only[bX,au q];simp -implicitDefEqProofs only[go_sem,seval,bne,d]
  and_intros<;>first|exact .dq|omega|skip
  all_goals simp[pl]
 ·have d:(e==0)=false:=su q;simp only[bX,aq q];simp -implicitDefEqProofs only[go_sem,seval,bne,d];refine rL trivial (b e) ?_
  and_intros<;>first|exact .dq|omega|skip
  all_goals simp[bH.err]
def aiZ(s:af)(c:bB)(h:s.good)(a:c.kind=5):Sq 117 [] [.agg s.cells,.agg c.cells] [] (.bD [.agg (bq s c).1.cells,.agg (bq s c).2.cells]):=by
 have b:=λe=>cj e;have c0:=bg s h.small;have f:bq s c=bX s ((xw s c).1,(xw s c).2,0,0,[],[]):=by unfold bq;congr 1;simp[kg,a]
 rw[f];clear f;have c1:=xx s c h;obtain⟨R,g⟩:=aL (xw s c);rw[<-g]at c1 |-;clear g;obtain⟨T,e⟩:=R;dsimp only at c1 |-;simp only[af.cells,bB.cells,a]at c1;simp only[af.cells]at c0 |-;simp only[bB.cells,a];refine aX 227 2 [.cell 4 42,.cell 5 121] mixed func117 ?_;refine rL trivial c0 ?_;refine sgE [112] aK c1 ?_;refine aV ?_;by_cases q:e=0
 ·have d:(e==0)=true:=su q;simp only[bX,au q];simp -implicitDefEqProofs only[go_sem,seval,bne,d]
  and_intros<;>first|exact .dq|omega|skip
  all_goals simp[pl]
 ·have d:(e==0)=false:=su q;simp only[bX,aq q];simp -implicitDefEqProofs only[go_sem,seval,bne,d];refine rL trivial (b e) ?_
  and_intros<;>first|exact .dq|omega|skip
  all_goals simp[bH.err]
def ai2(s:af)(c:bB)(h:s.good)(a:c.kind=8):Sq 117 [] [.agg s.cells,.agg c.cells] [] (.bD [.agg (bq s c).1.cells,.agg (bq s c).2.cells]):=by
 have b:=λe=>cj e;have c0:=bg s h.small;have f:bq s c=bX s ((xw s c).1,(xw s c).2,0,0,[],[]):=by unfold bq;congr 1;simp[kg,a]
 rw[f];clear f;have c1:=xx s c h;obtain⟨R,g⟩:=aL (xw s c);rw[<-g]at c1 |-;clear g;obtain⟨T,e⟩:=R;dsimp only at c1 |-;simp only[af.cells,bB.cells,a]at c1;simp only[af.cells]at c0 |-;simp only[bB.cells,a];refine aX 227 2 [.cell 4 42,.cell 5 121] mixed func117 ?_;refine rL trivial c0 ?_;refine sgE [112] aK c1 ?_;refine aV ?_;by_cases q:e=0
 ·have d:(e==0)=true:=su q;simp only[bX,au q];simp -implicitDefEqProofs only[go_sem,seval,bne,d]
  and_intros<;>first|exact .dq|omega|skip
  all_goals simp[pl]
 ·have d:(e==0)=false:=su q;simp only[bX,aq q];simp -implicitDefEqProofs only[go_sem,seval,bne,d];refine rL trivial (b e) ?_
  and_intros<;>first|exact .dq|omega|skip
  all_goals simp[bH.err]
def ai0(s:af)(c:bB)(h:s.good)(a:c.kind=6):Sq 117 [] [.agg s.cells,.agg c.cells] [] (.bD [.agg (bq s c).1.cells,.agg (bq s c).2.cells]):=by
 have b:=λe=>cj e;have c0:=bg s h.small;have f:bq s c=bX s ((sq s c (vH c)).1,(sq s c (vH c)).2,0,0,[],[]):=by unfold bq;congr 1;simp[kg,a]
 rw[f];clear f;have c1:=yC s c h;obtain⟨R,g⟩:=aL (sq s c (vH c));rw[<-g]at c1 |-;clear g;obtain⟨T,e⟩:=R;dsimp only at c1 |-;simp only[af.cells,bB.cells,a]at c1;simp only[af.cells]at c0 |-;simp only[bB.cells,a];refine aX 227 2 [.cell 4 42,.cell 5 121] mixed func117 ?_;refine rL trivial c0 ?_;refine sgE [112] aK c1 ?_;refine aV ?_;by_cases q:e=0
 ·have d:(e==0)=true:=su q;simp only[bX,au q];simp -implicitDefEqProofs only[go_sem,seval,bne,d]
  and_intros<;>first|exact .dq|omega|skip
  all_goals simp[pl]
 ·have d:(e==0)=false:=su q;simp only[bX,aq q];simp -implicitDefEqProofs only[go_sem,seval,bne,d];refine rL trivial (b e) ?_
  and_intros<;>first|exact .dq|omega|skip
  all_goals simp[bH.err]
def ai1(s:af)(c:bB)(h:s.good)(a:c.kind=7):Sq 117 [] [.agg s.cells,.agg c.cells] [] (.bD [.agg (bq s c).1.cells,.agg (bq s c).2.cells]):=by
 have b:=λe=>cj e;have c0:=bg s h.small;have f:bq s c=bX s ((sq s c (vH c)).1,(sq s c (vH c)).2,0,0,[],[]):=by unfold bq;congr 1;simp[kg,a]
 rw[f];clear f;have c1:=yC s c h;obtain⟨R,g⟩:=aL (sq s c (vH c));rw[<-g]at c1 |-;clear g;obtain⟨T,e⟩:=R;dsimp only at c1 |-;simp only[af.cells,bB.cells,a]at c1;simp only[af.cells]at c0 |-;simp only[bB.cells,a];refine aX 227 2 [.cell 4 42,.cell 5 121] mixed func117 ?_;refine rL trivial c0 ?_;refine sgE [112] aK c1 ?_;refine aV ?_;by_cases q:e=0
 ·have d:(e==0)=true:=su q;simp only[bX,au q];simp -implicitDefEqProofs only[go_sem,seval,bne,d]
  and_intros<;>first|exact .dq|omega|skip
  all_goals simp[pl]
 ·have d:(e==0)=false:=su q;simp only[bX,aq q];simp -implicitDefEqProofs only[go_sem,seval,bne,d];refine rL trivial (b e) ?_
  and_intros<;>first|exact .dq|omega|skip
  all_goals simp[bH.err]
def ai3(s:af)(c:bB)(h:s.good)(k:c.kind=9):Sq 117 [] [.agg s.cells,.agg c.cells] [] (.bD [.agg (bq s c).1.cells,.agg (bq s c).2.cells]):=by
 have a:=λe=>cj e;have c0:=bg s h.small;have b:bq s c=bX s (if within c.cur 0 2&&within c.bT 1 4611686018427387904 then(sQ s (cr ⟨1,0,c.cur⟩ ⟨4,0,c.cur⟩ c.bT),AB s (cr ⟨1,0,c.cur⟩ ⟨4,0,c.cur⟩ c.bT),0,0,[],[])else(s,3,0,0,[],[])):=by unfold bq;congr 1;simp[kg,k]
 rw[b];clear b;have l:=jY c.cur;have a2:=lQ c.bT 1 4611686018427387904;have a3:=mu 1 0 c.cur;have a4:=mu 4 0 c.cur;have a5:=nK ⟨1,0,c.cur⟩ ⟨4,0,c.cur⟩ c.bT;have c1:=oB s (cr ⟨1,0,c.cur⟩ ⟨4,0,c.cur⟩ c.bT) h.small.bp h.gq.bs (by simp[cr]);obtain⟨g,j⟩:=aL (cr ⟨1,0,c.cur⟩ ⟨4,0,c.cur⟩ c.bT);rw[<-j]at a5 c1 |-;clear j;obtain⟨T,f⟩:=aL (sQ s g);obtain⟨e,i⟩:=aL (AB s g);rw[<-f,<-i]at c1 |-;clear f i;simp only[af.cells]at c1;simp only[aI.cells]at a5;simp only[af.cells]at c0 |-;simp only[bB.cells,k];refine aX 227 2 [.cell 4 42,.cell 5 121] mixed func117 ?_;refine rL trivial c0 ?_;refine rL trivial l ?_;cases b1:within c.cur 0 2
 ·rw[dU,aq (by decide)];simp only[bX,aq (show ¬(3:Int)=0 by decide)];refine rL trivial (a 3) ?_
  and_intros<;>first|exact .dq|omega|skip
  all_goals simp[bH.err]
 refine rL trivial a2 ?_;cases b2:within c.bT 1 4611686018427387904
 ·rw[aq (by decide)];simp only[bX,aq (show ¬(3:Int)=0 by decide)];refine rL trivial (a 3) ?_
  and_intros<;>first|exact .dq|omega|skip
  all_goals simp[bH.err]
 rw[au rfl];refine rL trivial a3 ?_;refine rL trivial a4 ?_;refine rL trivial a5 ?_;refine sgE [112] aK c1 ?_;refine aV ?_;by_cases q:e=0
 ·have d:(e==0)=true:=su q;simp only[bX,au q];simp -implicitDefEqProofs only[go_sem,seval,bne,d]
  and_intros<;>first|exact .dq|omega|skip
  all_goals simp[pl]
 ·have d:(e==0)=false:=su q;simp only[bX,aq q];simp -implicitDefEqProofs only[go_sem,seval,bne,d];refine rL trivial (a e) ?_
  and_intros<;>first|exact .dq|omega|skip
  all_goals simp[bH.err]
def aev(s:af)(c:bB)(h:s.good)(f:c.kind=10):Sq 117 [] [.agg s.cells,.agg c.cells] [] (.bD [.agg (bq s c).1.cells,.agg (bq s c).2.cells]):=by
 have a:=λe=>cj e;have c0:=bg s h.small;have g:bq s c=bX s (if s.phase=0 then((qa s c).1,(qa s c).2.2,(qa s c).2.1,0,[],[])else(s,15,0,0,[],[])):=by unfold bq;congr 1;simp[kg,f]
 rw[g];clear g;have c1:=oR s c h;obtain⟨R,i⟩:=aL (qa s c);rw[<-i]at c1 |-;clear i;obtain⟨T,no,e⟩:=R;dsimp only at c1 |-;simp only[af.cells,bB.cells,f]at c1;simp only[af.cells]at c0 |-;simp only[bB.cells,f];refine aX 227 2 [.cell 4 42,.cell 5 121] mixed func117 ?_;refine rL trivial c0 ?_;refine aV ?_;by_cases b:s.phase=0
 case neg =>
  have d:(s.phase==0)=false:=su b;rw[aq b];simp only[bX,aq (show ¬(15:Int)=0 by decide)];simp -implicitDefEqProofs only[go_sem,seval,bne,d];refine rL trivial (a 15) ?_
  and_intros<;>first|exact .dq|omega|skip
  all_goals simp[bH.err]
 have j:(s.phase==0)=true:=su b;rw[au b];simp -implicitDefEqProofs only[go_sem,seval,bne,j];refine sgE [112] aK c1 ?_;refine aV ?_;by_cases q:e=0
 ·have d:(e==0)=true:=su q;simp only[bX,au q];simp -implicitDefEqProofs only[go_sem,seval,bne,d]
  and_intros<;>first|exact .dq|omega|skip
  all_goals simp[pl]
 ·have d:(e==0)=false:=su q;simp only[bX,aq q];simp -implicitDefEqProofs only[go_sem,seval,bne,d];refine rL trivial (a e) ?_
  and_intros<;>first|exact .dq|omega|skip
  all_goals simp[bH.err]
def aew(s:af)(c:bB)(h:s.good)(f:c.kind=11):Sq 117 [] [.agg s.cells,.agg c.cells] [] (.bD [.agg (bq s c).1.cells,.agg (bq s c).2.cells]):=by
 have a:=λe=>cj e;have c0:=bg s h.small;have g:bq s c=bX s (if s.phase=0 then((qa s c).1,(qa s c).2.2,(qa s c).2.1,0,[],[])else(s,15,0,0,[],[])):=by unfold bq;congr 1;simp[kg,f]
 rw[g];clear g;have c1:=oR s c h;obtain⟨R,i⟩:=aL (qa s c);rw[<-i]at c1 |-;clear i;obtain⟨T,no,e⟩:=R;dsimp only at c1 |-;simp only[af.cells,bB.cells,f]at c1;simp only[af.cells]at c0 |-;simp only[bB.cells,f];refine aX 227 2 [.cell 4 42,.cell 5 121] mixed func117 ?_;refine rL trivial c0 ?_;refine aV ?_;by_cases b:s.phase=0
 case neg =>
  have d:(s.phase==0)=false:=su b;rw[aq b];simp only[bX,aq (show ¬(15:Int)=0 by decide)];simp -implicitDefEqProofs only[go_sem,seval,bne,d];refine rL trivial (a 15) ?_
  and_intros<;>first|exact .dq|omega|skip
  all_goals simp[bH.err]
 have j:(s.phase==0)=true:=su b;rw[au b];simp -implicitDefEqProofs only[go_sem,seval,bne,j];refine sgE [112] aK c1 ?_;refine aV ?_;by_cases q:e=0
 ·have d:(e==0)=true:=su q;simp only[bX,au q];simp -implicitDefEqProofs only[go_sem,seval,bne,d]
  and_intros<;>first|exact .dq|omega|skip
  all_goals simp[pl]
 ·have d:(e==0)=false:=su q;simp only[bX,aq q];simp -implicitDefEqProofs only[go_sem,seval,bne,d];refine rL trivial (a e) ?_
  and_intros<;>first|exact .dq|omega|skip
  all_goals simp[bH.err]
def aex(s:af)(c:bB)(h:s.good)(f:c.kind=12):Sq 117 [] [.agg s.cells,.agg c.cells] [] (.bD [.agg (bq s c).1.cells,.agg (bq s c).2.cells]):=by
 have a:=λe=>cj e;have c0:=bg s h.small;have g:bq s c=bX s (if s.phase=0 then((qa s c).1,(qa s c).2.2,(qa s c).2.1,0,[],[])else(s,15,0,0,[],[])):=by unfold bq;congr 1;simp[kg,f]
 rw[g];clear g;have c1:=oR s c h;obtain⟨R,i⟩:=aL (qa s c);rw[<-i]at c1 |-;clear i;obtain⟨T,no,e⟩:=R;dsimp only at c1 |-;simp only[af.cells,bB.cells,f]at c1;simp only[af.cells]at c0 |-;simp only[bB.cells,f];refine aX 227 2 [.cell 4 42,.cell 5 121] mixed func117 ?_;refine rL trivial c0 ?_;refine aV ?_;by_cases b:s.phase=0
 case neg =>
  have d:(s.phase==0)=false:=su b;rw[aq b];simp only[bX,aq (show ¬(15:Int)=0 by decide)];simp -implicitDefEqProofs only[go_sem,seval,bne,d];refine rL trivial (a 15) ?_
  and_intros<;>first|exact .dq|omega|skip
  all_goals simp[bH.err]
 have j:(s.phase==0)=true:=su b;rw[au b];simp -implicitDefEqProofs only[go_sem,seval,bne,j];refine sgE [112] aK c1 ?_;refine aV ?_;by_cases q:e=0
 ·have d:(e==0)=true:=su q;simp only[bX,au q];simp -implicitDefEqProofs only[go_sem,seval,bne,d]
  and_intros<;>first|exact .dq|omega|skip
  all_goals simp[pl]
 ·have d:(e==0)=false:=su q;simp only[bX,aq q];simp -implicitDefEqProofs only[go_sem,seval,bne,d];refine rL trivial (a e) ?_
  and_intros<;>first|exact .dq|omega|skip
  all_goals simp[bH.err]
def aey(s:af)(c:bB)(h:s.good)(f:c.kind=13):Sq 117 [] [.agg s.cells,.agg c.cells] [] (.bD [.agg (bq s c).1.cells,.agg (bq s c).2.cells]):=by
 have a:=λe=>cj e;have c0:=bg s h.small;have g:bq s c=bX s (if s.phase=0 then((qa s c).1,(qa s c).2.2,(qa s c).2.1,0,[],[])else(s,15,0,0,[],[])):=by unfold bq;congr 1;simp[kg,f]
 rw[g];clear g;have c1:=oR s c h;obtain⟨R,i⟩:=aL (qa s c);rw[<-i]at c1 |-;clear i;obtain⟨T,no,e⟩:=R;dsimp only at c1 |-;simp only[af.cells,bB.cells,f]at c1;simp only[af.cells]at c0 |-;simp only[bB.cells,f];refine aX 227 2 [.cell 4 42,.cell 5 121] mixed func117 ?_;refine rL trivial c0 ?_;refine aV ?_;by_cases b:s.phase=0
 case neg =>
  have d:(s.phase==0)=false:=su b;rw[aq b];simp only[bX,aq (show ¬(15:Int)=0 by decide)];simp -implicitDefEqProofs only[go_sem,seval,bne,d];refine rL trivial (a 15) ?_
  and_intros<;>first|exact .dq|omega|skip
  all_goals simp[bH.err]
 have j:(s.phase==0)=true:=su b;rw[au b];simp -implicitDefEqProofs only[go_sem,seval,bne,j];refine sgE [112] aK c1 ?_;refine aV ?_;by_cases q:e=0
 ·have d:(e==0)=true:=su q;simp only[bX,au q];simp -implicitDefEqProofs only[go_sem,seval,bne,d]
  and_intros<;>first|exact .dq|omega|skip
  all_goals simp[pl]
 ·have d:(e==0)=false:=su q;simp only[bX,aq q];simp -implicitDefEqProofs only[go_sem,seval,bne,d];refine rL trivial (a e) ?_
  and_intros<;>first|exact .dq|omega|skip
  all_goals simp[bH.err]
def aez(s:af)(c:bB)(h:s.good)(j:c.kind=14):Sq 117 [] [.agg s.cells,.agg c.cells] [] (.bD [.agg (bq s c).1.cells,.agg (bq s c).2.cells]):=by
 have b:=λe=>cj e;have c0:=bg s h.small;have f:bq s c=bX s (bz s,cu s,0,0,jV s,[]):=by unfold bq;congr 1;simp[kg,j]
 rw[f];clear f;have c1:=Lw s h.small h.gq h.qs;obtain⟨T,g⟩:=aL (bz s);obtain⟨e,i⟩:=aL (cu s);obtain⟨ds,a⟩:∃l,l=jV s:=⟨_,rfl⟩
 rw[<-g,<-i,<-a]at c1 |-;clear g i a;simp only[af.cells]at c1;simp only[af.cells]at c0 |-;simp only[bB.cells,j];refine aX 227 2 [.cell 4 42,.cell 5 121] mixed func117 ?_;refine rL trivial c0 ?_;refine rL trivial c1 ?_;refine aV ?_;by_cases q:e=0
 ·have d:(e==0)=true:=su q;simp only[bX,au q];simp -implicitDefEqProofs only[go_sem,seval,bne,d]
  and_intros<;>first|exact .dq|omega|skip
  all_goals simp[pl]
 ·have d:(e==0)=false:=su q;simp only[bX,aq q];simp -implicitDefEqProofs only[go_sem,seval,bne,d];refine rL trivial (b e) ?_
  and_intros<;>first|exact .dq|omega|skip
  all_goals simp[bH.err]
def aeA(s:af)(c:bB)(h:s.good)(j:c.kind=15):Sq 117 [] [.agg s.cells,.agg c.cells] [] (.bD [.agg (bq s c).1.cells,.agg (bq s c).2.cells]):=by
 have b:=λe=>cj e;have c0:=bg s h.small;have f:bq s c=bX s (bW s,fH s,0,0,kK s,[]):=by unfold bq;congr 1;simp[kg,j]
 rw[f];clear f;have c1:=Fh s h.small h.gq h.bs (by have:=h.ps;omega);obtain⟨T,g⟩:=aL (bW s);obtain⟨e,i⟩:=aL (fH s);obtain⟨ds,a⟩:∃l,l=kK s:=⟨_,rfl⟩
 rw[<-g,<-i,<-a]at c1 |-;clear g i a;simp only[af.cells]at c1;simp only[af.cells]at c0 |-;simp only[bB.cells,j];refine aX 227 2 [.cell 4 42,.cell 5 121] mixed func117 ?_;refine rL trivial c0 ?_;refine rL trivial c1 ?_;refine aV ?_;by_cases q:e=0
 ·have d:(e==0)=true:=su q;simp only[bX,au q];simp -implicitDefEqProofs only[go_sem,seval,bne,d]
  and_intros<;>first|exact .dq|omega|skip
  all_goals simp[pl]
 ·have d:(e==0)=false:=su q;simp only[bX,aq q];simp -implicitDefEqProofs only[go_sem,seval,bne,d];refine rL trivial (b e) ?_
  and_intros<;>first|exact .dq|omega|skip
  all_goals simp[bH.err]
def aeB(s:af)(c:bB)(h:s.good)(i:c.kind=16):Sq 117 [] [.agg s.cells,.agg c.cells] [] (.bD [.agg (bq s c).1.cells,.agg (bq s c).2.cells]):=by
 have a:=λe=>cj e;have c0:=bg s h.small;have b:bq s c=bX s (oz s,mI s,0,0,[],[]):=by unfold bq;congr 1;simp[kg,i]
 rw[b];clear b;have c1:=Im s h.small h.gq;obtain⟨T,f⟩:=aL (oz s);obtain⟨e,g⟩:=aL (mI s);rw[<-f,<-g]at c1 |-;clear f g;simp only[af.cells]at c1;simp only[af.cells]at c0 |-;simp only[bB.cells,i];refine aX 227 2 [.cell 4 42,.cell 5 121] mixed func117 ?_;refine rL trivial c0 ?_;refine rL trivial c1 ?_;refine aV ?_;by_cases q:e=0
 ·have d:(e==0)=true:=su q;simp only[bX,au q];simp -implicitDefEqProofs only[go_sem,seval,bne,d]
  and_intros<;>first|exact .dq|omega|skip
  all_goals simp[pl]
 ·have d:(e==0)=false:=su q;simp only[bX,aq q];simp -implicitDefEqProofs only[go_sem,seval,bne,d];refine rL trivial (a e) ?_
  and_intros<;>first|exact .dq|omega|skip
  all_goals simp[bH.err]
def aeC(s:af)(c:bB)(h:s.good)(j:c.kind=17):Sq 117 [] [.agg s.cells,.agg c.cells] [] (.bD [.agg (bq s c).1.cells,.agg (bq s c).2.cells]):=by
 have b:=λe=>cj e;have c0:=bg s h.small;have f:bq s c=bX s (jc s c.bT,pF s c.bT,0,0,qK s c.bT,[]):=by unfold bq;congr 1;simp[kg,j]
 rw[f];clear f;have c1:=Rn s c.bT h.small h.gq;obtain⟨T,g⟩:=aL (jc s c.bT);obtain⟨e,i⟩:=aL (pF s c.bT);obtain⟨ds,a⟩:∃l,l=qK s c.bT:=⟨_,rfl⟩
 rw[<-g,<-i,<-a]at c1 |-;clear g i a;simp only[af.cells]at c1;simp only[af.cells]at c0 |-;simp only[bB.cells,j];refine aX 227 2 [.cell 4 42,.cell 5 121] mixed func117 ?_;refine rL trivial c0 ?_;refine rL trivial c1 ?_;refine aV ?_;by_cases q:e=0
 ·have d:(e==0)=true:=su q;simp only[bX,au q];simp -implicitDefEqProofs only[go_sem,seval,bne,d]
  and_intros<;>first|exact .dq|omega|skip
  all_goals simp[pl]
 ·have d:(e==0)=false:=su q;simp only[bX,aq q];simp -implicitDefEqProofs only[go_sem,seval,bne,d];refine rL trivial (b e) ?_
  and_intros<;>first|exact .dq|omega|skip
  all_goals simp[bH.err]
def aeD(s:af)(c:bB)(h:s.good)(a:c.kind=18):Sq 117 [] [.agg s.cells,.agg c.cells] [] (.bD [.agg (bq s c).1.cells,.agg (bq s c).2.cells]):=by
 have b:=λe=>cj e;have c0:=U6 s h.small;have f:bq s c=bX s ((Az s c).1,(Az s c).2,0,0,[],[]):=by unfold bq;congr 1;simp[kg,a]
 rw[f];clear f;have c1:=M4 s c h;obtain⟨R,g⟩:=aL (Az s c);rw[<-g]at c1 |-;clear g;obtain⟨T,e⟩:=R;dsimp only at c1 |-;simp only[af.cells,af.Dm,bB.cells,a]at c1 c0;simp only[af.cells];simp only[bB.cells,a];refine aX 227 2 [.cell 4 42,.cell 5 121] mixed func117 ?_;refine soE trivial c0 ?_;refine sgE [112,200] aK c1 ?_;refine aV ?_;by_cases q:e=0
 ·have d:(e==0)=true:=su q;simp only[bX,au q];simp -implicitDefEqProofs only[go_sem,seval,bne,d]
  and_intros<;>first|exact .dq|omega|skip
  all_goals simp[pl]
 ·have d:(e==0)=false:=su q;simp only[bX,aq q];simp -implicitDefEqProofs only[go_sem,seval,bne,d];refine rL trivial (b e) ?_
  and_intros<;>first|exact .dq|omega|skip
  all_goals simp[bH.err]
def aeE(s:af)(c:bB)(h:s.good)(k:c.kind=19):Sq 117 [] [.agg s.cells,.agg c.cells] [] (.bD [.agg (bq s c).1.cells,.agg (bq s c).2.cells]):=by
 have f:=λe=>cj e;have c0:=bg s h.small;have g:bq s c=bX s (iG s c.who,n7 s c.who,0,0,EU s c.who,tX s c.who):=by unfold bq;congr 1;simp[kg,k]
 rw[g];clear g;have c1:=Uk s c.who h.small h.gq h.ms h.qs h.aZ h.bs;obtain⟨T,i⟩:=aL (iG s c.who);obtain⟨e,j⟩:=aL (n7 s c.who);obtain⟨ds,a⟩:∃l,l=EU s c.who:=⟨_,rfl⟩
 obtain⟨fs,b⟩:∃l,l=tX s c.who:=⟨_,rfl⟩
 rw[<-i,<-j,<-a,<-b]at c1 |-;clear i j a b;simp only[af.cells]at c1;simp only[af.cells]at c0 |-;simp only[bB.cells,k];refine aX 227 2 [.cell 4 42,.cell 5 121] mixed func117 ?_;refine rL trivial c0 ?_;refine rL trivial c1 ?_;refine aV ?_;by_cases q:e=0
 ·have d:(e==0)=true:=su q;simp only[bX,au q];simp -implicitDefEqProofs only[go_sem,seval,bne,d]
  and_intros<;>first|exact .dq|omega|skip
  all_goals simp[pl]
 ·have d:(e==0)=false:=su q;simp only[bX,aq q];simp -implicitDefEqProofs only[go_sem,seval,bne,d];refine rL trivial (f e) ?_
  and_intros<;>first|exact .dq|omega|skip
  all_goals simp[bH.err]
def aeF(s:af)(c:bB)(h:s.good)(g:c.kind=20):Sq 117 [] [.agg s.cells,.agg c.cells] [] (.bD [.agg (bq s c).1.cells,.agg (bq s c).2.cells]):=by
 have a:=λe=>cj e;have c0:=bg s h.small;have b:bq s c=bX s ((rU 3 0 s []).1,(rU 3 0 s []).2.2,0,0,(rU 3 0 s []).2.1,[]):=by unfold bq;congr 1;simp[kg,g]
 rw[b];clear b;have c1:=GN s h;obtain⟨R,f⟩:=aL (rU 3 0 s []);rw[<-f]at c1 |-;clear f;obtain⟨T,ds,e⟩:=R;dsimp only at c1 |-;simp only[af.cells]at c1;simp only[af.cells]at c0 |-;simp only[bB.cells,g];refine aX 227 2 [.cell 4 42,.cell 5 121] mixed func117 ?_;refine rL trivial c0 ?_;refine sgE [112] aK c1 ?_;refine aV ?_;by_cases q:e=0
 ·have d:(e==0)=true:=su q;simp only[bX,au q];simp -implicitDefEqProofs only[go_sem,seval,bne,d]
  and_intros<;>first|exact .dq|omega|skip
  all_goals simp[pl]
 ·have d:(e==0)=false:=su q;simp only[bX,aq q];simp -implicitDefEqProofs only[go_sem,seval,bne,d];refine rL trivial (a e) ?_
  and_intros<;>first|exact .dq|omega|skip
  all_goals simp[bH.err]
theorem aeG(s:af)(c:bB)(h:s.good)(f:c.kind=21):Sq 117 [] [.agg s.cells,.agg c.cells] [] (.bD [.agg (bq s c).1.cells,.agg (bq s c).2.cells]):=by
 have a:=λe=>cj e;have c0:=bg s h.small;have d:bq s c=bX s (if aI.right ⟨c.no,c.who,c.cur⟩then(s,0,0,gw ⟨c.no,c.who,c.cur⟩ s.bp.bs,[],[])else(s,3,0,0,[],[])):=by unfold bq;congr 1;simp[kg,f]
 rw[d];clear d;have b:=mu c.no c.who c.cur;have a2:=kn ⟨c.no,c.who,c.cur⟩;have a3:=jo s.bp ⟨c.no,c.who,c.cur⟩ h.small.bp;simp only[aI.cells]at a2 a3;simp only[bu.cells]at a3;simp only[af.cells]at c0 |-;simp only[bB.cells,f];refine aX 227 2 [.cell 4 42,.cell 5 121] mixed func117 ?_;refine rL trivial c0 ?_;refine rL trivial b ?_;refine rL trivial a2 ?_;cases b1:aI.right ⟨c.no,c.who,c.cur⟩
 ·rw[aq (by decide)];simp only[bX,aq (show ¬(3:Int)=0 by decide)];refine rL trivial (a 3) ?_
  and_intros<;>first|exact .dq|omega|skip
  all_goals simp[bH.err]
 rw[au rfl];refine rL trivial b ?_;refine rL trivial a3 ?_;simp only[bX,au (show(0:Int)=0 from rfl)];simp -implicitDefEqProofs only[go_sem,seval]
 and_intros<;>first|exact .dq|omega|skip
 all_goals simp[pl]
theorem aeH(s:af)(c:bB)(h:s.good)(d:c.kind=22):Sq 117 [] [.agg s.cells,.agg c.cells] [] (.bD [.agg (bq s c).1.cells,.agg (bq s c).2.cells]):=by
 have a:=λe=>cj e;have c0:=bg s h.small;have b:bq s c=bX s (if vv c.who c.inst then(s,0,0,(posOf c.who c.inst s.book.qs).aQ,[],[])else(s,3,0,0,[],[])):=by unfold bq;congr 1;simp[kg,d]
 rw[b];clear b;have g:=wH c.who c.inst;have a3:=oS s.book c.who c.inst h.small.book;obtain⟨y,f⟩:=aL (posOf c.who c.inst s.book.qs);rw[<-f]at a3 |-;clear f;simp only[aJ.cells,aE.cells]at a3;simp only[af.cells]at c0 |-;simp only[bB.cells,d];refine aX 227 2 [.cell 4 42,.cell 5 121] mixed func117 ?_;refine rL trivial c0 ?_;refine rL trivial g ?_;cases b1:vv c.who c.inst
 ·rw[aq (by decide)];simp only[bX,aq (show ¬(3:Int)=0 by decide)];refine rL trivial (a 3) ?_
  and_intros<;>first|exact .dq|omega|skip
  all_goals simp[bH.err]
 rw[au rfl];refine rL trivial a3 ?_;simp only[bX,au (show(0:Int)=0 from rfl)];simp -implicitDefEqProofs only[go_sem,seval]
 and_intros<;>first|exact .dq|omega|skip
 all_goals simp[pl]
def bu.lo(l:bu):Prop:=l.last<=1099511627776
def T6{l:bu}{id:Int}{g:List aN}(h:fM l id g=0):(jO l id g).lo:=by
 unfold jO;rw[au h];exact(T4 h).2.1.2
def GH{s:af}(g:List aN)(h:s.bp.lo):(sQ s g).bp.lo:=by
 unfold sQ;split
 ·rename_i a;exact T6 a
 ·exact h
def O6{l:bu}{g:List aN}{e:Int}(h:l.lo)(a:(gD l g e).2=0):(gD l g e).1.lo:=by
 unfold gD at a |-;split
 ·rename_i b;rw[au b]at a;exact T6 a
 ·exact h
theorem XP{s:af}{w:Int}:∀(m i:Nat)(l:bu)(p:List aH),l.lo->(qQ s w m i l p).2.2=0->(qQ s w m i l p).1.lo
 | 0,_,_,_,h,_=>h
 |m+1,i,l,p,h,he=>by
  simp only[qQ]at he |-;split
  ·rename_i a;rw[au a]at he;exact XP m _ _ _ (O6 h a) he
  ·rename_i a;rw[aq a]at he;exact absurd he a
def XY{s:af}(h:s.bp.lo)(c:Int):(Fj s c).1.bp.lo:=by
 unfold Fj;split
 ·exact GH _ h
 ·exact h
theorem XX:∀(m c:Nat) {s:af} (ds:List aH),s.bp.lo->(rU m c s ds).1.bp.lo
 | 0,_,_,_,h=>h
 |m+1,c,s,ds,h=>by
  simp only[rU];split
  ·exact XX m _ _ (XY h _)
  ·exact XY h _
def aj'{s:af}(h:s.bp.lo)(c:bB):(xw s c).1.bp.lo:=by
 unfold xw;split
 case isFalse=>exact h
 split
 case isFalse=>exact h
 split
 ·exact GH _ h
 split
 ·split
  ·exact GH (s:=s) _ h
  ·exact GH _ h
 ·exact GH _ h
def ZF{s:af}(h:s.bp.lo)(c:bB)(n:Int):(sq s c n).1.bp.lo:=by
 unfold sq;split
 case isFalse=>exact h
 split
 case isFalse=>exact h
 split
 case isFalse=>exact h
 split
 case isFalse=>exact h
 split
 ·exact h
 split
 ·exact h
 ·exact h
def adx{s:af}(h:s.bp.lo)(c:bB):(qa s c).1.bp.lo:=by
 unfold qa;split
 ·split<;>exact h
 split
 ·exact h
 split
 ·exact h
 split
 ·split<;>exact h
 ·exact h
def aiv{s:af}(h:s.bp.lo)(c:bB):(Az s c).1.bp.lo:=by
 unfold Az;split
 case isFalse=>exact h
 split
 case isFalse=>exact h
 split
 ·exact h
 split
 case isFalse=>exact h
 split<;>exact h
def Pk{s:af}(h:s.bp.lo)(a:cu s=0):(bz s).bp.lo:=by
 unfold bz;rw[au a];unfold cu at a;split at a
 case isFalse=>cases a
 split at a
 case isFalse=>cases a
 split at a
 case isFalse hne=>exact absurd a hne
 split at a
 case isFalse hne=>exact absurd a hne
 exact O6 (l:=s.bp) h a
def OM{s:af}(h:s.bp.lo)(a:fH s=0):(bW s).bp.lo:=by
 unfold bW;rw[au a];exact h
def XN{s:af}(h:s.bp.lo)(a:mI s=0):(oz s).bp.lo:=by
 unfold oz;rw[au a];exact h
def af6{s:af}{n:Int}(h:s.bp.lo)(a:pF s n=0):(jc s n).bp.lo:=by
 unfold jc;rw[au a];exact h
def acB{s:af}{w:Int}(h:s.bp.lo)(a:n7 s w=0):(iG s w).bp.lo:=by
 unfold iG;rw[au a];exact XP 3 0 s.bp [] h (zD a).2.2.2
def abi{s:af}{c:bB}(h:s.bp.lo)(a:(kg s c).2.1=0):(kg s c).1.bp.lo:=by
 revert a;exact AY s c (P:=λm=>m.2.1=0->m.1.bp.lo) (λ_=>h) (λ_=>h) (λ_=>h) (λ_=>aj' h c) (λ_=>ZF h c _) (λ_=>GH _ h) (λ_=>adx h c)
  (λa=>Pk h a) (λa=>OM h a) (λa=>XN h a) (λa=>af6 h a) (λ_=>aiv h c) (λa=>acB h a) (λ_=>XX 3 0 [] h) (λ_ _ _=>h)
theorem TB{s:af}{w:Int}:∀(m c:Nat)(x:List aB×List aH),(lz s w m c x).1.2.length<=x.2.length+m
 | 0,_,_=>fO _
 |m+1,c,x=>by
  simp only[lz];split
  ·refine Nat.le_trans (TB m _ _) ?_;simp only[ct];have:(jT w c (uW s w c)).length<=1:=by unfold jT;split<;>simp
   omega
  ·dsimp only;omega
theorem OJ{s:af}:∀(ws:List Int)(x:List aB×List aH),(lO s ws x).1.2.length<=x.2.length+3*ws.length
 | [],_=>fO _
 |w::r,x=>by
  have h1:=TB (s:=s) (w:=w) 3 0 x;simp only[lO,length_cons];split
  ·have h2:=OJ (s:=s) r (lz s w 3 0 x).1;omega
  ·omega
theorem XO{s:af}{w:Int}:∀(m i:Nat)(l:bu)(p:List aH),(qQ s w m i l p).2.1.length<=p.length+m
 | 0,_,_,_=>fO _
 |m+1,i,l,p=>by
  simp only[qQ];split
  ·refine Nat.le_trans (XO m _ _ _) ?_;simp only[ct];have:(jT w i (fK s w i).2.1).length<=1:=by unfold jT;split<;>simp
   omega
  ·dsimp only;omega
def ZS(s:af)(c:Int):(Fj s c).1.ak=s.ak:=by
 unfold Fj sQ;split
 ·split<;>rfl
 ·rfl
theorem XW:∀(m c:Nat)(s:af)(ds:List aH),(rU m c s ds).2.1.length<=ds.length+m*s.ak.ms.length
 | 0,_,_,_=>by simp[rU]
 |m+1,c,s,ds=>by
  simp only[rU];split
  ·refine Nat.le_trans (XW m _ _ _) ?_;rw[ZS];have:=HG s.bp s.ak c;simp only[ct,Nat.succ_mul];omega
  ·simp
def HJ{s:af}(h:s.lens):(jV s).length<=1000:=by
 have hq:=h.qs;unfold jV eJ;split
 ·have:=(IT (lU s.ak s.book)).2;have:(lU s.ak s.book).length<=s.book.qs.length:=by unfold lU;split<;>simp
  omega
 ·simp
def Hu{s:af}(h:s.lens):(kK s).length<=1000:=by
 have hm:=h.ms;unfold kK QH;split
 ·have a:=OJ (s:=s) (iP s.ak [1]) (s.calls,[]);have h2:(iP s.ak [1]).length<=s.ak.ms.length:=bR _ _ _;simp only[length_nil]at a;omega
 ·simp
def aaq{s:af}(n:Int)(h:s.lens):(qK s n).length<=1000:=by
 have hc:=h.calls;unfold qK;split
 ·rw[qO];have:=OC (s.now+n) s.calls;omega
 ·simp
def acy{s:af}(w:Int):(EU s w).length<=1000:=by
 unfold EU;split
 ·have:=XO (s:=s) (w:=w) 3 0 s.bp [];simp only[length_nil]at this;omega
 ·simp
def acz{s:af}(w:Int):(tX s w).length<=1000:=by
 unfold tX;split
 ·rw[nZ];omega
 ·simp
def Np{s:af}(h:s.lens):(rU 3 0 s []).2.1.length<=1000:=by
 have hm:=h.ms;have:=XW 3 0 s [];simp only[length_nil]at this;omega
def N4{s:af}{c:bB}(h:s.lens):(kg s c).2.2.2.2.1.length<=1000/\(kg s c).2.2.2.2.2.length<=1000:=by
 have z:([]:List aH).length<=1000/\([]:List eu).length<=1000:=⟨Nat.zero_le _,Nat.zero_le _⟩
 exact AY s c (P:=λm=>m.2.2.2.2.1.length<=1000/\m.2.2.2.2.2.length<=1000) z z z z z z z ⟨HJ h,z.2⟩ ⟨Hu h,z.2⟩ z ⟨aaq _ h,z.2⟩ z ⟨acy _,acz _⟩ ⟨Np h,z.2⟩ (λ_ _=>z)
def JP{s:af}{c:bB}(h:s.lens):(bq s c).2.fits:=by
 have hl:=N4 (c:=c) h;unfold bq bX;split
 ·simp only[bH.fits];omega
 ·simp[bH.fits,bH.err]
def VG{s:af}{c:bB}(h:s.fY):(bq s c).1.right/\(bq s c).1.bp.lo:=by
 refine⟨SG h.right,?_⟩;unfold bq bX;split
 ·rename_i a;exact abi h.last a
 ·exact h.last
def vP(s:af)(c:bB)(r:bH)(i:Nat):List bZ:=
 if(i:Int)+1=c.client then[⟨(i:Int)+1,c.seq,r⟩]else if 0<=mB ((i:Int)+1) s.aR 0 then[rM s (mB ((i:Int)+1) s.aR 0)]else[]
def CF(s:af)(c:bB):af×bH:=if(sM s c).2 then(s,(sM s c).1)else({ (bq s c).1 with aR:=n6 (vP s c (bq s c).2) 8 },(bq s c).2)
theorem LO(n:Int):∀(l:List bZ)(k:Int),0<=k->0<=mB n l k->∃(j:Nat)(h:j<l.length),mB n l k=k+j/\l[j].client=n
 | [],k,_,h=>by simp[mB]at h
 |x::r,k,hk,h=>by
  simp only[mB]at h |-;split
  ·rename_i a;exact⟨0,by simp,by simp,su a⟩
  ·rename_i a;rw[aq a]at h;obtain⟨j,h1,b,c⟩:=LO n r (k+1) aj h;exact⟨j+1,by simp;omega,by rw[b];omega,su c⟩
def DS{s:af}{n:Int}(h:0<=mB n s.aR 0):rM s (mB n s.aR 0)∈s.aR/\(rM s (mB n s.aR 0)).client=n:=by
 obtain⟨j,a,e,b⟩:=LO n s.aR 0 aj h;unfold rM;rw[e,Int.zero_add,Int.toNat_natCast,getD_eq_getElem?_getD,gF a];exact⟨dH a,b⟩
def X4{x:bZ}:jI x=true↔(1<=x.client/\x.client<=8)/\1<=x.seq/\x.seq<=1099511627776:=by
 simp only[jI,within,cU,bO]
def SM{c:bB}(h:EA c=0):(1<=c.kind/\c.kind<=22)/\1<=c.client/\c.client<=8:=by
 unfold EA at h;split at h
 case isFalse=>cases h
 rename_i a;split at h
 case isFalse=>cases h
 split at h
 case isFalse=>cases h
 split at h
 case isFalse=>cases h
 rename_i b;simp only[within,cU,bO]at a b;exact⟨a,b⟩
def Kq{c:bB}{last:Int}(h:(Gt c last).2=false)(hl:0<=last/\last<=1099511627776):c.seq=last+1/\c.seq<=1099511627776:=by
 unfold Gt at h;split at h
 case isFalse=>cases h
 rename_i a;split at h
 ·cases h
 rename_i h2;rw[gx aj aj]at a;omega
def Tq{s:af}{c:bB}(e:s.right)(h:(sM s c).2=false):EA c=0/\1<=c.seq/\c.seq<=1099511627776:=by
 have a:=(tA (lt:=gT) yM).1 e.aR;unfold sM at h;split at h
 case isFalse=>cases h
 rename_i b;split at h
 ·rename_i d;have hm:=X4.1 (a.1 _ (DS d).1);split at h
  ·cases h
  split at h
  ·cases h
  have:=Kq h aj;exact⟨b,by omega,this.2⟩
 ·have:=Kq h aj;exact⟨b,by omega,this.2⟩
def Hh(s:af)(c:bB)(hs:s.fY):∀i,i<8->∀x∈vP s c (bq s c).2 i,x.client=(i:Int)+1/\(x∈s.aR\/x=⟨c.client,c.seq,(bq s c).2⟩):=by
 intro i hi x a;unfold vP at a;split at a
 ·rename_i h;obtain rfl:=iD.1 a;exact⟨rfl,.inr (by rw[h])⟩
 ·split at a
  ·rename_i h;obtain rfl:=iD.1 a;exact⟨(DS h).2,.inl (DS h).1⟩
  ·cases a
def abh{s:af}{c:bB}(h:s.fY):(CF s c).1.fY:=by
 unfold CF;split
 ·exact h
 rename_i n;obtain⟨f,k1,k2⟩:=Tq h.right (su n);obtain⟨b,l⟩:=VG (c:=c) h;have e:=Hh s c h;have k:=(tA (lt:=gT) yM).1 h.right.aR;have d:=JP (c:=c) h.right.lens;have hcl:=SM f;refine⟨⟨b.HT,b.ak,b.book,b.bp,b.ps,b.calls,b.known,b.bl,b.aZ,(tA (lt:=gT) yM).2 ⟨λx a=>?_,?_⟩⟩,l,λx a=>?_⟩
 ·obtain⟨i,g,a⟩:=jf.1 a;rcases(e i g x a).2 with a|rfl
  ·exact k.1 x a
  ·rw[X4];dsimp only;omega
 ·refine zI (λi g=>BF ?_) λi j hij m x a y o=>?_
  ·unfold vP;split;simp;split<;>simp
  ·have h1:=(e i aj x a).1;have h2:=(e j m y o).1;simp only[gT,bO];omega
 ·obtain⟨i,g,a⟩:=jf.1 a;rcases(e i g x a).2 with a|rfl
  ·exact h.fit x a
  ·exact d
def aaB:af.zero.fY:=⟨bU.1 rfl,by decide,λx a=>by cases a⟩
def YO(s:af)(c:bB)(h:s.good)(hk:1<=c.kind/\c.kind<=22):Sq 117 [] [.agg s.cells,.agg c.cells] [] (.bD [.agg (bq s c).1.cells,.agg (bq s c).2.cells]):=by
 rcases(by omega:c.kind=1\/c.kind=2\/c.kind=3\/c.kind=4\/c.kind=5\/c.kind=6\/c.kind=7\/c.kind=8\/c.kind=9\/c.kind=10\/c.kind=11\/c.kind=12\/c.kind=13\/c.kind=14\/c.kind=15\/c.kind=16\/c.kind=17\/c.kind=18\/c.kind=19\/c.kind=20\/c.kind=21\/c.kind=22)with e|e|e|e|e|e|e|e|e|e|e|e|e|e|e|e|e|e|e|e|e|e
 ·exact aiV s c h e
 ·exact aiW s c h e
 ·exact aiX s c h e
 ·exact aiY s c h e
 ·exact aiZ s c h e
 ·exact ai0 s c h e
 ·exact ai1 s c h e
 ·exact ai2 s c h e
 ·exact ai3 s c h e
 ·exact aev s c h e
 ·exact aew s c h e
 ·exact aex s c h e
 ·exact aey s c h e
 ·exact aez s c h e
 ·exact aeA s c h e
 ·exact aeB s c h e
 ·exact aeC s c h e
 ·exact aeD s c h e
 ·exact aeE s c h e
 ·exact aeF s c h e
 ·exact aeG s c h e
 ·exact aeH s c h e
def YM(s:af)(c:bB)(h:(bq s c).2.code≠0):bq s c=(s,.err (bq s c).2.code):=by
 unfold bq bX at h |-;split
 ·rename_i a;rw[au a]at h;exact absurd rfl h
 ·rfl
def Pj(s:af)(c:bB)(r:bH)(i:Nat):(vP s c r i).length<=1:=by
 unfold vP;split
 ·simp
 ·split<;>simp
def Uc(s:af)(c:bB)(h:s.fY)(m:(sM s c).2=false):Sq 45 [] [.agg s.cells,.agg c.cells] [.own 7 ((CF s c).1.aR.map bZ.cells)]
  (.bD [.agg [.I (CF s c).1.now,.I (CF s c).1.day,.I (CF s c).1.phase,.sl 3 ((CF s c).1.ak.ms.map av.cells),.sl 12 ((CF s c).1.ak.ns.map aF.cells),.sl 4 ((CF s c).1.ak.xs.map aD.cells),.I (CF s c).1.book.next,.sl 7 ((CF s c).1.book.ts.map aT.cells),.sl 4 ((CF s c).1.book.qs.map aE.cells),
    .I (CF s c).1.bp.last,.sl 4 ((CF s c).1.bp.bs.map bY.cells),.sl 3 (pl (CF s c).1.ps),.sl 4 ((CF s c).1.calls.map aB.cells),.sl 5 ((CF s c).1.aZ.map bn.cells),.ref 0],.agg (CF s c).2.cells]):=by
 have J:=h.good;have U:=Tq h.right m;have hsl:=h.right.lens.aR;have c1:=Ao s c J.small;have c2:=YO s c J (SM U.1).1;have c3:=bg s J.small;have c4:=λn=>BG s n aj;have B:=th _ (JP (s:=s) (c:=c) h.right.lens);have p:=λn=>LO n s.aR 0 aj;have g:=YM s c;have P:CF s c=({ (bq s c).1 with aR:=n6 (vP s c (bq s c).2) 8 },(bq s c).2):=by unfold CF;rw[m];rfl
 rw[P];obtain⟨K,Q⟩:=aL ((sM s c).1);rw[m,<-Q]at c1;obtain⟨X,S⟩:=aL (bq s c);rw[<-S]at c2 B g |-;obtain⟨T,R⟩:=X;dsimp only at c2 B g |-;clear m Q S P U;simp only[af.cells,bB.cells,bH.cells]at c1 c2 c3 c4 B |-;refine aX 69 2 [.cell 4 42,.cell 5 121] mixed func45 ?_;refine sc aK c1 ?_;refine sc aK c2 ?_;by_cases b:R.code=0
 case pos =>
  have d:(R.code==0)=true:=su b;refine sm (a2 dV d) ?_;refine aV ?_;refine aG.wv 8 [2,3,4,5,6,8] [48,64,80,96,144] (λi=>[(10,.I ((i:Int)+1)),(9,.ref 1040)]) (λi=>[(112,.box R.cells),(1040,.own 7 ((n6 (vP s c R) i).map bZ.cells))]) ?_ ?_ ?_
  ·simp only[go_sem,seval,bH.cells,l9]<;>simp
  ·intro i _ y _ _ _;have E:decide ((i:Int)+1<=8)=true:=jw;have r:IntKind.wrap .i64 ((i:Int)+1+1)=((i+1:Nat):Int)+1:=fU;have a:=iS (vP s c R) i;have M:=nS (Pj s c R) i;obtain⟨L,C⟩:=aL (n6 (vP s c R) i);obtain⟨k,m⟩:=aL ((i:Int)+1);have f:=c4 k;have l:=p k;rw[<-C]at a M |-;simp only[vP,<-m]at a;rw[<-m]at E r |-;obtain⟨v,G⟩:=aL (mB k s.aR 0);rw[<-G]at a f l;clear c4 p C G c1 c2 c3;simp only[bH.cells];refine sc E f ?_;by_cases q:k=c.client
   ·have o:(k==c.client)=true:=su q;rw[au q]at a;refine sc (a2 o r) B ?_;refine aV ?_;refine ah.v y ?_;exact gH a
   have o:(k==c.client)=false:=su q;rw[aq q]at a;by_cases t:0<=v
   ·obtain⟨j,F,e,_⟩:=l t;have A:v=(j:Int):=aj
    subst A;have u:decide (0<=(j:Int))=true:=by simp
    rw[au t,show rM s (j:Int)=s.aR[j]from by simp[rM,F]]at a;have z:=aM (c:=bZ.cells) s.aR F;have N:(j:Int)<(s.aR.length:Int):=aj
    obtain⟨x,O⟩:=aL (s.aR[j]);rw[<-O]at z a;simp only[bZ.cells]at z;simp only[go_sem,seval,o,u,z,Int.toNat_natCast];refine aV ?_;refine sm r ?_;refine aV ?_;refine ah.v y ?_;exact gH a
   ·have u:decide (0<=v)=false:=su t;rw[aq t,append_nil]at a;refine sm (a3 o u r) ?_;refine aV ?_;refine ah.v y ?_;exact gH a
  ·intro _ _ _;have w:decide (((8:Nat):Int)+1<=8)=false:=by decide
   simp only[bH.cells];refine sm w ?_;exact RS
 have d:(R.code==0)=false:=su b;have D:=g b;simp only[Prod.mk.injEq]at D;obtain⟨rfl,H⟩:=D;refine sm (a2 dV d) ?_;refine sc aK c3 ?_;refine aV ?_;refine aG.wv 8 [2,3,4,5,6,8] [48,64,80,96,144] (λi=>[(10,.I ((i:Int)+1)),(9,.ref 1040)]) (λi=>[(112,.box R.cells),(1040,.own 7 ((n6 (vP T c R) i).map bZ.cells))]) ?_ ?_ ?_
 ·have r1:R.no=0:=by rw[H];rfl
  have r2:R.bT=0:=by rw[H];rfl
  have r3:R.SH=[]:=by rw[H];rfl
  have r4:R.falls=[]:=by rw[H];rfl
  simp only[go_sem,seval,bH.cells,l9,r1,r2,r3,r4,map_nil]<;>simp
 ·intro i _ y _ _ _;have E:decide ((i:Int)+1<=8)=true:=jw;have r:IntKind.wrap .i64 ((i:Int)+1+1)=((i+1:Nat):Int)+1:=fU;have a:=iS (vP T c R) i;have M:=nS (Pj T c R) i;obtain⟨L,C⟩:=aL (n6 (vP T c R) i);obtain⟨k,m⟩:=aL ((i:Int)+1);have f:=c4 k;have l:=p k;rw[<-C]at a M |-;simp only[vP,<-m]at a;rw[<-m]at E r |-;obtain⟨v,G⟩:=aL (mB k T.aR 0);rw[<-G]at a f l;clear c4 p C G c1 c2 c3;simp only[bH.cells];refine sc E f ?_;by_cases q:k=c.client
  ·have o:(k==c.client)=true:=su q;rw[au q]at a;refine sc (a2 o r) B ?_;refine aV ?_;refine ah.v y ?_;exact gH a
  have o:(k==c.client)=false:=su q;rw[aq q]at a;by_cases t:0<=v
  ·obtain⟨j,F,e,_⟩:=l t;have A:v=(j:Int):=aj
   subst A;have u:decide (0<=(j:Int))=true:=by simp
   rw[au t,show rM T (j:Int)=T.aR[j]from by simp[rM,F]]at a;have z:=aM (c:=bZ.cells) T.aR F;have N:(j:Int)<(T.aR.length:Int):=aj
   obtain⟨x,O⟩:=aL (T.aR[j]);rw[<-O]at z a;simp only[bZ.cells]at z;simp only[go_sem,seval,o,u,z,Int.toNat_natCast];refine aV ?_;refine sm r ?_;refine aV ?_;refine ah.v y ?_;exact gH a
  ·have u:decide (0<=v)=false:=su t;rw[aq t,append_nil]at a;refine sm (a3 o u r) ?_;refine aV ?_;refine ah.v y ?_;exact gH a
 ·intro _ _ _;have w:decide (((8:Nat):Int)+1<=8)=false:=by decide
  simp only[bH.cells];refine sm w ?_;exact RS
def Q4(s:af)(c:bB)(h:s.fY):Sq 45 [] [.agg s.cells,.agg c.cells] [] (.bD [.agg (CF s c).1.cells,.agg (CF s c).2.cells]):=by
 cases a:(sM s c).2
 ·refine Spec.frozen (Uc s c h a) [0] rfl ?_;intro r;rcases r with _|r<;>rfl
 ·have c1:=Ao s c h.good.small;have b:CF s c=(s,(sM s c).1):=by unfold CF;rw[a];rfl
  rw[b];rw[a]at c1;obtain⟨K,d⟩:=aL ((sM s c).1);rw[<-d]at c1 |-;simp only[af.cells,bB.cells,bH.cells]at c1 |-;refine aX 69 2 [.cell 4 42,.cell 5 121] mixed func45 ?_;exact lX aK c1
def qg(c:bB):Int:=c.client%8+1
def QL(q:List Int)(c:bB):bB:={ c with client:=qg c,seq:=q.getD (qg c).toNat 0+1 }
def SW(x:af×List Int)(c:bB):af×List Int:=
 ((CF x.1 (QL x.2 c)).1,if(CF x.1 (QL x.2 c)).2.code=6\/(CF x.1 (QL x.2 c)).2.code=21 then x.2 else x.2.set (qg c).toNat (x.2.getD (qg c).toNat 0+1))
def EF:List bB->af×List Int->af×List Int
 | [],x=>x
 |c::r,x=>EF r (SW x c)
def Af(l:List bB):af:=(EF (l.take 200) (af.zero,replicate 9 0)).1
structure Dv(x:af×List Int)(i:Nat):Prop where
 fY:x.1.fY
 len:x.2.length=9
 num:∀v∈x.2,0<=v/\v<=i
def JA(c:bB):1<=qg c/\qg c<=8:=by unfold qg;omega
def SP{q:List Int}{k:Nat}(h:k<q.length):q.getD k 0∈q:=by
 rw[getD_eq_getElem?_getD,gF h];exact dH h
def J6{x:af×List Int}{i:Nat}(c:bB)(h:Dv x i):Dv (SW x c) (i+1):=by
 have hc:=JA c;have b:=h.len;refine⟨abh h.fY,?_,?_⟩
 ·unfold SW;dsimp only;split
  ·exact b
  ·rw[length_set];exact b
 ·unfold SW;dsimp only;split
  ·intro v a;have:=h.num v a;omega
  ·intro v a;rcases mem_or_eq_of_mem_set a with a|rfl
   ·have:=h.num v a;omega
   ·have:=h.num _ (SP (q:=x.2) (k:=(qg c).toNat) aj);omega
def abA:Dv (af.zero,replicate 9 0) 0:=⟨aaB,by simp,λv a=>by
 have:=List.eq_of_mem_replicate a
 omega⟩
theorem SV:∀(l:List bB)(x:af×List Int)(i:Nat),Dv x i->Dv (EF l x) (i+l.length)
 | [],_,_,h=>h
 |c::r,x,i,h=>by
  have:=SV r _ _ (J6 c h);simp only[EF,length_cons];rwa[show i+(r.length+1)=i+1+r.length by omega]
def abB(l:List bB):(Af l).fY:=(SV (l.take 200) _ 0 abA).fY
def ql(q:List Int):List D:=q.map λx=>.I x
def acT(q:List Int):(ql q).length=q.length:=by simp[ql]
def Q2(q:List Int):∀d∈ql q,mh d=true:=by simp[ql,mh]
def apJ{q:List Int}{k:Nat}(h:k<q.length):((ql q).drop k).headD .undef=.I (q.getD k 0):=by
 rw[drop_eq_getElem_cons (by rw[acT];exact h)];simp[ql,h]
def akg{q:List Int}{k:Nat}(h:k<q.length)(v:Int):(ql q).take k++.I v::(ql q).drop (k+1)=ql (q.set k v):=by
 unfold ql;rw[<-map_take,<-List.map_drop,List.set_eq_take_append_cons_drop,au h];simp
def YF(n:Int):IntKind.wrap .i64 (1+IntKind.wrap .i64 ((IntKind.wrap .u64 n).tmod 8))=n%8+1:=by
 have h:IntKind.wrap .u64 n=n%18446744073709551616:=by rw[IntKind.wrap_u64]
 rw[h,Int.tmod_eq_emod_of_nonneg aj,gx (x:=n%18446744073709551616%8) aj aj,gx aj aj];omega
def qp(l:List bB)(hlen:l.length<=1000):Sq 12 [] [.sl 17 (l.map bB.cells)] [] (.agg (Af l).cells):=by
 obtain⟨R,K⟩:=aL (EF (l.take 200) (af.zero,replicate 9 0));have A:Af l=R.1:=by rw[K];rfl
 rw[A];clear A;obtain⟨L,J⟩:=aL (l.take 200);rw[<-J]at K;obtain⟨n,X⟩:=aL (L.length);have Q:n<=l.length/\n<=200/\(n=l.length\/n=200):=by
  rw[X,J,gh];omega
 have z:∀i (h1:i<L.length) (h2:i<l.length),L[i]=l[i]:=λi h1 h2=>by
  subst J;simp
 clear J;refine aX 59 1 [.cell 2 42] mixed func12 ?_;refine s0 ?_;refine aV ?_;refine aG.rT (S:=af×List Int) n [0,2,3,4] [48] (λi _=>[(5,.I i)]) (λi x=>[(64,.box x.1.cells),(80,.box (ql x.2))]) (λi x=>EF (L.drop i) x=R/\Dv x i) (af.zero,replicate 9 0) ⟨K.symm,abA⟩ ?_ ?_ ?_
 ·have hz:ql (replicate 9 0)=[.I 0,.I 0,.I 0,.I 0,.I 0,.I 0,.I 0,.I 0,.I 0]:=rfl;simp only[go_sem,seval,af.cells,af.zero,hz,pl];exact iJ (by simp[mh])
 ·intro i x N hdi u b;obtain⟨b,G⟩:=b;rw[dI (by omega:i<L.length),z i aj aj]at b;have O:=aM (c:=bB.cells) l (by omega:i<l.length);have f:decide ((i:Int)<(l.length:Int))=true:=jw;have o:decide ((i:Int)<200)=true:=jw;have hli:(i:Int)<(l.length:Int):=aj
  obtain⟨c,W⟩:=aL (l[i]);rw[<-W]at O b;simp only[EF]at b;have a:=J6 c G;obtain⟨s,q⟩:=x;have hq9:q.length=9:=G.len;have M:=JA c;have j:=YF c.client;have C:=G.num _ (SP (q:=q) (k:=(qg c).toNat) aj);have d:=Q4 s (QL q c) G.fY;have D:SW (s,q) c=((CF s (QL q c)).1,if(CF s (QL q c)).2.code=6\/(CF s (QL q c)).2.code=21 then q else q.set (qg c).toNat (q.getD (qg c).toNat 0+1)):=rfl;rw[D]at b a;obtain⟨Z,V⟩:=aL (CF s (QL q c));rw[<-V]at d b a;clear V D;obtain⟨T,P⟩:=Z;dsimp only at d b a |-;simp only[QL]at d;obtain⟨m,p⟩:=aL (qg c);have j:IntKind.wrap .i64 (1+IntKind.wrap .i64 ((IntKind.wrap .u64 c.client).tmod 8))=m:=by rw[p];exact j
  rw[<-p]at d b a M C;have g:=apJ (q:=q) (k:=m.toNat) aj;have t:=akg (q:=q) (k:=m.toNat) aj;have r:=acT q;obtain⟨v,Y⟩:=aL (q.getD m.toNat 0);rw[<-Y]at d b a C g;have F:IntKind.wrap .i64 (v+1)=v+1:=gx aj aj;have hm9:m<9:=aj
  clear K z Y p G;obtain⟨B,y⟩:=aL (ql q);rw[<-y]at g t r |-;clear W;simp only[af.cells,bB.cells,bH.cells]at d O |-;simp only[go_sem,seval,f,o,O,Int.toNat_natCast,j,g,F,r,Nat.mul_one];refine sc aK d ?_;by_cases U:P.code=6
  ·have H:(P.code==6)=true:=su U;rw[au (.inl U)]at b a;refine sm (a3 dV H u) ?_;refine aV ?_;refine ah.jP (T,q) N ⟨b,a⟩ ?_;simp only[go_sem,seval,af.cells,<-y];exact iJ (by rw[y];exact Q2 q)
  have H:(P.code==6)=false:=su U;by_cases w:P.code=21
  ·have h:(P.code==21)=true:=su w;rw[au (.inr w)]at b a;refine sm (a4 dV H h u) ?_;refine aV ?_;refine ah.jP (T,q) N ⟨b,a⟩ ?_;simp only[go_sem,seval,af.cells,<-y];exact iJ (by rw[y];exact Q2 q)
  have h:(P.code==21)=false:=su w;rw[aq aj]at b a;simp only[go_sem,seval,bne,H,h,u,g,F,r,Nat.mul_one];refine aV ?_;refine ah.jP (T,q.set m.toNat (v+1)) N ⟨b,a⟩ ?_;have E:List.take m.toNat B++[.I (v+1)]++drop (m.toNat+1) B=ql (q.set m.toNat (v+1)):=by rw[<-t];simp
  simp only[go_sem,seval,af.cells,t,E];exact iJ (Q2 _)
 ·intro x hdx b;have b:=b.1;rw[X,jJ]at b;have b:x=R:=b;subst b;rcases Q.2.2 with e|e
  ·have f:decide ((n:Int)<(l.length:Int))=false:=lJ;simp only[af.cells];exact eo f
  ·have o:decide ((n:Int)<200)=false:=lJ;simp only[af.cells];cases f:decide ((n:Int)<(l.length:Int))
   ·exact eo f
   ·exact eo (a2 f o)
def vk(r:List D)(h:qi [.int .i64,.int .i64,.int .i64,.int .i64,.int .i64,.int .i64,.int .i64,.int .i64,.int .i64,.int .i64,.int .i64,.int .i64,.int .i64,.int .i64,.int .i64,.int .i64,.int .i64] r):∃x:bB,True/\r=x.cells:=by
 simp only[qi,Fit]at h;obtain⟨_,_,rfl,⟨a,rfl,r0⟩,_,_,rfl,⟨a1,rfl,r1⟩,_,_,rfl,⟨a2,rfl,r2⟩,_,_,rfl,⟨a3,rfl,r3⟩,_,_,rfl,⟨a4,rfl,r4⟩,_,_,rfl,⟨a5,rfl,r5⟩,_,_,rfl,⟨a6,rfl,r6⟩,_,_,rfl,⟨a7,rfl,r7⟩,_,_,rfl,⟨a8,rfl,r8⟩,_,_,rfl,⟨a9,rfl,r9⟩,_,_,rfl,⟨a10,rfl,r10⟩,_,_,rfl,⟨a11,rfl,r11⟩,_,_,rfl,⟨a12,rfl,r12⟩,_,_,rfl,⟨a13,rfl,r13⟩,_,_,rfl,⟨a14,rfl,r14⟩,_,_,rfl,⟨a15,rfl,r15⟩,_,_,rfl,⟨a16,rfl,r16⟩,rfl⟩:=h;exact⟨⟨a,a1,a2,a3,a4,a5,a6,a7,a8,a9,a10,a11,a12,a13,a14,a15,a16⟩,aK,rfl⟩
def YN{s:af}{c:bB}(h:s.lens):(bq s c).2.SH.length<2^30/\(bq s c).2.falls.length<2^30:=by
 have hl:=N4 (c:=c) h;unfold bq bX;split
 ·dsimp only;omega
 ·simp[bH.err]
def aeu{s:af}{c:bB}(h:s.fY)(b:∀x∈s.aR,mC x):∀x∈(CF s c).1.aR,mC x:=by
 unfold CF;split
 ·exact b
 have d:=Hh s c h;intro x a;obtain⟨i,e,a⟩:=jf.1 a;rcases(d i e x a).2 with a|rfl
 ·exact b x a
 ·exact YN h.right.lens
theorem Ot:∀(l:List bB)(x:af×List Int)(i:Nat),Dv x i->(∀y∈x.1.aR,mC y)->∀y∈(EF l x).1.aR,mC y
 | [],_,_,_,h=>h
 |c::r,x,i,hx,h=>by
  simp only[EF];exact Ot r _ _ (J6 c hx) (aeu hx.fY h)
def Y3(l:List bB):∀y∈(Af l).aR,mC y:=Ot (l.take 200) _ 0 abA (λy a=>by cases a)
def Aw(t p:Int):af:=⟨t,0,p,⟨[],[],[]⟩,⟨0,[],[]⟩,⟨0,[]⟩,[],[],[],[]⟩
def Ct(t p:Int):(Aw t p).small:=⟨⟨by simp[Aw],by simp[Aw],by simp[Aw]⟩,⟨by simp[Aw],by simp[Aw]⟩,by simp[Aw],by simp[Aw],by simp[Aw],by simp[Aw],by simp[Aw],by simp[Aw]⟩
theorem asr{e:Env}(n z:Nat)(a:Bool)(r o:Nat)(k:IntKind)(lo:Int):UL e (.arr n z a) (.addr r o) (.int k lo) none=.dZ r (o+lo.toNat*z) z (n-lo.toNat) (n-lo.toNat):=by
 simp[UL,I1,DV,aac,WB]
theorem ani{e:Env}(n z:Nat)(a:Bool)(r o:Nat)(k:IntKind)(lo:Int):sv e (.arr n z a) (.addr r o) (.int k lo) none=(0<=lo/\lo<=n):=by
 simp[sv,slC,I1,DV,SlK]
structure M3(s:af):Prop where
 fY:s.fY
 sm:∀x∈s.aR,mC x
def vL(l:List bB):M3 (Af l):=⟨abB l,Y3 l⟩
def M3.small{s:af}(h:M3 s):s.small:=h.fY.good.small
def M3.right{s:af}(h:M3 s):s.right:=h.fY.right
def M3.gq{s:af}(h:M3 s):s.gq:=h.fY.good.gq

attribute [go_sem] asr ani