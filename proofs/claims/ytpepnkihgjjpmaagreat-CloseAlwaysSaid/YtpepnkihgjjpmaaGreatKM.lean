/- Parts. -/
import Derived.Test.YtpepnkihgjjpmaaGreatKK
import Derived.Test.YtpepnkihgjjpmaaGreatKL
set_option linter.all false
set_option maxHeartbeats 4000000
set_option maxRecDepth 16000
namespace Go.Proofs.YtpepnkihgjjpmaaGreat
open Go.Abs Tryz
open List hiding lt max min
def LW(r:aA)(b:List Int)(h:r.jX)(hs:b.length<2^30):Sq 119 [] [.agg r.cells,.sl 1 (ints b)] [.own 1 (ints (ku r b))] (.ref 0):=by
 have hl:=h.1;simp only[aA.cells];refine bp 26 2 [.tmp 4] mixed func119 ?_;refine s0 ?_;refine bg ?_;refine aF.wv r.ms.length [1,9,10] [48,176] (λi=>[(11,.I i),(5,.ref 384)]) (λi=>[(384,.own 1 (ints (pick (λm:av=>sI b m.state) av.no (r.ms.take i))))]) ?_ ?_ ?_
 ·simp only[go_sem,seval]<;>simp[pick,ints]
 ·intro i _ g j f _;obtain⟨x,o,n,hli⟩:=oc (c:=av.cells) r.ms g;have a:=zO (λm:av=>sI b m.state) av.no g;have d:=bN (λm:av=>sI b m.state) av.no (r.ms.take i);rw[fZ]at d;rw[<-o]at a;obtain⟨O,l⟩:=aN (pick (λm:av=>sI b m.state) av.no (r.ms.take i));rw[<-l]at a d |-;have p:=uY b x.state ak;have hil:(ints O).length<=2147483648:=by rw[az];omega
  simp only[av.cells]at n;clear o l;refine sc (a2 j n) p ?_;cases q:sI b x.state
  ·rw[q]at a;simp only[iM,if_false,append_nil]at a;refine sm f ?_;refine bg ?_;refine ah.v g ?_;exact dL a
  ·rw[q]at a;simp only[if_true]at a;have e:ints O++[[.I x.no]]=ints (pick (λm:av=>sI b m.state) av.no (r.ms.take (i+1))):=by rw[a];simp[ints]
   refine sm f ?_;refine bg ?_;refine ah.v g ?_;exact dL e
 ·intro _ k _;simp only[go_sem,seval,k,eu,ku]
def SV(r:aA)(a:List Int)(h:r.jX)(b:a.length<2^30):Sq 119 [] [.agg r.cells,.sl 1 (ints a)] [] (.sl 1 (ints (ku r a))):=by
 refine Spec.frozen (LW r a h b) [0] rfl ?_;intro r;rcases r with _|r<;>rfl
def U8{r:aA}(h:r.okB=true)(w:Int):sI (ku r [1]) w=(bD r w==1):=by
 rw[nJ,ff];constructor
 ·intro c;obtain⟨x,g,e⟩:=any_eq_true.1 c;obtain rfl:=ff.1 e;exact uq h g
 ·intro f;have d:=(um h (w:=w)).1 ak;obtain⟨a,b⟩:=sV d;refine any_eq_true.2 ⟨w,?_,by simp⟩;refine mem_flatMap.2 ⟨fm r w,a,?_⟩;have e:sI [1] (fm r w).state=true:=by
   have:(fm r w).state=1:=f;simp[sI,this]
  simp[e,b]
theorem Mj(b:aH)(g:List aB)(a:b.small)(d:b.qs.length<2^28)(c:g.length<2^28):Sq 201 [] [.agg b.cells,.sl 4 (g.map aB.cells)] [] (.bI [.agg (oN b g).cells,.int .i64 (jA b g)]):=by
 refine Spec.frozen (Og b g a d c) [0,1] rfl ?_;intro r;rcases r with _| _|r<;>rfl
theorem Jz(w n:Int)(long:Bool)(l:List cj)(a:l.length<2^28):Sq 200 [] [.agg [.int .i64 w,.int .i64 n],.bool long,.sl 3 (l.map cj.cells)] [] (.bI [.sl 4 ((kI w n long l).map aB.cells),.int .i64 (iC l)]):=by
 refine Spec.frozen (Mz w n long l a) [0] rfl ?_;intro r;rcases r with _|r<;>rfl
theorem U2(q:Int)(l:List aY)(b:l.length<2^28)(a:iS q):Sq 121 [] [.int .i64 q,.sl 5 (l.map aY.cells)] [] (.bI [.sl 3 ((iB q l).1.map cj.cells),.int .i64 (iB q l).2,.int .i64 (j5 q l)]):=by
 refine Spec.frozen (XI q l b a) [0] rfl ?_;intro r;rcases r with _|r<;>rfl
def zB:aH:=⟨0,[],[]⟩
def Rh(b:aH)(w n:Int)(long:Bool)(f:List cj):aH×Int:=if iC f=0 then(oN b (kI w n long f),jA b (kI w n long f))else(zB,iC f)
def ovT(b:aH)(w n p:Int)(long:Bool)(rest:Int):aH×Int:=if iR b w n rest=0 then Rh b w n long ((jt b w n rest).map (dw p))else(zB,iR b w n rest)
def ovF(b:aH)(w n p:Int)(long:Bool)(f:List cj)(rest:Int):aH×Int:=if(Rh b w n long f).2=0 then ovT (Rh b w n long f).1 w n p long rest else(zB,(Rh b w n long f).2)
def WK(s:af)(b:aH)(w n q p:Int):aH×Int:=
 if j5 q (eG s w n s.aW)=0 then ovF b w n p (decide (0<q)) (iB q (eG s w n s.aW)).1 (iB q (eG s w n s.aW)).2 else(zB,j5 q (eG s w n s.aW))
theorem G3(b:aH)(w n q c:Int)(f:List cj)(e:b.small)(g:b.qs.length<2^28)(hf:f.length<2^26):Sq 122 [] [.agg b.cells,.agg [.int .i64 w,.int .i64 n,.int .i64 q,.int .i64 c],.sl 3 (f.map cj.cells)] [] (.bI [.agg (Rh b w n (decide (0<q)) f).1.cells,.int .i64 (Rh b w n (decide (0<q)) f).2]):=by
 have c1:=Jz w n (decide (0<q)) f ak;have c2:=Mj b (kI w n (decide (0<q)) f) e g (by have:=DC w n (decide (0<q)) f;omega);obtain⟨long,a⟩:=aN (decide (0<q));rw[<-a]at c1 c2 |-;simp only[Rh];simp only[aH.cells]at c2 |-;refine bp 29 3 [.cell 6 34,.tmp 7] mixed func122 ?_;by_cases k:iC f=0
 case neg =>
  have d:(iC f==0)=false:=su k;rw[au k];refine sc a.symm c1 ?_;simp only[go_sem,seval,bne,d,zB]<;>simp
 rw[aq k];rw[k]at c1;refine sc a.symm c1 ?_;exact sZ aS c2
def G6{b:aH}(a:b.fk)(w n:Int)(long:Bool)(f:List cj):(Rh b w n long f).1.fk:=by
 unfold Rh;split
 ·exact Dp a _
 ·exact⟨⟨by simp[zB],by simp[zB]⟩,by simp[zB],by simp[zB],by simp[zB]⟩
theorem Ln(s:af)(b:aH)(w n q c p:Int)(hs:s.small)(Y:s.aj.okB=true)(T:b.fk)(hbl:s.aW.length<2^20)(hq:iS q):Sq 34 [] [.agg s.cells,.agg b.cells,.agg [.int .i64 w,.int .i64 n,.int .i64 q,.int .i64 c],.int .i64 p] [] (.bI [.agg (WK s b w n q p).1.cells,.int .i64 (WK s b w n q p).2]):=by
 have c1:=SV s.aj [1] hs.aj sT;have G:=λk=>uY (ku s.aj [1]) k (by have:=uo s.aj [1];have:=hs.aj.1;omega);simp only[U8 Y]at G;have U:=wJ s w n s.aW;obtain⟨R,a⟩:=aN (WK s b w n q p);rw[<-a];simp only[WK]at a;obtain⟨B,hB⟩:=aN (eG s w n s.aW);rw[<-hB]at a U;have c3:=U2 q B ak hq;have V:=KN q B;obtain⟨f,hf⟩:=aN ((iB q B).1);obtain⟨rest,O⟩:=aN ((iB q B).2);rw[<-hf]at c3 V a;rw[<-O]at c3 a;have c4:=G3 b w n q c f T.small (by have:=T.short;omega) ak;have g:=G6 T w n (decide (0<q)) f;simp only[ovF]at a;obtain⟨C,l⟩:=aN ((Rh b w n (decide (0<q)) f).1);obtain⟨e1,K⟩:=aN ((Rh b w n (decide (0<q)) f).2);rw[<-l,<-K]at a c4;rw[<-l]at g;have D:=Zm C w n rest g.small g.short;have S:=LV C w n rest;have hqs:=g.short;simp only[ovT]at a;obtain⟨F,hF⟩:=aN (jt C w n rest);rw[<-hF]at D S a;have E:=G3 C w n q c (F.map (dw p)) g.small ak (by rw[qE];omega);obtain⟨b2,H⟩:=aN (Rh C w n (decide (0<q)) (F.map (dw p)));obtain⟨e0,J⟩:=aN (j5 q B);obtain⟨e3,N⟩:=aN (iR C w n rest);rw[<-H]at E a;rw[<-J]at c3 a;rw[<-N]at D a;clear hf O l K hF H J N g;simp only[af.cells];simp only[aA.cells]at c1;rw[show ints [1]=[[.I 1]]from rfl]at c1;simp only[aH.cells]at c4 D E |-;refine bp 98 4 [.cell 8 34,.tmp 9] mixed func34 ?_;refine s0 ?_;refine bg ?_;refine aG.gE [352] [] false sT ?_;refine s0 ?_;refine cz.gF c1 ?_;refine s0 ?_;refine aF.wv s.aW.length [3,5,6,8,10,24,25] [80,96,112,144,368,416] (λi=>[(26,.I i),(11,.ref 720)]) (λi=>[(720,.own 5 ((eG s w n (s.aW.take i)).map aY.cells))]) ?_ ?_ ?_
 ·simp only[go_sem,seval]<;>simp[eG]
 ·intro i _ t m h _;obtain⟨y,Z,o,X⟩:=oc (c:=aY.cells) s.aW t;have e:eG s w n (s.aW.take (i+1))=eG s w n (s.aW.take i)++_:=iq _ t;have W:=wJ s w n (s.aW.take i);have hlt:(s.aW.take i).length=i:=by simp;omega
  obtain⟨L,hL⟩:=aN (eG s w n (s.aW.take i));rw[<-Z]at e;rw[<-hL]at e W |-;have G:=G y.src;simp only[AQ]at e;simp only[aY.cells]at o;clear c1 c3 c4 D E a;cases j:y.who==w
  ·simp only[j,cZ,iM,if_false,append_nil]at e;refine sm (a4 m o j h) ?_;refine bg ?_;refine ah.v t ?_;exact dL e
  cases P:y.inst==n
  ·simp only[j,P,Bool.and_false,cZ,iM,if_false,append_nil]at e;refine sm (a5 m o j P h) ?_;refine bg ?_;refine ah.v t ?_;exact dL e
  refine sc (a4 m o j P) G ?_;cases u:bD s.aj y.src==1
  ·simp only[j,P,u,Bool.and_false,iM,if_false,append_nil]at e;refine sm (a2 u h) ?_;refine bg ?_;refine ah.v t ?_;exact dL e
  simp only[j,P,u,Bool.and_self,if_true]at e;refine sm (a3 u o h) ?_;refine bg ?_;refine ah.v t ?_;exact gY e
 intro _ z _;rw[eu,<-hB];clear G;refine sm z ?_;refine bg ?_;refine aG.gE [720] [] false sT ?_;refine s0 ?_;refine cz.gF c3 ?_;by_cases Q:e0=0
 case neg =>
  have d:(e0==0)=false:=su Q;rw[au Q]at a;rw[a];simp only[go_sem,seval,bne,d,zB];all_goals simp
 rw[aq Q]at a;rw[Q];refine sc aS c4 ?_;by_cases j:e1=0
 case neg =>
  have d:(e1==0)=false:=su j;rw[au j]at a;rw[a];simp only[go_sem,seval,bne,d,zB];all_goals simp
 rw[aq j]at a;rw[j];refine so aS D ?_;by_cases u:e3=0
 case neg =>
  have d:(e3==0)=false:=su u;rw[au u]at a;rw[a];simp only[go_sem,seval,bne,d,zB];all_goals simp
 rw[aq u]at a;rw[u,a];refine s0 ?_;refine aF.wv F.length [3,5,6,8,17,82] [96,112,144] (λi=>[(83,.I i)]) (λi=>[(1200,.own 3 ((rJ (dw p) F i).map cj.cells))]) ?_ ?_ ?_
 ·simp only[go_sem,seval,DS]<;>simp
 ·intro i _ t m h _;have x:=vS (dw p) F i;have o:=br (c:=cj.cells) (rJ (dw p) F i) (i:=i) ak;have r:=Ct (dw p) t;rw[FP (dw p) t]at o;obtain⟨y,Z⟩:=aN (F[i]);obtain⟨M,hM⟩:=aN (rJ (dw p) F i);rw[<-Z]at o r;rw[<-hM]at o r x |-;have A:M.set i { y with aL:=p }=rJ (dw p) F (i+1):=r;have X:(i:Int)<(F.length:Int):=ak
  simp only[cj.cells]at o;clear E a;refine sm (a4 x m o h) ?_;refine bg ?_;all_goals first
   |omega
   | (refine ah.v t ?_
      simp only[go_sem,seval,<-A,map_set])
 intro _ z _;rw[Cs];refine sm z ?_;refine bg ?_;refine aG.gE [1200] [] false sT ?_;refine s0 ?_;refine cz.gF E ?_;refine s0 ?_;all_goals(with_reducible and_intros)<;>first|exact .dq|omega|skip
theorem PZ{A:Type}(p:A->Bool)(f:A->Int):pick p f []=[]:=rfl
def FI(b:aH)(w n:Int):zW b [] w n=(posOf w n b.qs).aO:=by simp[zW,PZ,ay]
def FG(b:aH)(w n:Int):Jj b [] w n=(posOf w n b.qs).cost:=by simp[Jj,PZ,ay]
def Lt{b:aH}(h:b.okB=true)(w n:Int):(-1099511627776<=(posOf w n b.qs).aO/\(posOf w n b.qs).aO<=1099511627776)/\bB (posOf w n b.qs).cost=true:=by
 by_cases a:∃p∈b.qs,p.who=w/\p.inst=n
 ·have:=iJ.1 ((dn.1 h).ok _ (ot a).1);exact⟨this.2.2.1,this.2.2.2.1⟩
 ·rw[gJ λp d c=>a ⟨p,d,c⟩];exact⟨⟨by show(-1099511627776:Int)<=0;decide,by show(0:Int)<=1099511627776;decide⟩,rfl⟩
def Z8{b:aH}(h:b.okB=true):yh b [] 16=b.qs:=by
 have f:=dn.1 h;refine adq (no:=λp:aB=>p.who*16+p.inst) ?_ ?_ λx=>⟨λd=>?_,λd=>?_⟩
 ·refine(Dm b []).imp_of_mem λ{p q} c i hpq=>?_;obtain⟨k,m,g,s,c⟩:=sF c;obtain⟨k2,m2,hk2,hm2,i⟩:=sF i;obtain⟨rfl,-⟩:=oM c;obtain⟨rfl,-⟩:=oM i;rw[qI]at hpq;dsimp only at hpq |-;omega
 ·refine f.pw.imp_of_mem λ{p q} c i hpq=>?_;have:=iJ.1 (f.ok p c);have:=iJ.1 (f.ok q i);rw[qI]at hpq;omega
 ·obtain⟨k,m,g,s,d⟩:=sF d;obtain⟨e,a⟩:=oM d;rw[FI,FG]at a;by_cases n:∃p∈b.qs,p.who=(k:Int)+1/\p.inst=(m:Int)+1
  ·obtain⟨o,j,l⟩:=ot n;have:x=posOf ((k:Int)+1) ((m:Int)+1) b.qs:=by
    rw[e,FI,FG];rcases hz:posOf ((k:Int)+1) ((m:Int)+1) b.qs with⟨a1,a2,a3,a4⟩
    rw[hz]at j l;dsimp only at j l |-;rw[j,l]
   rw[this];exact o
  ·rw[gJ λp c g=>n ⟨p,c,g⟩]at a;exact absurd ⟨rfl,rfl⟩ a
 ·have g:=iJ.1 (f.ok x d);have r:=tX f.pw d ⟨rfl,rfl⟩;refine mem_flatMap.2 ⟨(x.who-1).toNat,mem_range.2 ak,mem_flatMap.2 ⟨(x.inst-1).toNat,mem_range.2 ak,?_⟩⟩;rw[show(((x.who-1).toNat:Nat):Int)+1=x.who by omega,show(((x.inst-1).toNat:Nat):Int)+1=x.inst by omega];unfold FH;rw[FI,FG,r,au (by simp only[bQ,ff];exact g.2.2.2.2)];simp
def add_nil{b:aH}(h:b.okB=true):jA b []=0/\oN b []=b:=by
 have a:jA b []=0:=by
  have c:xK []=true:=by decide
  have e2:uy b []=true:=by
   refine bL.2 λk _=>bL.2 λm _=>?_;have:=Lt h ((k:Int)+1) ((m:Int)+1);have d:bB (posOf ((k:Int)+1) ((m:Int)+1) b.qs).aO=true:=by rw[aP];omega
   simp only[uT,FI,FG,d,this.2,within,cm,bQ,bz];exact this.1
  simp[jA,h,c,e2]
 refine⟨a,?_⟩;rw[oN,aq a,Z8 h]
def P5{S:Int}(ws:List Int):∀x∈mX 0 S ws,x=0:=λx a=>by
 obtain⟨w,_,rfl⟩:=mem_map.1 a;simp
theorem Wn{l:List Int}(h:∀x∈l,x=0):ay l=0:=by
 induction l with
 |nil=>rfl
 |cons x r ih=>simp only[ay];rw[h x sT,ih λy a=>h y (by simp[a])];rfl
def SO(ws:List Int):∀x∈bA 0 ws,x=0:=by
 intro x a;unfold bA at a;split at a
 ·split at a
  ·exact(mem_replicate.1 a).2
  ·rw[Wn (P5 ws)]at a;exact P5 ws x a
 ·cases a
theorem Wq{b:aH}(h:b.okB=true)(w n:Int):iR b w n 0=0/\jt b w n 0=[]:=by
 have h0:0<=ay (iU (posOf w n b.qs).aO n b.qs):=by
  refine(qO (B:=1099511627776) (by decide) λx j=>?_).1;obtain⟨p,g,_,rfl⟩:=jl j;have:=iJ.1 ((dn.1 h).ok p g);omega
 have c:iR b w n 0=0:=by
  have e:within 0 0 1099511627776=true:=rfl;simp only[iR,h,e,if_true,au (by omega:¬ay (iU (posOf w n b.qs).aO n b.qs)<0)]
 refine⟨c,?_⟩;rw[jt,aq c];have d:=SO (iU (posOf w n b.qs).aO n b.qs);obtain⟨ps,a⟩:=aN (bA 0 (iU (posOf w n b.qs).aO n b.qs));rw[<-a]at d |-;rw[ES,pQ,flatMap_eq_nil_iff];intro i _;unfold oD;rw[au];rw[getD_eq_getElem?_getD];cases f:ps[i]? with
 |none=>simp
 |some x=>rw[d x (fO f)];simp
def Tx{b:aH}{w n:Int}{long:Bool}{f:List cj}:(Rh b w n long f).2=(jz b w n long f).2/\((jz b w n long f).2=0->Rh b w n long f=jz b w n long f):=by
 unfold Rh jz;split
 ·exact⟨rfl,λ_=>rfl⟩
 ·rename_i h;exact⟨rfl,λa=>absurd a h⟩
def V9{b:aH}{w n:Int}{long:Bool}{f:List cj}(a:b.okB=true)(h:(jz b w n long f).2=0):(jz b w n long f).1.okB=true:=by
 unfold jz at h |-;split
 ·rename_i c;rw[aq c]at h;exact Tj h
 ·exact a
def abj{s:af}{b:aH}(v:b.okB=true){w n q:Int}(x:cB (aZ s.aj n)=true):(WK s b w n q (cy (aZ s.aj n))).2=(lB s b w n q).2/\((lB s b w n q).2=0->WK s b w n q (cy (aZ s.aj n))=lB s b w n q):=by
 unfold WK lB;rw[aq x];by_cases i:j5 q (eG s w n s.aW)=0
 case neg=>rw[au i,au i];exact⟨rfl,λh=>absurd h i⟩
 rw[aq i,aq i];obtain⟨F,u⟩:=aN (iB q (eG s w n s.aW));rw[<-u];obtain⟨long,g⟩:=aN (decide (0<q));rw[<-g];obtain⟨l,r⟩:=Tx (b:=b) (w:=w) (n:=n) (long:=long) (f:=F.1);unfold ovF;by_cases c:(jz b w n long F.1).2=0
 case neg =>
  rw[au (by rw[l];exact c),au (by rintro⟨h,_⟩;exact c h)];exact⟨l,λh=>absurd h c⟩
 rw[r c,aq c];have d:=V9 v c;obtain⟨j,a⟩:=aN ((jz b w n long F.1).1);by_cases k:F.2=0
 ·rw[au (by rintro⟨_,h⟩;exact h k)];rw[<-a]at d;obtain⟨y,t2⟩:=Wq d w n;obtain⟨m,a2⟩:=add_nil d;have e:ovT j w n (cy (aZ s.aj n)) long F.2=(j,0):=by
   rw[k,ovT,aq y,t2];have o:iC []=0:=by simp[iC]
   have e2:kI w n long []=[]:=by rw[kI];split<;>rfl
   rw[map_nil,Rh,aq o,e2,m,a2]
  rw[<-a,e];have p:jz b w n long F.1=(j,0):=by rw[a,<-c]
  rw[p];exact⟨rfl,λ_=>rfl⟩
 ·rw[aq ⟨c,k⟩,<-a];unfold ovT x5;split
  ·exact Tx
  ·rename_i t;exact⟨rfl,λh=>absurd h t⟩
def YG(s:af)(b:aH)(p:aB):aH×Int:=if cB (aZ s.aj p.inst)then WK s b p.who p.inst p.aO (cy (aZ s.aj p.inst))else(zB,20)
def YL(s:af):List aB->aH->aH×Int
 | [],b=>(b,0)
 |p::r,b=>if(YG s b p).2=0 then YL s r (YG s b p).1 else(zB,(YG s b p).2)
def Fb(w:Int)(p:aB):Bool:=p.who==w&&!(p.aO==0)
def M1(s:af)(w:Int)(l:List aB)(b:aH):aH×Int:=YL s (l.filter (Fb w)) b
def HW(s:af)(w:Int)(i:Nat):List aB:=if(posOf w ((i:Int)+1) s.book.qs).aO==0 then[]else[posOf w ((i:Int)+1) s.book.qs]
def aaE{s:af}(h:s.book.okB=true)(w:Int):s.book.qs.filter (Fb w)=pQ (HW s w) 8:=by
 have f:=dn.1 h;have e:∀i,∀x∈HW s w i,x∈s.book.qs/\x.who=w/\x.inst=(i:Int)+1/\x.aO≠0:=λi x a=>by
  unfold HW at a;split at a
  ·cases a
  ·rename_i b;obtain rfl:=gV.1 a;have b:(posOf w ((i:Int)+1) s.book.qs).aO≠0:=su b;by_cases m:∃p∈s.book.qs,p.who=w/\p.inst=(i:Int)+1
   ·obtain⟨c,d,k⟩:=ot m;exact⟨c,d,k,b⟩
   ·rw[gJ λp j l=>m ⟨p,j,l⟩]at b;exact absurd rfl b
 refine adq (no:=aB.inst) ?_ (YT (λi _=>by unfold HW;split<;>simp) λi _ x a=>(e i x a).2.2.1) λx=>⟨λa=>?_,λa=>?_⟩
 ·refine(f.pw.filter _).imp_of_mem λ{p q} j b hpq=>?_;have c:=(mem_filter.1 j).2;have d:=(mem_filter.1 b).2;simp only[Fb,bQ,ff]at c d;rw[qI]at hpq;omega
 ·obtain⟨a,g⟩:=mem_filter.1 a;simp only[Fb,bQ,gD,ff,beq_eq_false_iff_ne]at g;have l:=iJ.1 (f.ok x a);refine jM.2 ⟨(x.inst-1).toNat,by omega,?_⟩;have o:=tX f.pw a ⟨g.1,rfl⟩;unfold HW;rw[show(((x.inst-1).toNat:Nat):Int)+1=x.inst by omega,o,au (su g.2)];simp
 ·obtain⟨i,hi,a⟩:=jM.1 a;obtain⟨c,d,k,n⟩:=e i x a;exact mem_filter.2 ⟨c,by simp[Fb,d,n]⟩
theorem Sr{s:af}{w:Int}(h:s.right)(t:1<=w/\w<=16)(r:bD s.aj w=2):∀(m i:Nat) {b:aH},i+m=8->Cr s.aj w b s.book.ts s.ps s.calls->(∀k:Nat,i<=k->k<8->(posOf w ((k:Int)+1) b.qs).aO=(posOf w ((k:Int)+1) s.book.qs).aO) ->
  (YL s ((range' i m).flatMap (HW s w)) b).2=(kf s w m i b).2/\((kf s w m i b).2=0->YL s ((range' i m).flatMap (HW s w)) b=kf s w m i b)
 | 0,_,_,_,_,_=>⟨rfl,λ_=>rfl⟩
 |m+1,i,b,hi,hb,hq=>by
  have hb0:=dn.1 h.book;have c:=hq i (fS _) ak;rw[range'_succ,flatMap_cons];simp only[kf];by_cases f:(posOf w ((i:Int)+1) s.book.qs).aO=0
  ·have l:HW s w i=[]:=by rw[HW,aq (su f)]
   have e2:iH s w b ((i:Int)+1)=(b,0):=by rw[iH,aq (by rw[c];simpa using f)]
   rw[l,e2,nil_append,aq rfl];exact Sr h t r m (i+1) ak hb λk x o=>hq k ak o
  ·obtain⟨p,g⟩:=aN (posOf w ((i:Int)+1) s.book.qs);have l:HW s w i=[p]:=by rw[HW,au (su f),g]
   have j:p.who=w/\p.inst=(i:Int)+1:=by
    by_cases u:∃p∈s.book.qs,p.who=w/\p.inst=(i:Int)+1
    ·rw[g];exact(ot u).2
    ·rw[gJ λp g z=>u ⟨p,g,z⟩]at f;exact absurd rfl f
   have e2:iH s w b ((i:Int)+1)=lB s b w ((i:Int)+1) (posOf w ((i:Int)+1) b.qs).aO:=by rw[iH,au (by rw[c];simpa using f)]
   have q:=QC (n:=(i:Int)+1) h t ak hb r (by rw[c];exact f);rw[l,e2,cons_append,nil_append];rw[c]at q |-;rw[<-g]at q |-;simp only[YL];have e:(YG s b p).2=(lB s b w ((i:Int)+1) p.aO).2/\((lB s b w ((i:Int)+1) p.aO).2=0->YG s b p=lB s b w ((i:Int)+1) p.aO):=by
    unfold YG;rw[j.1,j.2];by_cases a:cB (aZ s.aj ((i:Int)+1))=true
    ·rw[aq a];exact abj hb.ok a
    ·rw[au a];unfold lB;rw[au a];exact⟨rfl,λh=>by cases h⟩
   by_cases d:(lB s b w ((i:Int)+1) p.aO).2=0
   ·rw[e.2 d,aq d,aq d];obtain⟨v,a2,a3⟩:=q d;exact Sr h t r m (i+1) ak v λk x o=>by rw[a3 _ ak ak];exact hq k ak o
   ·rw[au (by rw[e.1];exact d),au d];exact⟨e.1,λy=>absurd y d⟩
def abo{s:af}{w:Int}(h:s.right)(b:1<=w/\w<=16)(a:bD s.aj w=2):(M1 s w s.book.qs s.book).2=(kf s w 8 0 s.book).2/\((kf s w 8 0 s.book).2=0->M1 s w s.book.qs s.book=kf s w 8 0 s.book):=by
 rw[M1,aaE h.book,pQ,range_eq_range'];exact Sr h b a 8 0 rfl ⟨h.book,h.known,rfl⟩ λ_ _ _=>rfl
theorem GC(s:af)(b:aH)(w:Int)(R:s.small)(t:s.aj.okB=true)(E:b.fk)(O:∀p∈b.qs,bJ s.aj p.inst=true):Sq 35 [] [.agg s.cells,.agg b.cells,.int .i64 w] [.own 4 ((if pU s w b.qs then lZ w b.qs else[]).map aB.cells),.own 3 ((if pU s w b.qs then mM s w b.qs else[]).map aU.cells)]
  (.bI [.agg [.int .i64 (if pU s w b.qs then b.next else 0),.sl 7 ((if pU s w b.qs then b.ts else[]).map aR.cells),.ref 0],.ref 1,.int .i64 (if pU s w b.qs then 0 else 1)]):=by
 have z:=λn=>vn s.aj n R.aj.small;have C:=E1 b.ts E.small.1;have hbs:=E.small.2;obtain⟨W,N⟩:=aN (pU s w b.qs);rw[<-N];have o:∀p∈b.qs,1<=(aZ s.aj p.inst).mult/\(aZ s.aj p.inst).mult<=1024:=λp Q=>by
  have:=Cn ((dQ.1 t).2.1.1 _ (qA (O p Q)).1);omega
 simp only[af.cells,aH.cells];simp only[aA.cells]at z;clear O t;refine bp 87 3 [.cell 6 34,.tmp 7,.tmp 8] mixed func35 ?_;simp only[go_sem,seval];refine aF.wu b.qs.length [2,3,4,6,20,21] [64,80,112] (λi=>[(7,.nil),(8,.int .i64 0),(22,.int .i64 i),(9,.ref 944)]) (λi=>[(944,.own 3 ((mM s w (b.qs.take i)).map aU.cells))]) (λi=>pU s w (b.qs.drop i)=W) N.symm ?_ ?_ ?_
 ·simp only[go_sem,seval]<;>simp[mM]
 ·intro i _ f g h d;obtain⟨x,A,m,H⟩:=oc (c:=aB.cells) b.qs f;have I:(b.qs.take i).length=i:=by simp;omega
  have a:mM s w (b.qs.take (i+1))=mM s w (b.qs.take i)++_:=iq _ f;have G:(mM s w (b.qs.take i)).length<=1*(b.qs.take i).length:=gH (λp=>by unfold Ke;split<;>simp) _;have r:=E.ok _ (dS f);have q:=o _ (dS f);obtain⟨V,D⟩:=aN (mM s w (b.qs.take i));rw[cg f,<-A]at d;rw[<-A]at a r q;rw[<-D]at a G;rw[<-D];have P:pU s w (x::b.qs.drop (i+1))=((!(x.who==w)||bB (fY x (aZ s.aj x.inst).mult 0))&&pU s w (b.qs.drop (i+1))):=rfl;rw[P]at d;have k:=z x.inst;simp only[Ke]at a;obtain⟨y,J⟩:=aN (aZ s.aj x.inst);rw[<-J]at k d q;simp only[<-J]at a;have L:=S7 x y.mult 0 r.1 r.2 q ⟨by omega,by omega⟩;simp only[aB.cells]at m L;simp only[aE.cells]at k;clear z o D J C;cases j:x.who==w
  ·simp only[j,iM,if_false,append_nil]at a;simp only[j,Bool.not_false,Bool.true_or,cm]at d;simp only[go_sem,seval,g,m,bne,j,h];(with_reducible and_intros)<;>first|exact .dq|omega|skip
   refine ah.u f d ?_;simp only[go_sem,seval,a]<;>simp
  simp only[j,if_true]at a;simp only[j,Bool.not_true,Bool.false_or]at d;simp only[go_sem,seval,g,m,bne,j];(with_reducible and_intros)<;>first|exact .dq|omega|skip
  refine aG.bC k ?_;refine sc aS L ?_;cases B:bB (fY x y.mult 0)
  ·rw[B,cZ]at d;rw[<-d];simp only[go_sem,seval,B];all_goals simp
  rw[B,cm]at d;simp only[go_sem,seval,B,h,if_true];(with_reducible and_intros)<;>first|exact .dq|omega|skip
  refine ah.u f d ?_;simp only[go_sem,seval,a]<;>simp
 ·intro _ l d;rw[jw]at d;have d:W=true:=d.symm;rw[d,eu];simp only[if_true];clear z o;simp only[go_sem,seval,l];refine bg ?_;refine aG.bC C ?_;clear C;simp only[go_sem,seval];refine⟨Ek.mk (by kernel_rfl),?_⟩;refine aF.wv b.qs.length [2,6,9,16,67,68] [80,112,944] (λi=>[(69,.int .i64 i)]) (λi=>[(272,.box [.int .i64 b.next,.sl 7 (b.ts.map aR.cells),.ref 1328]),(1328,.own 4 ((lZ w (b.qs.take i)).map aB.cells))]) ?_ ?_ ?_
  ·simp only[go_sem,seval]<;>simp[lZ]
  ·intro i _ f g h _;obtain⟨x,A,m,H⟩:=oc (c:=aB.cells) b.qs f;have I:(b.qs.take i).length=i:=by simp;omega
   have e:lZ w (b.qs.take (i+1))=lZ w (b.qs.take i)++_:=iq _ f;have F:(lZ w (b.qs.take i)).length<=1*(b.qs.take i).length:=gH (λp=>by split<;>simp) _;obtain⟨K,M⟩:=aN (lZ w (b.qs.take i));rw[<-A]at e;rw[<-M]at e F;rw[<-M];simp only[aB.cells]at m;cases j:x.who==w
   ·simp only[j,iM,if_false]at e;simp only[go_sem,seval,g,m,bne,j,h];(with_reducible and_intros)<;>first|exact .dq|omega|skip
    refine ah.v f ?_;simp only[go_sem,seval,e]<;>simp
   ·simp only[j,if_true,append_nil]at e;simp only[go_sem,seval,g,m,bne,j,h];(with_reducible and_intros)<;>first|exact .dq|omega|skip
    refine ah.v f ?_;simp only[go_sem,seval,e]<;>simp
  ·intro _ l _;simp only[go_sem,seval,l,eu];all_goals simp
def E3(s:af)(b:aH)(w:Int)(e:s.small)(a:s.aj.okB=true)(c:b.fk)(d:∀p∈b.qs,bJ s.aj p.inst=true):Sq 35 [] [.agg s.cells,.agg b.cells,.I w] [] (.bI [.agg (if pU s w b.qs then(⟨b.next,b.ts,lZ w b.qs⟩:aH)else zB).cells,.sl 3 ((if pU s w b.qs then mM s w b.qs else[]).map aU.cells),.I (if pU s w b.qs then 0 else 1)]):=by
 have h:=GC s b w e a c d;cases q:pU s w b.qs;all_goals
  rw[q]at h;refine Spec.frozen h [0,1] rfl ?_;intro r;rcases r with _| _|r<;>rfl
def YH{s:af}{b:aH}(c:b.fk)(w n q p:Int):(WK s b w n q p).1.fk:=by
 have a:zB.fk:=⟨⟨by simp[zB],by simp[zB]⟩,by simp[zB],by simp[zB],by simp[zB]⟩
 unfold WK ovF ovT;split
 ·split
  ·split
   ·exact G6 (G6 c _ _ _ _) _ _ _ _
   ·exact a
  ·exact a
 ·exact a
def VL(s:af)(w:Int)(x:aB)(l:List aB)(b:aH):M1 s w (x::l) b=if Fb w x then(if(YG s b x).2=0 then M1 s w l (YG s b x).1 else(zB,(YG s b x).2))else M1 s w l b:=by
 unfold M1;rw[filter_cons];split<;>rfl
def HY(s:af)(w:Int)(F:s.small)(hq:s.book.qs.length<2^20)(ab:∀p∈s.book.qs,p.fB)(ag:s.aW.length<2^20):Sq 10 [] [.agg s.cells,.I w] [] (.bI [.agg (mF s w).cells,.sl 3 ((fU s w).map aU.cells),.I (kg s w)]):=by
 have c1:=lA s.aj w F.aj.small;have c2:=rS s F;have K:=λn=>vn s.aj n F.aj.small;have cP:=λx=>HI x;obtain⟨E,f⟩:=aN (kg s w);have a:=f;simp only[kg,HJ]at f;have o:bD s.aj w=(fm s.aj w).state:=rfl;obtain⟨mb,Z⟩:=aN (fm s.aj w);rw[<-Z]at c1 o;cases b1:bM s
 ·simp only[b1]at f c2;have e:E=14:=by rw[f];rfl
  have N:mF s w=zB:=by rw[mF,<-a,e];rfl
  have P:fU s w=[]:=by rw[fU,<-a,e];rfl
  rw[<-a,N,P,e];simp only[af.cells,aH.cells,zB]at c2 |-;simp only[aA.cells,av.cells]at c1;refine bp 98 2 [.cell 4 34,.tmp 5,.tmp 6] mixed func10 ?_;refine sc aS c1 ?_;refine aG.bC c2 ?_;refine sm gr ?_;all_goals simp
 have j:=gX.1 b1;simp only[b1]at f c2;simp only[if_true]at f c2;cases C:gw s.aj w
 ·have Q:bD s.aj w=0:=by
   by_cases h:bD s.aj w=0
   ·exact h
   ·rw[(um j.aj).1 h]at C;cases C
  rw[aq Q]at f;have e:E=10:=by rw[f];rfl
  have N:mF s w=zB:=by rw[mF,<-a,e];rfl
  have P:fU s w=[]:=by rw[fU,<-a,e];rfl
  rw[<-a,N,P,e];rw[C]at c1;simp only[af.cells,aH.cells,zB]at c2 |-;simp only[aA.cells,av.cells]at c1;refine bp 98 2 [.cell 4 34,.tmp 5,.tmp 6] mixed func10 ?_;refine sc aS c1 ?_;refine aG.bC c2 ?_;refine sm gr ?_;all_goals simp
 have Q:=(um j.aj).2 C;rw[au Q]at f;rw[C]at c1;by_cases b3:mb.state=2
 case neg =>
  have d:(mb.state==2)=false:=su b3;have T:bD s.aj w≠2:=by rw[o];exact b3
  simp only[au T]at f;have e:E=14:=by rw[f];rfl
  have N:mF s w=zB:=by rw[mF,<-a,e];rfl
  have P:fU s w=[]:=by rw[fU,<-a,e];rfl
  rw[<-a,N,P,e];simp only[af.cells,aH.cells,zB]at c2 |-;simp only[aA.cells,av.cells]at c1;refine bp 98 2 [.cell 4 34,.tmp 5,.tmp 6] mixed func10 ?_;refine sc aS c1 ?_;refine aG.bC c2 ?_;refine sm (a2 gr d) ?_;all_goals simp
 have d3:(mb.state==2)=true:=su b3;have m:bD s.aj w=2:=by rw[o];exact b3
 simp only[aq m,if_true]at f;have hw:=(zm j.aj Q).2;obtain⟨v,g2⟩:=abo j hw m;have g3:=M0 j hw m 8 0 (b:=s.book) rfl ⟨j.book,j.known,rfl⟩ (λk hk=>by omega);have ak:s.book.fk:=⟨F.book,hq,ab,λp hp=>by have:=iJ.1 ((dn.1 j.book).ok p hp);exact⟨this.2.2.1,this.2.2.2.1⟩⟩
 have U:mF s w=if E=0 then⟨(kf s w 8 0 s.book).1.next,(kf s w 8 0 s.book).1.ts,lZ w (kf s w 8 0 s.book).1.qs⟩else zB:=by rw[mF,<-a];rfl
 have W:fU s w=if E=0 then mM s w (kf s w 8 0 s.book).1.qs else[]:=by rw[fU,<-a]
 rw[U,W,<-a];obtain⟨G,hG⟩:=aN (kf s w 8 0 s.book);rw[<-hG]at f v g2 g3 |-;obtain⟨R,hR⟩:=aN (M1 s w s.book.qs s.book);rw[<-hR]at v g2;have cO:=λb q (h1:aH.fk b)=>Ln s b w q;have hbok:=(dn.1 j.book).ok;have l:=λ(b:aH)(n q c p:Int)(h1:b.fk)(T:iS q)=>Ln s b w n q c p F j.aj h1 ag T;have cW:=λ(b:aH)(h1:b.fk)(T:∀p∈b.qs,bJ s.aj p.inst=true)=>E3 s b w F j.aj h1 T;clear cO a U W hG Z o m b1 C Q;simp only[af.cells,aH.cells]at c2 l cW |-;simp only[aA.cells,av.cells]at c1 K;simp only[aE.cells]at K cP;refine bp 98 2 [.cell 4 34,.tmp 5,.tmp 6] mixed func10 ?_;refine sc aS c1 ?_;refine sc aS c2 ?_;refine sm (a2 gr d3) ?_;refine aF.sK (S:=aH) s.book.qs.length [1,2,4,10,44,45] [48,80] (λi _=>[(5,.nil),(6,.I 0),(46,.I i)]) (λi b=>[(176,.box [.I b.next,.sl 7 (b.ts.map aR.cells),.sl 4 (b.qs.map aB.cells)])]) (λi b=>M1 s w (s.book.qs.drop i) b=R/\b.fk) s.book ⟨hR.symm,ak⟩ ?_ ?_ ?_
 ·exact jq
 ·rintro i b D A B ⟨g,hb⟩;obtain⟨x,hx,Y,hli⟩:=oc (c:=aB.cells) s.book.qs D;have ac:=ab _ (dS D);rw[cg D,<-hx,VL]at g;rw[<-hx]at ac;simp only[aB.cells]at Y;clear cW hx;cases H:x.who==w
  ·have e:Fb w x=false:=by simp only[Fb,H,cZ]
   rw[e,au sT]at g;refine sm (a5 A Y gr H B) ?_;refine bg ?_;refine ah.jT b D ⟨g,hb⟩ ?_;exact jq
  cases q2:x.aO==0
  case true =>
   have e:Fb w x=false:=by simp only[Fb,H,q2];rfl
   rw[e,au sT]at g;refine sm (a5 A Y gr H (a2 q2 B)) ?_;refine bg ?_;refine ah.jT b D ⟨g,hb⟩ ?_;exact jq
  have e:Fb w x=true:=by simp only[Fb,H,q2];rfl
  rw[e,aq rfl]at g;have al:x.who=w:=su H;have L:=K x.inst;have r:YG s b x=if cB (aZ s.aj x.inst)=true then WK s b x.who x.inst x.aO (cy (aZ s.aj x.inst))else(zB,20):=rfl;obtain⟨V,X⟩:=aN (YG s b x);rw[<-X]at g r;clear X;have M:=cP (aZ s.aj x.inst);have u:=l b x.inst x.aO x.cost (cy (aZ s.aj x.inst)) hb ac.2.2.1;have aa:=YH (s:=s) hb w x.inst x.aO (cy (aZ s.aj x.inst));rw[al]at r Y;obtain⟨O,hO⟩:=aN (WK s b w x.inst x.aO (cy (aZ s.aj x.inst)));rw[<-hO]at u aa r;obtain⟨y,hy⟩:=aN (aZ s.aj x.inst);rw[<-hy]at L M u r;have am:(w==w)=true:=by simp
  clear K cP l hO hy;refine sm (a5 A Y gr am q2) ?_;refine sc aS L ?_;refine sc aS M ?_;cases q3:cB y
  ·rw[q3,au wG]at r;subst r;have g:(zB,(20:Int))=R:=g;rw[<-g]at v;have f:E=20:=by rw[f,<-v];rfl
   rw[f];simp only[go_sem,seval,bne,q3,zB];all_goals simp
  rw[q3,aq rfl]at r;subst r;simp only[go_sem,seval,q3,if_true];refine sc aS u ?_;by_cases J:V.2=0
  ·rw[aq J]at g;rw[J];refine sm (a2 gr B) ?_;refine bg ?_;refine ah.jT V.1 D ⟨g,aa⟩ ?_;exact jq
  ·have d:(V.2==0)=false:=su J;rw[au J]at g;rw[<-g]at v;have f:E=V.2:=by rw[f,<-v,au J]
   rw[f];simp only[go_sem,seval,bne,d,au J,zB];all_goals simp
 ·rintro b ai ⟨g,hb⟩;rw[jw]at g;have g:(b,(0:Int))=R:=g;have z:G.2=0:=by rw[<-v,<-g]
  have ae:G=(b,0):=by rw[<-g2 z,g]
  rw[aq z]at f;have t:=(g3 z).1;rw[ae]at t f |-;have ad:=cW b hb λp hp=>(t.known.qs p hp).2;clear cW K cP l c1 c2;dsimp only at f |-;refine sc ai ad ?_;rw[f];cases q:pU s w b.qs
  ·simp only[go_sem,seval,zB];all_goals simp
  ·refine s0 ?_;all_goals simp
def Bi(s:af)(w:Int):aJ s w=(ku s.aj [1]).filter λx=>!(x==w):=by rw[aJ,oq];simp
def oE{s:af}(h:s.aj.okB=true)(w:Int):zz (aJ s w)=true:=by
 obtain⟨⟨d,e⟩,-,-⟩:=dQ.1 h;refine(oR (lt:=λa b:Int=>decide (a<b)) (λ{a b c} d e=>by simp only[bz]at d e |-;omega)).2 ⟨λx f=>?_,?_⟩
 ·rw[Bi]at f;obtain⟨m,g,-,rfl⟩:=jl (mem_filter.1 f).1;have:=oY (d m g);simp[within];omega
 ·rw[Bi,ku,oq];refine Pairwise.filter _ ?_;rw[pairwise_map];refine(e.filter _).imp λh=>su h
def SJ{l:bu}{c:Int}{ws:List Int}(a:l.okB=true)(b:within c 0 2=true)(d:zz ws=true):dV l c ws=0\/dV l c ws=1:=by
 rw[dV,named_eq,a,b,d];simp only[if_true,Bool.and_self];split
 ·exact .inl rfl
 ·exact .inr rfl
def Vx{r:aA}{ws:List Int}(a:r.okB=true)(b:zz ws=true):gp r ws=0\/gp r ws=1:=by
 rw[gp,named_eq,a,b,show within 0 0 2=true from rfl];simp only[if_true,Bool.and_self];split
 ·exact .inl rfl
 ·exact .inr rfl
theorem MV(w x:Int):Sq 134 [] [.int .i64 x,.bE [.int .i64 w]] [] (.bool (x==w)):=by
 refine bp 7 2 [.tmp 3] mixed func134 ?_;exact jq
theorem EF(s:af)(w:Int)(a:s.small):Sq 41 [] [.agg s.cells,.int .i64 w] [] (.sl 1 (ints (aJ s w))):=by
 have c1:=LW s.aj [1] a.aj sT;have c:=uo s.aj [1];have hml:=a.aj.1;rw[Bi];obtain⟨T,b⟩:=aN (ku s.aj [1]);rw[<-b]at c1 c |-;have c2:=OG (λx=>x==w) 134 w (MV w) T ak;simp only[aA.cells,ints,map_cons,map_nil]at c1;simp only[af.cells,ints];refine bp 11 2 [.tmp 4] mixed func41 ?_;refine s0 ?_;refine aG.gE [128] [] false sT ?_;refine s0 ?_;refine cz.gF c1 ?_;refine s0 ?_;refine aG.gE [64] [144] false sT ?_;refine s0 ?_;refine cz.gF c2 ?_;exact jq
theorem LM(s:af)(w c:Int)(X:s.small)(O:s.aj.okB=true)(P:jB s.ps=true):Sq 39 [] [.agg s.cells,.int .i64 w,.int .i64 c] [] (.bI [.int .i64 (iZ s w c),.int .i64 (if bB (lD s w c)then 0 else 1)]):=by
 have H:∀n,Sq 114 [] [.agg s.aj.cells,.I n] [] (.bI [.agg (nA s.aj n).cells,.bool (nq s.aj n)]):=λn=>zh s.aj n X.aj.small;have hll:(oC s w c).length<=s.ps.length:=bN _ _ _;have hpl:=X.ps;have v:=LK O P;have z:∀n∈oC s w c,0<=n:=jN λp T=>(v p T).1;have r:=xC z;have K:=jr (oC s w c) ak;have m:(∀n∈oC s w c,bB n=true)->oI (oC s w c)=iZ s w c/\oa (oC s w c)=if bB (lD s w c)then 0 else 1:=λh=>kW (Ds h);have q:∀n∈oC s w c,bB n=false->bB (lD s w c)=false:=λn t k=>by
  have a1:=r n t;have a2:=z n t;rw[Bool.eq_false_iff]at k |-;intro h;rw[aP]at h;refine k (aP.2 ⟨by omega,?_⟩);have:lD s w c=ay (oC s w c):=rfl;omega
 have o:=λn=>FJ O n;have Y:=λp T=>((jg.1 P).1 p T).2;simp only[af.cells];simp only[aA.cells]at H;clear O P z r v;refine bp 61 3 [.tmp 6,.tmp 7] mixed func39 ?_;simp only[go_sem,seval,nG];refine aF.wu s.ps.length [1,2,3,16,17] [64] (λi=>[(6,.I 0),(7,.I 0),(18,.I i),(8,.ref 896)]) (λi=>[(896,.own 1 (ints (pick (uk s w c) (pI s) (s.ps.take i))))]) (λi=>∀n∈pick (uk s w c) (pI s) (s.ps.take i),bB n=true) (by simp[pick]) ?_ ?_ ?_
 ·simp only[go_sem,seval]<;>simp[pick,ints]
 ·intro i _ k y A l;have F:=qh s.ps k;have d:=zO (uk s w c) (pI s) k;have f:=fK (uk s w c) (pI s) k;have D:=bN (uk s w c) (pI s) (s.ps.take i);have hlt:(s.ps.take i).length=i:=by simp;omega
  have hli:(i:Int)<(s.ps.length:Int):=ak
  have U:=Y _ (dS k);have g:uk s w c s.ps[i]=true->pI s s.ps[i]∈oC s w c:=λh=>mem_flatMap.2 ⟨s.ps[i],dS k,by simp[h]⟩;obtain⟨L,V⟩:=aN (pick (uk s w c) (pI s) (s.ps.take i));obtain⟨x,Z⟩:=aN (s.ps[i]);rw[<-Z]at F d f U g;rw[<-V]at d f D l |-;have j:=H x.bT;have R:=o x.bT;simp only[uk,pI]at d f g;obtain⟨a,Q⟩:=aN (nA s.aj x.bT);rw[<-Q]at j R;simp only[<-Q]at d f g;have N:=xD x.units a.c ⟨by omega,by omega⟩ ⟨by omega,by omega⟩;have J:=xF (x.units*a.c);have C:=q (x.units*a.c);have hLl:(ints L).length<=i:=by rw[az];omega
  obtain⟨M,hM⟩:=aN (x.units*a.c);rw[<-hM]at N J d f g C;simp only[aD.cells]at j;simp only[wd]at N J;clear H K o Y m q Q Z V;cases B:x.who==w
  ·simp only[B,cZ,iM,if_false,append_nil]at d f;simp only[go_sem,seval,nG,y,F];refine bg ?_;refine aG.bC j ?_;refine sm (a3 gr B A) ?_
   and_intros<;>first|exact .dq|omega|skip
   refine ah.u k (by rw[d];exact l) ?_;simp only[go_sem,seval,f]
  cases E:a.b==c
  ·simp only[B,E,Bool.and_false,iM,if_false,append_nil]at d f;simp only[go_sem,seval,nG,y,F];refine bg ?_;refine aG.bC j ?_;refine sm (a4 gr B E A) ?_
   and_intros<;>first|exact .dq|omega|skip
   refine ah.u k (by rw[d];exact l) ?_;simp only[go_sem,seval,f]
  simp only[B,E,Bool.and_self,if_true]at d f;have g:=g (by rw[B,E];rfl);simp only[go_sem,seval,nG,y,F];refine bg ?_;refine aG.bC j ?_;refine sm (a3 gr B E) ?_;refine bg ?_;refine sc aS N ?_;refine aG.bC J ?_;cases G:bB M
  ·have W:=C g G;have e:iZ s w c=0:=by rw[iZ,W];rfl
   rw[e,W];refine sm (a2 gr G) ?_;all_goals simp
  simp only[go_sem,seval,bne,G,A,if_true]
  and_intros<;>first|exact .dq|omega|skip
  refine ah.u k (by
   rw[d];intro n t;rcases mem_append.1 t with t|t
   ·exact l n t
   ·obtain rfl:=gV.1 t
    exact G) ?_
  simp only[go_sem,seval,f]
 ·intro _ S l;rw[eu]at l;have e:pick (uk s w c) (pI s) s.ps=oC s w c:=rfl;rw[e]at l;obtain⟨e1,e2⟩:=m l;rw[e1,e2]at K;simp only[go_sem,seval,nG,S,eu,e]
  and_intros<;>first|exact .dq|omega|skip
  refine aG.gE [] [] true sT ?_;simp only[go_sem,seval];refine cz.gF K ?_;simp only[go_sem,seval];all_goals(with_reducible and_intros)<;>first|exact .dq|omega|skip
theorem Xr(s:af)(w c b:Int)(p:s.small)(hm:s.aj.ms.length<2^27):Sq 12 [] [.agg s.cells,.int .i64 w,.int .i64 c,.int .i64 b] [.own 1 (ints (fC s w c b))] (.bI [.int .i64 (eT s w c b),.ref 0,.int .i64 (jI s w c b)]):=by
 have c1:=lA s.aj w p.aj.small;have c2:=rS s p;have c4:=fq [b] sT;rw[D8]at c4;have u:=λa=>Be s.bf a (by have:=p.bf;omega);have T:=EF s w p;have ab:=uE s w;have U:=xN s.bf c (aJ s w) p.bf ak;have V:=yB s.aj (aJ s w) p.aj ak;have g:=LM s w c p;simp only[aC.cells,bu.cells]at u;simp only[bu.cells]at U;simp only[aA.cells]at V;obtain⟨E,f⟩:=aN (jI s w c b);have B:=f;simp only[jI]at f;simp only[fC,eT,<-B];clear B ab;have ac:bD s.aj w=(fm s.aj w).state:=rfl;obtain⟨mb,aa⟩:=aN (fm s.aj w);rw[<-aa]at c1 ac;have N:=@um s.aj;have J:=@gX s;simp only[aA.cells,av.cells]at c1;simp only[af.cells]at c2 T g |-;simp only[ints,map_cons,map_nil]at c4;refine bp 135 4 [.tmp 8,.tmp 9,.tmp 10] mixed func12 ?_;refine sc aS c1 ?_;refine sc aS c2 ?_;cases R:bM s
 ·rw[R,au sT]at f;rw[f];simp only[go_sem,seval,bne]<;>simp[ints]
 have j:=J.1 R;have N:=N j.aj (w:=w);have g:=g j.aj j.ps;rw[R,aq rfl]at f;cases S:gw s.aj w
 ·have h0:bD s.aj w=0:=by
   by_cases h:bD s.aj w=0
   ·exact h
   ·rw[N.1 h]at S;cases S
  rw[aq h0]at f;rw[f];simp only[go_sem,seval,bne]<;>simp[ints]
 rw[au (N.2 S)]at f;by_cases q1:c<0
 ·have d:decide (c<0)=true:=dY q1;have e:within c 0 2=false:=by simp[within];omega
  rw[e,cZ,au sT]at f;rw[f];simp only[go_sem,seval,bne,d]<;>simp[ints]
 have d1:decide (c<0)=false:=iA q1;by_cases q2:3<=c
 ·have d:decide (3<=c)=true:=dY q2;have e:within c 0 2=false:=by simp[within];omega
  rw[e,cZ,au sT]at f;rw[f];simp only[go_sem,seval,bne,d1,d]<;>simp[ints]
 have d2:decide (3<=c)=false:=iA q2;have D:within c 0 2=true:=by simp[within];omega
 refine sm (a3 gr d1 d2) ?_;refine sl aS c4 ?_;cases O:bB b
 ·rw[O,Bool.and_false,au sT]at f;rw[f];simp only[go_sem,seval]<;>simp[ints]
 rw[D,O,Bool.and_self,aq rfl]at f;have K:=SJ (l:=s.bf) j.bf D (oE j.aj w);have H:=Vx j.aj (oE j.aj w);have i:=mQ j.bf ⟨2,w,c⟩;have M:=C2 s w c;have x:=u ⟨2,w,c⟩;have y:=u ⟨3,w,c⟩;have z:=u ⟨4,0,c⟩;have Z:rQ s w c b=ay [b,min (eP ⟨2,w,c⟩ s.bf.bs) 0]:=rfl;have A:kF s w c b=ay [max (eP ⟨2,w,c⟩ s.bf.bs) 0,iZ s w c,max (rQ s w c b) 0]:=rfl;obtain⟨P,C⟩:=aN (eP ⟨2,w,c⟩ s.bf.bs);obtain⟨ow,I⟩:=aN (eP ⟨3,w,c⟩ s.bf.bs);obtain⟨sk,L⟩:=aN (eP ⟨4,0,c⟩ s.bf.bs);obtain⟨v,hv⟩:=aN (iZ s w c);obtain⟨vb,r⟩:=aN (bB (lD s w c));obtain⟨sE,q⟩:=aN (dV s.bf c (aJ s w));obtain⟨nE,o⟩:=aN (gp s.aj (aJ s w));simp only[Dy,<-r,<-q,<-o]at f;rw[<-q]at U K;rw[<-o]at V H;rw[<-hv]at g A M;rw[<-r]at g;rw[<-C]at x Z A i;rw[<-I]at y |-;rw[<-L]at z |-;obtain⟨X,m⟩:=aN (rQ s w c b);obtain⟨F,k⟩:=aN (kF s w c b);rw[<-m]at Z A;rw[<-k]at A;simp only[<-m,<-k]at f |-;have hcr:=aP.1 i;have hg:=aP.1 O;have W:=jr [b,min P 0] sT;have r8:right [b,min P 0]=true:=Ds λn G=>by
  simp only[mem_cons,not_mem_nil,or_false]at G;rcases G with rfl|rfl
  ·exact O
  ·rw[aP];omega
 rw[(kW r8).1,(kW r8).2,<-Z]at W;have Y:=jr [max P 0,v,max X 0] sT;have r9:bB X=true->right [max P 0,v,max X 0]=true:=λhx=>Ds λn G=>by
  simp only[mem_cons,not_mem_nil,or_false]at G;have:=aP.1 hx;rcases G with rfl|rfl|rfl
  ·rw[aP];omega
  ·exact M
  ·rw[aP];omega
 simp only[ints,map_cons,map_nil]at W Y;clear u I L hv r q o C m k i J N c1 c2 c4;refine sc aS x ?_;refine sc aS g ?_;cases k1:vb
 ·rw[k1,cZ,cZ,au sT]at f;rw[f];simp only[go_sem,seval,bne]<;>simp[ints]
 simp only[go_sem,seval,bne,if_true];refine sl aS W ?_;cases t:bB X
 ·rw[k1,t,Bool.and_false,cZ,au sT]at f;rw[f];simp only[go_sem,seval,bne,t]<;>simp[ints]
 have hXr:=aP.1 t;rw[(kW (r9 t)).1,(kW (r9 t)).2,<-A]at Y;rw[k1,t,Bool.and_self,cm]at f;simp only[go_sem,seval,bne,t,if_true];refine sl aS Y ?_;cases Q:bB F
 ·rw[Q,cZ,au sT]at f;rw[f];simp only[go_sem,seval,bne,Q]<;>simp[ints]
 rw[Q,cm]at f;simp only[go_sem,seval,bne,Q,if_true];refine sc aS T ?_;refine sc aS U ?_;rcases K with k4|k4
 case inr =>
  rw[k4,show((1:Int)==0)=false from rfl,cZ,au sT]at f;rw[f,k4];simp only[go_sem,seval,bne]<;>simp[ints]
 rw[k4,show((0:Int)==0)=true from rfl,cm]at f;rw[k4];refine sm gr ?_;refine sc aS T ?_;refine sc aS V ?_;rcases H with k5|k5
 case inr =>
  rw[k5,show((1:Int)==0)=false from rfl,au sT]at f;rw[f,k5];simp only[go_sem,seval,bne]<;>simp[ints]
 rw[k5,show((0:Int)==0)=true from rfl,aq rfl]at f;have hw:IntKind.wrap .i64 (0-X) = -X:=fQ;rw[k5,f,aq rfl,aq rfl];refine sm gr ?_;refine sc aS y ?_;refine sc aS z ?_;refine sm hw ?_;all_goals simp[ints]
theorem UJ(s:af)(w c a:Int)(d:s.small)(b:s.aj.ms.length<2^27):Sq 12 [] [.agg s.cells,.int .i64 w,.int .i64 c,.int .i64 a] [] (.bI [.int .i64 (eT s w c a),.sl 1 (ints (fC s w c a)),.int .i64 (jI s w c a)]):=by
 refine Spec.frozen (Xr s w c a d b) [0] rfl ?_;intro r;rcases r with _|r<;>rfl
theorem R5(k w:Int)(f:dM):Sq 44 [] [.int .i64 k,.int .i64 w,.bE f.cells] [] (.agg [.int .i64 k,.int .i64 w,.int .i64 f.cur]):=by
 simp only[dM.cells];refine bp 11 3 [.cell 5 70] mixed func44 ?_;simp only[go_sem,seval];all_goals(with_reducible and_intros)<;>first|exact .dq|omega|skip
def Vj(s:af)(w e:Int)(f:dM)(a b:Int)(T:s.small)(hr:s.right)(hm:s.aj.ms.length<2^27)(hv:bB (lD s w f.cur)=true)(hg:bB e=true)(hl:bB f.aV=true)
  (ha:eP ⟨2,w,f.cur⟩ s.bf.bs+iZ s w f.cur+e+f.aV=a) (hb:eP ⟨3,w,f.cur⟩ s.bf.bs=b) (h0:0<=f.c0/\f.c0<=a/\a<=4611686018427387904) (h1:0<=f.c1/\f.c1<=b/\b<=4611686018427387904) :
  Sq 14 [] [.agg s.cells,.I w,.I e,.agg f.cells] [] (.bI [.sl 4 ((jJ s w f.cur e f a b).1.map aK.cells),.I (jJ s w f.cur e f a b).2.1,.I (jJ s w f.cur e f a b).2.2]):=by
 obtain⟨c,hc⟩:=aN (f.cur);rw[<-hc]at hv ha hb |-;have j:=λk w=>R5 k w f;simp only[<-hc]at j;have l:=λx y n=>Sc x y n;have g:=LM s w c T hr.aj hr.ps;rw[hv,aq rfl]at g;have c5:=EF s w T;have ac:=uE s w;have Z:=JB s.bf c f.c3 (aJ s w) T.bf ak;have c7:=Fa s.aj c f.c4 (aJ s w) T.aj ak;have cO:=λa=>Be s.bf a (by have:=T.bf;omega);have m:=cO ⟨2,w,c⟩;have o:=cO ⟨3,w,c⟩;have i:=mQ hr.bf ⟨2,w,c⟩;have W:=C2 s w c;obtain⟨x,ad⟩:=aN (a-f.c0);obtain⟨y,ae⟩:=aN (b-f.c1);have F:bB (-f.c0)=true:=by rw[aP];omega
 have H:bB x=true:=by rw[aP];omega
 have S:bB y=true:=by rw[aP];omega
 have P:=jr [eP ⟨2,w,c⟩ s.bf.bs,iZ s w c,e,f.aV,-f.c0] sT;have r8:right [eP ⟨2,w,c⟩ s.bf.bs,iZ s w c,e,f.aV,-f.c0]=true:=by
  simp only[right,all_cons,all_nil,i,W,hg,hl,F,Bool.and_self]
 have e8:ay [eP ⟨2,w,c⟩ s.bf.bs,iZ s w c,e,f.aV,-f.c0]=x:=by simp only[ay];omega
 rw[(kW r8).1,(kW r8).2,e8,H,aq rfl,aq rfl]at P;have c9:=jr [x,y] sT;have r9:right [x,y]=true:=by simp only[right,all_cons,all_nil,H,S,Bool.and_self]
 have e9:ay [x,y]=x+y:=by simp[ay]
 rw[(kW r9).1,(kW r9).2,e9]at c9;have w0:IntKind.wrap .i64 (0-f.c0) = -f.c0:=fQ;have w1:IntKind.wrap .i64 (b-f.c1)=y:=fQ;have ab:=Lb s.bf c f.c3 (aJ s w);have aa:=Em s.aj c f.c4 (aJ s w);have cJ:=Hq (uW s w c e f (a-f.c0) (b-f.c1)) (by simp[uW,Ot,bR];omega);obtain⟨R,h⟩:=aN (jJ s w c e f a b);rw[<-h];simp only[jJ]at h;obtain⟨G,D⟩:=aN (uW s w c e f (a-f.c0) (b-f.c1));rw[<-D]at cJ h;simp only[uW,Ot]at D;rw[<-ad,<-ae]at D h;rw[hb]at o;obtain⟨ca,Q⟩:=aN (eP ⟨2,w,c⟩ s.bf.bs);rw[<-Q]at m P;obtain⟨v,X⟩:=aN (iZ s w c);rw[<-X]at g P D;obtain⟨e1,L⟩:=aN (xS s.bf c f.c3 (aJ s w));obtain⟨e2,M⟩:=aN (nS s.aj c f.c4 (aJ s w));obtain⟨V,hV⟩:=aN (tO s.bf c f.c3 (aJ s w));obtain⟨U,hU⟩:=aN (kN s.aj c f.c4 (aJ s w));rw[<-hV]at Z D ab;rw[<-hU]at c7 D aa;rw[<-L]at Z;rw[<-M]at c7;rw[<-L,<-M]at h;have m1:=l ⟨1,0,c⟩ ⟨2,w,c⟩ v;have m2:=l ⟨5,0,c⟩ ⟨2,w,c⟩ e;have m3:=l ⟨6,0,c⟩ ⟨2,w,c⟩ f.aV;have m4:=l ⟨2,w,c⟩ ⟨6,0,c⟩ f.c0;have m5:=l ⟨3,w,c⟩ ⟨6,0,c⟩ f.c1;have m6:=l ⟨4,0,c⟩ ⟨6,0,c⟩ f.c2;have m7:=l ⟨2,w,c⟩ ⟨1,0,c⟩ x;have m8:=l ⟨3,w,c⟩ ⟨1,0,c⟩ y;obtain⟨A1,p⟩:∃A,A=bR ⟨1,0,c⟩ ⟨2,w,c⟩ v:=⟨_,rfl⟩
 obtain⟨A2,q⟩:∃A,A=bR ⟨5,0,c⟩ ⟨2,w,c⟩ e:=⟨_,rfl⟩
 obtain⟨A3,r⟩:∃A,A=bR ⟨6,0,c⟩ ⟨2,w,c⟩ f.aV:=⟨_,rfl⟩
 obtain⟨A4,t⟩:∃A,A=bR ⟨2,w,c⟩ ⟨6,0,c⟩ f.c0:=⟨_,rfl⟩
 obtain⟨A5,u⟩:∃A,A=bR ⟨3,w,c⟩ ⟨6,0,c⟩ f.c1:=⟨_,rfl⟩
 obtain⟨A6,z⟩:∃A,A=bR ⟨4,0,c⟩ ⟨6,0,c⟩ f.c2:=⟨_,rfl⟩
 obtain⟨A7,B⟩:∃A,A=bR ⟨2,w,c⟩ ⟨1,0,c⟩ x:=⟨_,rfl⟩
 obtain⟨A8,C⟩:∃A,A=bR ⟨3,w,c⟩ ⟨1,0,c⟩ y:=⟨_,rfl⟩
 have E:A1.length=2:=by rw[p];rfl
 have K:A2.length=2:=by rw[q];rfl
 have N:A3.length=2:=by rw[r];rfl
 have O:A4.length=2:=by rw[t];rfl
 have Y:A5.length=2:=by rw[u];rfl
 have z6:A6.length=2:=by rw[z];rfl
 have z7:A7.length=2:=by rw[B];rfl
 have z8:A8.length=2:=by rw[C];rfl
 rw[<-p,<-q,<-r,<-t,<-u,<-z,<-B,<-C]at D;rw[<-p]at m1;rw[<-q]at m2;rw[<-r]at m3;rw[<-t]at m4;rw[<-u]at m5;rw[<-z]at m6;rw[<-B]at m7;rw[<-C]at m8;have J:G.map aK.cells=A1.map aK.cells++A2.map aK.cells++A3.map aK.cells++A4.map aK.cells++A5.map aK.cells++A6.map aK.cells++V.map aK.cells++U.map aK.cells++A7.map aK.cells++A8.map aK.cells:=by rw[D];simp only[jF]
 rw[J]at cJ;simp only[aC.cells]at m1 m2 m3 m4 m5 m6 m7 m8 m o;simp only[bu.cells]at Z m o;simp only[aA.cells]at c7;simp only[af.cells]at c5 g |-;simp only[dM.cells]at j |-;rw[<-hc]at j |-;simp only[ints,map_cons,map_nil]at P c9;clear l cO p q r t u z B C hV hU L M D J ac Q X hc ha r8 e8 r9 e9 i W F;refine bp 188 4 [.tmp 8,.tmp 9,.tmp 10] mixed func14 ?_;simp only[go_sem,seval];refine aG.gE [128] [] false sT ?_;simp only[go_sem,seval];refine cz.gF (j 1 0) ?_;refine sc aS (j 2 w) ?_;refine sc aS (j 3 w) ?_;refine aG.bC (j 6 0) ?_;refine sc aS g ?_;refine sc aS m1 ?_;refine sc E (j 5 0) ?_;refine sc aS m2 ?_;simp only[go_sem,seval,cR,E,K];refine sc aS m3 ?_;simp only[go_sem,seval,cR,E,K,N];refine sc aS m4 ?_;simp only[go_sem,seval,cR,E,K,N,O];refine sc aS m5 ?_;simp only[go_sem,seval,cR,E,K,N,O,Y];refine sc aS (j 4 0) ?_;refine sc aS m6 ?_;simp only[go_sem,seval,cR,E,K,N,O,Y,z6];refine sc aS c5 ?_;refine sc aS Z ?_;by_cases k1:e1=0
 case neg =>
  have d:(e1==0)=false:=su k1;rw[au k1]at h;rw[h];exact gY (a2 gr d)
 rw[aq k1]at h;rw[k1];refine sc aS c5 ?_;refine sc aS c7 ?_;by_cases k2:e2=0
 case neg =>
  have d:(e2==0)=false:=su k2;rw[au k2]at h;rw[h];exact gY (a2 gr d)
 rw[aq k2]at h;rw[k2];simp only[go_sem,seval,cR,E,K,N,O,Y,z6];refine sc w0 m ?_;refine sl aS P ?_;refine sc w1 o ?_;refine sl aS c9 ?_;cases k3:bB (x+y)
 ·rw[k3,au sT]at h;rw[h];exact gY (a2 gr k3)
 rw[k3,aq rfl]at h;simp only[go_sem,seval,bne,k3,if_true];refine sc aS m7 ?_;simp only[go_sem,seval,cR,E,K,N,O,Y,z6,z7];refine sc aS m8 ?_;simp only[go_sem,seval,cR,E,K,N,O,Y,z6,z7,z8];refine bg ?_;refine aG.gE [2880] [] false sT ?_;simp only[go_sem,seval];refine cz.gF cJ ?_;rw[h];simp only[go_sem,seval];all_goals(with_reducible and_intros)<;>first|exact .dq|omega|skip
def VO{s:af}{w:Int}(h:kg s w=0):pU s w (kf s w 8 0 s.book).1.qs=true:=by
 obtain⟨a,b⟩:=yT h;unfold kg at h;rw[aq a,aq b]at h;split at h
 ·assumption
 ·cases h
def VM{s:af}{w:Int}(h:kg s w=0):∀d∈fU s w,d.who=w/\bB d.cu=true:=by
 have e:=VO h;intro d a;rw[fU,aq h]at a;obtain⟨p,c,a⟩:=mem_flatMap.1 a;have:=bL.1 e p c;unfold Ke at a;split at a
 ·rename_i b;obtain rfl:=gV.1 a;rw[b]at this;exact⟨rfl,su this⟩
 ·cases a
theorem XU{w c:Int}:∀{l:List aU},(∀d∈l,d.who=w)->yD w c l=FO c l
 | [],_=>rfl
 |d::r,h=>by
  have a:=XU (w:=w) (c:=c) λy b=>h y (mem_cons_of_mem _ b);unfold yD FO pick at a |-;rw[flatMap_cons,flatMap_cons,a];simp[GM,h d sT]
def afY{s:af}{w:Int}(h:kg s w=0)(c:Nat):qg s w c=oa (FO c (fU s w))/\aQ s w c=oI (FO c (fU s w)):=by
 have b:=VM h;have i:tS (fU s w)=true:=bL.2 λd a=>(b d a).2;have f:=XU (w:=w) (c:=(c:Int)) λd a=>(b d a).1;have g:right (FO c (fU s w))=true:=Ds λn j=>by
  obtain⟨d,a,_,rfl⟩:=jl j;exact(b d a).2
 have e:qg s w c=if bB (ay (FO c (fU s w)))then 0 else 1:=by
  rw[qg,nD,i,aq rfl,f]
 refine⟨by rw[e,(kW g).2],?_⟩;have e2:aQ s w c=if qg s w c=0 then ay (FO c (fU s w))else 0:=by rw[aQ,qz,f];rfl
 rw[e2,e,(kW g).1];cases bB (ay (FO c (fU s w)))<;>rfl
def Oq{s:af}{w c g:Int}(h:jI s w c g=0):s.right/\bB g=true/\bB (lD s w c)=true/\bB (rQ s w c g)=true/\bB (kF s w c g)=true:=by
 unfold jI at h;split at h
 case isFalse=>cases h
 rename_i d;split at h
 ·cases h
 split at h
 case isFalse=>cases h
 rename_i b;split at h
 case isFalse=>cases h
 rename_i a;simp only[Dy,bQ]at b a;exact⟨gX.1 d,b.2,a.1.1,a.1.2,a.2.1⟩
def GO{c aV:Int}{a:List Int}(h:jx c aV a=0):iP aV a=0:=by
 unfold jx at h;split at h
 ·rename_i b;simp only[bQ,ff]at b;exact b.2.2
 ·cases h
def B1{s:af}{w c g:Int}(h:jI s w c g=0)(b:jx c (eT s w c g) (fC s w c g)=0) :
  fC s w c g=[kF s w c g,eP ⟨3,w,c⟩ s.bf.bs,eP ⟨4,0,c⟩ s.bf.bs,ir s.bf c (aJ s w),ke s.aj (aJ s w)]/\(jL c (eT s w c g) (fC s w c g)).cur=c/\bB (jL c (eT s w c g) (fC s w c g)).aV=true /\
  eP ⟨2,w,c⟩ s.bf.bs+iZ s w c+g+(jL c (eT s w c g) (fC s w c g)).aV=kF s w c g /\
  (0<=(jL c (eT s w c g) (fC s w c g)).c0/\(jL c (eT s w c g) (fC s w c g)).c0<=kF s w c g/\kF s w c g<=4611686018427387904) /\
  (0<=(jL c (eT s w c g) (fC s w c g)).c1/\(jL c (eT s w c g) (fC s w c g)).c1<=eP ⟨3,w,c⟩ s.bf.bs/\eP ⟨3,w,c⟩ s.bf.bs<=4611686018427387904):=by
 obtain⟨-,-,-,d,hCF⟩:=Oq h;have d:=aP.1 d;have a:fC s w c g=[kF s w c g,eP ⟨3,w,c⟩ s.bf.bs,eP ⟨4,0,c⟩ s.bf.bs,ir s.bf c (aJ s w),ke s.aj (aJ s w)]:=by rw[fC,aq h]
 have hN:eT s w c g=max (-rQ s w c g) 0:=by rw[eT,aq h]
 obtain⟨⟨l1,l2⟩,hc,-⟩:=Ci (GO b);have f:jL c (eT s w c g) (fC s w c g)=AW c (eT s w c g) (wR (eT s w c g) (fC s w c g)) (tD (eT s w c g) (fC s w c g)):=by rw[jL,aq b]
 rw[f];have c1:=hc (kF s w c g) (by rw[a];simp);have c2:=hc (eP ⟨3,w,c⟩ s.bf.bs) (by rw[a];simp);have eX:rQ s w c g=g+min (eP ⟨2,w,c⟩ s.bf.bs) 0:=by simp[rQ,ay]
 have eF:kF s w c g=max (eP ⟨2,w,c⟩ s.bf.bs) 0+(iZ s w c+max (rQ s w c g) 0):=by simp[kF,ay]
 have e0:(AW c (eT s w c g) (wR (eT s w c g) (fC s w c g)) (tD (eT s w c g) (fC s w c g))).c0=min (eT s w c g) (kF s w c g):=by rw[a];rfl
 have e:(AW c (eT s w c g) (wR (eT s w c g) (fC s w c g)) (tD (eT s w c g) (fC s w c g))).c1=min (eT s w c g-min (eT s w c g) (kF s w c g)) (eP ⟨3,w,c⟩ s.bf.bs):=by rw[a];rfl
 refine⟨a,rfl,aP.2 ⟨by show _<=eT s w c g;omega,by show eT s w c g<=_;omega⟩,?_,?_,?_⟩
 ·show _+_+g+eT s w c g=_;omega
 ·rw[e0];omega
 ·rw[e];omega
def DU{s:af}{w:Int}{c:Nat}(h:jI s w c (aQ s w c)=0):gN s w c=jJ s w c (aQ s w c) (cU s w c) (kF s w c (aQ s w c)) (eP ⟨3,w,c⟩ s.bf.bs):=by
 have a:gQ s w c=[kF s w c (aQ s w c),eP ⟨3,w,c⟩ s.bf.bs,eP ⟨4,0,c⟩ s.bf.bs,ir s.bf c (aJ s w),ke s.aj (aJ s w)]:=by rw[gQ,fC,aq h]
 rw[gN,a];rfl
theorem LR{f:Nat->Int}:∀{m i:Nat},fD f m i=0->I6 f m i=i+m
 | 0,_,_=>rfl
 |m+1,i,h=>by
  simp only[fD]at h;split at h
  ·rename_i a;rw[I6,aq a,LR h];omega
  ·rename_i a;exact absurd h a
def abh(s:af)(w:Int)(K:s.small)(hm:s.aj.ms.length<2^27)(hq:s.book.qs.length<2^20)(am:∀p∈s.book.qs,p.fB)(a8:s.aW.length<2^20)(a1:s.bf.fk)(a0:s.bf.bs.length<2^28)(bc:∀x∈s.aT,ug x) :
  Sq 7 [] [.agg s.cells,.I w] [.own 8 ((CB s w).map dM.cells),.own 3 ((CA s w).map aU.cells)] (.bI [.agg (lN s w).cells,.ref 0,.ref 1,.I (rX s w)]):=by
 have c1:=HY s w K hq am a8;have a6:(fU s w).length<2^29:=by
  unfold fU;split
  ·rename_i he;obtain⟨ab,_⟩:=yT he;have hr:=gX.1 (wZ ab).1;have hf:s.book.fk:=⟨K.book,hq,am,λp hp=>by have:=iJ.1 ((dn.1 hr.book).ok p hp);exact⟨this.2.2.1,this.2.2.2.1⟩⟩
   have hb:=(vX (s:=s) (w:=w) 8 0 hf).short;have h2:=L2 s w (kf s w 8 0 s.book).1.qs;omega
  ·simp
 have c2:=RP (fU s w) a6;have cC:=λc g=>UJ s w c g K hm;have cF:=λc aV an h=>GP c aV an h;have cP:=λl id g (h1:l.bs.length<2^28) h2=>JI l id g h1 h2;obtain⟨E,k⟩:=aN (rX s w);have ar:=k;simp only[rX]at k;simp only[lN,CB,CA,<-ar];clear ar;by_cases b1:kg s w=0
 case neg =>
  have d:(kg s w==0)=false:=su b1;rw[au b1]at k;rw[k];simp only[au b1];simp only[af.cells]at c1 |-;simp only[aH.cells]at c1;refine bp 152 2 [.cell 4 42,.tmp 5,.tmp 6,.tmp 7] mixed func7 ?_;refine sc aS c1 ?_;refine sm (a2 gr d) ?_
  and_intros<;>first|exact .dq|omega|skip
  all_goals simp[af.zero,pl]
 obtain⟨ab,a7⟩:=yT b1;obtain⟨a5,bb⟩:=wZ ab;have hr:=gX.1 a5;have a4:gw s.aj w=true:=(um hr.aj).1 ak;have cX:=λg f a b=>Vj s w g f a b K hr hm;have t:=J8 s.aj w 3 K.aj hr.aj a4 rfl;have ai:=afY b1;have ao:(λc:Nat=>oa (FO c (fU s w)))=qg s w:=funext λc=>(ai c).1.symm;have ap:(λc:Nat=>oI (FO c (fU s w)))=aQ s w:=funext λc=>(ai c).2.symm;rw[ao,ap]at c2;rw[aq b1]at k;rw[b1]at c1;clear ai ao ap ab a7 a5 bb a4 b1;have X:=λh=>LR (f:=qg s w) (m:=3) (i:=0) h;obtain⟨F1,aw⟩:=aN (fD (qg s w) 3 0);rw[<-aw]at k c2 X;obtain⟨PB,az⟩:=aN (mF s w);rw[<-az]at c1 |-;simp only[af.cells]at c1 cC cX |-;simp only[aH.cells]at c1;simp only[aA.cells]at t;by_cases b2:F1=0
 case neg =>
  have d:(F1==0)=false:=su b2;rw[au b2]at k;rw[k];simp only[au b2];simp only[g3]at c2;refine bp 152 2 [.cell 4 42,.tmp 5,.tmp 6,.tmp 7] mixed func7 ?_;refine sc aS c1 ?_;refine sc aS c2 ?_;refine sm (a2 gr d) ?_
  and_intros<;>first|exact .dq|omega|skip
  all_goals simp[af.zero,pl]
 rw[aq b2]at k;rw[X b2,b2]at c2;have aP:g3 (aQ s w) (0+3)=[.I (aQ s w 0),.I (aQ s w 1),.I (aQ s w 2)]:=rfl;rw[aP]at c2;clear X aP aw b2;simp only[dM.cells]at cF;refine bp 152 2 [.cell 4 42,.tmp 5,.tmp 6,.tmp 7] mixed func7 ?_;refine sc aS c1 ?_;refine sc aS c2 ?_;clear c1 c2;obtain⟨F2,Z⟩:=aN (fD (o9 s w) 3 0);rw[<-Z]at k;try simp only[go_sem,seval,bne]
 refine aF.wu 3 [1,2,4,8,11,46] [48,80,144,192] (λi=>[(5,.nil),(6,.nil),(7,.I 0),(47,.I i),(12,.ref 1264)]) (λi=>[(1264,.own 8 ((AL (cU s w) i).map dM.cells))]) (λi=>fD (o9 s w) (3-i) i=F2) Z.symm ?_ ?_ ?_
 ·simp only[go_sem,seval,I8]<;>simp
 ·intro c _ hc z J j;have z:decide ((c:Int)<3)=true:=z;obtain⟨m,hm⟩:∃m,3-c=m+1:=⟨3-c-1,by omega⟩
  have H:3-(c+1)=m:=ak
  rw[hm]at j;simp only[fD]at j;have ad:=cC c (aQ s w c);have aK:(fC s w c (aQ s w c)).length<2^30:=by unfold fC;split<;>simp
  have N:=cF c (eT s w c (aQ s w c)) (fC s w c (aQ s w c)) aK;have y:o9 s w c=if jI s w c (aQ s w c)=0 then jx c (eT s w c (aQ s w c)) (fC s w c (aQ s w c))else jI s w c (aQ s w c):=rfl;have e1:jL c (eT s w c (aQ s w c)) (fC s w c (aQ s w c))=cU s w c:=rfl;have W:=C3 (cU s w) c;have aZ:=ry (cU s w) c;rw[e1]at N;obtain⟨T,hT⟩:=aN (AL (cU s w) c);rw[<-hT]at W aZ;rw[<-hT];obtain⟨fl,Q⟩:=aN (cU s w c);rw[<-Q]at N W;obtain⟨gn,U⟩:∃gn:Nat->Int,gn=aQ s w:=⟨_,rfl⟩
  rw[<-U]at ad N y |-;obtain⟨ce,aC⟩:=aN (jI s w c (gn c));obtain⟨cn,ae⟩:=aN (eT s w c (gn c));obtain⟨cl,P⟩:=aN (fC s w c (gn c));obtain⟨fe,ag⟩:=aN (jx c cn cl);rw[<-aC,<-ae,<-P]at ad y;rw[<-ae,<-P,<-ag]at N;rw[<-ag]at y;clear cC cF cX cP t hT e1 aC ae P ag aK U Q;have aX:c=0\/c=1\/c=2:=ak
  have fin:∀r:Nat,r=c->True:=λ_ _=>trivial;rcases aX with rfl|rfl|rfl;all_goals
   refine sm z ?_;try(with_reducible and_intros)<;>first|exact .dq|omega|skip
   refine aG.bC ad ?_;by_cases q:ce=0
   case neg =>
    have d:(ce==0)=false:=su q;rw[au q]at y;rw[y,au q]at j;rw[<-j,au q]at k;rw[k];simp only[au q];refine sm (a2 gr d) ?_
    and_intros<;>first|exact .dq|omega|skip
    all_goals simp[af.zero,pl]
   rw[aq q]at y;rw[q];refine s0 ?_;try(with_reducible and_intros)<;>first|exact .dq|omega|skip
   refine aG.bC N ?_;rw[y]at j;by_cases Y:fe=0
   ·rw[aq Y]at j;rw[Y];refine sm (a3 gr aZ J) ?_
    and_intros<;>first|exact .dq|omega|skip
    refine ah.u hc (by rw[H];exact j) ?_;simp only[go_sem,seval,W]<;>simp<;>exact gO ak ak
   ·have d:(fe==0)=false:=beq_eq_false_iff_ne.2 Y;rw[au Y]at j;rw[<-j,au Y]at k;rw[k];simp only[au Y];refine sm (a2 gr d) ?_
    and_intros<;>first|exact .dq|omega|skip
    all_goals simp[af.zero,pl]
 intro _ aL j;have j:F2=0:=j.symm;rw[aq j]at k;have O:∀c<3,o9 s w c=0:=λc h=>AY (Z.symm.trans j) c ak ak;clear cC cF j;have ay:=ry (cU s w) 3;have B:∀c,c<3->(AL (cU s w) 3)[c]?=some (cU s w c):=λc h=>by simp[AL,h]
 obtain⟨FX,ax⟩:=aN (AL (cU s w) 3);simp only[<-ax]at ay B;obtain⟨R,hR⟩:=aN (rY s w 3 0 s.bf []);simp only[<-hR]at k |-;simp only[go_sem,seval,<-ax,aL,ay];refine aF.sK (S:=bu×List aU) 3 [1,2,4,8,11,12,19,81,82] [48,80,144,192,1264] (λi _=>[(5,.nil),(6,.nil),(7,.I 0),(83,.I i),(20,.ref 2112)])
  (λ_ x=>[(320,.box [.I s.now,.I s.day,.I s.phase,.sl 3 (s.aj.ms.map av.cells),.sl 12 (s.aj.ns.map aE.cells),.sl 4 (s.aj.xs.map aD.cells),.I s.book.next,.sl 7 (s.book.ts.map aR.cells),.sl 4 (s.book.qs.map aB.cells),
   .I x.1.last,.sl 4 (x.1.bs.map bU.cells),.sl 3 (pl s.ps),.sl 4 (s.calls.map aI.cells),.sl 5 (s.aW.map aY.cells),.sl 7 (s.aT.map bX.cells)]),(2112,.own 3 (x.2.map aU.cells))])
  (λi x=>rY s w (3-i) i x.1 x.2=R/\x.1.bs.length<2^28/\x.2.length<=i) (s.bf,[]) ⟨hR.symm,a0,fS _⟩ ?_ ?_ ?_
 ·exact kG
 ·intro c x hc z J j;obtain⟨L,p⟩:=x;obtain⟨j,D,al⟩:=j;dsimp only at j D al |-;have z:decide ((c:Int)<3)=true:=z;obtain⟨m,hm⟩:∃m,3-c=m+1:=⟨3-c-1,by omega⟩
  have H:3-(c+1)=m:=ak
  rw[hm]at j;simp only[rY]at j;have aJ:c<FX.length:=ak
  have V:=br (c:=dM.cells) FX aJ;have aO:FX[c]=cU s w c:=by
   have:=B c hc;rw[fj aJ]at this;exact Option.some.inj this
  rw[aO]at V;have a1:(c:Int)<(FX.length:Int):=ak
  have F:=O c hc;unfold o9 at F;have G:jI s w c (aQ s w c)=0:=by
   split at F
   ·assumption
   ·exact F
  rw[aq G]at F;obtain⟨k1,k2,k3,k4,k5,k6⟩:=B1 G F;obtain⟨-,j2,j3,-,-⟩:=Oq G;have ef:jL c (eT s w c (aQ s w c)) (fC s w c (aQ s w c))=cU s w c:=rfl;rw[ef]at k2 k3 k4 k5 k6;have v:=cX (aQ s w c) (cU s w c) (kF s w c (aQ s w c)) (eP ⟨3,w,c⟩ s.bf.bs) (by rw[k2];exact j3) j2 k3 (by rw[k2];exact k4) (by rw[k2]) k5 k6;rw[k2,<-DU G]at v;have a9:(gN s w c).1.length<=306:=by
   rw[DU G];unfold jJ;split
   ·split
    ·split
     ·exact vN _
     ·simp
    ·simp
   ·simp
  have C:=cP L (nextId L) (gN s w c).1 D ak;simp only[nextId]at C;have o:(fL L (gN s w c).1 (gN s w c).2.2).1.bs.length<2^28:=by
   unfold fL;split
   ·exact Nat.lt_of_le_of_lt Bk.1 (by decide)
   ·exact D
  obtain⟨g,hg⟩:=aN ((gN s w c).1);obtain⟨n,hn⟩:=aN ((gN s w c).2.1);obtain⟨e,he⟩:=aN ((gN s w c).2.2);simp only[<-hg,<-hn,<-he]at v C o j a9;obtain⟨fl,Q⟩:=aN (cU s w c);rw[<-Q]at V v k2;simp only[dM.cells]at V v;rw[k2]at V v;obtain⟨gn,U⟩:∃gn:Nat->Int,gn=aQ s w:=⟨_,rfl⟩
  rw[<-U]at v |-;simp only[bu.cells]at C;clear cX cP hg hn he B F G O t Q k1 k2 k3 k4 k5 k6 j2 j3 ef U aO;rcases(by omega:c=0\/c=1\/c=2)with rfl|rfl|rfl;all_goals
   refine sm (a2 z V) ?_;refine sc aS v ?_;by_cases q1:e=0
   case neg =>
    have d:(e==0)=false:=su q1;have A:fL L g e=(L,e):=by simp[fL,q1]
    rw[A]at j;dsimp only at j;rw[au q1]at j;rw[k,<-j];simp only[au q1];refine sm (a2 gr d) ?_
    and_intros<;>first|exact .dq|omega|skip
    all_goals simp[af.zero,pl]
   rw[q1]at j o |-
   by_cases Y:g=[]
   ·have A:fL L g 0=(L,0):=by simp[fL,Y]
    rw[A]at j o;dsimp only at j o;rw[aq rfl]at j;rw[Y];simp only[go_sem,seval,map_nil,length_nil];try(with_reducible and_intros)<;>first|exact .dq|omega|skip
    by_cases q3:n=0
    ·simp only[nF,q3,beq_self_eq_true,if_true,append_nil]at j;rw[q3];refine sm (a2 gr J) ?_
     and_intros<;>first|exact .dq|omega|skip
     refine ah.jT (L,p) hc ⟨by rw[H];exact j,o,by dsimp only;omega⟩ ?_;refine s0 ?_;all_goals try simp
     all_goals exact gO ak ak
    ·have d:(n==0)=false:=su q3;simp only[nF,d,iM,if_false]at j;refine sm (a3 gr d J) ?_
     and_intros<;>first|exact .dq|omega|skip
     refine ah.jT (L,p++[⟨w,_,n⟩]) hc ⟨by rw[H];exact j,o,by dsimp only;rw[cR,length_singleton];omega⟩ ?_;refine s0 ?_;all_goals try simp
     all_goals exact gO ak ak
   have ba:decide ((0:Int)<(g.length:Int))=true:=by
    have:g.length≠0:=λh=>Y (eq_nil_of_length_eq_zero h);simp;omega
   have A:fL L g 0=(iQ L (nextId L) g,eK L (nextId L) g):=by simp[fL,Y]
   simp only[nextId]at A;obtain⟨M,hM⟩:=aN (iQ L (IntKind.wrap .i64 (L.last+1)) g);obtain⟨e2,aM⟩:=aN (eK L (IntKind.wrap .i64 (L.last+1)) g);rw[<-hM,<-aM]at A C;rw[A]at j o;dsimp only at j o;refine sm ba ?_;try(with_reducible and_intros)<;>first|exact .dq|omega|skip
   refine aG.bC C ?_;clear C hM aM v;by_cases q4:e2=0
   case neg =>
    have d:(e2==0)=false:=su q4;rw[au q4]at j;rw[k,<-j];simp only[au q4];refine sm (a2 gr d) ?_
    and_intros<;>first|exact .dq|omega|skip
    all_goals simp[af.zero,pl]
   rw[q4]at j |-;rw[aq rfl]at j;refine s0 ?_;try(with_reducible and_intros)<;>first|exact .dq|omega|skip
   by_cases q3:n=0
   ·simp only[nF,q3,beq_self_eq_true,if_true,append_nil]at j;rw[q3];refine sm (a2 gr J) ?_
    and_intros<;>first|exact .dq|omega|skip
    refine ah.jT (M,p) hc ⟨by rw[H];exact j,o,by dsimp only;omega⟩ ?_;refine s0 ?_;all_goals try simp
    all_goals exact gO ak ak
   ·have d:(n==0)=false:=su q3;simp only[nF,d,iM,if_false]at j;refine sm (a3 gr d J) ?_
    and_intros<;>first|exact .dq|omega|skip
    refine ah.jT (M,p++[⟨w,_,n⟩]) hc ⟨by rw[H];exact j,o,by dsimp only;rw[cR,length_singleton];omega⟩ ?_;refine s0 ?_;all_goals try simp
    all_goals exact gO ak ak
 rintro⟨L,p⟩ hdx ⟨j,D,al⟩;have j:(L,p,(0:Int))=R:=j;subst j;dsimp only at k D al |-
 have ac:PB.small:=by
  rw[az];have hf:s.book.fk:=⟨K.book,hq,am,λp hp=>by have:=iJ.1 ((dn.1 hr.book).ok p hp);exact⟨this.2.2.1,this.2.2.2.1⟩⟩
  have hb:=(vX (s:=s) (w:=w) 8 0 hf).small;unfold mF;split
  ·refine⟨hb.1,?_⟩;have:(lZ w (kf s w 8 0 s.book).1.qs).length<=1*(kf s w 8 0 s.book).1.qs.length:=gH (λp=>by split<;>simp) _;have:=hb.2;show(lZ w (kf s w 8 0 s.book).1.qs).length<_;omega
  ·exact⟨by simp,by simp⟩
 have aa:(kU s.aj w 3).jX:=by
  unfold kU;split
  ·have:=K.aj;refine⟨?_,this.2.1,this.2.2⟩;show(zu av.no w (av.put 3) s.aj.ms).length<_;exact Nat.lt_of_le_of_lt (Q7 _ _ _ _) this.1
  ·exact⟨by simp[aA.none],by simp[aA.none],by simp[aA.none]⟩
 have cW:=B5 { s with aj:=kU s.aj w 3,book:=PB,bf:=L } w ⟨aa,ac,Nat.lt_trans D (by decide),K.ps,K.calls,K.aW,K.aT,K.rs⟩ bc;rw[k];clear k cX cP B O a1 Z hR aa ac;obtain⟨PU,aa⟩:=aN (kU s.aj w 3);rw[<-aa]at t cW |-;simp only[af.cells]at cW;simp only[if_true];refine sc hdx t ?_;refine aG.bC cW ?_;exact jq
def YF(s:af)(w:Int)(h:s.small)(f:s.aj.ms.length<2^27)(g:s.book.qs.length<2^20)(d:∀p∈s.book.qs,p.fB)(b:s.aW.length<2^20)(c:s.bf.fk)(a:s.bf.bs.length<2^28)(e:∀x∈s.aT,ug x) :
  Sq 7 [] [.agg s.cells,.I w] [] (.bI [.agg (lN s w).cells,.sl 8 ((CB s w).map dM.cells),.sl 3 ((CA s w).map aU.cells),.I (rX s w)]):=by
 refine Spec.frozen (abh s w h f g d b c a e) [0,1] rfl ?_;intro r;rcases r with _| _|r<;>rfl
structure Sw(s:af):Prop where
 fk:s.fk
 sm:∀x∈s.aT,ug x
def YW(l:List bG):Sw (K1 l):=⟨XT l,U5 l⟩
def Sw.small{s:af}(h:Sw s):s.small:=h.fk.good.small
def Sw.right{s:af}(h:Sw s):s.right:=h.fk.right
def Sw.fB{s:af}(h:Sw s):s.fB:=h.fk.good.fB
def abi{s:af}{w:Int}(h:Sw s)(a:rX s w=0):Sw (lN s w):=by
 have e:(lN s w).aT=s.aT:=by unfold lN;rw[aq a]
 exact⟨⟨Lm a,YE h.fk.last a,by rw[e];exact h.fk.fit⟩,by rw[e];exact h.sm⟩
def Sf{s:af}(h:Sw s):Sw { s with aW:=[] }:=
 ⟨⟨⟨h.right.N0,h.right.aj,h.right.book,h.right.bf,h.right.ps,h.right.calls,h.right.known,by simp,(λb a=>by cases a),h.right.aT⟩,h.fk.last,h.fk.fit⟩,h.sm⟩
theorem ajS{s:af}(h:Sw s)(w:Int):Sq 7 [] [.agg s.cells,.int .i64 w] [] (.bI [.agg (lN s w).cells,.sl 8 ((CB s w).map dM.cells),.sl 3 ((CA s w).map aU.cells),.int .i64 (rX s w)]):=
 have a:=h.right.lens;have b:=h.fB
 YF s w h.small (by have:=a.ms;omega) (by have:=a.qs;omega) b.qs (by have:=a.aW;omega) ⟨by have:=a.bs;omega,b.bs,b.last⟩ (by have:=a.bs;omega) h.sm
def abN(t p:Int)(c:0<=t/\t<=1099511627776)(b:0<=p/\p<=2):Sw (Jn t p):=by
 refine⟨⟨gX.1 ?_,by show(0:Int)<=1099511627776;decide,λx a=>by cases a⟩,λx a=>by cases a⟩;unfold bM;rw[show rR (Jn t p)=true by simp[rR,within,Jn,c.1,c.2,b.1,b.2]];rfl
def Ra:Sq 6 [] [] [] (.bool true):=by
 have a:=ajS (abN 0 0 (by decide) (by decide)) 1;rw[show lN (Jn 0 0) 1=.zero by kernel_rfl,show CB (Jn 0 0) 1=[]by kernel_rfl,show CA (Jn 0 0) 1=[]by kernel_rfl,show rX (Jn 0 0) 1=10 by kernel_rfl]at a;have b:=rS (Jn 0 0) (Wk _ _);rw[show bM (Jn 0 0)=true by kernel_rfl,aq rfl]at b;simp only[af.cells,af.zero,Jn,map_nil,pl]at a b;replace a:=Spec.TL a (ds':=[.agg [.I 0,.I 0,.I 0,.nil,.nil,.nil,.I 0,.nil,.nil,.I 0,.nil,.nil,.nil,.nil,.nil],.I 1]) (by simp[mB,mg]);replace b:=Spec.TL b (ds':=[.agg [.I 0,.I 0,.I 0,.nil,.nil,.nil,.I 0,.nil,.nil,.I 0,.nil,.nil,.nil,.nil,.nil]]) (by simp[mB,mg]);refine bp 19 0 [.tmp 0] mixed func6 ?_;refine sc aS a ?_;exact sZ aS b
theorem Ga{A:Type}{q:A->Bool}{f:A->Int}:∀{xs:List A},-(tot xs λx=>max (f x) (-(f x)))<=ay (pick q f xs)/\ay (pick q f xs)<=tot xs λx=>max (f x) (-(f x))
 | []=>by simp[pick,ay,tot]
 |x::r=>by
  rw[mW,fu];have:=Ga (q:=q) (f:=f) (xs:=r);split<;>omega
def Uw{b:aH}{g:List aB}(d:b.okB=true)(f:g.all jO=true)(e:xK g=true)(h:∀v m:Int,(1<=v/\v<=16)->(1<=m/\m<=8)->(-1099511627776<=zW b g v m/\zW b g v m<=1099511627776)/\bB (Jj b g v m)=true):jA b g=0:=by
 unfold jA;rw[aq d,aq f,aq e,aq];refine bL.2 λi a=>bL.2 λj c=>?_;have a:=mem_range.1 a;have c:=mem_range.1 c;obtain⟨k,l⟩:=h ((i:Int)+1) ((j:Int)+1) ak ak;unfold uT;rw[l,aP.2 ak];simp only[within,cm,bQ,bz];exact k
structure Vu(F:List cj)(K:Int):Prop where
 ok:∀f∈F,(1<=f.src/\f.src<=16)/\0<=f.aO/\0<=f.aL/\f.aL<=1073741824
 sum:qy F<=K
 k:0<=K/\K<=1048576
def Vv{f:cj}{F:List cj}{K:Int}(h:Vu (f::F) K):Vu F (K-f.aO)/\f.aO<=K:=by
 have h1:=h.ok f sT;have h2:=h.sum;have h3:0<=qy F:=by
  unfold qy;exact jW λx a=>by
   obtain⟨y,b,rfl⟩:=mem_map.1 a;exact(h.ok y (by simp[b])).2.1
 have h4:qy (f::F)=f.aO+qy F:=rfl;have:=h.k;exact⟨⟨λx a=>h.ok x (by simp[a]),by omega,by omega⟩,by omega⟩
theorem Le{w n:Int}{long:Bool}(s:1<=w/\w<=16)(r:1<=n/\n<=8):∀{F:List cj} {K:Int},Vu F K->iC F=0/\(F.flatMap (lM w n long)).all jO=true/\(∀m:Int,ay (pick (λp:aB=>p.inst==m) aB.aO (F.flatMap (lM w n long)))=0)/\(tot (F.flatMap (lM w n long)) (λp=>max p.aO (-p.aO))<=2*K)/\(tot (F.flatMap (lM w n long)) (λp=>max p.cost (-p.cost))<=2*K*1073741824)/\∀p∈F.flatMap (lM w n long),p.inst=n
 | [],K,h=>by
  have:=h.k;refine⟨rfl,rfl,λ_=>rfl,?_,?_,λp g=>by cases g⟩
  ·show(0:Int)<=_;omega
  ·show(0:Int)<=_;omega
 |f::F,K,h=>by
  obtain⟨I,t2⟩:=Vv h;obtain⟨j,D,E,i4,i5,G⟩:=Le (w:=w) (n:=n) (long:=long) s r I;obtain⟨u,q,y,z⟩:=h.ok f sT;have hk:=h.k;have hm:=fE (a:=f.aO) (b:=f.aL) (A:=1048576) (B:=1073741824) ak ak;have hm0:=Int.mul_nonneg q y;have hm1:f.aO*f.aL<=f.aO*1073741824:=Int.mul_le_mul_of_nonneg_left z q;have i:∀x:Int,max (zk long x) (-(zk long x))=max x (-x)/\(bB (zk long x)=bB x)/\bB (-(zk long x))=bB x:=λx=>by
   unfold zk bB;split
   ·exact⟨rfl,rfl,by rw[nJ];simp only[bQ,bz];omega⟩
   ·refine⟨by omega,?_,?_⟩<;>rw[nJ]<;>simp only[bQ,bz]<;>omega
  have e:(f::F).flatMap (lM w n long)=⟨f.src,n,zk long f.aO,zk long (f.aO*f.aL)⟩::⟨w,n,-zk long f.aO,-zk long (f.aO*f.aL)⟩::F.flatMap (lM w n long):=rfl;have d:∀v:Int,1<=v/\v<=16->qB v n=true:=λv C=>by
   simp only[qB,within,bQ,bz];exact⟨C,r⟩
  have H:bB f.aO=true:=aP.2 ak;have t:bB (f.aO*f.aL)=true:=aP.2 ak;rw[e];refine⟨?_,?_,λm=>?_,?_,?_,λp g=>?_⟩
  ·have o:F.all qa=true/\(F.all λf=>bB (f.aO*f.aL))=true:=by
    unfold iC at j;split at j
    ·rename_i l;split at j
     ·rename_i a2;exact⟨l,a2⟩
     ·cases j
    ·cases j
   unfold iC;rw[all_cons,all_cons,o.1,o.2,t,aq,aq (show(true&&true)=true from rfl)];simp only[qa,within,Bool.and_true,bQ,bz];omega
  ·rw[all_cons,all_cons,D];simp only[jO,d _ u,d _ s,(i f.aO).2.1,(i f.aO).2.2,(i (f.aO*f.aL)).2.1,(i (f.aO*f.aL)).2.2,H,t,Bool.and_self]
  ·rw[mW,mW,E m];by_cases c:(n==m)=true
   ·rw[aq c,aq c];show zk long f.aO+(-zk long f.aO+0)=0;omega
   ·rw[au c,au c];rfl
  ·rw[fu,fu];have l:=(i f.aO).1;dsimp only;rw[Int.neg_neg];omega
  ·rw[fu,fu];have l:=(i (f.aO*f.aL)).1;dsimp only;rw[Int.neg_neg];omega
  ·rcases mem_cons.1 g with rfl|g
   ·rfl
   rcases mem_cons.1 g with rfl|g
   ·rfl
   ·exact G p g
def Of(b:aH)(n Q C:Int):Prop:=∀v:Int,1<=v/\v<=16->(-Q<=(posOf v n b.qs).aO/\(posOf v n b.qs).aO<=Q) /\ -C<=(posOf v n b.qs).cost/\(posOf v n b.qs).cost<=C
def IP{b:aH}{w n:Int}{long:Bool}{F:List cj}{K Q C:Int}(T:1<=w/\w<=16)(A:1<=n/\n<=8)(z:b.okB=true)(y:Vu F K)(u:Of b n Q C)(hQ:0<=Q/\Q<=1073741824)(hC:0<=C/\C<=1125899906842624):(jz b w n long F).2=0/\Of (jz b w n long F).1 n (Q+2*K) (C+2*K*1073741824)/\∀v m:Int,(1<=v/\v<=16)->(1<=m/\m<=8)->m≠n->posOf v m (jz b w n long F).1.qs=posOf v m b.qs:=by
 obtain⟨t,J,L,f4,f5,M⟩:=Le (w:=w) (n:=n) (long:=long) T A y;have j:=y.k;have H:kI w n long F=F.flatMap (lM w n long):=by unfold kI;rw[aq t]
 have c:∀v m:Int,zW b (F.flatMap (lM w n long)) v m=(posOf v m b.qs).aO+ay (pick (bY v m) aB.aO (F.flatMap (lM w n long)))/\Jj b (F.flatMap (lM w n long)) v m=(posOf v m b.qs).cost+ay (pick (bY v m) aB.cost (F.flatMap (lM w n long))):=λv m=>⟨rfl,rfl⟩
 have off:∀v m:Int,m≠n->∀f:aB->Int,ay (pick (bY v m) f (F.flatMap (lM w n long)))=0:=λv m l f=>by
  have key:∀{g:List aB},(∀p∈g,p.inst=n)->ay (pick (bY v m) f g)=0:=by
   intro g;induction g with
   |nil=>intro _;rfl
   |cons x r ih =>
    intro h;rw[mW,ih λp o=>h p (by simp[o]),au]
    ·rfl
    ·intro e;have:=(lH.1 e).2;have:=h x sT;omega
  exact key M
 have D:=λv m=>Ga (q:=bY v m) (f:=aB.aO) (xs:=F.flatMap (lM w n long));have E:=λv m=>Ga (q:=bY v m) (f:=aB.cost) (xs:=F.flatMap (lM w n long));have s:jA b (F.flatMap (lM w n long))=0:=by
  refine Uw z J (bL.2 λi _=>by rw[L];rfl) λv m d l=>?_;have S:=Lt z v m;by_cases a:m=n
  ·subst a;have N:=u v d;have O:=D v m;have R:=E v m;rw[(c v m).1,(c v m).2];exact⟨by omega,aP.2 ak⟩
  ·rw[(c v m).1,(c v m).2,off v m a,off v m a,Int.add_zero,Int.add_zero];exact S
 have I:jz b w n long F=(oN b (F.flatMap (lM w n long)),0):=by
  unfold jz;rw[aq t,H,s]
 rw[I];refine⟨rfl,λv d=>?_,λv m d l a=>?_⟩
 ·show _/\_;rw[(oO s).2];dsimp only;rw[Lr d A];dsimp only;have N:=u v d;have O:=D v n;have R:=E v n;rw[(c v n).1,(c v n).2];omega
 ·show posOf v m (oN b (F.flatMap (lM w n long))).qs=_;rw[(oO s).2];dsimp only;rw[Lr d l,(c v m).1,(c v m).2,off v m a,off v m a,Int.add_zero,Int.add_zero];by_cases B:∃p∈b.qs,p.who=v/\p.inst=m
  ·have j:=ot B;generalize posOf v m b.qs=P at j |-;obtain⟨G,a2,a3,a4⟩:=P;obtain⟨-,U,V⟩:=j;rw[show G=v from U,show a2=m from V]
  ·rw[gJ λp o j=>B ⟨p,o,j⟩]
theorem OM:∀(l:List aY)(k:Int),0<=k->(∀b∈l,jG b=true)->0<=(jy k l).2/\∀f∈(jy k l).1,0<=f.aO/\∃b∈l,f.src=b.src/\f.aL=b.aL
 | [],k,hk,_=>⟨hk,λf a=>by cases a⟩
 |b::r,k,hk,h=>by
  simp only[jy];split
  ·rename_i h0;have c:=h b sT;simp only[jG,within,bQ,bz]at c;obtain⟨g,i⟩:=OM r (k-min k b.aO) ak (λx d=>h x (by simp[d]));refine⟨g,λf a=>?_⟩;rcases mem_cons.1 a with rfl|a
   ·exact⟨by dsimp only;omega,b,by simp,rfl,rfl⟩
   ·obtain⟨j,y,e,m⟩:=i f a;exact⟨j,y,by simp[e],m⟩
  ·exact⟨hk,λf a=>by cases a⟩
theorem Ja{A:Type}{L:List A}{F:A->Int}(h:∀a∈L,0<=F a){x:A}(c:x∈L):F x<=tot L F:=by
 induction L with
 |nil=>cases c
 |cons y r ih =>
  rw[fu];have h1:=h y sT;have h2:0<=tot r F:=by
   have:∀{l:List A},(∀a∈l,0<=F a)->0<=tot l F:=by
    intro l;induction l with
    |nil=>intro _;show(0:Int)<=0;decide
    |cons z t ih2 =>
     intro d;rw[fu];have:=d z sT;have:=ih2 λa b=>d a (by simp[b]);omega
   exact this λa b=>h a (by simp[b])
  rcases mem_cons.1 c with rfl|c
  ·omega
  ·have:=ih (λa b=>h a (by simp[b])) c;omega
theorem P8(n:Int):∀l:List aB,ay (dP n l)=tot l λp=>if p.inst=n then p.aO else 0
 | []=>rfl
 |p::r=>by rw[n8,P8 n r,fu]
theorem TT(q n:Int):∀l:List aB,ay (iU q n l)=tot l λp=>if oH q n p=true then max p.aO (-p.aO)else 0
 | []=>rfl
 |p::r=>by
  have a:=TT q n r;unfold iU at a |-;rw[mW,a,fu]
def Zl{b:aH}{w n:Int}(m:b.okB=true)(l:1<=n/\n<=8)(f:(posOf w n b.qs).aO≠0):max (posOf w n b.qs).aO (-(posOf w n b.qs).aO)<=ay (iU (posOf w n b.qs).aO n b.qs):=by
 have r:=dn.1 m;have e:=r.level n l.1 l.2;rw[P8]at e;rw[TT];have s:∃p∈b.qs,p.who=w/\p.inst=n:=by
  refine Decidable.byContradiction λh=>f ?_;rw[gJ λp q o=>h ⟨p,q,o⟩]
 obtain⟨i,m2,j⟩:=ot s;obtain⟨x,g⟩:=aN (posOf w n b.qs);rw[<-g]at f i j |-;have a:∀p:aB,oH x.aO n p=true↔p.inst=n/\((0<x.aO/\p.aO<0)\/(x.aO<0/\0<p.aO)):=λp=>Cz;rcases Int.lt_or_lt_of_ne f with hneg|hpos
 ·have d:=rz b.qs (λp=>if oH x.aO n p=true then max p.aO (-p.aO)else 0) (λp=>-1*if p.inst=n then p.aO else 0);rw[F4,e]at d
  have c:=Ja (L:=b.qs) (F:=λp=>(if oH x.aO n p=true then max p.aO (-p.aO)else 0) + -1*if p.inst=n then p.aO else 0) (λp _=>by
   try dsimp only
   by_cases c1:p.inst=n
   ·by_cases c2:0<p.aO
    ·rw[aq ((a p).2 ⟨c1,.inr ⟨hneg,c2⟩⟩),aq c1];omega
    ·rw[au (λk=>by have:=((a p).1 k).2;omega),aq c1];omega
   ·rw[au (λk=>c1 ((a p).1 k).1),au c1];omega) i
  try dsimp only at c
  rw[au (λk=>by have:=((a x).1 k).2;omega),aq j]at c;omega
 ·have d:=rz b.qs (λp=>if oH x.aO n p=true then max p.aO (-p.aO)else 0) (λp=>if p.inst=n then p.aO else 0);rw[e]at d
  have c:=Ja (L:=b.qs) (F:=λp=>(if oH x.aO n p=true then max p.aO (-p.aO)else 0)+if p.inst=n then p.aO else 0) (λp _=>by
   try dsimp only
   by_cases c1:p.inst=n
   ·by_cases c2:p.aO<0
    ·rw[aq ((a p).2 ⟨c1,.inl ⟨hpos,c2⟩⟩),aq c1];omega
    ·rw[au (λk=>by have:=((a p).1 k).2;omega),aq c1];omega
   ·rw[au (λk=>c1 ((a p).1 k).1),au c1];omega) i
  try dsimp only at c
  rw[au (λk=>by have:=((a x).1 k).2;omega),aq j]at c;omega
def SU{b:aH}{w n k:Int}(r:b.okB=true)(hk:0<k)(s:iR b w n k=0):qy (jt b w n k)=k/\∀f∈jt b w n k,0<=f.aO/\1<=f.src/\f.src<=16:=by
 obtain⟨-,t2,t3⟩:=QW s;have m:=dn.1 r;have t:jt b w n k=ES (sP (posOf w n b.qs).aO n b.qs) (bA k (iU (posOf w n b.qs).aO n b.qs)):=by unfold jt;rw[aq s]
 rw[t];obtain⟨ws,h⟩:∃l,l=sP (posOf w n b.qs).aO n b.qs:=⟨_,rfl⟩
 obtain⟨ns,a⟩:∃l,l=iU (posOf w n b.qs).aO n b.qs:=⟨_,rfl⟩
 have hlen:ns.length=ws.length:=by rw[h,a];exact vW _ _ _ _
 have c:∀x∈ns,0<x/\x<=1099511627776:=λx j=>by
  rw[a]at j;obtain⟨y,u,p,rfl⟩:=jl j;have h1:=Cz.1 p;have h2:=iJ.1 (m.ok y u);omega
 rw[<-a]at t3;rw[<-h,<-a];have hnl:ns.length<=128:=by
  rw[a];exact Nat.le_trans (bN _ _ _) (wK r)
 have o:gZ k ns=0:=by
  unfold gZ;rw[aq,aq,au ak,au ak]
  ·exact bL.2 λx j=>by have:=c x j;simp only[gD,gv];omega
  ·simp only[bQ,gD,gv];refine⟨⟨by omega,by rw[aP];omega⟩,bL.2 λx j=>by have:=c x j;rw[aP];omega⟩
 obtain⟨s1,s2⟩:=xB o ak;have hsl:=jV k ns;have q:=I9 (ws:=ws) s2 _ (fS _);rw[eu,s1]at q;refine⟨q,λf g=>?_⟩;have d:=QX ak g;rw[h]at d;obtain⟨z,v,-,e⟩:=jl d;have hz2:=iJ.1 (m.ok z v);obtain⟨i,_,g⟩:=jM.1 g;unfold oD at g;split at g
 ·rename_i h0;obtain rfl:=gV.1 g;dsimp only at e |-;exact⟨by omega,by omega,by omega⟩
 ·cases g
def VS{r:aA}(h:r.okB=true){n:Int}(a:bJ r n=true):0<=cy (aZ r n)/\cy (aZ r n)<=1073741824:=by
 have b:=(dQ.1 h).2.1.1 _ (qA a).1;simp only[aE.ok,within,bQ,bz]at b;unfold cy;split<;>omega
def M3{s:af}{w n:Int}{b:aH}(h:s.right)(T:∀x∈s.aj.ns,cB x=true)(J:1<=w/\w<=16)(I:1<=n/\n<=8)(N:Cr s.aj w b s.book.ts s.ps s.calls)(hs:bD s.aj w=2)(M:Of b n 65536 17592186044416) :
  (iH s w b n).2=0/\Of (iH s w b n).1 n 327680 299067162755072/\∀v m:Int,(1<=v/\v<=16)->(1<=m/\m<=8)->m≠n->posOf v m (iH s w b n).1.qs=posOf v m b.qs:=by
 unfold iH;by_cases g:((posOf w n b.qs).aO==0)=true
 ·rw[aq g];refine⟨rfl,λv i=>?_,λ_ _ _ _ _=>rfl⟩;have:=M v i;show(_<=(posOf v n b.qs).aO/\(posOf v n b.qs).aO<=_)/\_<=(posOf v n b.qs).cost/\(posOf v n b.qs).cost<=_;omega
 rw[au g];have g:(posOf w n b.qs).aO≠0:=su g;have W:=(M w J).1;have a:∃p∈b.qs,p.who=w/\p.inst=n:=by
  refine Decidable.byContradiction λh=>g ?_;rw[gJ λp R hk=>h ⟨p,R,hk⟩]
 have Q:bJ s.aj n=true:=by
  obtain⟨p,R,-,e⟩:=a;rw[<-e];exact(N.known.qs p R).2
 have S:=T _ (qA Q).1;have C:=VS h.aj Q;obtain⟨q,D⟩:=aN ((posOf w n b.qs).aO);have E:=D;rw[<-D]at g W |-
 have P:∀x∈eG s w n s.aW,x∈s.aW:=λx a=>by
  obtain⟨y,c,a⟩:=mem_flatMap.1 a;split at a
  ·rw[gV.1 a];exact c
  ·cases a
 have l:∀x∈eG s w n s.aW,jG x=true/\(1<=x.src/\x.src<=16)/\1<=x.aL/\x.aL<=1073741824:=λx a=>by
  have:=h.aW x (P x a);simp only[lS,within,bQ,bz]at this;refine⟨?_,by omega,by omega⟩;simp only[jG,within,bQ,bz];omega
 have o:j5 q (eG s w n s.aW)=0:=by
  unfold j5;rw[aq];simp only[within,bQ,bz];exact⟨by omega,bL.2 λx a=>(l x a).1⟩
 obtain⟨f1,Y⟩:=ON o
 have t:=OM (vc (decide (0<q)) (eG s w n s.aW)) (max q (-q)) ak (λx a=>by
  rcases Cy _ _ _ a with a|a
  ·cases a
  ·exact(l x a).1)
 have eR:iB q (eG s w n s.aW)=jy (max q (-q)) (vc (decide (0<q)) (eG s w n s.aW)):=by unfold iB;rw[aq o]
 rw[<-eR]at t;unfold lB;rw[aq S,aq o];obtain⟨F,hF⟩:=aN (iB q (eG s w n s.aW));rw[<-hF]at f1 Y t |-
 have A:Vu F.1 65536:=⟨λf o=>by
  obtain⟨L,y,c,Z,g3⟩:=t.2 f o;rcases Cy _ _ _ c with c|c
  ·cases c
  have:=l y c
  exact⟨by omega,L,by omega,by omega⟩,by omega,by omega⟩
 obtain⟨K,a2,a3⟩:=IP (long:=decide (0<q)) J I N.ok A M ak ak;by_cases d:F.2=0
 ·rw[au (λk=>k.2 d)];exact⟨K,λv i=>by have:=a2 v i;omega,a3⟩
 rw[aq ⟨K,d⟩];have G:∀x∈F.1,x.src≠w/\(bD s.aj x.src=1\/bD s.aj x.src=2):=λx a=>by
  obtain⟨y,c,e⟩:=Y x a;obtain⟨z,_,c⟩:=mem_flatMap.1 c;split at c
  ·rename_i g;obtain rfl:=gV.1 c;simp only[AQ,bQ,ff]at g;rw[e];refine⟨λh=>?_,.inl g.2⟩;rw[h,hs]at g;omega
  ·cases c
 obtain⟨c1,c2,-⟩:=CV (long:=decide (0<q)) J I N hs Q G K;obtain⟨j,O⟩:=aN ((jz b w n (decide (0<q)) F.1).1);rw[<-O]at a2 a3 c1 c2 |-
 have X:∀k:Int,zk (decide (0<q)) k=if 0<q then k else -k:=λk=>by
  unfold zk;by_cases h0:0<q<;>simp[h0]
 rw[X,<-E]at c2;have U:max (posOf w n j.qs).aO (-(posOf w n j.qs).aO)=F.2:=by
  rw[c2];split<;>omega
 have V:(posOf w n j.qs).aO≠0:=ak
 have u:=Zl c1.ok I V;rw[U]at u;have hrp:=t.1;have hfq0:0<=qy F.1:=by
  unfold qy;exact jW λx a=>by
   obtain⟨y,c,rfl⟩:=mem_map.1 a;exact(t.2 y c).1
 have H:iR j w n F.2=0:=by
  unfold iR;rw[aq c1.ok,aq (by simp only[within,bQ,bz];omega),au ak]
 obtain⟨t1,t2⟩:=SU c1.ok ak H;unfold x5;rw[aq H]
 have r:Vu ((jt j w n F.2).map (dw (cy (aZ s.aj n)))) 65536:=⟨λf o=>by
  obtain⟨y,c,rfl⟩:=mem_map.1 o;have:=t2 y c;exact⟨this.2,this.1,C⟩,by
  have:qy ((jt j w n F.2).map (dw (cy (aZ s.aj n))))=qy (jt j w n F.2):=by
   unfold qy;rw[map_map];rfl
  rw[this,t1]
  omega,by omega⟩
 obtain⟨L,Z,g3⟩:=IP (long:=decide (0<q)) J I c1.ok r a2 ak ak;exact⟨L,λv i=>by have:=Z v i;omega,λv m i hm B=>by rw[g3 v m i hm B,a3 v m i hm B]⟩
theorem Lq{s:af}{w:Int}(h:s.right)(f:∀x∈s.aj.ns,cB x=true)(l:1<=w/\w<=16)(j:bD s.aj w=2):∀(k i:Nat) {b:aH},i+k=8->Cr s.aj w b s.book.ts s.ps s.calls->(∀n:Int,(i:Int)<n->n<=8->Of b n 65536 17592186044416)->(∀n:Int,1<=n->n<=(i:Int)->Of b n 327680 299067162755072) ->
  (kf s w k i b).2=0/\Cr s.aj w (kf s w k i b).1 s.book.ts s.ps s.calls/\∀n:Int,1<=n->n<=8->Of (kf s w k i b).1 n 327680 299067162755072
 | 0,i,b,hi,hb,_,h2=>⟨rfl,hb,λn g h8=>h2 n g ak⟩
 |k+1,i,b,hi,hb,g,h2=>by
  obtain⟨m,q,o⟩:=M3 h f l (n:=(i:Int)+1) ak hb j (g _ ak ak);obtain⟨p,-,-⟩:=HX h l (n:=(i:Int)+1) ak hb j m;simp only[kf];rw[aq m];refine Lq h f l j k (i+1) ak p (λn c d v a=>?_) (λn c d v a=>?_)
  ·rw[o v n a ak ak];exact g n ak d v a
  ·by_cases e:n=(i:Int)+1
   ·rw[e];exact q v a
   ·rw[o v n a ak e];exact h2 n c ak v a
structure uj(s:af):Prop where
 pr:∀x∈s.aj.ns,cB x=true
 bs:∀b∈s.bf.bs,-18014398509481984<=b.sum/\b.sum<=18014398509481984
 qs:∀p∈s.book.qs,(-65536<=p.aO/\p.aO<=65536) /\ -17592186044416<=p.cost/\p.cost<=17592186044416
 ms:∀m∈s.aj.ms,m.need<=18014398509481984
 ps:∀p∈s.ps,p.units<=1048576
 last:s.bf.last<549755813888
def agB(p:aB)(m:Int):fY p m 0 = -(p.cost*m):=by
 unfold fY;rw[Int.zero_mul,Int.mul_zero,Int.neg_mul];omega
def Lv{s:af}{w:Int}(h:s.right)(o:uj s)(I:bD s.aj w=2):kg s w=0/\(∀d∈fU s w,-306244774661193728<=d.cu/\d.cu<=306244774661193728)/\(fU s w).length<=8:=by
 have L:=(zm h.aj (w:=w) ak).2;have z:∀n,Of s.book n 65536 17592186044416:=λn v hv=>by
  by_cases m:∃p∈s.book.qs,p.who=v/\p.inst=n
  ·have:=o.qs _ (ot m).1;exact this
  ·rw[gJ λp c C=>m ⟨p,c,C⟩];exact⟨⟨by show(-65536:Int)<=0;decide,by show(0:Int)<=65536;decide⟩,by show(-17592186044416:Int)<=0;decide,by show(0:Int)<=17592186044416;decide⟩
 obtain⟨M,E,J⟩:=Lq h o.pr L I 8 0 rfl (b:=s.book) ⟨h.book,h.known,rfl⟩ (λn _ _=>z n) (λn u F=>by omega);obtain⟨B,i⟩:=aN ((kf s w 8 0 s.book).1);rw[<-i]at E J;have f:=dn.1 E.ok;have g:∀p∈B.qs,-306244774661193728<=fY p (aZ s.aj p.inst).mult 0/\fY p (aZ s.aj p.inst).mult 0<=306244774661193728:=λp c=>by
  have k:=iJ.1 (f.ok p c);have u:=J p.inst k.2.1.1 k.2.1.2 p.who k.1;rw[tX f.pw c ⟨rfl,rfl⟩]at u;have K:=(E.known.qs p c).2;have D:=(dQ.1 h.aj).2.1.1 _ (qA K).1;simp only[aE.ok,within,bQ,bz]at D;have:=fE (a:=p.cost) (b:=(aZ s.aj p.inst).mult) (A:=299067162755072) (B:=1024) ak ak;rw[agB];omega
 have t:pU s w B.qs=true:=bL.2 λp c=>by
  have:=g p c;rw[aP.2 ak,Bool.or_true]
 have H:kg s w=0:=by
  have D:HJ s w=0:=by unfold HJ;rw[aq (gX.2 h),au ak,aq I]
  unfold kg;rw[aq D,aq M,<-i,aq t]
 have G:fU s w=mM s w B.qs:=by unfold fU;rw[aq H,<-i]
 refine⟨H,λd j=>?_,?_⟩
 ·rw[G]at j;obtain⟨p,c,j⟩:=mem_flatMap.1 j;unfold Ke at j;split at j
  ·rw[gV.1 j];exact g p c
  ·cases j
 ·rw[G];have e:∀l:List aB,(mM s w l).length=(l.filter λp=>p.who==w).length:=λl=>by
   induction l with
   |nil=>rfl
   |cons x r ih =>
    unfold mM at ih |-;rw[flatMap_cons,cR,ih,filter_cons];unfold Ke;by_cases q:(x.who==w)=true
    ·rw[aq q,aq q,length_cons,length_cons,length_nil];omega
    ·rw[au q,au q,length_nil];omega
  rw[e]
  have C:=DM ((B.qs.filter λp=>p.who==w).map aB.inst) 1 9 (by
   rw[pairwise_map];refine(f.pw.filter _).imp_of_mem λ{x y} m hy hxy=>?_;have u:=(mem_filter.1 m).2;have F:=(mem_filter.1 hy).2;simp only[ff]at u F;rw[qI]at hxy
   omega) (λx m=>by
   obtain⟨p,c,rfl⟩:=mem_map.1 m;have:=iJ.1 (f.ok p (mem_filter.1 c).1)
   omega) (by decide)
  rw[qE]at C;omega
theorem NR{K:Int}(a:0<=K):∀{l:List Int},(∀x∈l,-K<=x/\x<=K) -> -(K*l.length)<=ay l/\ay l<=K*l.length
 | [],_=>by simp[ay]
 |x::r,h=>by
  have h1:=h x sT;have h2:=NR a (l:=r) λy b=>h y (by simp[b]);simp only[ay,length_cons];push_cast;rw[Int.mul_add,Int.mul_one];omega
def MB{s:af}{w:Int}(h:s.right)(b:uj s)(k:bD s.aj w=2)(c:Nat):qg s w c=0 /\ -2449958197289549824<=aQ s w c/\aQ s w c<=2449958197289549824:=by
 obtain⟨-,f,g⟩:=Lv h b k;have j:tS (fU s w)=true:=bL.2 λd a=>by have:=f d a;exact aP.2 ak
 have i:=bN (GM w c) aU.cu (fU s w);have hb:=NR (K:=306244774661193728) (by decide) (l:=yD w c (fU s w)) (jN λd a=>f d a);have hl2:(yD w c (fU s w)).length<=8:=Nat.le_trans i g;have e:qg s w c=0:=by
  unfold qg nD;rw[aq j,aq (aP.2 ak)]
 refine⟨e,?_⟩;have:aQ s w c=ay (yD w c (fU s w)):=by
  unfold aQ qz;rw[aq (show nD w c (fU s w)=0 from e)]
 omega
theorem Cg{l:bu}(h:l.okB=true)(v c:Int):0<=eP ⟨3,v,c⟩ l.bs:=by
 have d:=(kQ.1 h).2.1.1;generalize l.bs=bs at d;induction bs with
 |nil=>show(0:Int)<=0;decide
 |cons b r ih =>
  simp only[eP];split
  ·rename_i f;have e:=uD.1 f;have:=d b sT;simp only[lR,bQ,gD,gv]at this;obtain⟨i,-,-,a⟩:=this;unfold aC.floor at a;rw[i,e]at a;have a:¬b.sum<0:=a;omega
  ·exact ih λz g=>d z (by simp[g])
theorem Hz{a:aC}{f:Nat->List aK}:∀m,ay (bZ a (pQ f m))=tot (range m) λi=>ay (bZ a (f i))
 | 0=>rfl
 |m+1=>by
  rw[ji,Hy,Hz m,range_succ,Uh];simp[tot,ay]
def Ks{k c n d:Int}{ws gs:List Int}{a:aC}(e:a∈fP)(h:oQ k c n d ws gs=0):ay (bZ a (rC k c n d ws gs))=(if(⟨6,0,c⟩:aC)=a then n else 0)+tot (range (bA n gs).length) λi=>if(⟨k,ws.getD i 0,c⟩:aC)=a then -((bA n gs).getD i 0)else 0:=by
 have f:jk (rB k c n ws (bA n gs))=0:=by
  have b:=h;unfold oQ at b;split at b
  ·split at b
   ·cases b
   ·exact b
  ·cases b
 unfold rC;rw[aq h,zK e f];unfold rB;rw[mR,Hz];refine congrArg (λz=>(if(⟨6,0,c⟩:aC)=a then n else 0)+z) (gL λi _=>?_);unfold lT;rw[mR];show(if(⟨k,ws.getD i 0,c⟩:aC)=a then -((bA n gs).getD i 0)else 0)+0=_;omega
theorem Zs{A B:Type}(L:List A)(M:List B)(F:A->B->Int):tot L (λa=>tot M (F a))=tot M λb=>tot L λa=>F a b:=by
 induction L with
 |nil=>exact(ju λ_ _=>rfl).symm
 |cons x r ih =>
  rw[fu,ih,<-rz];rfl
theorem zo:∀l:List Int,tot (range l.length) (λi=>l.getD i 0)=ay l
 | []=>rfl
 |x::r=>by
  rw[length_cons,List.range_succ_eq_map,fu];unfold tot;rw[map_map];have:=zo r;unfold tot at this;rw[ay,<-this];rfl
def HB(l:bu)(c n:Int)(ws:List Int)(v:Int):Int:=tot (range (bA n (bH l c ws)).length) λi=>if ws.getD i 0=v then(bA n (bH l c ws)).getD i 0 else 0
def Vn{l:bu}{c n:Int}{ws:List Int}{a:aC}(f:a∈fP)(h:xS l c n ws=0):ay (bZ a (tO l c n ws))=if a=⟨6,0,c⟩then n else if a.kind=3/\a.cur=c then -HB l c n ws a.who else 0:=by
 unfold xS at h;split at h
 case isFalse hne=>exact absurd h hne
 rename_i d;unfold tO;rw[aq d,Ks f h];by_cases e:a=⟨6,0,c⟩
 ·rw[aq e.symm,aq e,ju]
  ·omega
  ·intro i _;rw[au];rw[e];simp
 ·rw[au (λk=>e k.symm),au e];by_cases q:a.kind=3/\a.cur=c
  ·rw[aq q];unfold HB;have:∀L:List Nat,(0:Int)+tot L (λi=>if(⟨3,ws.getD i 0,c⟩:aC)=a then -((bA n (bH l c ws)).getD i 0)else 0) = -tot L λi=>if ws.getD i 0=a.who then(bA n (bH l c ws)).getD i 0 else 0:=λL=>by
    have e2:-tot L (λi=>if ws.getD i 0=a.who then(bA n (bH l c ws)).getD i 0 else 0)=tot L (λi=>-1*if ws.getD i 0=a.who then(bA n (bH l c ws)).getD i 0 else 0):=by rw[F4];omega
    rw[e2,Int.zero_add];refine gL λi _=>?_;obtain⟨b,a2,a3⟩:=a;have g:b=3:=q.1;have j:a3=c:=q.2;subst g;subst j;simp only[aC.mk.injEq,true_and,and_true];split<;>omega
   exact this _
  ·rw[au q,ju]
   ·omega
   ·intro i _;rw[au];intro h;exact q (by rw[<-h];exact⟨rfl,rfl⟩)
def U1{c aV a b d e f:Int}(h:jx c aV [a,b,d,e,f]=0):∀F,F=jL c aV [a,b,d,e,f]->(F.aV=aV/\0<=aV/\aV<=4611686018427387904)/\F.c0+F.c1+F.c2+F.c3+F.c4+F.rest=aV/\(0<=F.c0/\0<=F.c1/\0<=F.c2/\0<=F.c3/\0<=F.c4/\0<=F.rest)/\(F.c0<=4611686018427387904/\F.c1<=4611686018427387904/\F.c2<=4611686018427387904/\F.c3<=4611686018427387904/\F.c3<=e)/\(0<F.c3->F.c0+F.c1+F.c2=a+b+d):=by
 intro F j;obtain⟨i,g,-⟩:=Ci (GO h);have k1:=g a sT;have k2:=g b sT;have k3:=g d sT;have k4:=g e sT;have k5:=g f sT;have e0:F=⟨c,aV,min aV a,min (aV-min aV a) b,min (aV-min aV a-min (aV-min aV a) b) d,min (aV-min aV a-min (aV-min aV a) b-min (aV-min aV a-min (aV-min aV a) b) d) e,min (aV-min aV a-min (aV-min aV a) b-min (aV-min aV a-min (aV-min aV a) b) d-min (aV-min aV a-min (aV-min aV a) b-min (aV-min aV a-min (aV-min aV a) b) d) e) f,aV-min aV a-min (aV-min aV a) b-min (aV-min aV a-min (aV-min aV a) b) d-min (aV-min aV a-min (aV-min aV a) b-min (aV-min aV a-min (aV-min aV a) b) d) e-min (aV-min aV a-min (aV-min aV a) b-min (aV-min aV a-min (aV-min aV a) b) d-min (aV-min aV a-min (aV-min aV a) b-min (aV-min aV a-min (aV-min aV a) b) d) e) f⟩:=by
  rw[j,jL,aq h];rfl
 rw[e0];dsimp only;refine⟨⟨rfl,i⟩,by omega,by omega,by omega,λ_=>by omega⟩
theorem agv{A:Type}{L:List A}{F:A->Int}(h:∀a∈L,0<=F a):0<=tot L F:=by
 induction L with
 |nil=>show(0:Int)<=0;decide
 |cons x r ih =>
  rw[fu];have:=h x sT;have:=ih λa b=>h a (by simp[b]);omega
theorem NS{A:Type}{L:List A}{F G:A->Int}(h:∀a∈L,F a<=G a):tot L F<=tot L G:=by
 induction L with
 |nil=>show(0:Int)<=0;decide
 |cons x r ih =>
  rw[fu,fu];have:=h x sT;have:=ih λa b=>h a (by simp[b]);omega
def og{l:List Int}{i:Nat}(h:i<l.length):l.getD i 0∈l:=by
 rw[getD_eq_getElem?_getD,fj h];exact dS h
def aaU{s:af}(D:s.right){w c n:Int}(h:dV s.bf c (aJ s w)=0)(I:0<=n)(C:n<=ir s.bf c (aJ s w))(J:n<=4611686018427387904):(∀v,0<=HB s.bf c n (aJ s w) v/\HB s.bf c n (aJ s w) v<=n)/\tot (range 16) (λk=>if(k:Int)+1=w then 0 else HB s.bf c n (aJ s w) ((k:Int)+1))=n:=by
 obtain⟨G,k2,N⟩:=Bu h;rw[N]at C;have u:∀g∈bH s.bf c (aJ s w),0<=g/\g<=4611686018427387904:=λg u=>by
  obtain⟨v,_,rfl⟩:=mem_map.1 u;exact⟨Cg G v c,(aP.1 (mQ G _)).2⟩
 have f:(bH s.bf c (aJ s w)).length=(aJ s w).length:=by unfold bH;rw[qE]
 have r:=I4 I C J u ak;have z:=jV n (bH s.bf c (aJ s w));have y:ay (bA n (bH s.bf c (aJ s w)))=n/\∀x∈bA n (bH s.bf c (aJ s w)),0<=x:=by
  by_cases E:ay (bH s.bf c (aJ s w))=0
  ·have M:n=0:=ak
   have e:bA n (bH s.bf c (aJ s w))=replicate (bH s.bf c (aJ s w)).length 0:=by unfold bA;rw[aq r,aq E]
   rw[e,M];refine⟨?_,λx B=>by rw[(mem_replicate.1 B).2];decide⟩;generalize (bH s.bf c (aJ s w)).length=m;induction m with
   |zero=>rfl
   |succ m ih=>rw[replicate_succ,ay,ih];rfl
  ·exact xB r E
 obtain⟨ps,A⟩:=aN (bA n (bH s.bf c (aJ s w)));obtain⟨ws,b⟩:=aN (aJ s w);have p:∀v∈ws,(1<=v/\v<=16)/\v≠w:=λv t=>by
  rw[b]at t;refine⟨?_,Lk t⟩;obtain⟨x,B,_,e⟩:=jl t;rw[show v=x from e];exact(zm D.aj (w:=x) (by have:=uq D.aj B;omega)).2
 unfold HB;rw[<-A]at y z |-;rw[<-b]at f |-;rw[b]at f;have j:∀i∈range ps.length,0<=ps.getD i 0:=λi d=>y.2 _ (og (mem_range.1 d));have o:=zo ps;rw[y.1]at o;refine⟨λv=>⟨agv λi d=>?_,?_⟩,?_⟩
 ·split
  ·exact j i d
  ·omega
 ·rw[<-o];refine NS λi d=>?_;have:=j i d;split<;>omega
 ·have H:∀k∈range 16,(if(k:Int)+1=w then 0 else tot (range ps.length) λi=>if ws.getD i 0=(k:Int)+1 then ps.getD i 0 else 0)=tot (range ps.length) λi=>if(k:Int)+1=w then 0 else if ws.getD i 0=(k:Int)+1 then ps.getD i 0 else 0:=λk _=>by
   by_cases q:(k:Int)+1=w
   ·simp only[aq q];exact(ju λ_ _=>rfl).symm
   ·simp only[au q]
  rw[gL H,Zs];refine Eq.trans (gL λi d=>?_) o;have d:=mem_range.1 d;have K:=p _ (og (l:=ws) (i:=i) (by rw[b];omega));obtain⟨v,t⟩:=aN (ws.getD i 0);rw[<-t]at K |-
  have:=xE (L:=range 16) (R:=λa c=>a<c) pairwise_lt_range (x:=(v-1).toNat) (mem_range.2 ak) (F:=λk:Nat=>if(k:Int)+1=w then 0 else if v=(k:Int)+1 then ps.getD i 0 else 0) (λa ha=>by
   split
   ·rfl
   ·rw[au]
    omega)
  rw[this,au ak,aq ak]
theorem Cv{s:af}(d:uj s)(a:aC):-18014398509481984<=eP a s.bf.bs/\eP a s.bf.bs<=18014398509481984:=by
 have c:=d.bs;generalize s.bf.bs=bs at c;induction bs with
 |nil=>exact⟨by show(-18014398509481984:Int)<=0;decide,by show(0:Int)<=18014398509481984;decide⟩
 |cons b r ih =>
  simp only[eP];split
  ·exact c b sT
  ·exact ih λz e=>c z (by simp[e])
def QN{s:af}(h:s.right)(d:uj s)(w c:Int):0<=lD s w c/\lD s w c<=1125899906842624000:=by
 have i:=jg.1 h.ps;have k:∀n∈oC s w c,0<=n/\n<=1125899906842624:=by
  intro n j;obtain⟨p,e,-,rfl⟩:=jl j;have g:=FJ h.aj p.bT;have hu:=(i.1 p e).2;have hu2:=d.ps p e;have f:=fE (a:=p.units) (b:=(nA s.aj p.bT).c) (A:=1048576) (B:=1073741824) ak ak;have h4:=Int.mul_nonneg (show 0<=p.units by omega) g.1;unfold pI;omega
 have h1:=qO (by decide) k;have h2:(oC s w c).length<=s.ps.length:=bN _ _ _;have f:=h.lens.ps;unfold lD;omega
def EO{s:af}(h:s.right)(a:uj s)(w:Int){c:Int}(f:0<=c/\c<=2):dV s.bf c (aJ s w)=0/\0<=ir s.bf c (aJ s w)/\ir s.bf c (aJ s w)<=288230376151711744:=by
 have d:=oE h.aj w;have hl:=zA d
 have hb:=NR (K:=18014398509481984) (by decide) (l:=bH s.bf c (aJ s w)) (λx b=>by
  obtain⟨v,_,rfl⟩:=mem_map.1 b
  exact Cv a _)
 have hn:0<=ay (bH s.bf c (aJ s w)):=jW λx b=>by
  obtain⟨v,_,rfl⟩:=mem_map.1 b;exact Cg h.bf v c
 have hlen:(bH s.bf c (aJ s w)).length=(aJ s w).length:=by unfold bH;rw[qE]
 have e:dV s.bf c (aJ s w)=0:=by
  unfold dV;rw[aq h.bf,named_eq,d,aq (by simp only[within,Bool.and_true,bQ,bz];exact f),aq (aP.2 ak)]
 unfold ir;rw[aq e];exact⟨e,by omega,by omega⟩
def HM{s:af}(h:s.right)(b:uj s)(w:Int):gp s.aj (aJ s w)=0/\0<=ke s.aj (aJ s w)/\ke s.aj (aJ s w)<=288230376151711744:=by
 have f:=oE h.aj w;have hl:=zA f;have i:∀v∈aJ s w,0<=(fm s.aj v).need/\(fm s.aj v).need<=18014398509481984:=λv c=>by
  obtain⟨x,d,-,e⟩:=jl c;have e:v=x:=e;rw[e];have a:=sV ((um h.aj).1 (by have:=uq h.aj d;omega:bD s.aj x≠0));have g:=oY ((dQ.1 h.aj).1.1 _ a.1);exact⟨g.2.2.1,b.ms _ a.1⟩
 have hb:=qO (B:=18014398509481984) (by decide) (l:=cr s.aj (aJ s w)) (λx d=>by
  obtain⟨v,c,rfl⟩:=mem_map.1 d
  exact i v c)
 have hlen:(cr s.aj (aJ s w)).length=(aJ s w).length:=by unfold cr;rw[qE]
 have e:gp s.aj (aJ s w)=0:=by
  unfold gp;rw[aq h.aj,named_eq,f,aq (by rfl),aq (aP.2 ak)]
 unfold ke;rw[aq e];exact⟨e,by omega,by omega⟩
theorem abG{l:bu}(h:l.okB=true)(c:Int):0<=eP ⟨4,0,c⟩ l.bs:=by
 have d:=(kQ.1 h).2.1.1;generalize l.bs=bs at d;induction bs with
 |nil=>show(0:Int)<=0;decide
 |cons b r ih =>
  simp only[eP];split
  ·rename_i f;have e:=uD.1 f;have:=d b sT;simp only[lR,bQ,gD,gv]at this;obtain⟨i,-,-,a⟩:=this;unfold aC.floor at a;rw[i,e]at a;have a:¬b.sum<0:=a;omega
  ·exact ih λz g=>d z (by simp[g])
def Kv{s:af}{w:Int}(h:s.right)(a:uj s)(m:bD s.aj w=2){c:Nat}(hc:c<3):o9 s w c=0/\0<=kF s w c (aQ s w c)/\kF s w c (aQ s w c)<=3593872502641655808/\eT s w c (aQ s w c)<=2467972595799031808:=by
 obtain⟨g1,g2,g3⟩:=MB h a m c;obtain⟨s1,s2⟩:=QN h a w c;obtain⟨f,a2,a3⟩:=EO h a w (c:=(c:Int)) ak;obtain⟨n1,n2,n3⟩:=HM h a w;have hcash:=Cv a ⟨2,w,c⟩;have hshare:=Cv a ⟨3,w,c⟩;have hshare0:=Cg h.bf w c;have hskin:=Cv a ⟨4,0,c⟩;have hskin0:=abG h.bf c;have e:iZ s w c=lD s w c:=by unfold iZ;rw[aq (aP.2 ak)]
 have eX:rQ s w c (aQ s w c)=aQ s w c+(min (eP ⟨2,w,c⟩ s.bf.bs) 0+0):=rfl;have g:kF s w c (aQ s w c)=max (eP ⟨2,w,c⟩ s.bf.bs) 0+(iZ s w c+(max (rQ s w c (aQ s w c)) 0+0)):=rfl;rw[e]at g;have d:Dy s w c (aQ s w c)=true:=by
  unfold Dy;rw[aP.2 (show _ by omega:-4611686018427387904<=lD s w c/\lD s w c<=4611686018427387904),aP.2 (show _ by omega:-4611686018427387904<=rQ s w c (aQ s w c)/\rQ s w c (aQ s w c)<=4611686018427387904),aP.2 (show _ by omega:-4611686018427387904<=kF s w c (aQ s w c)/\kF s w c (aQ s w c)<=4611686018427387904),f,n1];rfl
 have b:jI s w c (aQ s w c)=0:=by
  unfold jI;rw[aq (gX.2 h),au ak,aq,aq d];rw[aP.2 ak];simp only[within,Bool.and_true,bQ,bz];omega
 have i:fC s w c (aQ s w c)=[kF s w c (aQ s w c),eP ⟨3,w,c⟩ s.bf.bs,eP ⟨4,0,c⟩ s.bf.bs,ir s.bf c (aJ s w),ke s.aj (aJ s w)]:=by rw[fC,aq b]
 have j:eT s w c (aQ s w c)=max (-rQ s w c (aQ s w c)) 0:=by rw[eT,aq b]
 have k:jx c (eT s w c (aQ s w c)) (gQ s w c)=0:=by
  show jx c (eT s w c (aQ s w c)) (fC s w c (aQ s w c))=0;rw[i,j];have l:iP (max (-rQ s w c (aQ s w c)) 0) [kF s w c (aQ s w c),eP ⟨3,w,c⟩ s.bf.bs,eP ⟨4,0,c⟩ s.bf.bs,ir s.bf c (aJ s w),ke s.aj (aJ s w)]=0:=by
   unfold iP;rw[aq,aq,au sT]
   ·simp only[sQ,all_cons,all_nil,Bool.and_true,bQ,gD,gv];omega
   ·simp only[right,all_cons,all_nil,Bool.and_true,bQ,gD,gv,aP];omega
  unfold jx;rw[l,aq];simp only[within,length_cons,length_nil,beq_self_eq_true,Bool.and_true,bQ,bz];omega
 refine⟨?_,by omega,by omega,by omega⟩;unfold o9;rw[aq b];exact k
theorem Tp(rs:List Int)(gs:List Bool):∀i j:Nat,j<i->gs.getD j true=false->0<=gW rs gs i/\rs.getD j 0<=rs.getD (gW rs gs i).toNat 0
 | 0,j,h,_=>by omega
 |i+1,j,h,hf=>by
  simp only[gW];rcases dN j i with q|q
  ·obtain⟨b,c⟩:=Tp rs gs i j q hf;split
   ·rename_i a;simp only[bQ,Bool.or_eq_true,bz]at a;rw[Int.toNat_natCast];exact⟨by omega,by omega⟩
   ·exact⟨b,c⟩
  ·obtain rfl:j=i:=ak
   split
   ·rw[Int.toNat_natCast];exact⟨by omega,by omega⟩
   ·rename_i a;rw[hf]at a;simp only[Bool.not_false,cm,Bool.or_eq_true,bz]at a;exact⟨by omega,by omega⟩
def MZ(rs:List Int)(gs:List Bool)(m:Nat):Int:=tot (range m) λi=>if gs.getD i true=false/\0<rs.getD i 0 then 1 else 0
def abn{rs:List Int}{gs:List Bool}{m:Nat}(h:0<MZ rs gs m):∃j<m,gs.getD j true=false/\0<rs.getD j 0:=by
 refine Decidable.byContradiction λb=>?_;have:MZ rs gs m=0:=ju λi a=>au λk=>b ⟨i,mem_range.1 a,k⟩;omega
def YK{rs:List Int}{gs:List Bool}{m j:Nat}(f:j<m)(g:j<gs.length)(h:gs.getD j true=false/\0<rs.getD j 0):MZ rs (gs.set j true) m=MZ rs gs m-1:=by
 have b:=xE (L:=range m) (R:=λa c=>a<c) pairwise_lt_range (x:=j) (mem_range.2 f) (F:=λi=>if i=j then(1:Int)else 0) (λa ha=>au ak);rw[aq rfl]at b;have d:=rz (range m) (λi=>if(gs.set j true).getD i true=false/\0<rs.getD i 0 then(1:Int)else 0) (λi=>if i=j then 1 else 0);rw[b]at d;unfold MZ;have h3:tot (range m) (λi=>(if(gs.set j true).getD i true=false/\0<rs.getD i 0 then(1:Int)else 0)+if i=j then 1 else 0)=tot (range m) λi=>if gs.getD i true=false/\0<rs.getD i 0 then 1 else 0:=gL λi _=>by
  rw[KS g];by_cases e:i=j
  ·subst e;rw[aq rfl,aq rfl,au sT,aq h];rfl
  ·rw[au e,au e];omega
 omega
theorem G2(rs:List Int):∀(n:Nat)(gs:List Bool)(ps:List Int)(i:Nat),gs.length=rs.length->ps.length=rs.length->(n:Int)<=MZ rs gs rs.length->¬ 0<rs.getD i 0->(lY rs n gs ps).getD i 0=ps.getD i 0
 | 0,_,_,_,_,_,_,_=>rfl
 |n+1,gs,ps,i,h1,h2,h3,h4=>by
  obtain⟨j,d,c,hp⟩:=abn (rs:=rs) (gs:=gs) (m:=rs.length) ak;obtain⟨f,k2⟩:=Tp rs gs rs.length j d c;have hr:=qp rs gs rs.length;have a:=vD rs gs rs.length f;simp only[lY];have b:i≠(gW rs gs rs.length).toNat:=λe=>h4 (by rw[e];omega);rw[G2 rs n _ _ i (by simp[h1]) (by simp[h2]) (by rw[YK ak ak ⟨a,by omega⟩];omega) h4,OT ak,au b]
def Wi{t:Int}{ws:List Int}(h:gZ t ws=0)(ht:t<=ay ws)(m:ay ws≠0)(i:Nat):(bA t ws).getD i 0<=ws.getD i 0:=by
 obtain⟨n,f⟩:=LO h;have hn:=jW f;have hl:=tM n rfl (show 1<=ay ws by omega) f;have b:(mX t (ay ws) ws).length=(pS t (ay ws) ws).length:=by simp[mX,pS]
 have a:(pS t (ay ws) ws).length=ws.length:=by simp[pS]
 have c:bA t ws=lY (pS t (ay ws) ws) (t-ay (mX t (ay ws) ws)).toNat (replicate ws.length false) (mX t (ay ws) ws):=by unfold bA;rw[aq h,au m]
 rcases dN i ws.length with hi|hi
 case inr =>
  have j:(bA t ws).getD i 0=0:=by
   rw[getD_eq_getElem?_getD,getElem?_eq_none];rfl;rw[c,DE,b,a];exact hi
  have e2:ws.getD i 0=0:=by rw[getD_eq_getElem?_getD,getElem?_eq_none hi];rfl
  omega
 have hx0:=f ws[i] (dS hi);have j:(mX t (ay ws) ws).getD i 0=t*ws[i]/ay ws:=by
  rw[getD_eq_getElem?_getD,fj (by rw[b,a];exact hi)];simp[mX]
 have s:(pS t (ay ws) ws).getD i 0=t*ws[i]%ay ws:=by
  rw[getD_eq_getElem?_getD,fj (by rw[a];exact hi)];simp[pS]
 have e2:ws.getD i 0=ws[i]:=by rw[getD_eq_getElem?_getD,fj hi];rfl
 by_cases p:t=ay ws
 ·have y:mX t (ay ws) ws=ws:=by
   unfold mX;rw[p];refine(map_congr_left λx _=>?_).trans (map_id ws);rw[Int.mul_ediv_cancel_left _ m];rfl
  rw[c,y,p];simp[lY]
 by_cases g:ws[i]=0
 ·-- nothing goes to who has nothing
  have d:((t-ay (mX t (ay ws) ws)).toNat:Int)<=MZ (pS t (ay ws) ws) (replicate ws.length false) (pS t (ay ws) ws).length:=by
   obtain⟨p1,p2,p3,p4⟩:=FW (t:=t) (W:=ay ws) ak (l:=ws) λx g=>Int.mul_nonneg n (f x g);have o:ay (pS t (ay ws) ws)<=ay ws*MZ (pS t (ay ws) ws) (replicate ws.length false) (pS t (ay ws) ws).length:=by
    unfold MZ;rw[<-F4,<-zo];refine NS λk e=>?_;have e:=mem_range.1 e;rw[a]at e;have v:(pS t (ay ws) ws).getD k 0=t*ws[k]%ay ws:=by
     rw[getD_eq_getElem?_getD,fj (by rw[a];exact e)];simp[pS]
    have b1:=Int.emod_nonneg (t*ws[k]) (show ay ws≠0 by omega);have b2:=Int.emod_lt_of_pos (t*ws[k]) (show 0<ay ws by omega);have u:(replicate ws.length false).getD k true=false:=by
     rw[getD_eq_getElem?_getD,fj (su e)];simp
    rw[v,u];by_cases q:0<t*ws[k]%ay ws
    ·rw[aq ⟨rfl,q⟩];omega
    ·rw[au (λz=>q z.2)];omega
   have w:ay ws*(t-ay (mX t (ay ws) ws))=ay (pS t (ay ws) ws):=by
    rw[Int.mul_sub,Int.mul_comm (ay ws) t];omega
   rw[<-w]at o;have:=Int.le_of_mul_le_mul_left o ak;omega
  have A:=G2 (pS t (ay ws) ws) (t-ay (mX t (ay ws) ws)).toNat (replicate ws.length false) (mX t (ay ws) ws) i (by simp[a]) b d (by rw[s,g,Int.mul_zero,Int.zero_emod];decide);rw[c,A,j,e2,g,Int.mul_zero,Int.zero_ediv];decide
 ·have r:=OV (pS t (ay ws) ws) (t-ay (mX t (ay ws) ws)).toNat (replicate ws.length false) (mX t (ay ws) ws) i (by simp[a]) b (by simp[count_replicate];omega);have e4:t*ws[i]/ay ws<ws[i]:=by
   refine Int.ediv_lt_of_lt_mul ak ?_;rw[Int.mul_comm ws[i]];exact Int.mul_lt_mul_of_pos_right ak ak
  rw[c,e2];rw[j]at r;split at r<;>omega
def UE{k c n:Int}{ws ps:List Int}(a:aC):ay (bZ a (rB k c n ws ps))=(if(⟨6,0,c⟩:aC)=a then n else 0)+tot (range ps.length) λi=>if(⟨k,ws.getD i 0,c⟩:aC)=a then -(ps.getD i 0)else 0:=by
 unfold rB;rw[mR,Hz];refine congrArg (λz=>(if(⟨6,0,c⟩:aC)=a then n else 0)+z) (gL λi _=>?_);unfold lT;rw[mR];show(if(⟨k,ws.getD i 0,c⟩:aC)=a then -(ps.getD i 0)else 0)+0=_;omega
def Uj{A:Type}(L:List A)(F:A->Int):tot L (λa=>-F a) = -tot L F:=by
 have:=F4 L F (-1);rw[show(λa=>-F a)=(λa=>-1*F a)from funext λa=>by omega,this];omega
def Oi{k c:Int}{ws ps:List Int}{n:Int}(f:ay ps=n)(e:∀x∈ps,0<=x)(a:aC):-n<=(tot (range ps.length) λi=>if(⟨k,ws.getD i 0,c⟩:aC)=a then -(ps.getD i 0)else 0)/\(tot (range ps.length) λi=>if(⟨k,ws.getD i 0,c⟩:aC)=a then -(ps.getD i 0)else 0)<=0:=by
 have b:∀i∈range ps.length,0<=ps.getD i 0:=λi d=>e _ (og (mem_range.1 d));constructor
 ·rw[<-f,<-zo,<-Uj];refine NS λi d=>?_;have:=b i d;split<;>omega
 ·refine Int.le_trans (NS (G:=λ_=>0) λi d=>?_) (Int.le_of_eq (ju λ_ _=>rfl));have:=b i d;split<;>omega
def ER{n:Int}{gs:List Int}(f:0<=n)(c:n<=ay gs)(h:n<=4611686018427387904)(d:∀g∈gs,0<=g/\g<=4611686018427387904)(j:gs.length<=1024):gZ n gs=0/\ay (bA n gs)=n/\(∀x∈bA n gs,0<=x)/\∀i,(bA n gs).getD i 0<=gs.getD i 0:=by
 have a:=I4 f c h d j;by_cases b:ay gs=0
 ·have k:n=0:=ak
  have e:bA n gs=replicate gs.length 0:=by unfold bA;rw[aq a,aq b]
  rw[e];refine⟨a,?_,λx l=>by rw[(mem_replicate.1 l).2];decide,λi=>?_⟩
  ·rw[k];generalize gs.length=m;induction m with
   |zero=>rfl
   |succ m ih=>rw[replicate_succ,ay,ih];rfl
  ·have h2:0<=gs.getD i 0:=by
    rcases dN i gs.length with q|q
    ·exact(d _ (og q)).1
    ·rw[getD_eq_getElem?_getD,getElem?_eq_none q];decide
   have h3:(replicate gs.length (0:Int)).getD i 0=0:=by
    rcases dN i gs.length with q|q
    ·rw[getD_eq_getElem?_getD,fj (su q)];simp
    ·rw[getD_eq_getElem?_getD,getElem?_eq_none (su q)];rfl
   omega
 ·obtain⟨s1,s2⟩:=xB a b;exact⟨a,s1,s2,Wi a c b⟩
def yg{k w c:Int}(hc:0<=c/\c<=2)(h:(1<=w/\w<=16/\(k=2\/k=3))\/(w=0/\(k=1\/k=4\/k=5\/k=6))):aC.right ⟨k,w,c⟩=true:=by
 unfold aC.right;rw[au (by dsimp only;omega)];rcases h with⟨b,d,a|a⟩| ⟨b,a|a|a|a⟩
 ·subst a;show(decide (1<=w)&&decide (w<=16))=true;rw[dY b,dY d];rfl
 ·subst a;show(decide (1<=w)&&decide (w<=16))=true;rw[dY b,dY d];rfl
 all_goals
  subst b;subst a;rfl
def Kt{k c n d:Int}{ws gs:List Int}(o:k=2\/k=3)(h:0<=c/\c<=2)(p:∀v∈ws,1<=v/\v<=16)(hl:gs.length=ws.length)(h0:0<=n)(h1:n<=d)(hb:n<=4611686018427387904)(m:ay (bA n gs)=n)(f:∀x∈bA n gs,0<=x):oQ k c n d ws gs=0:=by
 have e:=xC f;rw[m]at e;have hpl:=jV n gs;unfold oQ;rw[aq (by simp only[within,bQ,bz];omega),au ak];unfold jk;rw[aq,aq]
 ·refine bL.2 λa _=>?_;rw[UE];obtain⟨b1,b2⟩:=Oi (k:=k) (c:=c) (ws:=ws) m f a;split
  ·exact aP.2 ak
  ·exact aP.2 ak
 ·refine bL.2 λx b=>?_;unfold rB at b;unfold sA;rcases mem_cons.1 b with rfl|b
  ·rw[bQ];exact⟨(show aC.right ⟨6,0,c⟩=true from yg h (.inr ⟨rfl,by omega⟩)),aP.2 (by dsimp only;omega)⟩
  ·obtain⟨i,j,b⟩:=jM.1 b;unfold lT at b;obtain rfl:=gV.1 b;have h2:=e _ (og j);have h3:=f _ (og j);have g:=p _ (og (l:=ws) (i:=i) ak);rw[bQ];exact⟨(show aC.right ⟨k,ws.getD i 0,c⟩=true from yg h (.inl ⟨g.1,g.2,o⟩)),aP.2 (by dsimp only;omega)⟩
def rI{x y:aC}{n:Int}(a:x.right=true)(b:y.right=true):(bR x y n).all sA=true:=by
 have h:bB (if bB n then n else 0)=true/\bB (-(if bB n then n else 0))=true:=by
  by_cases q:bB n=true
  ·rw[aq q];have:=aP.1 q;exact⟨q,aP.2 ak⟩
  ·rw[au q];exact⟨rfl,rfl⟩
 unfold bR;rw[all_cons,all_cons,all_nil,Bool.and_true,bQ];unfold sA;rw[bQ,bQ];exact⟨⟨a,h.2⟩,b,h.1⟩
def HK(g:List aK):(fG g).all sA=true:=by
 unfold fG;split
 ·rename_i h;unfold jk at h;split at h
  case isFalse=>cases h
  split at h
  case isFalse=>cases h
  rename_i d;refine bL.2 λx b=>?_;obtain⟨a,c,b⟩:=mem_flatMap.1 b;unfold tN at b;split at b
  ·cases b
  ·obtain rfl:=gV.1 b;unfold sA;rw[bQ];exact⟨tq.1 c,bL.1 d a c⟩
 ·rfl
def PF(k c n all:Int)(ws gs:List Int):(rC k c n all ws gs).all sA=true:=by
 unfold rC;split
 ·exact HK _
 ·rfl
def Yk(l:bu)(c n:Int)(ws:List Int):(tO l c n ws).all sA=true:=by
 unfold tO;split
 ·exact PF _ _ _ _ _ _
 ·rfl
def Sa(r:aA)(c n:Int)(ws:List Int):(kN r c n ws).all sA=true:=by
 unfold kN;split
 ·exact PF _ _ _ _ _ _
 ·rfl
def Oz(c:Int)(g k:List aK):ay (iO c (g++k))=ay (iO c g)+ay (iO c k):=by
 unfold iO pick;rw[flatMap_append,fM]
def UP{x y:aC}{n c:Int}(h:x.cur=y.cur):ay (iO c (bR x y n))=0:=by
 unfold bR;rw[vG,vG];show Ba c ⟨x.kind,x.who,x.cur⟩ (-(if bB n then n else 0))+(Ba c ⟨y.kind,y.who,y.cur⟩ (if bB n then n else 0)+0)=0;unfold Ba;rw[h];split<;>omega
def KB{g:List aK}(h:jk g=0)(c:Int):ay (iO c (fG g))=ay (iO c g):=by
 have b:=h;unfold jk at b;split at b
 case isFalse=>cases b
 rename_i i;have e:∀x∈g,x.bq.right=true:=λx d=>by
  have:=bL.1 i x d;simp only[sA,bQ]at this;exact this.1
 have a2:∀x∈fG g,x.bq.right=true:=λx d=>by
  have:=bL.1 (HK g) x d;simp only[sA,bQ]at this;exact this.1
 rw[<-C5 c e,<-C5 c a2];exact gL λa f=>by rw[zK f h]
theorem OA{c:Int}{f:Nat->List aK}:∀m,ay (iO c (pQ f m))=tot (range m) λi=>ay (iO c (f i))
 | 0=>rfl
 |m+1=>by
  rw[ji,Oz,OA m,range_succ,Uh];simp[tot,ay]
def KA{k c n a e:Int}{ws gs:List Int}(f:ay (bA n gs)=n):ay (iO e (rC k c n a ws gs))=0:=by
 unfold rC;split
 ·rename_i h;have d:jk (rB k c n ws (bA n gs))=0:=by
   unfold oQ at h;split at h
   ·split at h
    ·cases h
    ·exact h
   ·cases h
  rw[KB d];unfold rB;rw[vG,OA];have b:∀i,ay (iO e (lT k c ws (bA n gs) i))=Ba e ⟨k,0,c⟩ (-((bA n gs).getD i 0)):=λi=>by
   unfold lT;rw[vG];show Ba e ⟨k,ws.getD i 0,c⟩ (-((bA n gs).getD i 0))+0=_;unfold Ba;split<;>omega
  rw[gL λi _=>b i];unfold Ba;show(if c=e then n else 0)+_=_;by_cases q:c=e
  ·simp only[q,if_true];rw[Uj,zo,f];omega
  ·simp only[q,if_false];rw[ju λ_ _=>rfl];rfl
 ·rfl
def RL{c aV a b d e f:Int}(h:jx c aV [a,b,d,e,f]=0):∀F,F=jL c aV [a,b,d,e,f]->(F.c0<=a/\F.c1<=b/\F.c2<=d/\F.c3<=e/\F.c4<=f)/\0<=F.rest:=by
 intro F i;obtain⟨h1,g,-⟩:=Ci (GO h);have k1:=g a sT;have k2:=g b sT;have k3:=g d sT;have k4:=g e sT;have k5:=g f sT;have e0:F=⟨c,aV,min aV a,min (aV-min aV a) b,min (aV-min aV a-min (aV-min aV a) b) d,min (aV-min aV a-min (aV-min aV a) b-min (aV-min aV a-min (aV-min aV a) b) d) e,min (aV-min aV a-min (aV-min aV a) b-min (aV-min aV a-min (aV-min aV a) b) d-min (aV-min aV a-min (aV-min aV a) b-min (aV-min aV a-min (aV-min aV a) b) d) e) f,aV-min aV a-min (aV-min aV a) b-min (aV-min aV a-min (aV-min aV a) b) d-min (aV-min aV a-min (aV-min aV a) b-min (aV-min aV a-min (aV-min aV a) b) d) e-min (aV-min aV a-min (aV-min aV a) b-min (aV-min aV a-min (aV-min aV a) b) d-min (aV-min aV a-min (aV-min aV a) b-min (aV-min aV a-min (aV-min aV a) b) d) e) f⟩:=by
  rw[i,jL,aq h];rfl
 rw[e0];dsimp only;exact⟨by omega,by omega⟩
def Rv{r:aA}{c n:Int}{ws:List Int}{a:aC}(e:a∈fP)(h:nS r c n ws=0):ay (bZ a (kN r c n ws))=(if(⟨6,0,c⟩:aC)=a then n else 0)+tot (range (bA n (cr r ws)).length) λi=>if(⟨2,ws.getD i 0,c⟩:aC)=a then -((bA n (cr r ws)).getD i 0)else 0:=by
 unfold nS at h;split at h
 case isFalse hne=>exact absurd h hne
 rename_i b;split at h
 case isFalse=>cases h
 rename_i d;unfold kN;rw[aq (by rw[b,d];rfl),Ks e h]
def BR{ws ps:List Int}{c:Int}{a:aC}(h:a.kind≠2\/a.cur≠c):(tot (range ps.length) λi=>if(⟨2,ws.getD i 0,c⟩:aC)=a then -(ps.getD i 0)else 0)=0:=by
 refine ju λi _=>au λe=>?_;rw[<-e]at h;rcases h with h|h<;>exact h rfl
def aaT{s:af}(h:s.right){w c n:Int}(D:∀x∈bA n (bH s.bf c (aJ s w)),0<=x)(j:∀i,(bA n (bH s.bf c (aJ s w))).getD i 0<=(bH s.bf c (aJ s w)).getD i 0)(v:Int):HB s.bf c n (aJ s w) v<=eP ⟨3,v,c⟩ s.bf.bs/\(v=w->HB s.bf c n (aJ s w) v=0):=by
 have k:=(oR (lt:=λa b:Int=>decide (a<b)) (λ{a b c} u h2=>by simp only[bz]at u h2 |-;omega)).1 (oE h.aj w);have p:=jV n (bH s.bf c (aJ s w));have m:(bH s.bf c (aJ s w)).length=(aJ s w).length:=by unfold bH;rw[qE]
 have A:=Cg h.bf v c;obtain⟨ws,r⟩:=aN (aJ s w);have z:∀x∈ws,x≠w:=λx t=>by rw[r]at t;exact Lk t
 have y:∀i,i<ws.length->(bH s.bf c ws).getD i 0=eP ⟨3,ws.getD i 0,c⟩ s.bf.bs:=λi d=>by
  unfold bH;rw[getD_eq_getElem?_getD,fj (by rw[qE];exact d),getD_eq_getElem?_getD,fj d];simp
 rw[<-r]at k p m D j |-;unfold HB;obtain⟨ps,B⟩:=aN (bA n (bH s.bf c ws));rw[<-B]at D j p |-;constructor
 ·by_cases t:∃i,i<ps.length/\ws.getD i 0=v
  ·obtain⟨i,d,E⟩:=t
   have o:=xE (L:=range ps.length) (R:=λa c=>a<c) pairwise_lt_range (x:=i) (mem_range.2 d) (F:=λi=>if ws.getD i 0=v then ps.getD i 0 else 0) (λa G=>by
    rcases dN a ws.length with q|q
    ·rw[au];intro e;have f:i<ws.length:=ak
     have e1:ws.getD a 0=ws[a]:=by rw[getD_eq_getElem?_getD,fj q];rfl
     have e2:ws.getD i 0=ws[i]:=by rw[getD_eq_getElem?_getD,fj f];rfl
     rcases G with g|g
     ·have:=Gg.1 k.2 a i q f g;simp only[bz]at this;omega
     ·have:=Gg.1 k.2 i a f q g;simp only[bz]at this;omega
    ·have:ps.getD a 0=0:=by rw[getD_eq_getElem?_getD,getElem?_eq_none ak];rfl
     rw[this]
     split<;>rfl)
   rw[o,aq E];have u:=j i;rw[y i ak,E]at u;exact u
  ·rw[ju λi d=>au λe=>t ⟨i,mem_range.1 d,e⟩];exact A
 ·intro C;refine ju λi d=>au λe=>?_;have d:=mem_range.1 d;exact z _ (og (l:=ws) (i:=i) ak) (e.trans C)
def aak{k v c l u n e:Int}:ay (iO e (bR ⟨k,v,c⟩ ⟨l,u,c⟩ n))=0:=UP rfl
theorem Xv{s:af}{w:Int}(h:s.right)(f:uj s)(hs:bD s.aj w=2){c:Nat}(hc:c<3):∃g:List aK,(gN s w c).2.2=0/\(gN s w c).1=fG g/\jk g=0/\(∀e,ay (iO e g)=0)/\(∀a∈fP,a.cur≠c->ay (bZ a g)=0)/\∀a∈fP,a.cur=c->bB (eP a s.bf.bs+ay (bZ a g))=true/\a.floor<=eP a s.bf.bs+ay (bZ a g):=by
 have R:=(zm h.aj (w:=w) ak).2;obtain⟨z1,z2,z3,z4⟩:=Kv h f hs hc;obtain⟨g1,g2,g3⟩:=MB h f hs c;obtain⟨h1,H⟩:=YB z1;obtain⟨P,-,S,U,V,f6⟩:=B1 h1 H;have hf:jL (c:Int) (eT s w c (aQ s w c)) (fC s w c (aQ s w c))=cU s w c:=rfl;rw[hf]at S U V f6;have E:=U1 (by rw[P]at H;exact H) (cU s w c) (by unfold cU gQ;rw[P]);obtain⟨⟨m0,m1,m2,m3,m4⟩,mr⟩:=RL (by rw[P]at H;exact H) (cU s w c) (by unfold cU gQ;rw[P]);obtain⟨O,a2,a3⟩:=EO h f w (c:=(c:Int)) ak;obtain⟨n1,n2,n3⟩:=HM h f w;obtain⟨so1,so2⟩:=QN h f w c;have hso:iZ s w c=lD s w c:=by unfold iZ;rw[aq (aP.2 ak)]
 have D:=λa=>Cv f a;have Z:=oE h.aj w;have hwl:=zA Z;have M:∀v∈aJ s w,1<=v/\v<=16:=λv r=>by
  obtain⟨x,N,_,e⟩:=jl r;rw[show v=x from e];exact(zm h.aj (w:=x) (by have:=uq h.aj N;omega)).2
 have lo:=(Bu O).2.2;have ln:=(Lf n1).2.2;have ab:(bH s.bf c (aJ s w)).length=(aJ s w).length:=by unfold bH;rw[qE]
 have aa:(cr s.aj (aJ s w)).length=(aJ s w).length:=by unfold cr;rw[qE]
 obtain⟨F,hF⟩:=aN (cU s w c);obtain⟨G,hG⟩:=aN (aQ s w c);have hX:=DU h1;rw[hX];rw[<-hF]at S U V f6 E m0 m1 m2 m3 m4 mr |-;rw[<-hG]at U V g2 g3 z2 z3 m0 |-
 obtain⟨-,s2,s3,s4⟩:=ER (n:=F.c3) (gs:=bH s.bf c (aJ s w)) E.2.2.1.2.2.2.1 ak ak (λg Q=>by
  obtain⟨v,_,rfl⟩:=mem_map.1 Q;have:=D ⟨3,v,c⟩
  exact⟨Cg h.bf v c,by omega⟩) ak
 obtain⟨-,t2,t3,t4⟩:=ER (n:=F.c4) (gs:=cr s.aj (aJ s w)) E.2.2.1.2.2.2.2.1 ak ak (λg Q=>by
  obtain⟨v,r,rfl⟩:=mem_map.1 Q
  have:=xC (l:=cr s.aj (aJ s w)) (λy hy=>by
   obtain⟨u,hu,rfl⟩:=mem_map.1 hy;obtain⟨x,N,_,e⟩:=jl hu;rw[show u=x from e]
   exact(oY ((dQ.1 h.aj).1.1 _ (sV ((um h.aj).1 (by have:=uq h.aj N;omega:bD s.aj x≠0))).1)).2.2.1) _ Q
  obtain⟨x,N,_,e⟩:=jl r;rw[show v=x from e]at this |-
  exact⟨(oY ((dQ.1 h.aj).1.1 _ (sV ((um h.aj).1 (by have:=uq h.aj N;omega:bD s.aj x≠0))).1)).2.2.1,by omega⟩) ak
 have A:xS s.bf c F.c3 (aJ s w)=0:=by
  unfold xS;rw[aq O];exact Kt (.inr rfl) ak M ab E.2.2.1.2.2.2.1 m3 ak s2 s3
 have m:nS s.aj c F.c4 (aJ s w)=0:=by
  unfold nS;rw[aq n1,aq (by simp only[within,bQ,bz];omega)];exact Kt (.inl rfl) ak M aa E.2.2.1.2.2.2.2.1 m4 ak t2 t3
 have i1:bB (iZ s w c)=true:=C2 s w c;have i2:bB G=true:=aP.2 ak;have i3:bB F.c0=true:=aP.2 ak;have i4:bB F.c1=true:=aP.2 ak;have i5:bB F.c2=true:=aP.2 ak;have i6:bB (kF s w c G-F.c0)=true:=aP.2 ak;have i7:bB (eP ⟨3,w,c⟩ s.bf.bs-F.c1)=true:=aP.2 ak;have hsh:=D ⟨3,w,c⟩;have I:=λv=>aaT h s3 s4 v;have hS:∀a∈fP,ay (bZ a (uW s w c G F (kF s w c G-F.c0) (eP ⟨3,w,c⟩ s.bf.bs-F.c1))) =
   ((if(⟨1,0,c⟩:aC)=a then -(iZ s w c)else 0)+(if(⟨2,w,c⟩:aC)=a then iZ s w c else 0))+((if(⟨5,0,c⟩:aC)=a then -G else 0)+(if(⟨2,w,c⟩:aC)=a then G else 0))+((if(⟨6,0,c⟩:aC)=a then -F.aV else 0)+(if(⟨2,w,c⟩:aC)=a then F.aV else 0))+((if(⟨2,w,c⟩:aC)=a then -F.c0 else 0)+(if(⟨6,0,c⟩:aC)=a then F.c0 else 0))+((if(⟨3,w,c⟩:aC)=a then -F.c1 else 0)+(if(⟨6,0,c⟩:aC)=a then F.c1 else 0))+((if(⟨4,0,c⟩:aC)=a then -F.c2 else 0)+(if(⟨6,0,c⟩:aC)=a then F.c2 else 0)) +
   (if a=⟨6,0,c⟩then F.c3 else if a.kind=3/\a.cur=c then -HB s.bf c F.c3 (aJ s w) a.who else 0)+((if(⟨6,0,c⟩:aC)=a then F.c4 else 0)+tot (range (bA F.c4 (cr s.aj (aJ s w))).length) λi=>if(⟨2,(aJ s w).getD i 0,c⟩:aC)=a then -((bA F.c4 (cr s.aj (aJ s w))).getD i 0)else 0) +
   ((if(⟨2,w,c⟩:aC)=a then -(kF s w c G-F.c0)else 0)+(if(⟨1,0,c⟩:aC)=a then kF s w c G-F.c0 else 0))+((if(⟨3,w,c⟩:aC)=a then -(eP ⟨3,w,c⟩ s.bf.bs-F.c1)else 0)+(if(⟨1,0,c⟩:aC)=a then eP ⟨3,w,c⟩ s.bf.bs-F.c1 else 0)):=λa j=>by
  unfold uW Ot;simp only[Hy];rw[om i1,om i2,om S,om i3,om i4,om i5,Vn j A,Rv j m,om i6,om i7]
 have W:=λa=>Oi (k:=2) (c:=(c:Int)) (ws:=aJ s w) t2 t3 a;have hl0:=I;have B:∀a∈fP,a.cur≠c->ay (bZ a (uW s w c G F (kF s w c G-F.c0) (eP ⟨3,w,c⟩ s.bf.bs-F.c1)))=0:=λa j p=>by
  rw[hS a j,BR (.inr p)];obtain⟨k,v,e⟩:=a;have p:¬e=(c:Int):=p;have K:¬(c:Int)=e:=λq=>p q.symm;simp[p,K]
 have L:∀a∈fP,a.cur=c->bB (ay (bZ a (uW s w c G F (kF s w c G-F.c0) (eP ⟨3,w,c⟩ s.bf.bs-F.c1))))=true/\bB (eP a s.bf.bs+ay (bZ a (uW s w c G F (kF s w c G-F.c0) (eP ⟨3,w,c⟩ s.bf.bs-F.c1))))=true/\a.floor<=eP a s.bf.bs+ay (bZ a (uW s w c G F (kF s w c G-F.c0) (eP ⟨3,w,c⟩ s.bf.bs-F.c1))):=λa j o=>by
  rw[hS a j];have C:=tq.1 j;have hA:=W a;have hoa:=D a;have b:=λhh=>BR (ws:=aJ s w) (ps:=bA F.c4 (cr s.aj (aJ s w))) (c:=(c:Int)) (a:=a) hh;obtain⟨T,hT⟩:=aN ((tot (range (bA F.c4 (cr s.aj (aJ s w))).length) λi=>if(⟨2,(aJ s w).getD i 0,c⟩:aC)=a then -((bA F.c4 (cr s.aj (aJ s w))).getD i 0)else 0));rw[<-hT]at hA b |-;clear hT;obtain⟨k,v,e⟩:=a;have o:e=(c:Int):=o;subst o;unfold aC.floor;rw[C,cm];unfold aC.right at C;split at C
  ·cases C
  rename_i hk;dsimp only at hk;have X:k=1\/k=2\/k=3\/k=4\/k=5\/k=6:=ak
  have Y:=I v;rcases X with rfl|rfl|rfl|rfl|rfl|rfl
  ·have r:v=0:=by simpa[owned]using C
   subst r;have:=b (.inl (by show(1:Int)≠2;decide));simp only[aC.mk.injEq,aP];simp;omega
  ·by_cases t:v=w
   ·subst t;simp only[aC.mk.injEq,aP];simp;omega
   ·have z:¬w=v:=λq=>t q.symm;simp only[aC.mk.injEq,aP];simp[z];omega
  ·have:=b (.inl (by show(3:Int)≠2;decide));by_cases t:v=w
   ·subst t;have h0:=Y.2 rfl;simp only[aC.mk.injEq,aP];simp;omega
   ·have z:¬w=v:=λq=>t q.symm;have hln:0<=HB s.bf c F.c3 (aJ s w) v:=((aaU h O E.2.2.1.2.2.2.1 ak ak).1 v).1;simp only[aC.mk.injEq,aP];simp[z];omega
  ·have r:v=0:=by simpa[owned]using C
   subst r;have:=b (.inl (by show(4:Int)≠2;decide));simp only[aC.mk.injEq,aP];simp;omega
  ·have r:v=0:=by simpa[owned]using C
   subst r;have:=b (.inl (by show(5:Int)≠2;decide));simp only[aC.mk.injEq,aP];simp;omega
  ·have r:v=0:=by simpa[owned]using C
   subst r;have:=b (.inl (by show(6:Int)≠2;decide));simp only[aC.mk.injEq,aP];simp;omega
 have J:qF (uW s w c G F (kF s w c G-F.c0) (eP ⟨3,w,c⟩ s.bf.bs-F.c1))=true:=by
  have d:0<=(c:Int)/\(c:Int)<=2:=ak
  have r1:aC.right ⟨1,0,c⟩=true:=yg d (.inr ⟨rfl,by omega⟩);have r2:aC.right ⟨2,w,c⟩=true:=yg d (.inl ⟨R.1,R.2,by omega⟩);have r3:aC.right ⟨3,w,c⟩=true:=yg d (.inl ⟨R.1,R.2,by omega⟩);have r4:aC.right ⟨4,0,c⟩=true:=yg d (.inr ⟨rfl,by omega⟩);have r5:aC.right ⟨5,0,c⟩=true:=yg d (.inr ⟨rfl,by omega⟩);have r6:aC.right ⟨6,0,c⟩=true:=yg d (.inr ⟨rfl,by omega⟩);unfold qF uW Ot;simp only[all_append,rI r1 r2,rI r5 r2,rI r6 r2,rI r2 r6,rI r3 r6,rI r4 r6,Yk,Sa,rI r2 r1,rI r3 r1,Bool.and_self]
 have hj:jk (uW s w c G F (kF s w c G-F.c0) (eP ⟨3,w,c⟩ s.bf.bs-F.c1))=0:=by
  unfold jk;rw[aq J,aq];refine bL.2 λa j=>?_;by_cases q:a.cur=c
  ·exact(L a j q).1
  ·rw[B a j q];rfl
 refine⟨uW s w c G F (kF s w c G-F.c0) (eP ⟨3,w,c⟩ s.bf.bs-F.c1),?_,?_,hj,λe=>?_,B,λa j q=>(L a j q).2⟩
 ·unfold jJ;rw[aq A,aq m,aq (aP.2 ak)];exact hj
 ·unfold jJ;rw[aq A,aq m,aq (aP.2 ak)]
 ·unfold uW Ot;simp only[Oz,aak];have e1:ay (iO e (tO s.bf c F.c3 (aJ s w)))=0:=by unfold tO;rw[aq O];exact KA s2
  have e2:ay (iO e (kN s.aj c F.c4 (aJ s w)))=0:=by
   unfold kN;split
   ·exact KA t2
   ·rfl
  rw[e1,e2];rfl
theorem Vh{l:bu}(h:l.okB=true)(a:aC):a.floor<=eP a l.bs:=by
 have c:=(kQ.1 h).2.1.1;generalize l.bs=bs at c;induction bs with
 |nil=>exact floor_le a
 |cons b r ih =>
  simp only[eP];split
  ·rename_i d;have e:=uD.1 d;have:=c b sT;simp only[lR,bQ,gD,gv]at this;obtain⟨-,-,-,g⟩:=this;rw[e]at g;omega
  ·exact ih λz f=>c z (by simp[f])
theorem Pg{g:List aK}{c:Int}:∀{ys:List aC},(∀a∈ys,a.cur≠c->ay (bZ a g)=0)->(oh g ys).length<=(ys.filter λa=>a.cur==c).length
 | [],_=>fS _
 |a::r,h=>by
  have e:=Pg (g:=g) (c:=c) (ys:=r) λx d=>h x (by simp[d]);unfold oh at e |-;rw[flatMap_cons,cR,filter_cons];have h1:=Hw a (ay (bZ a g));by_cases q:a.cur=c
  ·rw[aq (su q),length_cons];omega
  ·have b:tN a (ay (bZ a g))=[]:=by rw[h a sT q];rfl
   rw[au (su q),b,length_nil];omega
theorem Xi{c:Nat}(hc:c<3):(fP.filter λa=>a.cur==(c:Int)).length<=64:=by
 rcases(by omega:c=0\/c=1\/c=2)with rfl|rfl|rfl
 ·exact Nat.le_trans (Nat.le_of_eq (show _=36 by kernel_rfl)) (by decide)
 ·exact Nat.le_trans (Nat.le_of_eq (show _=36 by kernel_rfl)) (by decide)
 ·exact Nat.le_trans (Nat.le_of_eq (show _=36 by kernel_rfl)) (by decide)
theorem VQ{l:bu}{g:List aK}{c:Nat}(h:l.okB=true)(hla:l.last<1099511627776)(r:c<3)(m:jk g=0)(s:∀e,ay (iO e g)=0)(p:∀a∈fP,a.cur≠c->ay (bZ a g)=0)(t:∀a∈fP,a.cur=c->bB (eP a l.bs+ay (bZ a g))=true/\a.floor<=eP a l.bs+ay (bZ a g)):(fL l (fG g) 0).2=0/\(fL l (fG g) 0).1.last<=l.last+1:=by
 unfold fL;by_cases j:fG g=[]
 ·rw[au (λk=>k.2 j)];exact⟨rfl,by dsimp only;omega⟩
 rw[aq ⟨rfl,j⟩];have hl0:=(kQ.1 h).1;have f:nextId l=l.last+1:=gO ak ak;have o:∀a∈fP,n7 l (fG g) a=eP a l.bs+ay (bZ a g):=λa b=>by
  unfold n7;rw[ay,zK b m]
 have d:∀a∈fP,bB (eP a l.bs+ay (bZ a g))=true/\a.floor<=eP a l.bs+ay (bZ a g):=λa b=>by
  by_cases q:a.cur=c
  ·exact t a b q
  ·rw[p a b q,Int.add_zero];exact⟨mQ h a,Vh h a⟩
 have hlen:(fG g).length<=64:=by
  unfold fG;rw[aq m];exact Nat.le_trans (Pg p) (Xi r)
 have n:eK l (nextId l) (fG g)=0:=by
  unfold eK;rw[aq h,f,aq (by simp only[within,bQ,bz];omega),au ak];have i:lJ (fG g)=0:=by
   unfold lJ;rw[au (λk=>j (eq_nil_of_length_eq_zero k)),au ak,aq (show qF (fG g)=true from HK g),aq];refine bL.2 λe _=>?_;rw[KB m,s];rfl
  rw[aq i,aq,au]
  ·intro k;obtain⟨a,b,k⟩:=any_eq_true.1 k;have:=(d a b).2;rw[o a b]at k;simp only[bz]at k;omega
  ·refine bL.2 λa b=>?_;rw[o a b];exact(d a b).1
 refine⟨n,?_⟩;show(iQ l (nextId l) (fG g)).last<=_;unfold iQ;rw[aq n,f];exact Int.le_refl _
theorem Ll{s:af}{w:Int}(h:s.right)(d:uj s)(j:bD s.aj w=2):∀(m i:Nat)(l:bu)(p:List aU),i+m=3->l.okB=true->l.last<=s.bf.last+i->(∀a∈fP,(i:Int)<=a.cur->eP a l.bs=eP a s.bf.bs)->(rY s w m i l p).2.2=0
 | 0,_,_,_,_,_,_,_=>rfl
 |m+1,i,l,p,hi,hl,hla,hof=>by
  obtain⟨g,c1,c2,c3,c4,f,k⟩:=Xv h d j (c:=i) ak;have hlast:=d.last;have e:=VQ (l:=l) hl ak (by omega:i<3) c3 c4 f (λa b q=>by rw[hof a b ak];exact k a b q);simp only[rY];rw[c1,c2,aq e.1];refine Ll h d j m (i+1) _ _ ak (DY hl e.1) (by have:=e.2;push_cast;omega) λa b q=>?_;rw[(VP b e.1).2,zK b c3,f a b (by push_cast at q;omega),Int.add_zero];exact hof a b (by push_cast at q;omega)
theorem wQ{f:Nat->Int}:∀(m i:Nat),(∀j,i<=j->j<i+m->f j=0)->fD f m i=0
 | 0,_,_=>rfl
 |m+1,i,h=>by
  rw[fD,aq (h i (fS _) ak)];exact wQ m (i+1) λj h1 h2=>h j ak ak
def Sn{s:af}{w:Int}(h:s.right)(a:uj s)(b:bD s.aj w=2):rX s w=0:=by
 unfold rX;rw[aq (Lv h a b).1,aq (wQ 3 0 λj _ d=>(MB h a b j).1),aq (wQ 3 0 λj _ d=>(Kv h a b (c:=j) ak).1)];exact Ll h a b 3 0 s.bf [] rfl h.bf ak λ_ _ _=>rfl
def Y9(b:bU):Bool:=within b.sum (-18014398509481984) 18014398509481984
def smQ(p:aB):Bool:=within p.aO (-65536) 65536&&within p.cost (-17592186044416) 17592186044416
def smM(m:av):Bool:=decide (m.need<=18014398509481984)
def smP(p:gC):Bool:=decide (p.units<=1048576)
def qN(s:af):Bool:=s.aj.ns.all cB&&(s.bf.bs.all Y9&&(s.book.qs.all smQ&&(s.aj.ms.all smM&&(s.ps.all smP&&decide (s.bf.last<549755813888)))))
def Zb{s:af}(h:qN s=true):uj s:=by
 simp only[qN,Y9,smQ,smM,smP,within,bQ,bL,bz]at h;obtain⟨a,b,c,d,e,f⟩:=h;exact⟨a,b,c,d,e,f⟩
def IX(s:af)(t:s.lens)(R:Bool)(o:qN s=R):Sq 5 [] [.agg s.cells] [] (.bool R):=by
 have h1:=t.ns;have h2:=t.bs;have h3:=t.qs;have h4:=t.ms;have h5:=t.ps;simp only[af.cells];refine bp 127 1 [.tmp 2] mixed func5 ?_;refine s0 ?_;refine aF.w1 s.aj.ns.length 3 [1] [32] (λi _=>(s.aj.ns.drop i).all cB=s.aj.ns.all cB) rfl ?_ ?_
 ·intro i _ j b g a;obtain⟨x,m,f,d⟩:=oc (c:=aE.cells) s.aj.ns j;rw[cg j,<-m,all_cons]at a;simp only[aE.cells]at f;cases n:x.aL==0
  ·have e:cB x=true:=by simp[cB,n]
   rw[e,cm]at a;refine sm (a5 b d f n g) ?_;refine bg ?_;refine ah.u j a ?_;exact jq
  cases q:x.set==0
  ·have e:cB x=true:=by simp[cB,q]
   rw[e,cm]at a;refine sm (a5 b d f n (a2 q g)) ?_;refine bg ?_;refine ah.u j a ?_;exact jq
  ·have e:cB x=false:=by simp[cB,n,q]
   rw[e,cZ]at a;obtain rfl:R=false:=by rw[<-o,qN,<-a,cZ]
   exact dL (a5 b d f n q)
 intro _ k a;rw[jw]at a;have p:s.aj.ns.all cB=true:=a.symm;clear a;refine sm k ?_;refine aF.w1 s.bf.bs.length 4 [1] [32] (λi _=>(s.bf.bs.drop i).all Y9=s.bf.bs.all Y9) rfl ?_ ?_
 ·intro i _ j b g a;obtain⟨x,m,f,d⟩:=oc (c:=bU.cells) s.bf.bs j;rw[cg j,<-m,all_cons]at a;simp only[bU.cells]at f;by_cases n:18014398509481984<x.sum
  ·have h:decide (18014398509481984<x.sum)=true:=iy;have e:Y9 x=false:=by simp only[Y9,within,Bool.and_eq_false_iff,gv];omega
   rw[e,cZ]at a;obtain rfl:R=false:=by rw[<-o,qN,p,<-a];rfl
   exact dL (a4 b d f h)
  have h:decide (18014398509481984<x.sum)=false:=iE;by_cases q:x.sum < -18014398509481984
  ·have l:decide (x.sum < -18014398509481984)=true:=iy;have e:Y9 x=false:=by simp only[Y9,within,Bool.and_eq_false_iff,gv];omega
   rw[e,cZ]at a;obtain rfl:R=false:=by rw[<-o,qN,p,<-a];rfl
   exact dL (a5 b d f h l)
  have l:decide (x.sum < -18014398509481984)=false:=iE;have e:Y9 x=true:=by simp only[Y9,within,bQ,bz];omega
  rw[e,cm]at a;refine sm (a5 b d f h (a2 l g)) ?_;refine bg ?_;refine ah.u j a ?_;exact jq
 intro _ k a;rw[jw]at a;have v:s.bf.bs.all Y9=true:=a.symm;clear a;refine sm k ?_;refine aF.w1 s.book.qs.length 5 [1] [32] (λi _=>(s.book.qs.drop i).all smQ=s.book.qs.all smQ) rfl ?_ ?_
 ·intro i _ j b g a;obtain⟨x,m,f,d⟩:=oc (c:=aB.cells) s.book.qs j;rw[cg j,<-m,all_cons]at a;simp only[aB.cells]at f;by_cases e:smQ x=true
  ·have hq:(-65536<=x.aO/\x.aO<=65536) /\ -17592186044416<=x.cost/\x.cost<=17592186044416:=by simpa only[smQ,within,bQ,bz]using e
   have h:decide (65536<x.aO)=false:=iE;have l:decide (x.aO < -65536)=false:=iE;have r:decide (17592186044416<x.cost)=false:=iE;have w:decide (x.cost < -17592186044416)=false:=iE;rw[e,cm]at a;refine sm (a5 b d f h (a4 l r w g)) ?_;refine bg ?_;refine ah.u j a ?_;exact jq
  rw[Bool.not_eq_true]at e;rw[e,cZ]at a;obtain rfl:R=false:=by rw[<-o,qN,p,v,<-a];rfl
  by_cases n:65536<x.aO
  ·have h:decide (65536<x.aO)=true:=iy;exact dL (a4 b d f h)
  have h:decide (65536<x.aO)=false:=iE;by_cases q:x.aO < -65536
  ·have l:decide (x.aO < -65536)=true:=iy;exact dL (a5 b d f h l)
  have l:decide (x.aO < -65536)=false:=iE;by_cases q3:17592186044416<x.cost
  ·have r:decide (17592186044416<x.cost)=true:=iy;exact dL (a5 b d f h (a2 l r))
  have r:decide (17592186044416<x.cost)=false:=iE;have w:decide (x.cost < -17592186044416)=true:=by
   simp only[smQ,within,Bool.and_eq_false_iff,gv]at e;exact iy
  exact dL (a5 b d f h (a3 l r w))
 intro _ k a;rw[jw]at a;have y:s.book.qs.all smQ=true:=a.symm;clear a;refine sm k ?_;refine aF.w1 s.aj.ms.length 7 [1] [32] (λi _=>(s.aj.ms.drop i).all smM=s.aj.ms.all smM) rfl ?_ ?_
 ·intro i _ j b g a;obtain⟨x,m,f,d⟩:=oc (c:=av.cells) s.aj.ms j;rw[cg j,<-m,all_cons]at a;simp only[av.cells]at f;by_cases n:18014398509481984<x.need
  ·have h:decide (18014398509481984<x.need)=true:=iy;have e:smM x=false:=iE;rw[e,cZ]at a;obtain rfl:R=false:=by rw[<-o,qN,p,v,y,<-a];rfl
   exact dL (a4 b d f h)
  have h:decide (18014398509481984<x.need)=false:=iE;have e:smM x=true:=iy;rw[e,cm]at a;refine sm (a5 b d f h g) ?_;refine bg ?_;refine ah.u j a ?_;exact jq
 intro _ k a;rw[jw]at a;have z:s.aj.ms.all smM=true:=a.symm;clear a;refine sm k ?_;refine aF.w1 s.ps.length 8 [1] [32] (λi _=>(s.ps.drop i).all smP=s.ps.all smP) rfl ?_ ?_
 ·intro i _ j b g a;have f:=qh s.ps j;have d:(i:Int)<(s.ps.length:Int):=ak
  obtain⟨x,m⟩:=aN (s.ps[i]);rw[cg j,<-m,all_cons]at a;rw[<-m]at f;by_cases n:1048576<x.units
  ·have h:decide (1048576<x.units)=true:=iy;have e:smP x=false:=iE;rw[e,cZ]at a;obtain rfl:R=false:=by rw[<-o,qN,p,v,y,z,<-a];rfl
   exact dL (a4 b d f h)
  have h:decide (1048576<x.units)=false:=iE;have e:smP x=true:=iy;rw[e,cm]at a;refine sm (a5 b d f h g) ?_;refine bg ?_;refine ah.u j a ?_;exact jq
 intro _ k a;rw[jw]at a;have A:s.ps.all smP=true:=a.symm;obtain rfl:decide (s.bf.last<549755813888)=R:=by rw[<-o,qN,p,v,y,z,A];rfl
 exact dL k
def abg{s:af}{w:Int}(h:s.right)(hs:bD s.aj w=2)(a:rX s w=0):(lN s w).aj.ms.length=s.aj.ms.length:=by
 have b:=DZ h.aj (w:=w) (p:=3) ak ak;have e:(lN s w).aj=kU s.aj w 3:=by unfold lN;rw[aq a]
 rw[e];unfold kU;rw[aq b];have:=congrArg length (NW (no:=av.no) (n:=w) (f:=av.put 3) (λx=>rfl) s.aj.ms);simpa using this
def Fe(l:List bG)(aW:List aY):Sq 3 [] [.sl 17 (l.map bG.cells),.sl 5 (aW.map aY.cells)] [] (.bool true):=by
 rcases dN 1000 l.length with hlen|hlen
 ·have d:decide ((1000:Int)<(l.length:Int))=true:=iy;refine bp 134 2 [.tmp 4] mixed func3 ?_;exact dL d
 have d:decide ((1000:Int)<(l.length:Int))=false:=iE;rcases dN 32 aW.length with hbl|hbl
 ·have O:decide ((32:Int)<(aW.length:Int))=true:=iy;refine bp 134 2 [.tmp 4] mixed func3 ?_;exact dL (a2 d O)
 have O:decide ((32:Int)<(aW.length:Int))=false:=iE;have N:=Ra;have M:=RR l hlen;have h:=Sf (YW l);obtain⟨s,Y⟩:=aN (K1 l);rw[<-Y]at M h;clear Y;simp only[af.cells]at M;refine bp 134 2 [.tmp 4] mixed func3 ?_;refine sc (a2 d O) M ?_;refine aF.wu aW.length [1,5] [] (λi=>[(6,.I i)]) (λi=>[(96,.box [.I s.now,.I s.day,.I s.phase,.sl 3 (s.aj.ms.map av.cells),.sl 12 (s.aj.ns.map aE.cells),.sl 4 (s.aj.xs.map aD.cells),.I s.book.next,.sl 7 (s.book.ts.map aR.cells),.sl 4 (s.book.qs.map aB.cells),.I s.bf.last,.sl 4 (s.bf.bs.map bU.cells),.sl 3 (pl s.ps),.sl 4 (s.calls.map aI.cells),.ref 1456,.sl 7 (s.aT.map bX.cells)]),(1456,.own 5 ((aW.take i).map aY.cells))]) (λi=>∀b∈aW.take i,lS b=true) sT ?_ ?_ ?_
 ·exact kG
 ·intro i _ C a p n;obtain⟨x,V,f,e⟩:=oc (c:=aY.cells) aW C;have U:(aW.take i).length=i:=by simp;omega
  have o:=jU C;rw[<-V]at o;obtain⟨K,hK⟩:=aN (aW.take i);rw[<-hK]at o n U |-;simp only[aY.cells]at f;by_cases X:lS x=true
  ·have P:((1<=x.who/\x.who<=16)/\1<=x.inst/\x.inst<=8)/\(1<=x.src/\x.src<=16)/\(1<=x.aO/\x.aO<=1048576)/\1<=x.aL/\x.aL<=1073741824:=by simpa only[lS,qB,within,bQ,bz]using X
   have g:decide (x.who<1)=false:=iE;have e2:decide (16<x.who)=false:=iE;have j:decide (x.inst<1)=false:=iE;have k:decide (8<x.inst)=false:=iE;have m:decide (x.src<1)=false:=iE;have r:decide (16<x.src)=false:=iE;have y:decide (x.aO<1)=false:=iE;have B:decide (1048576<x.aO)=false:=iE;have D:decide (x.aL<1)=false:=iE;have e0:decide (1073741824<x.aL)=false:=iE;simp only[go_sem,seval,a,e,f,g,e2,j,k,m,r,y,B,D,e0,p];refine bg ?_;refine ah.u C ?_ ?_
   ·rw[o];intro b Q;rcases mem_append.1 Q with q|q
    ·exact n b q
    ·rw[gV]at q;rw[q];exact X
   ·exact gY o
  ·by_cases q1:x.who<1
   ·have g:decide (x.who<1)=true:=iy;exact dL (a4 a e f g)
   have g:decide (x.who<1)=false:=iE;by_cases W:16<x.who
   ·have e2:decide (16<x.who)=true:=iy;exact dL (a5 a e f g e2)
   have e2:decide (16<x.who)=false:=iE;by_cases q3:x.inst<1
   ·have j:decide (x.inst<1)=true:=iy;exact dL (a5 a e f g (a2 e2 j))
   have j:decide (x.inst<1)=false:=iE;by_cases q4:8<x.inst
   ·have k:decide (8<x.inst)=true:=iy;exact dL (a5 a e f g (a3 e2 j k))
   have k:decide (8<x.inst)=false:=iE;by_cases q5:x.src<1
   ·have m:decide (x.src<1)=true:=iy;exact dL (a5 a e f g (a4 e2 j k m))
   have m:decide (x.src<1)=false:=iE;by_cases q6:16<x.src
   ·have r:decide (16<x.src)=true:=iy;exact dL (a5 a e f g (a5 e2 j k m r))
   have r:decide (16<x.src)=false:=iE;by_cases q7:x.aO<1
   ·have y:decide (x.aO<1)=true:=iy;exact dL (a5 a e f g (a5 e2 j k m (a2 r y)))
   have y:decide (x.aO<1)=false:=iE;by_cases q8:1048576<x.aO
   ·have B:decide (1048576<x.aO)=true:=iy;exact dL (a5 a e f g (a5 e2 j k m (a3 r y B)))
   have B:decide (1048576<x.aO)=false:=iE;by_cases q9:x.aL<1
   ·have D:decide (x.aL<1)=true:=iy;exact dL (a5 a e f g (a5 e2 j k m (a4 r y B D)))
   have D:decide (x.aL<1)=false:=iE;have e0:decide (1073741824<x.aL)=true:=by
    refine dY (Classical.byContradiction λq0=>X ?_);simp only[lS,qB,within,bQ,bz];omega
   simp only[go_sem,seval,a,e,f,g,e2,j,k,m,r,y,B,D,e0]
 ·intro _ z n;rw[eu]at n;simp only[go_sem,seval,z,eu];have J:Sw { s with aW:=aW }:=⟨⟨⟨h.right.N0,h.right.aj,h.right.book,h.right.bf,h.right.ps,h.right.calls,h.right.known,hbl,n,h.right.aT⟩,h.fk.last,h.fk.fit⟩,h.sm⟩
  have w:=IX _ J.right.lens _ rfl;simp only[af.cells]at w;refine aG.gE [1456] [] true sT ?_;refine s0 ?_;refine cz.gF w ?_;clear w;cases b1:qN { s with aW:=aW }
  ·exact sZ aS N
  refine s0 ?_;have T:=J.right.lens.ms;dsimp only at T;refine aF.sK (S:=af) s.aj.ms.length [5] [] (λi _=>[(8,.I i)]) (λ_ s=>[(96,.box s.cells)]) (λ_ t=>(Sw t/\qN t=true)/\t.aj.ms.length=s.aj.ms.length) { s with aW:=aW } ⟨⟨J,b1⟩,rfl⟩ ?_ ?_ ?_
  ·simp only[go_sem,seval,af.cells]
  ·intro i t C a p n;obtain⟨⟨A,P⟩,hn⟩:=n;have hi2:i<t.aj.ms.length:=ak
   have v:decide ((i:Int)<(t.aj.ms.length:Int))=true:=iy;obtain⟨x,V,f,e⟩:=oc (c:=av.cells) t.aj.ms hi2;have G:bD t.aj t.aj.ms[i].no=t.aj.ms[i].state:=congrArg av.state (zE (dQ.1 A.right.aj).1.2 (dS hi2) rfl);rw[<-V]at G;simp only[av.cells]at f;cases q:x.state==2
   ·simp only[af.cells,go_sem,seval,v,f,bne,q,p];refine bg ?_;refine ah.jT t C ⟨⟨A,P⟩,hn⟩ ?_;simp only[go_sem,seval,af.cells]
   have W:bD t.aj x.no=2:=by rw[G];simpa using q
   have R:=Sn A.right (Zb P) W;have H:=ajS A x.no;have L:=abi A R;have F:=abg A.right W R;rw[R]at H;have w:=IX _ L.right.lens _ rfl;obtain⟨u,Z⟩:=aN (lN t x.no);rw[<-Z]at H L F w;clear Z;simp only[af.cells]at H w;simp only[af.cells,go_sem,seval,v,f,bne,q];refine sc aS H ?_;refine sc aS w ?_;cases b2:qN u
   ·exact sZ aS N
   refine sm p ?_;refine ah.jT u C ⟨⟨L,b2⟩,F.trans hn⟩ ?_;simp only[go_sem,seval,af.cells]
  ·intro t z n;have E:decide ((s.aj.ms.length:Int)<(t.aj.ms.length:Int))=false:=by rw[n.2];exact z
   simp only[af.cells,go_sem,seval,E];exact sZ aS N
