/- Parts. -/
import Derived.Test.YtbfilfeggodcjaaGreatKB
import Derived.Test.YtbfilfeggodcjaaGreatKC
import Derived.Test.YtbfilfeggodcjaaGreatKD
set_option linter.all false
set_option maxHeartbeats 4000000
set_option maxRecDepth 16000
namespace Go.Proofs.YtbfilfeggodcjaaGreat
open Go.Abs Tryz
open List hiding lt max
def kB(j:Nat)(p:eD):Int:=-p.q*p.i.mult*p.i.sh j
def fO(l:List eD)(j:Nat):Int:=aK (l.map (kB j))
def tM(p:eD):Int:=max p.q (-p.q)*p.i.add
def Ab(p:eD):Prop:=p.i.ok=true /\ -1099511627776<=p.q/\p.q<=1099511627776
def wQ{x:ay}(h:x.ok=true)(j:Nat):-1073741824<=x.sh j/\x.sh j<=1073741824:=by
 simp only[ay.ok,dO]at h;have a:=h.1.1.1.1.1.1;simp only[ay.Ks,cR,mem_range,within,dO,bP]at a;rcases cq j 6 with hj|hj
 ·exact a j hj
 ·have e:x.sh j=x.sh 5:=by
   rcases j with _| _| _| _| _| _|j<;>first|omega|rfl
  rw[e];exact a 5 aj
def j8{x:ay}(h:x.ok=true):(1<=x.mult/\x.mult<=1024)/\(0<=x.add/\x.add<=1073741824):=by
 simp only[ay.ok,within,dO,bP]at h;omega
def iL{a b A B:Int}(ha:-A<=a/\a<=A)(hb:-B<=b/\b<=B):-(A*B)<=a*b/\a*b<=A*B:=by
 have c:0<=A:=aj
 have d:0<=B:=aj
 have h:a.natAbs*b.natAbs<=A.natAbs*B.natAbs:=Nat.mul_le_mul aj aj;have h1:(a*b).natAbs=a.natAbs*b.natAbs:=Int.natAbs_mul a b;have h2:(A*B).natAbs=A.natAbs*B.natAbs:=Int.natAbs_mul A B;have h3:0<=A*B:=Int.mul_nonneg c d;omega
def yH{p:eD}(h:Ab p)(j:Nat):(-1125899906842624 <= -p.q*p.i.mult /\ -p.q*p.i.mult<=1125899906842624) /\ -1208925819614629174706176<=kB j p/\kB j p<=1208925819614629174706176:=by
 obtain⟨c,h2,h3⟩:=h;obtain⟨⟨m1,m2⟩,-⟩:=j8 c;have s:=wQ c j;have r1:=iL (a:=-p.q) (b:=p.i.mult) (A:=1099511627776) (B:=1024) aj aj;have r1:-1125899906842624 <= -p.q*p.i.mult /\ -p.q*p.i.mult<=1125899906842624:=r1;have r2:=iL (a:=-p.q*p.i.mult) (b:=p.i.sh j) (A:=1125899906842624) (B:=1073741824) r1 s;exact⟨r1,r2⟩
def Aq{p:eD}(h:Ab p):-1208925819614629174706176<=tM p/\tM p<=1208925819614629174706176:=by
 obtain⟨c,h2,h3⟩:=h;obtain⟨-,m1,m2⟩:=j8 c;have r1:=iL (a:=max p.q (-p.q)) (b:=p.i.add) (A:=1099511627776) (B:=1099511627776) aj aj;exact r1
theorem ru{l:List Int}{B:Int}(h:∀n∈l,-B<=n/\n<=B):-(B*l.length)<=aK l/\aK l<=B*l.length:=by
 induction l with
 |nil=>simp[aK]
 |cons x r ih =>
  have h1:=h x sT;have h2:=ih λn a=>h n (by simp[a]);have e:B*((x::r).length:Int)=B*(r.length:Int)+B:=by
   have:(((x::r).length:Nat):Int)=(r.length:Int)+1:=by simp
   rw[this,Int.mul_add,Int.mul_one]
  rw[e];simp only[aK];omega
def sv{B x:Int}(h:-B<=x/\x<=B)(hB:B<=85070591730234615865843651857942052864):rI x=true:=by
 simp only[rI,dO,bP];omega
def Ko{l:List eD}(h:∀p∈l,Ab p)(j:Nat)(hl:l.length<2^30):(∀n∈l.map (kB j),rI n=true)/\rI (fO l j)=true:=by
 have b:∀n∈l.map (kB j),-1208925819614629174706176<=n/\n<=1208925819614629174706176:=by
  intro n a;obtain⟨p,d,rfl⟩:=mem_map.1 a;exact(yH (h p d) j).2
 refine⟨λn a=>sv (b n a) aj,?_⟩;have c:=ru (B:=1208925819614629174706176) b;simp only[mY]at c;refine sv (B:=1208925819614629174706176*(l.length:Int)) c aj
def fH(l:List eD)(i:Nat)(j:Nat):D:=.I (if j<i then fO l j else 0)
def cM(l:List eD)(i:Nat):List D:=[fH l i 0,fH l i 1,fH l i 2,fH l i 3,fH l i 4,fH l i 5]
theorem yG(l:List eD){i:Nat}(h:i<6):dc (cM l i) (i*1) [.int .i64 (fO l i)]=cM l (i+1):=by
 rcases i with _| _| _| _| _| _|i<;>first|omega|simp[cM,fH,dc]
theorem jv(l:List eD):cM l 0=[.int .i64 0,.int .i64 0,.int .i64 0,.int .i64 0,.int .i64 0,.int .i64 0]:=by simp[cM,fH]
def gW(l:List eD):Bool:=(range 6).any λj=>!bR (fO l j)
def nC(r:aC)(w c:Int)(qs:List aN):Int:=if BP r qs=0 then(if gW (jD r w c qs)then 1 else 0)else BP r qs
def rP(r:aC)(w c:Int)(qs:List aN):List D:=if nC r w c qs=0 then cM (jD r w c qs) 6 else cM [] 0
theorem GG{A:Type}{no:A->Int}{n:Int}{z:A}:∀{xs:List A},0<=iD no n xs->gL no n z xs∈xs/\no (gL no n z xs)=n
 | [],h=>by simp[iD]at h
 |x::r,h=>by
  simp only[iD]at h;simp only[gL];split at h
  ·rename_i a;rw[aE a];exact⟨by simp,a⟩
  ·rename_i a;rw[az a];split at h
   ·omega
   ·have:=GG (no:=no) (n:=n) (z:=z) (xs:=r) aj;exact⟨mem_cons_of_mem _ this.1,this.2⟩
def Co{A:Type}{no:A->Int}{ok:A->Bool}{xs:List A}(h:gQ no ok xs=true):∀x∈xs,ok x=true:=by
 intro x b;obtain⟨i,a,rfl⟩:=mem_iff_getElem.1 b;have:=cR.1 h i (mem_range.2 a);rcases Nat.eq_zero_or_pos i with rfl|hp
 ·rwa[gf no ok xs a aj]at this
 ·rw[gb no ok xs a hp,dO]at this;exact this.1
def pY{r:aC}(h:r.okB=true){n:Int}(a:bZ r n=true):(bU r n).ok=true:=by
 simp only[aC.okB,dO]at h;exact Co h.1.2 _ (GG (by simpa[bZ]using a)).1
def we{r:aC}{w c:Int}{qs:List aN}(h:BP r qs=0):∀p∈jD r w c qs,Ab p:=by
 have b:r.okB=true/\qs.all oq=true:=by
  unfold BP at h;split at h
  ·rename_i e;split at h
   ·rename_i f;exact⟨e,f⟩
   ·cases h
  ·cases h
 intro p d;simp only[jD,mem_map,mem_filter]at d;obtain⟨x,⟨i,a⟩,rfl⟩:=d;have g:=cR.1 b.2 x i;simp only[oq,dO,jY,iX]at g;refine⟨?_,by simp only;omega,by simp only;omega⟩;simp only[BQ,dO]at a;exact pY b.1 a.1
theorem SM(p:eD){i:Nat}(h:i<6):(drop (6+i*1) p.cells).headD .undef=.int .i64 (p.i.sh i):=by
 rcases i with _| _| _| _| _| _|i<;>first|rfl|omega
theorem Hf(r:aC)(w c:Int)(qs:List aN)(hr:r.small)(Z:qs.length<2^30):Sq 208 [] [.agg r.cells,.int .i64 w,.int .i64 c,.sl 4 (qs.map aN.cells)] [] (.bH [.agg (rP r w c qs),.int .i64 (nC r w c qs)]):=by
 have P:=yL r w c qs hr Z;simp only[aC.cells]at P |-;refine aX 77 4 [.cell 8 124,.tmp 9] mixed func208 ?_;refine so aI P ?_;by_cases o:BP r qs=0
 case neg =>
  have Y:(BP r qs != 0)=true:=by simpa using o
  have D:nC r w c qs=BP r qs:=by simp[nC,o]
  have e2:rP r w c qs=cM [] 0:=by simp[rP,D,o]
  rw[D,e2,jv];simp only[go_sem,seval,Y]
 have C:=we (w:=w) (c:=c) o;have Q:=qW r w c qs;have D:LV r w c qs=jD r w c qs:=by simp[LV,o]
 have e2:nC r w c qs=if gW (jD r w c qs)then 1 else 0:=by simp[nC,o]
 simp only[rP,e2,D];clear D e2;obtain⟨l,W⟩:=aV (jD r w c qs);rw[<-W]at C Q |-;clear P W;have hz:=jv l;simp only[go_sem,seval,o];refine aF.wu 6 [8,10,11] [144,400] (λi=>[(31,.int .i64 i)]) (λi=>[(176,.box (cM l i))]) (λi=>∀j<i,bR (fO l j)=true) (by intros;omega) ?_ ?_ ?_
 ·simp only[go_sem,seval,hz]<;>simp
 ·intro j _ I t T L;have t:decide ((j:Int)<6)=true:=t;have n:=Ko C j aj;have b:=yG l I;obtain⟨B,K⟩:=aV (cM l j);have hBl:B.length=6:=by rw[K];rfl
  have m:∀d∈cM l (j+1),iS d=true:=by simp[cM,fH,iS]
  have a:∀d∈B,iS d=true:=by rw[K];simp[cM,fH,iS]
  rw[<-K]at b |-;simp only[go_sem,seval,t];refine aF.wv l.length [8,10,11,13,31,34,35] [144,176,400] (λi=>[(36,.int .i64 i),(14,.ref 896)]) (λi=>[(896,.own 2 (rz ((l.take i).map (kB j))))]) ?_ ?_ ?_
  ·simp only[go_sem,seval]<;>simp[rz,fT a,j9 a]
  ·intro i _ g O R _;obtain⟨p,G,X,-⟩:=uy (c:=eD.cells) l g;have z:=C l[i] (cZ g);have y:rz ((l.take (i+1)).map (kB j))=rz ((l.take i).map (kB j))++[wd (kB j p)]:=by
    rw[kM g,G];simp only[rz,jH,map_cons,map_nil]
   rw[<-G]at z;obtain⟨r1,r2⟩:=yH z j;obtain⟨k1,k2,k3⟩:=z;have hsr:=wQ k1 j;have w1:IntKind.wrap .i64 (0-p.q) = -p.q:=eM;have w2:IntKind.wrap .i64 (-p.q*p.i.mult) = -p.q*p.i.mult:=lF aj aj;have ht:=mq (-p.q*p.i.mult) (p.i.sh j) aj aj;have H:=SM p I;have F:(rz ((l.take i).map (kB j))).length=i:=by simp[rz];omega
   simp only[eD.cells]at X H;refine sc (a5 O X w1 w2 (a3 H R F)) ht ?_;refine bG ?_;refine af.v g ?_;simp only[go_sem,seval,y,kB]<;>simp[wd,fT a,j9 a]
  ·intro _ f _;have J:=rA (l.map (kB j)) (by simp;omega) n.1;have s:=nI (fO l j);have e:aK (l.map (kB j))=fO l j:=rfl;rw[e,n.2,aE rfl,aE rfl]at J;obtain⟨S,M⟩:=aV (fO l j);rw[<-M]at J s b;have x:bR S=true->∀k<j+1,bR (fO l k)=true:=λU k V=>by
    rcases cq k j with h|h
    ·exact L k h
    ·obtain rfl:k=j:=aj
     rw[<-M];exact U
   have E:bR S=false->gW l=true:=λU=>by
    simp only[gW,any_eq_true,mem_range];exact⟨j,I,by rw[<-M,U];rfl⟩
   simp only[wd]at J s;simp only[go_sem,seval,f,ef];refine sl aI J ?_;refine ak.aH s ?_;cases g:bR S
   ·have N:=E g;simp only[go_sem,seval,g,N,cM,fH];(with_reducible and_intros)<;>first|exact .dq|omega|skip
   ·simp only[go_sem,seval]at b;simp only[go_sem,seval,g,b,T];refine bG ?_;refine af.u I (x g) ?_;simp only[go_sem,seval];exact fT m
 ·intro _ f L;have f:decide ((6:Int)<6)=false:=f;have N:gW l=false:=by
   simp only[gW,any_eq_false,mem_range];intro k V;simp[L k V]
  simp only[go_sem,seval,f,N,cM,fH]
def oL(f:Nat->Int):Nat->Int
 | 0=>0
 |i+1=>max (oL f i) (f i)
theorem yI{f:Nat->Int}(n:Nat)(h:∀j<n,bR (f j)=true):0<=oL f n/\oL f n<=4611686018427387904:=by
 induction n with
 |zero=>simp[oL]
 |succ n ih =>
  have h1:=ih λj hj=>h j aj;have h2:=fY.1 (h n aj);simp only[oL];omega
def xN(l:List eD):Int:=aK (oL (fO l) 6::l.map tM)
def qP(r:aC)(w c:Int)(qs:List aN):Int:=if nC r w c qs=0 then(if bR (xN (jD r w c qs))then 0 else 1)else nC r w c qs
def nD(r:aC)(w c:Int)(qs:List aN):Int:=if nC r w c qs=0 then(if bR (xN (jD r w c qs))then xN (jD r w c qs)else 0)else 0
theorem Jy(f:Nat->Int){i:Nat}(h:i<6):(drop (i*1) [D.int .i64 (f 0),D.int .i64 (f 1),D.int .i64 (f 2),D.int .i64 (f 3),D.int .i64 (f 4),D.int .i64 (f 5)]).headD .undef=.int .i64 (f i):=by
 rcases i with _| _| _| _| _| _|i<;>first|rfl|omega
def Eb{r:aC}{w c:Int}{qs:List aN}(h:nC r w c qs=0):BP r qs=0/\gW (jD r w c qs)=false:=by
 unfold nC at h;split at h
 ·rename_i a;refine⟨a,?_⟩;cases b:gW (jD r w c qs)
  ·rfl
  ·rw[b]at h;cases h
 ·rename_i a;exact(a h).elim
def By{l:List eD}(h:gW l=false):∀j<6,bR (fO l j)=true:=by
 intro j a;simp only[gW,any_eq_false,mem_range]at h;simpa using h j a
theorem Hi(r:aC)(w c:Int)(qs:List aN)(hr:r.small)(W:qs.length<2^30):Sq 125 [] [.agg r.cells,.int .i64 w,.int .i64 c,.sl 4 (qs.map aN.cells)] [] (.bH [.int .i64 (nD r w c qs),.int .i64 (qP r w c qs)]):=by
 have o:=yL r w c qs hr W;have J:=Hf r w c qs hr W;simp only[aC.cells]at o J |-;refine aX 83 4 [.tmp 8,.tmp 9] mixed func125 ?_;refine sc aI J ?_;by_cases d:nC r w c qs=0
 case neg =>
  have Y:(nC r w c qs != 0)=true:=by simpa using d
  have F:qP r w c qs=nC r w c qs:=by simp[qP,d]
  have e2:nD r w c qs=0:=by simp[nD,d]
  have G:rP r w c qs=cM [] 0:=by simp[rP,d]
  rw[F,e2,G,jv];simp only[go_sem,seval,Y]
 obtain⟨j,e⟩:=Eb d;have k:=we (w:=w) (c:=c) j;have O:=qW r w c qs;have F:LV r w c qs=jD r w c qs:=by simp[LV,j]
 have e2:qP r w c qs=if bR (xN (jD r w c qs))then 0 else 1:=by simp[qP,d]
 have G:nD r w c qs=if bR (xN (jD r w c qs))then xN (jD r w c qs)else 0:=by simp[nD,d]
 have Q:rP r w c qs=[.int .i64 (fO (jD r w c qs) 0),.int .i64 (fO (jD r w c qs) 1),.int .i64 (fO (jD r w c qs) 2),.int .i64 (fO (jD r w c qs) 3),.int .i64 (fO (jD r w c qs) 4),.int .i64 (fO (jD r w c qs) 5)]:=by simp[rP,d,cM,fH]
 rw[F]at o;rw[e2,G,Q];clear F e2 G Q J;obtain⟨l,U⟩:=aV (jD r w c qs);rw[<-U]at k O o e |-;clear U;have u:=By e;obtain⟨L,K⟩:=aV (fO l);obtain⟨T,t⟩:=aV (xN l);rw[<-t];simp only[xN]at t;rw[<-K]at u t |-;simp only[go_sem,seval,d];refine aF.wv 6 [1,2,3,4,32] [80,176] (λi=>[(33,.int .i64 i),(12,.int .i64 (oL L i))]) (λi=>[]) ?_ ?_ ?_
 ·simp only[go_sem,seval]<;>simp[oL]
 ·intro i _ g a m _;have a:decide ((i:Int)<6)=true:=a;have P:=Jy L g;simp only[go_sem,seval,a,P,m];refine bG ?_;refine af.v g ?_;simp only[go_sem,seval,oL]
 ·intro _ b _;have b:decide ((6:Int)<6)=false:=b;have N:=yI (f:=L) 6 u;obtain⟨M,Z⟩:=aV (oL L 6);rw[<-Z]at N t |-;have R:=yV M aj;simp only[wd]at R;refine sc b R ?_;refine so j o ?_;refine aF.wv l.length [51,52] [784,848] (λi=>[(53,.int .i64 i),(15,.ref 1120)]) (λi=>[(1120,.own 2 (rz (M::(l.take i).map tM)))]) ?_ ?_ ?_
  ·simp only[go_sem,seval]<;>simp[rz,wd]
  ·intro i _ g a m _;obtain⟨p,D,V,-⟩:=uy (c:=eD.cells) l g;have E:=k l[i] (cZ g);have h:rz (M::(l.take (i+1)).map tM)=rz (M::(l.take i).map tM)++[wd (tM p)]:=by
    rw[kM g,jH,D];simp only[rz,jH,map_cons,map_nil,cons_append]
   rw[<-D]at E;obtain⟨k1,k2,k3⟩:=E;obtain⟨-,g1,g2⟩:=j8 k1;have w1:IntKind.wrap .i64 (0-p.q) = -p.q:=eM;obtain⟨x,X⟩:=aV (max p.q (-p.q));have hxr:-1099511627776<=x/\x<=1099511627776:=aj
   have ht:=mq x p.i.add aj aj;have z:(rz (M::(l.take i).map tM)).length=i+1:=by simp[rz];omega
   have ha:tM p=x*p.i.add:=by rw[X];rfl
   simp only[eD.cells]at V;simp only[go_sem,seval,a,V,w1];rw[<-X];refine sc (a2 m z) ht ?_;refine bG ?_;refine af.v g ?_;simp only[go_sem,seval,h,ha]<;>simp[wd]
  ·intro _ b _;have S:∀n∈M::l.map tM,-1208925819614629174706176<=n/\n<=1208925819614629174706176:=by
    intro n C;rcases mem_cons.1 C with rfl|C
    ·omega
    ·obtain⟨p,o,rfl⟩:=mem_map.1 C;exact Aq (k p o)
   have H:=rA (M::l.map tM) (by simp;omega) (λn C=>sv (S n C) aj);have I:=ru (B:=1208925819614629174706176) S;rw[<-t]at H I;simp only[length_cons,mY]at I;have y:rI T=true:=sv (B:=1208925819614629174706176*((l.length+1:Nat):Int)) I aj;have s:=nI T;rw[y,aE rfl,aE rfl]at H;simp only[wd]at H s;simp only[go_sem,seval,b,ef];refine sl aI H ?_;exact qt aI s
def Cd(x:ah):Sq 185 [] [.agg x.cells] [] (.bool x.ok):=by
 have a:=gP x.no;have b:=aY x.state 1 3;have c:=aY x.need 0 4611686018427387904;simp only[ah.cells];refine aX 16 1 [.tmp 2] mixed func185 ?_;refine s0 ?_;repeat' with_reducible first|apply And.intro|exact .dq|refine ak.aH (by assumption) ?_|refine ak.aH (a) ?_|refine ak.aH (b) ?_|refine ak.aH (c) ?_|refine gr (λh=>?_) λh=>?_|refine .id ?_|refine af.bF aj ?_ ?_|exact aI|simp only[*,go_sem,seval]
 all_goals first
  | (simp_all[ah.ok];done)
  | (rw[gI];simp_all[ah.ok,within,bR];omega)
def zz(x:ay):Sq 186 [] [.agg x.cells] [] (.bool x.ok):=by
 have q:=aY x.no 1 8;have r:=oN x.cur;have s:=aY x.mult 1 1024;have t:=aY x.add 0 1073741824;have v:=aY x.set 0 1073741824;have w:=aY x.cH 0 1073741824;simp only[ay.cells];refine aX 42 1 [.tmp 2] mixed func186 ?_;refine s0 ?_;refine aF.w1 6 3 [1] [32] (λi _=>∀j<i,within (x.sh j) (-1073741824) 1073741824=true) (by intros;omega) ?_ ?_
 ·intro i _ k b z f;have b:decide ((i:Int)<6)=true:=b;have d:=Jy x.sh k;have p:[D.I (x.sh 0),D.I (x.sh 1),D.I (x.sh 2),D.I (x.sh 3),D.I (x.sh 4),D.I (x.sh 5)]=[D.I x.s0,D.I x.s1,D.I x.s2,D.I x.s3,D.I x.s4,D.I x.s5]:=rfl;rw[p]at d;have a:(drop (6+i*1) x.cells).headD .undef=.I (x.sh i):=by
   rcases i with _| _| _| _| _| _|i<;>first|rfl|omega
  simp only[ay.cells]at a;have y:=aY (x.sh i) (-1073741824) 1073741824;refine sc (a3 b d a) y ?_;cases g:within (x.sh i) (-1073741824) 1073741824
  ·have o:x.Ks=false:=by
    cases l:x.Ks
    ·rfl
    ·rw[ay.Ks,cR]at l;rw[l i (mem_range.2 k)]at g;cases g
   have e2:x.ok=false:=by simp[ay.ok,o]
   exact dJ e2
  ·refine sm z ?_;refine af.u k ?_ ?_
   ·intro j m;rcases cq j i with h|h
    ·exact f j h
    ·obtain rfl:j=i:=aj
     exact g
   ·exact iM
 ·intro _ c f;have c:decide ((6:Int)<6)=false:=c;have n:x.Ks=true:=cR.2 λj m=>f j (mem_range.1 m);have e:x.ok=(within x.no 1 8&&within x.cur 0 2&&within x.mult 1 1024&&within x.add 0 1073741824&&within x.set 0 1073741824&&within x.cH 0 1073741824):=by simp[ay.ok,n]
  rw[e];clear f e n;repeat' with_reducible first|apply And.intro|exact .dq|refine ak.aH (by assumption) ?_|refine ak.aH (q) ?_|refine ak.aH (r) ?_|refine ak.aH (s) ?_|refine ak.aH (t) ?_|refine ak.aH (v) ?_|refine ak.aH (w) ?_|refine gr (λh=>?_) λh=>?_|refine .id ?_|refine af.bF aj ?_ ?_|exact aI|simp only[*,go_sem,seval]
  all_goals(simp_all;done)
section
variable{A:Type}{no:A->Int}{ok:A->Bool}{xs:List A}
def Cn{i:Nat}(h:i<xs.length)(a:cD no ok xs i=false):gQ no ok xs=false:=by
 cases b:gQ no ok xs
 ·rfl
 ·rw[cR.1 b i (mem_range.2 h)]at a;cases a
def tB(h:∀i<xs.length,cD no ok xs i=true):gQ no ok xs=true:=cR.2 λi a=>h i (mem_range.1 a)
def uZ{i:Nat}(b:∀j<i,cD no ok xs j=true)(a:cD no ok xs i=true):∀k<i+1,cD no ok xs k=true:=λk hk=>by
 rcases cq k i with h|h
 ·exact b k h
 ·obtain rfl:k=i:=aj
  exact a
end
def lz(r:aC)(hl:r.small):Sq 98 [] [.agg r.cells] [] (.bool r.okB):=by
 obtain⟨l1,l2,l3⟩:=hl;simp only[aC.cells];refine aX 108 1 [.tmp 2] mixed func98 ?_;refine s0 ?_;refine aF.count r.ms.length [1] [32] (λi=>[(3,.I i)]) (λi=>[]) (λi=>∀j<i,cD ah.no ah.ok r.ms j=true) sT ?_ ?_
 ·exact lA
 intro i u g;refine s0 ?_;refine aU.cQ (λh=>?_) (λh=>?_)
 ·have b:i<r.ms.length:=aj
  have v:IntKind.wrap .i64 ((i:Int)+1)=((i+1:Nat):Int):=eM;have k:=aP (c:=ah.cells) r.ms b;have f:=Cd r.ms[i];have e0:=uZ (i:=i) g;have e1:cD ah.no ah.ok r.ms i=false->r.okB=false:=λp=>by simp[aC.okB,Cn b p]
  have n:(i:Int)<(r.ms.length:Int):=aj
  simp only[ah.cells]at k f;rcases Nat.eq_zero_or_pos i with rfl|hpos
  ·have hk:=gf ah.no ah.ok r.ms b aj;refine sm k ?_;repeat' with_reducible first|apply And.intro|exact .dq|refine ak.aH (by assumption) ?_|refine ak.aH (f) ?_|refine gr (λh=>?_) λh=>?_|refine .id ?_|refine af.bF aj ?_ ?_|exact aI|simp only[*,go_sem,seval]
   all_goals exact CO
  ·obtain⟨j,rfl⟩:∃j,i=j+1:=⟨i-1,by omega⟩
   have l:j<r.ms.length:=aj
   have o:IntKind.wrap .i64 (((j+1:Nat):Int)-1)=(j:Int):=eM;have hk:=gb ah.no ah.ok r.ms b aj;have d:=aP (c:=ah.cells) r.ms l;have m:(j:Int)<(r.ms.length:Int):=aj
   simp only[ah.cells]at d;simp only[Nat.add_sub_cancel]at hk;refine sm k ?_;repeat' with_reducible first|apply And.intro|exact .dq|refine ak.aH (by assumption) ?_|refine ak.aH (f) ?_|refine gr (λh=>?_) λh=>?_|refine .id ?_|refine af.bF aj ?_ ?_|exact aI|simp only[*,go_sem,seval,d,mY]
   all_goals exact CO
 have q:=tB (λj (l:j<r.ms.length)=>g j aj);clear g;refine s0 ?_;refine aF.count r.ns.length [1] [32] (λi=>[(4,.I i)]) (λi=>[]) (λi=>∀j<i,cD ay.no ay.ok r.ns j=true) sT ?_ ?_
 ·exact lA
 intro i u g;refine s0 ?_;refine aU.cQ (λh=>?_) (λh=>?_)
 ·have b:i<r.ns.length:=aj
  have v:IntKind.wrap .i64 ((i:Int)+1)=((i+1:Nat):Int):=eM;have k:=aP (c:=ay.cells) r.ns b;have f:=zz r.ns[i];have e0:=uZ (i:=i) g;have e1:cD ay.no ay.ok r.ns i=false->r.okB=false:=λp=>by simp[aC.okB,Cn b p]
  have n:(i:Int)<(r.ns.length:Int):=aj
  simp only[ay.cells]at k f;rcases Nat.eq_zero_or_pos i with rfl|hpos
  ·have hk:=gf ay.no ay.ok r.ns b aj;refine sm k ?_;repeat' with_reducible first|apply And.intro|exact .dq|refine ak.aH (by assumption) ?_|refine ak.aH (f) ?_|refine gr (λh=>?_) λh=>?_|refine .id ?_|refine af.bF aj ?_ ?_|exact aI|simp only[*,go_sem,seval]
   all_goals exact CO
  ·obtain⟨j,rfl⟩:∃j,i=j+1:=⟨i-1,by omega⟩
   have l:j<r.ns.length:=aj
   have o:IntKind.wrap .i64 (((j+1:Nat):Int)-1)=(j:Int):=eM;have hk:=gb ay.no ay.ok r.ns b aj;have d:=aP (c:=ay.cells) r.ns l;have m:(j:Int)<(r.ns.length:Int):=aj
   simp only[ay.cells]at d;simp only[Nat.add_sub_cancel]at hk;refine sm k ?_;repeat' with_reducible first|apply And.intro|exact .dq|refine ak.aH (by assumption) ?_|refine ak.aH (f) ?_|refine gr (λh=>?_) λh=>?_|refine .id ?_|refine af.bF aj ?_ ?_|exact aI|simp only[*,go_sem,seval,d,mY]
   all_goals exact CO
 have s:=tB (λj (l:j<r.ns.length)=>g j aj);clear g;refine s0 ?_;refine aF.count r.xs.length [1] [32] (λi=>[(5,.I i)]) (λi=>[]) (λi=>∀j<i,cD av.a av.ok r.xs j=true) sT ?_ ?_
 ·exact lA
 intro i u g;refine s0 ?_;refine aU.cQ (λh=>?_) (λh=>?_)
 ·have b:i<r.xs.length:=aj
  have v:IntKind.wrap .i64 ((i:Int)+1)=((i+1:Nat):Int):=eM;have k:=aP (c:=av.cells) r.xs b;have f:=um r.xs[i];have e0:=uZ (i:=i) g;have e1:cD av.a av.ok r.xs i=false->r.okB=false:=λp=>by simp[aC.okB,Cn b p]
  have n:(i:Int)<(r.xs.length:Int):=aj
  simp only[av.cells]at k f;rcases Nat.eq_zero_or_pos i with rfl|hpos
  ·have hk:=gf av.a av.ok r.xs b aj;refine sm k ?_;repeat' with_reducible first|apply And.intro|exact .dq|refine ak.aH (by assumption) ?_|refine ak.aH (f) ?_|refine gr (λh=>?_) λh=>?_|refine .id ?_|refine af.bF aj ?_ ?_|exact aI|simp only[*,go_sem,seval]
   all_goals exact CO
  ·obtain⟨j,rfl⟩:∃j,i=j+1:=⟨i-1,by omega⟩
   have l:j<r.xs.length:=aj
   have o:IntKind.wrap .i64 (((j+1:Nat):Int)-1)=(j:Int):=eM;have hk:=gb av.a av.ok r.xs b aj;have d:=aP (c:=av.cells) r.xs l;have m:(j:Int)<(r.xs.length:Int):=aj
   simp only[av.cells]at d;simp only[Nat.add_sub_cancel]at hk;refine sm k ?_;repeat' with_reducible first|apply And.intro|exact .dq|refine ak.aH (by assumption) ?_|refine ak.aH (f) ?_|refine gr (λh=>?_) λh=>?_|refine .id ?_|refine af.bF aj ?_ ?_|exact aI|simp only[*,go_sem,seval,d,mY]
   all_goals exact CO
 have t:=tB (λj (l:j<r.xs.length)=>g j aj);clear g;refine s0 ?_;have e:r.okB=true:=by simp[aC.okB,q,s,t]
 rw[e]
theorem jw(r:aC)(n:Int)(q:r.small):Sq 108 [] [.agg r.cells,.int .i64 n] [] (.bH [.agg (bU r n).cells,.bool (bZ r n)]):=by
 obtain⟨l1,l2,l3⟩:=q;simp only[aC.cells];refine aX 28 2 [.cell 4 126,.tmp 5] mixed func108 ?_;refine s0 ?_;refine aF.w1 r.ns.length 6 [1,2,4] [48,80] (λi _=>∀j (b:j<r.ns.length),j<i->r.ns[j].no≠n) (by intros;omega) ?_ ?_
 ·intro i _ m k s d;have o:=aP (c:=ay.cells) r.ns m;have hlt:(i:Int)<(r.ns.length:Int):=aj
  simp only[ay.cells]at o |-;refine sm (a2 k o) ?_;refine bG ?_;cases p:r.ns[i].no==n
  ·have a:r.ns[i].no≠n:=su p;refine sm s ?_;refine af.u m ?_ ?_
   ·intro j b hji;rcases cq j i with h|h
    ·exact d j b h
    ·obtain rfl:j=i:=aj
     exact a
   ·exact iM
  ·have a:r.ns[i].no=n:=su p;obtain⟨f,g⟩:=je (z:=ay.zero) m d a;have e:bU r n=r.ns[i]:=f;have e2:bZ r n=true:=by simp[bZ,g]
   rw[e,e2];refine sm o ?_;exact U0
 ·intro _ l d;obtain⟨f,g⟩:=gC (z:=ay.zero) (λj b=>d j b b);have e:bU r n=ay.zero:=f;have e2:bZ r n=false:=by simp[bZ,g]
  rw[e,e2];simp only[go_sem,seval,l,ay.cells,ay.zero]
def QJ(p:aN):within p.eN (-1099511627776) 1099511627776=oq p:=by
 rw[gI];simp[within,oq]
def NL(j:Nat)(p:eD):-p.q*(p.i.mult*p.i.sh j)=kB j p:=by rw[kB,Int.mul_assoc]
theorem Cb(r:aC)(w c:Int)(qs:List aN)(hr:r.small)(hq:qs.length<2^30):Sq 217 [] [.agg r.cells,.int .i64 w,.int .i64 c,.sl 4 (qs.map aN.cells)] [] (.bH [.agg (rP r w c qs),.int .i64 (nC r w c qs)]):=by
 have h2:=lz r hr;have h5:=λn=>jw r n hr;have U:=jv [];simp only[aC.cells]at h2 h5 |-;refine aX 115 4 [.cell 8 124,.tmp 9] mixed func217 ?_;refine sc aI h2 ?_;cases V:r.okB
 ·have e:BP r qs=14:=by simp[BP,V]
  have O:nC r w c qs=14:=by simp[nC,e]
  have e2:rP r w c qs=cM [] 0:=by simp[rP,O]
  rw[O,e2,U];exact iM
 refine s0 ?_;refine aF.w1 qs.length 11 [1,2,3,4,8,10] [80,144,176] (λi _=>∀j (t:j<qs.length),j<i->oq qs[j]=true) (by intros;omega) ?_ ?_
 ·intro i _ l J q C;have F:=aP (c:=aN.cells) qs l;have hv:=ff qs[i].eN (-1099511627776) 1099511627776;rw[QJ]at hv;simp only[aN.cells]at F;refine sc (a2 J F) hv ?_;cases H:oq qs[i]
  ·have:qs.all oq=false:=by
    cases hc:qs.all oq
    ·rfl
    ·rw[cR.1 hc _ (cZ l)]at H;cases H
   have e:BP r qs=3:=by simp[BP,V,this]
   have O:nC r w c qs=3:=by simp[nC,e]
   have e2:rP r w c qs=cM [] 0:=by simp[rP,O]
   rw[O,e2,U];exact iM
  ·refine sm q ?_;refine af.u l ?_ ?_
   ·intro j t hji;rcases cq j i with h|h
    ·exact C j t h
    ·obtain rfl:j=i:=aj
     exact H
   ·exact iM
 intro _ g C;have D:qs.all oq=true:=cR.2 λp hp=>by
  obtain⟨j,t,rfl⟩:=mem_iff_getElem.1 hp;exact C j t t
 have hE:BP r qs=0:=by simp[BP,V,D]
 have aa:=we (w:=w) (c:=c) hE;have hpl:=qW r w c qs;have e2:nC r w c qs=if gW (jD r w c qs)then 1 else 0:=by simp[nC,hE]
 simp only[rP,e2];clear e2 C;have hz:=jv (jD r w c qs);refine sm g ?_;clear g;refine aF.wu 6 [1,2,3,4,8,10] [80,144] (λi=>[(12,.I i)]) (λi=>[(176,.box (cM (jD r w c qs) i))]) (λi=>∀j<i,bR (fO (jD r w c qs) j)=true) (by intros;omega) ?_ ?_ ?_
 ·exact lG hz
 ·intro j _ t K ac C;have K:decide ((j:Int)<6)=true:=K;have s:=Ko aa j aj;have o:=yG (jD r w c qs) t;obtain⟨B,Y⟩:=aV (cM (jD r w c qs) j);have hBl:B.length=6:=by rw[Y];rfl
  have y:∀d∈cM (jD r w c qs) (j+1),iS d=true:=by simp[cM,fH,iS]
  have f:∀d∈B,iS d=true:=by rw[Y];simp[cM,fH,iS]
  rw[<-Y]at o |-;refine sm K ?_;refine aF.wv qs.length [1,2,3,4,8,10,12] [80,144,176] (λi=>[(14,.I i),(13,.ref 1504)]) (λi=>[(1504,.own 2 (rz ((jD r w c (qs.take i)).map (kB j))))]) ?_ ?_ ?_
  ·simp only[go_sem,seval]<;>simp[rz,jD,fT f,j9 f]
  ·intro i _ l J q _;have F:=aP (c:=aN.cells) qs l;have m:=BR r w c qs l;have hlen:=qW r w c (qs.take i);have hlt:(qs.take i).length=i:=by simp;omega
   have X:=h5 qs[i].inst;obtain⟨x,M⟩:=aV (bU r qs[i].inst);have T:bZ r qs[i].inst=true->x.ok=true:=λh=>by rw[M];exact pY V h
   have R:=cR.1 D qs[i] (cZ l);have hwl:(rz ((jD r w c (qs.take i)).map (kB j))).length<=i:=by simp[rz];omega
   have hlI:(i:Int)<(qs.length:Int):=aj
   simp only[BQ,<-M]at m;rw[<-M]at X;simp only[aN.cells]at F;simp only[ay.cells]at X;refine sc (a2 J F) X ?_;cases z:bZ r qs[i].inst
   ·simp only[z,eO,jm,if_false]at m;refine sm (a2 z q) ?_;refine bG ?_;refine af.v l ?_;simp only[go_sem,seval,m]<;>simp[fT f,j9 f]
   cases N:qs[i].who==w
   ·simp only[z,N,eO,cF,jm,if_false]at m;refine sm (a4 F z N q) ?_;refine bG ?_;refine af.v l ?_;simp only[go_sem,seval,m]<;>simp[fT f,j9 f]
   cases W:x.cur==c
   ·simp only[z,N,W,Bool.and_false,cF,jm,if_false]at m;refine sm (a5 F z N W q) ?_;refine bG ?_;refine af.v l ?_;simp only[go_sem,seval,m]<;>simp[fT f,j9 f]
   simp only[z,N,W,Bool.and_self,if_true]at m;have Q:=T z;obtain⟨⟨m1,m2⟩,-⟩:=j8 Q;have ab:=wQ Q j;simp only[oq,dO,jY,iX]at R;have hsa:=SM ⟨x,qs[i].eN⟩ t;have r1:=iL (a:=x.mult) (b:=x.sh j) (A:=1024) (B:=1073741824) aj ab;have r1:-1099511627776<=x.mult*x.sh j/\x.mult*x.sh j<=1099511627776:=r1;have w1:IntKind.wrap .i64 (0-qs[i].eN) = -qs[i].eN:=eM;have w2:IntKind.wrap .i64 (x.mult*x.sh j)=x.mult*x.sh j:=lF aj aj;have ht:=qm (-qs[i].eN) (x.mult*x.sh j) ⟨by omega,by omega⟩ ⟨by omega,by omega⟩;have hF:-qs[i].eN*(x.mult*x.sh j)=kB j ⟨x,qs[i].eN⟩:=NL j ⟨x,qs[i].eN⟩;rw[hF]at ht;simp only[wd]at ht;have E:(drop (6+j*1) x.cells).headD .undef=.I (x.sh j):=by
    rcases j with _| _| _| _| _| _|j<;>first|rfl|omega
   simp only[ay.cells]at E;refine sc (a5 F z N W (a4 q w1 E w2)) ht ?_;refine bG ?_;refine af.v l ?_;simp only[go_sem,seval,m]<;>simp[wd,rz,fT f,j9 f]
  ·intro _ g _;have m:=oO ((jD r w c qs).map (kB j)) (by simp;omega) s.1;have G:=mQ (fO (jD r w c qs) j);have e:aK ((jD r w c qs).map (kB j))=fO (jD r w c qs) j:=rfl;rw[e,s.2,aE rfl]at m;obtain⟨S,Z⟩:=aV (fO (jD r w c qs) j);rw[<-Z]at m G o;have L:bR S=true->∀k<j+1,bR (fO (jD r w c qs) k)=true:=λM k Q=>by
    rcases cq k j with h|h
    ·exact C k h
    ·obtain rfl:k=j:=aj
     rw[<-Z];exact M
   have P:bR S=false->gW (jD r w c qs)=true:=λM=>by
    simp only[gW,any_eq_true,mem_range];exact⟨j,t,by rw[<-Z,M];rfl⟩
   simp only[wd]at m G;simp only[go_sem,seval,g,ef];refine sl aI m ?_;refine ak.aH G ?_;cases l:bR S
   ·have H:=P l;simp only[go_sem,seval,l,H,cM,fH]
   ·simp only[go_sem,seval]at o;refine sm (a3 l o ac) ?_;refine bG ?_;refine af.u t (L l) ?_;refine s0 ?_;exact fT y
 ·intro _ g C;have g:decide ((6:Int)<6)=false:=g;have H:gW (jD r w c qs)=false:=by
   simp only[gW,any_eq_false,mem_range];intro k Q;simp[C k Q]
  simp only[go_sem,seval,g,H,cM,fH]
theorem Cc(r:aC)(w c:Int)(qs:List aN)(hr:r.small)(hq:qs.length<2^30):Sq 130 [] [.agg r.cells,.int .i64 w,.int .i64 c,.sl 4 (qs.map aN.cells)] [] (.bH [.int .i64 (nD r w c qs),.int .i64 (qP r w c qs)]):=by
 have K:=Cb r w c qs hr hq;have V:=λn=>jw r n hr;simp only[aC.cells]at K V |-;refine aX 114 4 [.tmp 8,.tmp 9] mixed func130 ?_;refine sc aI K ?_;by_cases k:nC r w c qs=0
 case neg =>
  have Y:(nC r w c qs != 0)=true:=su k;have Z:qP r w c qs=nC r w c qs:=by simp[qP,k]
  have e2:nD r w c qs=0:=by simp[nD,k]
  have G:rP r w c qs=cM [] 0:=by simp[rP,k]
  rw[Z,e2,G,jv];exact dJ Y
 obtain⟨b,t⟩:=Eb k;have P:=we (w:=w) (c:=c) b;have hpl:=qW r w c qs;have z:r.okB=true/\qs.all oq=true:=by
  unfold BP at b;split at b
  ·rename_i h1;split at b
   ·rename_i o;exact⟨h1,o⟩
   ·cases b
  ·cases b
 have e2:qP r w c qs=if bR (xN (jD r w c qs))then 0 else 1:=by simp[qP,k]
 have G:nD r w c qs=if bR (xN (jD r w c qs))then xN (jD r w c qs)else 0:=by simp[nD,k]
 have U:rP r w c qs=[.I (fO (jD r w c qs) 0),.I (fO (jD r w c qs) 1),.I (fO (jD r w c qs) 2),.I (fO (jD r w c qs) 3),.I (fO (jD r w c qs) 4),.I (fO (jD r w c qs) 5)]:=by simp[rP,k,cM,fH]
 rw[e2,G,U];clear e2 G U K;have u:=By t;obtain⟨T,s⟩:=aV (xN (jD r w c qs));rw[<-s];simp only[xN]at s;obtain⟨L,N⟩:=aV (fO (jD r w c qs));rw[<-N]at u s |-;refine sm k ?_;refine aF.wv 6 [1,2,3,4,10] [80,176] (λi=>[(13,.I i),(12,.I (oL L i))]) (λi=>[]) ?_ ?_ ?_
 ·simp only[go_sem,seval]<;>simp[oL]
 ·intro i _ e g d _;have g:decide ((i:Int)<6)=true:=g;have Q:=Jy L e;refine sm (a3 g Q d) ?_;refine bG ?_;refine af.v e ?_;simp only[go_sem,seval,oL]
 intro _ j _;have j:decide ((6:Int)<6)=false:=j;have O:=yI (f:=L) 6 u;obtain⟨M,hM⟩:=aV (oL L 6);rw[<-hM]at O s |-;have W:=uW M aj;simp only[wd]at W;refine sc j W ?_;refine aF.wv qs.length [1,2,3,4] [80] (λi=>[(15,.I i),(14,.ref 1552)]) (λi=>[(1552,.own 2 (rz (M::(jD r w c (qs.take i)).map tM)))]) ?_ ?_ ?_
 ·simp only[go_sem,seval]<;>simp[rz,wd,jD]
 ·intro i _ e g d _;have C:=aP (c:=aN.cells) qs e;have a:=BR r w c qs e;have hlen:=qW r w c (qs.take i);have hlt:(qs.take i).length=i:=by simp;omega
  have J:=V qs[i].inst;obtain⟨x,S⟩:=aV (bU r qs[i].inst);have F:bZ r qs[i].inst=true->x.ok=true:=λh=>by rw[S];exact pY z.1 h
  have E:=cR.1 z.2 qs[i] (cZ e);have hwl:(rz (M::(jD r w c (qs.take i)).map tM)).length<=i+1:=by simp[rz];omega
  have hlI:(i:Int)<(qs.length:Int):=aj
  simp only[BQ,<-S]at a;rw[<-S]at J;simp only[aN.cells]at C;simp only[ay.cells]at J;refine sc (a2 g C) J ?_;cases l:bZ r qs[i].inst
  ·simp only[l,eO,jm,if_false]at a;refine sm (a2 l d) ?_;refine bG ?_;refine af.v e ?_;exact dJ a
  cases m:qs[i].who==w
  ·simp only[l,m,eO,cF,jm,if_false]at a;refine sm (a4 C l m d) ?_;refine bG ?_;refine af.v e ?_;exact dJ a
  cases H:x.cur==c
  ·simp only[l,m,H,Bool.and_false,cF,jm,if_false]at a;refine sm (a5 C l m H d) ?_;refine bG ?_;refine af.v e ?_;exact dJ a
  simp only[l,m,H,Bool.and_self,if_true]at a;have hk:=F l;obtain⟨-,g1,g2⟩:=j8 hk;simp only[oq,dO,jY,iX]at E;have w1:IntKind.wrap .i64 (0-qs[i].eN) = -qs[i].eN:=eM;have R:=qm (max qs[i].eN (-qs[i].eN)) x.add ⟨by omega,by omega⟩ ⟨by omega,by omega⟩;have hF:max qs[i].eN (-qs[i].eN)*x.add=tM ⟨x,qs[i].eN⟩:=rfl;rw[hF]at R;simp only[wd]at R;refine sc (a5 C l m H (a2 d w1)) R ?_;refine bG ?_;refine af.v e ?_;simp only[go_sem,seval,a]<;>simp[wd,rz]
 ·intro _ j _;have X:∀n∈M::(jD r w c qs).map tM,-1208925819614629174706176<=n/\n<=1208925819614629174706176:=by
   intro n D;rcases mem_cons.1 D with rfl|D
   ·omega
   ·obtain⟨p,hp,rfl⟩:=mem_map.1 D;exact Aq (P p hp)
  have a:=oO (M::(jD r w c qs).map tM) (by simp;omega) (λn D=>sv (X n D) aj);have o:=ru (B:=1208925819614629174706176) X;rw[<-s]at a o;simp only[length_cons,mY]at o;have y:rI T=true:=sv (B:=1208925819614629174706176*(((jD r w c qs).length+1:Nat):Int)) o aj;have q:=mQ T;rw[y,aE rfl]at a;simp only[wd]at a q;simp only[go_sem,seval,j,ef];refine sl aI a ?_;refine ak.aH q ?_;cases e:bR T<;>simp only[go_sem,seval,e]<;>simp
def Ss{l:bS}{r:aC}{ps:List kq}{w c:Int}(h:uP l r ps w c=0):r.okB=true/\eS r w c ps=0/\th l r ps w c=m0 ⟨2,w,c⟩ l.bs+Q3 r w c ps/\bR (th l r ps w c)=true:=by
 have e:nV l r ps=0:=by
  by_cases b:(nV l r ps != 0)=true
  ·simp only[uP,b,if_true]at h;exact h
  ·simpa using b
 have a:(nV l r ps != 0)=false:=by simp[e]
 have hr:r.okB=true:=by
  unfold nV at e;split at e
  ·rename_i f;simp only[dO]at f;exact f.1.2
  ·cases e
 have i:eS r w c ps=0:=by
  by_cases b:(eS r w c ps != 0)=true
  ·simp only[uP,a,b,if_true,jm,if_false]at h;exact h
  ·simpa using b
 have d:(eS r w c ps != 0)=false:=by simp[i]
 simp only[uP,a,d,jm,if_false]at h;have g:right (m0 ⟨2,w,c⟩ l.bs::gq r w c ps)=true/\bR (aK (m0 ⟨2,w,c⟩ l.bs::gq r w c ps))=true:=by
  unfold nG at h;split at h
  ·rename_i f;split at h
   ·rename_i k;exact⟨f,k⟩
   ·cases h
  ·cases h
 have j:th l r ps w c=aK (m0 ⟨2,w,c⟩ l.bs::gq r w c ps):=by
  simp[th,a,d,nH,g.1,g.2]
 refine⟨hr,i,?_,by rw[j];exact g.2⟩;rw[j];simp only[aK,KL]
def uH(r:aC):Bool:=decide (100<(r.ms.length:Int))||(decide (100<(r.ns.length:Int))||decide (100<(r.xs.length:Int)))
theorem GM(r:aC):Sq 19 [] [.agg r.cells] [] (.bool (uH r)):=by
 simp only[aC.cells];refine aX 19 1 [.tmp 2] mixed func19 ?_;simp only[go_sem,seval];repeat' with_reducible first|apply And.intro|exact .dq|refine ak.aH (by assumption) ?_|refine gr (λh=>?_) λh=>?_|refine .id ?_|refine af.bF aj ?_ ?_|exact aI|simp only[*,go_sem,seval]
 all_goals first
  | (simp_all[uH];done)
  | (rw[gI];simp only[uH,Bool.or_eq_true,bP];omega)
def uG(t p:List (List D)):Bool:=decide (300<(t.length:Int))||decide (300<(p.length:Int))
theorem GL(n:Int)(t p:List (List D)):Sq 20 [] [.agg [.int .i64 n,.sl 7 t,.sl 4 p]] [] (.bool (uG t p)):=by
 refine aX 13 1 [.tmp 2] mixed func20 ?_;simp only[go_sem,seval];repeat' with_reducible first|apply And.intro|exact .dq|refine ak.aH (by assumption) ?_|refine gr (λh=>?_) λh=>?_|refine .id ?_|refine af.bF aj ?_ ?_|exact aI|simp only[*,go_sem,seval]
 all_goals first
  | (rw[gI];simp only[uG,Bool.or_eq_true,bP];omega)
  | (simp_all[uG];done)
def n5(s:au):Bool:=uH s.aA||(uG (s.book.ts.map aR.cells) (s.book.qs.map aN.cells)||(decide (300<(s.cL.bs.length:Int))||(decide (300<(s.ps.length:Int))||(decide (300<(s.calls.length:Int))||(decide (300<(s.bQ.length:Int))||decide (300<(s.aM.length:Int)))))))
theorem IX(s:au):Sq 4 [] [.agg s.cells] [] (.bool (n5 s)):=by
 have h:=GM s.aA;have i:=GL s.book.next (s.book.ts.map aR.cells) (s.book.qs.map aN.cells)
 simp only[aC.cells]at h;simp only[au.cells];refine aX 42 1 [.tmp 2] mixed func4 ?_;refine sc aI h ?_;cases d:uH s.aA
 case true =>
  have e:n5 s=true:=by simp[n5,d]
  simp only[go_sem,seval,e]
 refine sc aI i ?_;cases f:uG (s.book.ts.map aR.cells) (s.book.qs.map aN.cells)
 case true =>
  have e:n5 s=true:=by simp[n5,f]
  simp only[go_sem,seval,e]
 have e:n5 s=(decide (300<(s.cL.bs.length:Int))||(decide (300<(s.ps.length:Int))||(decide (300<(s.calls.length:Int))||(decide (300<(s.bQ.length:Int))||decide (300<(s.aM.length:Int)))))):=by simp[n5,d,f]
 rw[e];clear e;simp only[go_sem,seval];cases a:decide (300<(s.cL.bs.length:Int))
 case true=>simp only[go_sem,seval,a,Bool.true_or]
 cases b:decide (300<(s.ps.length:Int))
 case true=>simp only[go_sem,seval,a,b,Bool.true_or,Bool.false_or]
 cases c:decide (300<(s.calls.length:Int))
 case true=>simp only[go_sem,seval,a,b,c,Bool.true_or,Bool.false_or]
 cases g:decide (300<(s.bQ.length:Int))
 case true=>simp only[go_sem,seval,a,b,c,g,Bool.true_or,Bool.false_or]
 simp only[go_sem,seval,a,b,c,g,Bool.true_or,Bool.false_or]
def GN{s:au}(h:n5 s=false)(hr:s.gE):s.small:=by
 simp only[n5,uH,uG,Bool.or_eq_false_iff,iX,mY]at h;exact⟨⟨by omega,by omega,by omega⟩,⟨by omega,by omega⟩,by omega,by omega,by omega,by omega,by omega,λx a=>(hr.aM x a).2.2.2.2.2.2.2⟩
def KD(s:au)(w c:Int):Int:=
 if uP s.cL s.aA s.ps w c=0 then(if s.book.okB then(if qP s.aA w c s.book.qs=0 then(if nD s.aA w c s.book.qs<=th s.cL s.aA s.ps w c then 0 else ug (nD s.aA w c s.book.qs) (th s.cL s.aA s.ps w c))else qP s.aA w c s.book.qs)else 14)else uP s.cL s.aA s.ps w c
def Ex(s:au)(w c:Int):Int:=
 if uP s.cL s.aA s.ps w c=0 then(if s.book.okB then(if qP s.aA w c s.book.qs=0 then(if nD s.aA w c s.book.qs<=th s.cL s.aA s.ps w c then 0 else sD (nD s.aA w c s.book.qs) (th s.cL s.aA s.ps w c))else 0)else 0)else 0
structure au.fit(s:au):Prop where
 aA:s.aA.small
 book:s.book.small
 cL:s.cL.bs.length<2^30
 ps:s.ps.length<2^30
theorem Jx(s:au)(w c:Int)(z:s.fit):Sq 39 [] [.agg s.cells,.int .i64 w,.int .i64 c] [] (.bH [.int .i64 (Ex s w c),.int .i64 (KD s w c)]):=by
 obtain⟨hr,u,v,y⟩:=z;have p:=Qs s.cL s.aA s.ps w c v hr y;have r:=nP s.book u;have q:=Hi s.aA w c s.book.qs hr u.2;have t:=Fv (nD s.aA w c s.book.qs) (th s.cL s.aA s.ps w c);simp only[bS.cells,aC.cells,bI.cells]at p r q;simp only[au.cells,Ex,KD];obtain⟨l,a⟩:∃x,x=th s.cL s.aA s.ps w c:=⟨_,rfl⟩
 obtain⟨j,e⟩:∃x,x=uP s.cL s.aA s.ps w c:=⟨_,rfl⟩
 obtain⟨m,b⟩:∃x,x=nD s.aA w c s.book.qs:=⟨_,rfl⟩
 obtain⟨k,f⟩:∃x,x=qP s.aA w c s.book.qs:=⟨_,rfl⟩
 rw[<-a,<-e]at p;rw[<-b,<-f]at q;rw[<-b,<-a]at t;rw[<-a,<-e,<-b,<-f];refine aX 53 3 [.tmp 6,.tmp 7] mixed func39 ?_;refine sc aI p ?_;by_cases h:j=0
 case neg =>
  have n:(j==0)=false:=by simpa using h
  simp only[go_sem,seval,bne,n,az h]
 have n:(j==0)=true:=by simpa using h
 simp only[go_sem,seval,n,aE h];refine ak.aH r ?_;cases b2:s.book.okB
 ·simp only[go_sem,seval]
 refine sc aI q ?_;by_cases d:k=0
 case neg =>
  have g:(k==0)=false:=by simpa using d
  simp only[go_sem,seval,bne,g,az d]
 have g:(k==0)=true:=by simpa using d
 by_cases i:m<=l
 ·have o:decide (m<=l)=true:=gJ i;simp only[go_sem,seval,bne,g,o,aE d,aE i]
 ·have o:decide (m<=l)=false:=kY i;simp only[go_sem,seval,bne,g,o,aE d,az i];exact qt aI t
def qQ(r:aC)(w c:Int)(qs:List aN):bR (nD r w c qs)=true:=by
 unfold nD;split
 ·split
  ·assumption
  ·decide
 ·decide
def aa'{s:au}{w c:Int}(h:KD s w c=0):uP s.cL s.aA s.ps w c=0/\s.book.okB=true/\qP s.aA w c s.book.qs=0 /\
  Ex s w c=max (nD s.aA w c s.book.qs-th s.cL s.aA s.ps w c) 0/\IntKind.wrap .i64 (nD s.aA w c s.book.qs-th s.cL s.aA s.ps w c)=nD s.aA w c s.book.qs-th s.cL s.aA s.ps w c:=by
 by_cases a:uP s.cL s.aA s.ps w c=0
 case neg=>simp only[KD,az a]at h;exact(a h).elim
 cases d:s.book.okB
 case false=>simp only[KD,aE a,d]at h;cases h
 by_cases b:qP s.aA w c s.book.qs=0
 case neg=>simp only[KD,aE a,d,if_true,az b]at h;exact(b h).elim
 obtain⟨-,-,-,r1⟩:=Ss a;have i1:=fY.1 r1;have i2:=fY.1 (qQ s.aA w c s.book.qs);simp only[KD,Ex,aE a,d,if_true,aE b]at h |-;refine⟨a,aI,b,?_⟩;by_cases e:nD s.aA w c s.book.qs<=th s.cL s.aA s.ps w c
 ·simp only[aE e];exact⟨by omega,lF aj aj⟩
 ·simp only[az e,ug,r1,qQ]at h;cases f:bR (nD s.aA w c s.book.qs-th s.cL s.aA s.ps w c)
  ·rw[f]at h;simp at h
  ·have i3:=fY.1 f;simp only[az e,sD,r1,qQ,f];exact⟨by simp;omega,lF aj aj⟩
def P4{l:List Int}(h:∀n∈l,fP n)(hl:l.length<2^58):(∀n∈l,rI n=true)/\rI (aK l)=true:=by
 have b:∀n∈l,-9223372036854775808<=n/\n<=9223372036854775808:=λn a=>by have:=h n a;exact⟨this.1,by have:=this.2;omega⟩
 refine⟨λn a=>sv (b n a) aj,?_⟩;exact sv (B:=9223372036854775808*(l.length:Int)) (ru b) aj
def addN(l:List Int):Int:=if bR (aK l)then aK l else 0
theorem gO(l:List Int)(h:∀n∈l,fP n)(hl:l.length<2^30):Sq 121 [] [.sl 1 (ints l)] [] (.bH [.int .i64 (addN l),.bool (bR (aK l))]):=by
 obtain⟨m,o⟩:=P4 h aj;have f:=oO l aj m;have j:=mQ (aK l);rw[o,aE rfl]at f;simp only[wd]at f j;refine aX 33 1 [.tmp 2,.tmp 3] mixed func121 ?_;simp only[go_sem,seval,aL];refine aF.wv l.length [0] [] (λi=>[(5,.I i),(4,.ref 352)]) (λi=>[(352,.own 2 (rz (l.take i)))]) ?_ ?_ ?_
 ·simp only[go_sem,seval]<;>simp[rz]
 ·intro i _ c d g _;have k:=uW l[i] (h _ (cZ c));have a:rz (l.take (i+1))=rz (l.take i)++[wd l[i]]:=by rw[kM c];simp only[rz,jH,map_cons,map_nil]
  have b:(rz (l.take i)).length=i:=by simp[rz];omega
  simp only[wd]at k;simp only[go_sem,seval,aL,d,ints_at l c];refine sc (a2 g b) k ?_;refine bG ?_;refine af.v c ?_;simp only[go_sem,seval,a]<;>simp[wd]
 ·intro _ e _;simp only[go_sem,seval,aL,e,ef];refine sl aI f ?_;refine ak.aH j ?_;simp only[go_sem,seval,addN]
def ji(x:aG):Sq 115 [] [.agg x.cells] [] (.bool x.right):=by
 simp only[aG.cells];refine aX 40 1 [.tmp 2] mixed func115 ?_;refine s0 ?_;repeat' with_reducible first|apply And.intro|exact .dq|refine ak.aH (by assumption) ?_|refine gr (λh=>?_) λh=>?_|refine .id ?_|refine af.bF aj ?_ ?_|exact aI|simp only[*,go_sem,seval]
 all_goals(try simp only[bP,iX]at *)
 all_goals(unfold aG.right;simp_all[owned];try(intros;omega))
theorem sL(x:aG):Sq 122 [] [.agg x.cells] [] (.int .i64 x.floor):=by
 have hr:=ji x;simp only[aG.cells]at hr |-;refine aX 15 1 [.tmp 2] mixed func122 ?_;refine s0 ?_;repeat' with_reducible first|apply And.intro|exact .dq|refine ak.aH (by assumption) ?_|refine ak.aH (hr) ?_|refine gr (λh=>?_) λh=>?_|refine .id ?_|refine af.bF aj ?_ ?_|exact aI|simp only[*,go_sem,seval]
 all_goals(unfold aG.floor;simp[*])
def Dj(x y:aG):Sq 192 [] [.agg x.cells,.agg y.cells] [] (.bool (x.less y)):=by
 simp only[aG.cells];refine aX 30 2 [.tmp 4] mixed func192 ?_;refine s0 ?_;repeat' with_reducible first|apply And.intro|exact .dq|refine ak.aH (by assumption) ?_|refine gr (λh=>?_) λh=>?_|refine .id ?_|refine af.bF aj ?_ ?_|exact aI|simp only[*,go_sem,seval]
 all_goals(unfold aG.less;simp_all)
def pF(x y:aG):Sq 120 [] [.agg x.cells,.agg y.cells] [] (.bool (x.same y)):=by
 simp only[aG.cells];refine aX 24 2 [.tmp 4] mixed func120 ?_;refine s0 ?_;repeat' with_reducible first|apply And.intro|exact .dq|refine ak.aH (by assumption) ?_|refine gr (λh=>?_) λh=>?_|refine .id ?_|refine af.bF aj ?_ ?_|exact aI|simp only[*,go_sem,seval]
 all_goals(simp_all[aG.same])
theorem yN(l:bS)(a:aG)(hl:l.bs.length<2^30):Sq 119 [] [.agg l.cells,.agg a.cells] [] (.int .i64 (m0 a l.bs)):=by
 simp only[bS.cells,aG.cells];refine aX 27 2 [.tmp 4] mixed func119 ?_;refine s0 ?_;refine aF.w1 l.bs.length 5 [2,3] [48,64] (λi _=>m0 a (l.bs.drop i)=m0 a l.bs) rfl ?_ ?_
 ·intro i _ g d j b;obtain⟨z,n,h,hlt⟩:=uy (c:=bn.cells) l.bs g;have k:=pF z.aO a;rw[fX g]at b;rw[<-n]at b;simp only[m0]at b;have e:Lv a z=z.aO.same a:=by simp[Lv,aG.same,bn.aO]
  rw[e]at b;simp only[aG.cells,bn.cells,bn.aO]at k h;refine sc (a2 d h) k ?_;cases m:aG.same ⟨z.kind,z.who,z.cur⟩ a
  ·rw[show z.aO.same a=false from m]at b;simp only[jm,if_false]at b;refine sm j ?_;refine af.u g b ?_;exact iM
  ·rw[show z.aO.same a=true from m,aE rfl]at b;simp only[go_sem,seval,h,<-b];exact U0
 ·intro _ f b;simp only[mT,m0]at b;simp only[go_sem,seval,f,<-b]
def n6(a:List Int)(k:Int):Bool:=a.any (· == k)
def vh(c:Int)(a:List Int)(bs:List bn):List Int:=(bs.filter λb=>n6 a b.kind&&b.cur==c).map bn.sum
def Mn(c:Int)(a:List Int)(bs:List bn){i:Nat}(h:i<bs.length):vh c a (bs.take (i+1))=if n6 a bs[i].kind&&bs[i].cur==c then vh c a (bs.take i)++[bs[i].sum]else vh c a (bs.take i):=by
 simp only[vh];rw[kM h,rR,jH];cases b:(n6 a bs[i].kind&&bs[i].cur==c)<;>simp[filter,b]
def Ih(c:Int)(a:List Int)(bs:List bn):(vh c a bs).length<=bs.length:=by
 simp only[vh,mY];exact length_filter_le _ _
def OW{c:Int}{e:List Int}{bs:List bn}(h:∀b∈bs,b.gE):∀n∈vh c e bs,fP n:=by
 intro n a;simp only[vh,mem_map,mem_filter]at a;obtain⟨b,⟨d,_⟩,rfl⟩:=a;exact(h b d).2.2.2
def vP(a:List Int)(k:Int){i:Nat}(h:i<a.length):n6 (a.take (i+1)) k=(n6 (a.take i) k||a[i]==k):=by
 simp only[n6];rw[kM h,any_append];simp
theorem B9(l:bS)(c:Int)(a:List Int)(hl:l.bs.length<2^30)(j:a.length<2^30)(hr:∀b∈l.bs,b.gE):Sq 193 [] [.agg l.cells,.int .i64 c,.sl 1 (ints a)] [] (.bH [.int .i64 (addN (vh c a l.bs)),.bool (bR (aK (vh c a l.bs)))]):=by
 have htl:=Ih c a l.bs;have t:=gO (vh c a l.bs) (OW hr) aj;simp only[bS.cells];refine aX 65 3 [.tmp 6,.tmp 7] mixed func193 ?_;simp only[go_sem,seval,aL];refine aF.wv l.bs.length [1,2,3] [64] (λi=>[(9,.I i),(8,.ref 976)]) (λi=>[(976,.own 1 (ints (vh c a (l.bs.take i))))]) ?_ ?_ ?_
 ·simp only[go_sem,seval]<;>simp[vh,ints]
 ·intro i _ m q g _;obtain⟨z,u,n,hli⟩:=uy (c:=bn.cells) l.bs m;have f:=Mn c a l.bs m;have hlen:=Ih c a (l.bs.take i);have hlt:(l.bs.take i).length=i:=by simp;omega
  rw[<-u]at f;simp only[bn.cells]at n;simp only[go_sem,seval,q,aL];refine aF.wv a.length [1,2,3,8,9] [64,976] (λk=>[(11,.I k),(10,.bool (n6 (a.take k) z.kind))]) (λ_=>[]) ?_ ?_ ?_
  ·simp only[go_sem,seval]<;>simp[n6]
  ·intro k _ j d o _;have e:=vP a z.kind j;cases s:n6 (a.take k) z.kind
   ·rw[s,Bool.false_or]at e;simp only[go_sem,seval,aL,d,ints_at a j,n,o];refine bG ?_;refine af.v j ?_;exact dJ e
   ·rw[s,Bool.true_or]at e;simp only[go_sem,seval,aL,d,ints_at a j,n,o];refine bG ?_;refine af.v j ?_;exact dJ e
  ·intro _ d _;cases h:n6 a z.kind
   ·simp only[h,eO,jm,if_false]at f;simp only[go_sem,seval,aL,d,ef,h,g];refine bG ?_;refine af.v m ?_;exact dJ f
   cases p:z.cur==c
   ·simp only[h,p,Bool.and_false,jm,if_false]at f;simp only[go_sem,seval,aL,d,ef,h,n,p,g];refine bG ?_;refine af.v m ?_;exact dJ f
   simp only[h,p,Bool.and_self,if_true]at f;simp only[go_sem,seval,aL,d,ef,h,n,p,g];refine bG ?_;refine af.v m ?_;simp only[go_sem,seval,f]<;>simp[ints]
 ·intro _ r _;simp only[go_sem,seval,aL,r,ef];exact slx aI t
def NI{bs:List bn}{i:Nat}(b:∀j<i,mK bs j=true)(a:mK bs i=true):∀k<i+1,mK bs k=true:=λk hk=>by
 rcases cq k i with h|h
 ·exact b k h
 ·obtain rfl:k=i:=aj
  exact a
def KN{bs:List bn}(h:iK bs=true)(c:Int):vh c [1,2,3,4,5,6] bs=gA c bs/\∀n∈gA c bs,bR n=true:=by
 have g:∀b∈bs,k8 b=true:=λb a=>by
  obtain⟨i,f,rfl⟩:=mem_iff_getElem.1 a;have:=cR.1 h i (mem_range.2 f);rcases Nat.eq_zero_or_pos i with rfl|hp
  ·rwa[me f]at this
  ·obtain⟨j,rfl⟩:∃j,i=j+1:=⟨i-1,by omega⟩
   rw[ke f,dO]at this;exact this.1
 refine⟨?_,λn k=>?_⟩
 ·unfold vh gA;congr 1;refine filter_congr λb a=>?_;have:=g b a;simp only[k8,dO]at this;have d:=this.1;unfold aG.right at d;split at d
  ·cases d
  ·rename_i l;simp only[bn.aO]at l;have e:n6 [1,2,3,4,5,6] b.kind=true:=by
    simp only[n6,any_cons,any_nil,Bool.or_eq_true,gm];omega
   rw[e,cF]
 ·simp only[gA,mem_map,mem_filter]at k;obtain⟨b,⟨a,_⟩,rfl⟩:=k;have:=g b a;simp only[k8,dO]at this;exact this.2.1
def Er{l:List Int}(h:∀n∈l,bR n=true):right l=true:=cR.2 h
def m6(l:bS)(L:l.bs.length<2^30)(hr:∀b∈l.bs,b.gE):Sq 100 [] [.agg l.cells] [] (.bool l.okB):=by
 have y:=λc=>B9 l c [1,2,3,4,5,6] L sT hr;simp only[bS.cells,ints,map_cons,map_nil]at y |-;refine aX 80 1 [.tmp 2] mixed func100 ?_;rcases Int.lt_or_le l.last 0 with h0|h0
 ·have v:decide (l.last<0)=true:=su h0;have e:l.okB=false:=by simp[bS.okB];omega
  exact dJ (a2 v e)
 have v:decide (l.last<0)=false:=su h0;refine sm v ?_;refine aF.count l.bs.length [1] [32] (λi=>[(3,.I i)]) (λi=>[]) (λi=>∀j<i,mK l.bs j=true) sT ?_ ?_
 ·exact lA
 intro i hi G;refine s0 ?_;refine aU.cQ (λh=>?_) (λh=>?_)
 ·have f:i<l.bs.length:=aj
  have hw:IntKind.wrap .i64 ((i:Int)+1)=((i+1:Nat):Int):=eM;have B:=aP (c:=bn.cells) l.bs f;have w:=ji l.bs[i].aO;have E:=jS l.bs[i].sum;have x:=sL l.bs[i].aO;have e0:=NI (i:=i) G;have o:mK l.bs i=false->l.okB=false:=λt=>by simp[bS.okB,vX f t]
  simp only[bn.cells,aG.cells,bn.aO]at B w x;clear y;rcases Nat.eq_zero_or_pos i with rfl|hpos
  ·have d:=me f;simp only[k8,bn.aO]at d;refine sm B ?_;repeat' with_reducible first|apply And.intro|exact .dq|refine ak.aH (by assumption) ?_|refine ak.aH (w) ?_|refine ak.aH (E) ?_|refine ak.aH (x) ?_|refine gr (λh=>?_) λh=>?_|refine .id ?_|refine af.bF aj ?_ ?_|exact aI|simp only[*,go_sem,seval]
   all_goals first
    |omega
    |rfl
    | (refine e0 ?_;clear e0 o;rw[d];clear d;simp[bne, *];done)
    | (rw[o ?_];clear e0 o;rw[d];clear d;simp[bne, *];done)
  ·obtain⟨j,rfl⟩:∃j,i=j+1:=⟨i-1,by omega⟩
   have H:j<l.bs.length:=aj
   have hw1:IntKind.wrap .i64 (((j+1:Nat):Int)-1)=(j:Int):=eM;have d:=ke f;simp only[k8,bn.aO]at d;have s:=aP (c:=bn.cells) l.bs H;have F:=Dj l.bs[j].aO l.bs[j+1].aO;simp only[bn.cells,aG.cells,bn.aO]at s F;refine sm B ?_;repeat' with_reducible first|apply And.intro|exact .dq|refine ak.aH (by assumption) ?_|refine ak.aH (w) ?_|refine ak.aH (E) ?_|refine ak.aH (x) ?_|refine ak.aH (F) ?_|refine gr (λh=>?_) λh=>?_|refine .id ?_|refine af.bF aj ?_ ?_|exact aI|simp only[*,go_sem,seval,s,mY]
   all_goals first
    |omega
    |rfl
    | (refine e0 ?_;clear e0 o;rw[d];clear d;simp[bne, *];done)
    | (rw[o ?_];clear e0 o;rw[d];clear d;simp[bne, *];done)
 have C:=pq (λj (H:j<l.bs.length)=>G j aj);have r:∀c:Int,jZ l.bs c=(bR (aK (gA c l.bs))&&addN (gA c l.bs)==0):=λc=>by
  have:=(KN C c).2;simp only[jZ,nG,nH,addN,Er this,if_true,cF];cases bR (aK (gA c l.bs))<;>simp
 refine s0 ?_;refine aF.w1 3 5 [1] [32] (λi _=>∀c<i,jZ l.bs (c:Nat)=true) sT ?_ ?_
 ·intro c _ K a D p;have a:decide ((c:Int)<3)=true:=a;have q:=y c;rw[(KN C c).1]at q;have z:=r c;have m:jZ l.bs c=false->l.okB=false:=λt=>by
   obtain rfl|rfl|rfl:c=0\/c=1\/c=2:=aj
   ·have:jZ l.bs 0=false:=t;simp[bS.okB,this]
   ·have:jZ l.bs 1=false:=t;simp[bS.okB,this]
   ·have:jZ l.bs 2=false:=t;simp[bS.okB,this]
  refine sl a q ?_;cases g:bR (aK (gA c l.bs))
  ·simp only[go_sem,seval,g,m (by rw[z,g];rfl)]
  cases n:addN (gA c l.bs)==0
  ·simp only[go_sem,seval,g,bne,n,m (by rw[z,g,n];rfl)]
  refine sm (a4 g lH n D) ?_;refine af.u K ?_ ?_
  ·intro k d;rcases cq k c with h|h
   ·exact p k h
   ·obtain rfl:k=c:=aj
    rw[z,g,n];rfl
  ·exact iM
 ·intro _ a p;have a:decide ((3:Int)<3)=false:=a;have J:jZ l.bs 0=true:=p 0 aj;have g:jZ l.bs 1=true:=p 1 aj;have n:jZ l.bs 2=true:=p 2 aj;have e:l.okB=true:=by simp[bS.okB,C,J,g,n,h0]
  exact dJ (a2 a e)
theorem yO(w n:Int):Sq 188 [] [.agg [.int .i64 w,.int .i64 n]] [] (.bool (uJ w n)):=by
 have a:=gP w;have b:=aY n 1 8;refine aX 11 1 [.tmp 2] mixed func188 ?_;refine s0 ?_;repeat' with_reducible first|apply And.intro|exact .dq|refine ak.aH (by assumption) ?_|refine ak.aH (a) ?_|refine ak.aH (b) ?_|refine gr (λh=>?_) λh=>?_|refine .id ?_|refine af.bF aj ?_ ?_|exact aI|simp only[*,go_sem,seval]
 all_goals(simp_all[uJ])
theorem zA(a b c d:Int):Sq 190 [] [.agg [.int .i64 a,.int .i64 b],.agg [.int .i64 c,.int .i64 d]] [] (.bool (I2 a b c d)):=by
 refine aX 24 2 [.tmp 4] mixed func190 ?_;refine s0 ?_;repeat' with_reducible first|apply And.intro|exact .dq|refine ak.aH (by assumption) ?_|refine gr (λh=>?_) λh=>?_|refine .id ?_|refine af.bF aj ?_ ?_|exact aI|simp only[*,go_sem,seval]
 all_goals(simp only[I2];simp_all)
def Dr(t:aR):Sq 238 [] [.agg t.cells] [] (.bool (within t.eN 1 1048576&&within t.cH 1 1073741824)):=by
 have a:=aY t.eN 1 1048576;have b:=aY t.cH 1 1073741824;simp only[aR.cells];refine aX 11 1 [.tmp 2] mixed func238 ?_;refine s0 ?_;repeat' with_reducible first|apply And.intro|exact .dq|refine ak.aH (by assumption) ?_|refine ak.aH (a) ?_|refine ak.aH (b) ?_|refine gr (λh=>?_) λh=>?_|refine .id ?_|refine af.bF aj ?_ ?_|exact aI|simp only[*,go_sem,seval]
 all_goals(simp_all)
def zC(t:aR):Sq 191 [] [.agg t.cells] [] (.bool t.okB):=by
 have a:=Dr t;have b:=gP t.rE;have c:=gP t.m9;have d:=aY t.inst 1 8;simp only[aR.cells]at a |-;refine aX 27 1 [.tmp 2] mixed func191 ?_;refine s0 ?_;repeat' with_reducible first|apply And.intro|exact .dq|refine ak.aH (by assumption) ?_|refine ak.aH (a) ?_|refine ak.aH (b) ?_|refine ak.aH (c) ?_|refine ak.aH (d) ?_|refine gr (λh=>?_) λh=>?_|refine .id ?_|refine af.bF aj ?_ ?_|exact aI|simp only[*,go_sem,seval]
 all_goals first
  | (simp_all[aR.okB,uJ,bne];done)
  | (rw[gI];simp_all[aR.okB,uJ,bne])
def JL(a b:aR):dY a b = !decide (b.no<=a.no):=by
 rw[gI];simp[dY]
def L0{n:Int}{l:List aN}(h:∀p∈l,p.gE):∀q∈dN n l,fP q:=by
 intro q a;simp only[dN,mem_map,mem_filter]at a;obtain⟨p,⟨b,_⟩,rfl⟩:=a;exact(h p b).2.2.1
def I8{n:Int}{l:List aN}(h:l7 aN.okB jR l=true):lp n l=(bR (aK (dN n l))&&addN (dN n l)==0):=by
 have hr:right (dN n l)=true:=cR.2 λq a=>by
  simp only[dN,mem_map,mem_filter]at a;obtain⟨p,⟨c,_⟩,rfl⟩:=a;obtain⟨i,b,rfl⟩:=mem_iff_getElem.1 c;have:=IN h b;simp only[aN.okB,within,dO,bP]at this;refine fY.2 ?_;omega
 simp only[lp,nG,nH,addN,hr,if_true,cF];cases bR (aK (dN n l))<;>simp
def qZ(b:bI)(hl:b.small)(hr:∀p∈b.qs,p.gE):Sq 99 [] [.agg b.cells] [] (.bool b.okB):=by
 obtain⟨hl1,hl2⟩:=hl;have hA:=λn=>gO (dN n b.qs) (L0 hr) (by have:=tA n b.qs;omega);have hN:=aY b.next 0 1099511627776
 have o:within b.next 0 1099511627776=(!decide (b.next<0)&&!decide (1099511627776<b.next)):=by rw[gI];simp[within]
 simp only[bI.cells];refine aX 156 1 [.tmp 2] mixed func99 ?_;refine sc aI hN ?_;cases C:within b.next 0 1099511627776
 ·rw[o]at C;have e:b.okB=false:=by simp only[bI.okB,C,Bool.and_false]
  exact dJ e
 cases D:decide (128<(b.ts.length:Int))
 case true =>
  have e:b.okB=false:=by simp[bI.okB,D]
  exact dJ (a2 D e)
 have e:b.okB=(l7 aN.okB jR b.qs&&(l7 (fL b.next) dY b.ts&&mg b.qs)):=by
  rw[o]at C;simp only[bI.okB,C,D,Bool.not_false,Bool.and_true]
 rw[e];clear e hN o;refine sm D ?_;refine aF.count b.qs.length [1] [32] (λi=>[(3,.I i)]) (λi=>[]) (λi=>∀j<i,l6 aN.okB jR b.qs j=true) sT ?_ ?_
 ·exact lA
 intro i w t;refine s0 ?_;refine aU.cQ (λh=>?_) (λh=>?_)
 ·have a:i<b.qs.length:=aj
  have K:IntKind.wrap .i64 ((i:Int)+1)=((i+1:Nat):Int):=eM;have d:=aP (c:=aN.cells) b.qs a;have s:=yO b.qs[i].who b.qs[i].inst;have x:=jS b.qs[i].cost;have M:=aY b.qs[i].eN (-1099511627776) 1099511627776;have e0:=oF (i:=i) t;have e1:l6 aN.okB jR b.qs i=false->(l7 aN.okB jR b.qs&&(l7 (fL b.next) dY b.ts&&mg b.qs))=false:=λB=>by simp[sk a B]
  simp only[aN.cells]at d;clear hA;rcases Nat.eq_zero_or_pos i with rfl|hpos
  ·have hk:=iH (ok:=aN.okB) (lt:=jR) a;simp only[aN.okB]at hk;refine sm d ?_;repeat' with_reducible first|apply And.intro|exact .dq|refine ak.aH (by assumption) ?_|refine ak.aH (s) ?_|refine ak.aH (x) ?_|refine ak.aH (M) ?_|refine gr (λh=>?_) λh=>?_|refine .id ?_|refine af.bF aj ?_ ?_|exact aI|simp only[*,go_sem,seval]
   all_goals exact CO
  ·obtain⟨j,rfl⟩:∃j,i=j+1:=⟨i-1,by omega⟩
   have l:j<b.qs.length:=aj
   have L:IntKind.wrap .i64 (((j+1:Nat):Int)-1)=(j:Int):=eM;have hk:=gz (ok:=aN.okB) (lt:=jR) a;simp only[aN.okB,jR]at hk;have f:=aP (c:=aN.cells) b.qs l;have Q:=zA b.qs[j].who b.qs[j].inst b.qs[j+1].who b.qs[j+1].inst;simp only[aN.cells]at f;refine sm d ?_;repeat' with_reducible first|apply And.intro|exact .dq|refine ak.aH (by assumption) ?_|refine ak.aH (s) ?_|refine ak.aH (x) ?_|refine ak.aH (M) ?_|refine ak.aH (Q) ?_|refine gr (λh=>?_) λh=>?_|refine .id ?_|refine af.bF aj ?_ ?_|exact aI|simp only[*,go_sem,seval,f,mY]
   all_goals exact CO
 have N:=nA (λj (l:j<b.qs.length)=>t j aj);have m:=λn:Int=>I8 (n:=n) N;rw[N,cF];clear t;refine s0 ?_;refine aF.wu 8 [1] [32] (λi=>[(5,.I ((i:Int)+1))]) (λi=>[]) (λi=>∀j<i,lp ((j:Int)+1) b.qs=true) sT ?_ ?_ ?_
 ·exact lA
 ·intro c _ P _ _ F;obtain⟨n,J⟩:=aV ((c:Int)+1);have S:decide (n<=8)=true:=kN;have K:IntKind.wrap .i64 (n+1)=((c+1:Nat):Int)+1:=eM;rw[<-J];refine sm S ?_;refine aF.wv b.qs.length [1,5] [32] (λi=>[(7,.I i),(6,.ref 1696)]) (λi=>[(1696,.own 1 (ints (dN n (b.qs.take i))))]) ?_ ?_ ?_
  ·simp only[go_sem,seval]<;>simp[dN,ints]
  ·intro i _ w G z _;have d:=aP (c:=aN.cells) b.qs w;have hs:=B4 n b.qs w;have hlen:=tA n (b.qs.take i);have hlt:(b.qs.take i).length=i:=by simp;omega
   have hli:(i:Int)<(b.qs.length:Int):=aj
   simp only[aN.cells]at d;refine sm (a2 G d) ?_;refine bG ?_;cases O:b.qs[i].inst==n
   ·simp only[O,jm,if_false]at hs;refine sm z ?_;refine af.v w ?_;exact dJ hs
   ·simp only[O,if_true]at hs;simp only[go_sem,seval,z,aL,d];refine bG ?_;refine af.v w ?_;simp only[go_sem,seval,hs]<;>simp[ints]
  ·intro _ H _;have k:lp n b.qs=false->mg b.qs=false:=λB=>by
    cases T:mg b.qs
    ·rfl
    ·have:=cR.1 T c (mem_range.2 P);rw[<-J,B]at this;cases this
   have q:=m n;simp only[go_sem,seval,H,ef];refine sl aI (hA n) ?_;cases r:bR (aK (dN n b.qs))
   ·have:=k (by rw[q,r];rfl);simp only[go_sem,seval,r,this,Bool.and_false]
   cases E:addN (dN n b.qs)==0
   ·have:=k (by rw[q,r,E];rfl);simp only[go_sem,seval,bne,r,E,this,Bool.and_false]
   refine sm (a4 lH r E K) ?_;refine af.u P ?_ ?_
   ·intro j l;rcases cq j c with h|h
    ·exact F j h
    ·obtain rfl:j=c:=aj
     rw[<-J,q,r,E];rfl
   ·exact iM
 ·intro _ _ F;have y:mg b.qs=true:=cR.2 λj l=>F j (mem_range.1 l);rw[y,Bool.and_true];clear F y m hA;refine s0 ?_;refine aF.count b.ts.length [1] [32] (λi=>[(10,.I i)]) (λi=>[]) (λi=>∀j<i,l6 (fL b.next) dY b.ts j=true) sT ?_ ?_
  ·exact lA
  intro i w t;refine s0 ?_;refine aU.cQ (λh=>?_) (λh=>?_)
  ·have a:i<b.ts.length:=aj
   have K:IntKind.wrap .i64 ((i:Int)+1)=((i+1:Nat):Int):=eM;have d:=aP (c:=aR.cells) b.ts a;have s:=zC b.ts[i];have x:=aY b.ts[i].no 1 b.next
   have e0:=oF (i:=i) t;have e1:l6 (fL b.next) dY b.ts i=false->l7 (fL b.next) dY b.ts=false:=λB=>sk a B;have g:fL b.next b.ts[i]=(b.ts[i].okB&&within b.ts[i].no 1 b.next):=by rw[gI];simp[fL,within]
   simp only[aR.cells]at d s;rcases Nat.eq_zero_or_pos i with rfl|hpos
   ·have hk:=iH (ok:=fL b.next) (lt:=dY) a;rw[g]at hk;clear g;refine sm d ?_;repeat' with_reducible first|apply And.intro|exact .dq|refine ak.aH (by assumption) ?_|refine ak.aH (s) ?_|refine ak.aH (x) ?_|refine gr (λh=>?_) λh=>?_|refine .id ?_|refine af.bF aj ?_ ?_|exact aI|simp only[*,go_sem,seval]
    all_goals exact CO
   ·obtain⟨j,rfl⟩:∃j,i=j+1:=⟨i-1,by omega⟩
    have l:j<b.ts.length:=aj
    have L:IntKind.wrap .i64 (((j+1:Nat):Int)-1)=(j:Int):=eM;have hk:=gz (ok:=fL b.next) (lt:=dY) a;rw[g,JL]at hk;clear g;have f:=aP (c:=aR.cells) b.ts l;simp only[aR.cells]at f;refine sm d ?_;repeat' with_reducible first|apply And.intro|exact .dq|refine ak.aH (by assumption) ?_|refine ak.aH (s) ?_|refine ak.aH (x) ?_|refine gr (λh=>?_) λh=>?_|refine .id ?_|refine af.bF aj ?_ ?_|exact aI|simp only[*,go_sem,seval,f,mY]
    all_goals exact CO
  ·have R:=nA (λj (l:j<b.ts.length)=>t j aj);exact dJ R
theorem wF(r:aC)(n:Int)(s:r.small):Sq 105 [] [.agg r.cells,.int .i64 n] [] (.bH [.agg (gL av.a n ⟨0,0,0,0⟩ r.xs).cells,.bool (decide (0<=iD av.a n r.xs))]):=by
 obtain⟨l1,l2,l3⟩:=s;simp only[aC.cells];refine aX 28 2 [.cell 4 156,.tmp 5] mixed func105 ?_;refine s0 ?_;refine aF.w1 r.xs.length 6 [1,2,4] [48,80] (λi _=>∀j (d:j<r.xs.length),j<i->r.xs[j].a≠n) (by intros;omega) ?_ ?_
 ·intro i _ m k t e;have o:=aP (c:=av.cells) r.xs m;have hlt:(i:Int)<(r.xs.length:Int):=aj
  simp only[av.cells]at o |-;refine sm (a2 k o) ?_;refine bG ?_;cases p:r.xs[i].a==n
  ·have b:r.xs[i].a≠n:=su p;refine sm t ?_;refine af.u m ?_ ?_
   ·intro j d hji;rcases cq j i with h|h
    ·exact e j d h
    ·obtain rfl:j=i:=aj
     exact b
   ·exact iM
  ·have b:r.xs[i].a=n:=su p;obtain⟨f,g⟩:=je (z:=(⟨0,0,0,0⟩:av)) m e b;have q:decide (0<=(i:Int))=true:=kN;rw[f,g,q];refine sm o ?_;exact U0
 ·intro _ l e;obtain⟨f,g⟩:=gC (z:=(⟨0,0,0,0⟩:av)) (λj d=>e j d d);rw[f,g];simp only[go_sem,seval,l,av.cells]
theorem Qr{a:aG}{bs:List bn}(h:∀b∈bs,b.gE):fP (m0 a bs):=by
 induction bs with
 |nil=>exact⟨by simp[m0],by simp[m0]⟩
 |cons b r ih =>
  simp only[m0];split
  ·exact(h b sT).2.2.2
  ·exact ih λb c=>h b (by simp[c])
def Zb(a:av)(n:Int):bR (a.V n)=true:=by
 simp only[av.V];split
 ·unfold B5;split
  ·decide
  ·split
   ·assumption
   ·decide
 ·decide
def Pa(r:aC)(w c:Int)(ps:List kq):∀n∈gq r w c ps,bR n=true:=by
 intro n a;simp only[gq,mem_map]at a;obtain⟨x,_,rfl⟩:=a;exact Zb _ _
theorem LC{l:bS}(h:l.okB=true)(a:aG):bR (m0 a l.bs)=true:=by
 have c:=(UB h).2;clear h;generalize l.bs=bs at c;induction bs with
 |nil=>rfl
 |cons b r ih =>
  simp only[m0];split
  ·exact c b sT
  ·exact ih λz d=>c z (by simp[d])
def Bc{n:Int}(h:bR n=true):fP n:=by have:=fY.1 h;exact⟨by omega,by omega⟩
def Dl(l:bS)(r:aC)(ps:List kq)(w c:Int)(hl:l.bs.length<2^29)(hr:r.small)(hp:ps.length<2^29)(S:∀b∈l.bs,b.gE) :
  Sq 129 [] [.agg l.cells,.agg r.cells,.sl 3 (pl ps),.I w,.I c] [] (.bH [.I (th l r ps w c),.I (uP l r ps w c)]):=by
 have C:=m6 l aj S;have D:=lz r hr;have O:=rK ps aj;have F:=yN l ⟨2,w,c⟩ aj;have G:=λn=>wF r n hr;simp only[bS.cells,aG.cells]at C F |-;simp only[aC.cells]at D G |-;refine aX 97 5 [.tmp 10,.tmp 11] mixed func129 ?_;refine sc aI C ?_;cases B:l.okB
 ·have e:nV l r ps=14:=by simp[nV,B]
  have j:uP l r ps w c=14:=by simp[uP,e]
  have e2:th l r ps w c=0:=by simp[th,e]
  exact dJ (a2 j e2)
 refine sc aI D ?_;cases M:r.okB
 ·have e:nV l r ps=14:=by simp[nV,M]
  have j:uP l r ps w c=14:=by simp[uP,e]
  have e2:th l r ps w c=0:=by simp[th,e]
  exact dJ (a2 j e2)
 refine sc aI O ?_;cases N:j5 ps
 ·have e:nV l r ps=14:=by simp[nV,N]
  have j:uP l r ps w c=14:=by simp[uP,e]
  have e2:th l r ps w c=0:=by simp[th,e]
  exact dJ (a2 j e2)
 have e:nV l r ps=0:=by simp[nV,B,M,N]
 have j:uP l r ps w c=if eS r w c ps != 0 then eS r w c ps else nG (m0 ⟨2,w,c⟩ l.bs::gq r w c ps):=by simp[uP,e]
 have e2:th l r ps w c=if eS r w c ps != 0 then 0 else nH (m0 ⟨2,w,c⟩ l.bs::gq r w c ps):=by simp[th,e]
 rw[j,e2];clear j e2 e;refine s0 ?_;refine ak.aH F ?_;have m:=LC B ⟨2,w,c⟩;obtain⟨o,T⟩:=aV (m0 ⟨2,w,c⟩ l.bs);rw[<-T]at m |-;refine s0 ?_;refine aF.wu ps.length [2,3,4,6] [112] (λi=>[(13,.I i),(12,.ref 1424)]) (λi=>[(1424,.own 1 (ints (o::gq r w c (ps.take i))))]) (λi=>eS r w c (ps.drop i)=eS r w c ps) rfl ?_ ?_ ?_
 ·simp only[go_sem,seval]<;>simp[gq,ints]
 ·intro i _ f K x g;have d:=CI r w c ps f;have H:=G ps[i].cE;have hvl:=tI r w c (ps.take i);have htl:(ps.take i).length=i:=by simp;omega
  have hli:(i:Int)<(ps.length:Int):=aj
  rw[J8 f]at g;simp only[eS]at g;obtain⟨a,P⟩:=aV (yB r ps[i]);have J:gL av.a ps[i].cE ⟨0,0,0,0⟩ r.xs=a:=P.symm;rw[J]at H;simp only[GO,<-P]at g d;have Q:=Dv a ps[i].units;simp only[av.cells]at H Q;clear C D O F G;simp only[go_sem,seval,K,mP ps f];refine sc aI H ?_;cases p:decide (0<=iD av.a ps[i].cE r.xs)
  ·simp only[p,eO,jm,if_false]at g d;refine sm (a2 p x) ?_;refine bG ?_;refine af.u f g ?_;simp only[go_sem,seval,d]
  cases s:ps[i].who==w
  ·simp only[p,s,eO,cF,jm,if_false]at g d;simp only[go_sem,seval,p,bne,s,x,mP ps f];refine bG ?_;refine af.u f g ?_;simp only[go_sem,seval,d]
  cases y:a.b==c
  ·simp only[p,s,y,eO,Bool.and_false,cF,jm,if_false]at g d;simp only[go_sem,seval,p,bne,s,y,x,mP ps f];refine bG ?_;refine af.u f g ?_;simp only[go_sem,seval,d]
  simp only[p,s,y,cF,Bool.and_self,if_true]at g d;simp only[go_sem,seval,p,bne,s,y,mP ps f];refine sc aI Q ?_;cases z:a.E ps[i].units==0
  ·have q:(a.E ps[i].units != 0)=true:=by simp[bne,z]
   simp only[q,if_true]at g;have R:eS r w c ps=a.E ps[i].units:=g.symm;simp only[go_sem,seval,bne,z,R,Bool.not_false,if_true]
  ·have q:(a.E ps[i].units != 0)=false:=by simp[bne,z]
   simp only[q,jm,if_false]at g;simp only[go_sem,seval,bne,z,x,aL];refine bG ?_;refine af.u f g ?_;simp only[go_sem,seval,d]<;>simp[ints]
 ·intro _ L g;simp only[mT,eS]at g;have hlen:=tI r w c ps;have k:∀n∈o::gq r w c ps,bR n=true:=λn v=>by
   rcases mem_cons.1 v with rfl|v
   ·exact m
   ·exact Pa r w c ps n v
  have U:=gO (o::gq r w c ps) (λn v=>Bc (k n v)) (by simp;omega);have h:=Er k;rw[<-g];simp only[nG,nH,h,if_true,cF];simp only[go_sem,seval,L,ef];refine sl aI U ?_;cases t:bR (aK (o::gq r w c ps))
  ·exact lG t
  ·simp only[go_sem,seval,t,addN]<;>simp
theorem Dq(s:au)(w c:Int)(D:s.fit)(hr:s.gE)(z:s.cL.bs.length<2^29)(B:s.ps.length<2^29):Sq 42 [] [.agg s.cells,.int .i64 w,.int .i64 c] [] (.bH [.int .i64 (Ex s w c),.int .i64 (KD s w c)]):=by
 obtain⟨g,u,_,_⟩:=D;have p:=Dl s.cL s.aA s.ps w c z g B hr.bs;have q:=qZ s.book u hr.qs;have r:=Cc s.aA w c s.book.qs g u.2;simp only[bS.cells,aC.cells,bI.cells]at p q r;simp only[au.cells,Ex,KD];refine aX 63 3 [.tmp 6,.tmp 7] mixed func42 ?_;refine sc aI p ?_;by_cases e:uP s.cL s.aA s.ps w c=0
 case neg =>
  have k:(uP s.cL s.aA s.ps w c==0)=false:=su e;simp only[go_sem,seval,bne,k,az e]
 have a:=(Ss e).2.2.2;have b:=qQ s.aA w c s.book.qs;have k:(uP s.cL s.aA s.ps w c==0)=true:=su e;simp only[go_sem,seval,bne,k,aE e];refine ak.aH q ?_;cases o:s.book.okB
 ·exact dJ o
 refine sc o r ?_;by_cases i:qP s.aA w c s.book.qs=0
 case neg =>
  have l:(qP s.aA w c s.book.qs==0)=false:=su i;simp only[go_sem,seval,bne,l,az i]
 have l:(qP s.aA w c s.book.qs==0)=true:=su i;simp only[aE i];obtain⟨M,y⟩:=aV (nD s.aA w c s.book.qs);obtain⟨C,x⟩:=aV (th s.cL s.aA s.ps w c);rw[<-x]at a |-;rw[<-y]at b |-;have i1:=fY.1 a;have i3:=fY.1 b;have E:IntKind.wrap .i64 (0-C) = -C:=eM;have t:=gO [M,-C] (by intro n v;simp only[mem_cons,not_mem_nil,or_false]at v;rcases v with rfl|rfl<;>exact⟨by omega,by omega⟩) sT;have h:aK [M,-C]=M-C:=by simp[aK];omega
 simp only[addN,h,ints,map_cons,map_nil]at t;refine sm (a3 lH l E) ?_;refine sl aI t ?_;simp only[ug,sD,a,b,cF,Bool.and_self,if_true];cases j:bR (M-C)
 ·by_cases f:M<=C
  ·have m:decide (C<M)=false:=kR;simp only[go_sem,seval,j,m,aE f,jm,if_false]<;>simp
  ·have m:decide (C<M)=true:=kN;simp only[go_sem,seval,j,m,az f,jm,if_false]
 ·by_cases f:M<=C
  ·have d:max (M-C) 0=0:=aj
   simp only[go_sem,seval,j,d,aE f]
  ·have d:max (M-C) 0=M-C:=aj
   simp only[go_sem,seval,j,d,az f]
structure aJ where
 kind:Int
 who:Int
 cur:Int
 cw:Int
deriving DecidableEq
@[reducible] def aJ.cells(x:aJ):List D:=[.I x.kind,.I x.who,.I x.cur,.I x.cw]
def aJ.aO(x:aJ):aG:=⟨x.kind,x.who,x.cur⟩
def aJ.gE(x:aJ):Prop:=fP x.kind/\fP x.who/\fP x.cur/\fP x.cw
def acc(k w c:Nat):List aG:=if aG.right ⟨(k:Int)+1,w,c⟩then[⟨(k:Int)+1,w,c⟩]else[]
def xp(k w:Nat)(i:Nat):List aG:=(range i).flatMap (acc k w)
def xq(k:Nat)(i:Nat):List aG:=(range i).flatMap λw=>xp k w 3
def Ao(i:Nat):List aG:=(range i).flatMap λk=>xq k 17
def eK:List aG:=Ao 6
def Gb(k w i:Nat):(xp k w i).length<=i:=by
 have:=E7 (f:=acc k w) (m:=1) (λc=>by simp only[acc];split<;>simp) i;simpa[xp]using this
def Gd(k i:Nat):(xq k i).length<=3*i:=E7 (λw=>Gb k w 3) i
def Gc(i:Nat):(Ao i).length<=51*i:=E7 (λk=>Gd k 17) i
def Ar:eK.length<=306:=Gc 6
theorem wD:Sq 118 [] [.sl 1 [[.int .i64 1],[.int .i64 2],[.int .i64 3],[.int .i64 4],[.int .i64 5],[.int .i64 6]]] [.own 3 (eK.map aG.cells)] (.ref 0):=by
 obtain⟨e,f⟩:=aV ([1,2,3,4,5,(6:Int)]);have o:e.length=6:=by rw[f];rfl
 have C:([[.I 1],[.I 2],[.I 3],[.I 4],[.I 5],[.I 6]]:List (List D))=ints e:=by rw[f];rfl
 have t:∀i:Nat,i<6->n6 e ((i:Int)+1)=true:=λi hi=>by
  rw[f];simp only[n6,any_cons,any_nil,Bool.or_eq_true,gm];omega
 rw[C];clear C f;refine aX 51 1 [.tmp 2] mixed func118 ?_;refine s0 ?_;refine aF.wv 6 [0] [] (λi=>[(4,.I ((i:Int)+1)),(3,.ref 800)]) (λi=>[(800,.own 3 ((Ao i).map aG.cells))]) ?_ ?_ ?_
 ·simp only[go_sem,seval]<;>simp[Ao]
 ·intro k _ F _ _ _;have B:decide ((k:Int)+1<=6)=true:=kN;have r:IntKind.wrap .i64 ((k:Int)+1+1)=((k+1:Nat):Int)+1:=eM;obtain⟨K,s⟩:=aV ((k:Int)+1);have l:Ao (k+1)=Ao k++xq k 17:=zW _ k;have hlen:=Gc k;rw[<-s]at B r |-;simp only[go_sem,seval,B,aL,o];refine aF.wv 6 [0,3,4] [800] (λj=>[(6,.I j),(5,.bool (n6 (e.take j) K))]) (λ_=>[]) ?_ ?_ ?_
  ·simp only[go_sem,seval]<;>simp[n6]
  ·intro j _ E a q _;have h:j<e.length:=aj
   have g:=vP e K h;have a:decide ((j:Int)<6)=true:=a;cases m:n6 (e.take j) K
   ·rw[m,Bool.false_or]at g;simp only[go_sem,seval,aL,o,a,ints_at e h,q];refine bG ?_;refine af.v E ?_;exact dJ g
   ·rw[m,Bool.true_or]at g;simp only[go_sem,seval,aL,o,a,ints_at e h,q];refine bG ?_;refine af.v E ?_;exact dJ g
  intro _ a _;have a:decide ((6:Int)<6)=false:=a;have H:n6 (e.take 6) K=true:=by rw[<-o,ef,s];exact t k F
  rw[H];simp only[go_sem,seval,aL,o,a];refine aF.wv 17 [0,4,5] [] (λj=>[(7,.I j),(3,.ref 800)]) (λj=>[(800,.own 3 ((Ao k++xq k j).map aG.cells))]) ?_ ?_ ?_
  ·simp only[go_sem,seval]<;>simp[xq]
  ·intro w _ G n x _;have n:decide ((w:Int)<=16)=true:=kN;have u:xq k (w+1)=xq k w++xp k w 3:=zW _ w;have hlw:=Gd k w;refine sm n ?_;refine aF.wv 3 [0,4,5,7] [] (λj=>[(8,.I j),(3,.ref 800)]) (λj=>[(800,.own 3 ((Ao k++xq k w++xp k w j).map aG.cells))]) ?_ ?_ ?_
   ·simp only[go_sem,seval]<;>simp[xp]
   ·intro c _ z b p _;have b:decide ((c:Int)<3)=true:=b;have d:xp k w (c+1)=xp k w c++acc k w c:=zW _ c;have hlc:=Gb k w c;have y:=ji ⟨K,w,c⟩;simp only[aG.cells]at y;simp only[acc,<-s]at d;refine sc b y ?_;cases m:aG.right ⟨K,w,c⟩
    ·rw[m]at d;refine sm p ?_;refine af.v z ?_;exact lG d
    ·rw[m]at d;simp only[go_sem,seval,p,cT];refine bG ?_;refine af.v z ?_;simp only[go_sem,seval,d]<;>simp[aG.cells]
   ·intro _ b _;have b:decide ((3:Int)<3)=false:=b;refine sm (a2 b x) ?_;refine af.v G ?_;exact lG u
  ·intro _ _ _;refine sm r ?_;refine af.v F ?_;simp only[go_sem,seval,l]<;>simp
 ·intro _ _ _;simp only[go_sem,seval,eK]
def Ef(x:aJ):Bool:=x.aO.right&&bR x.cw
def nE(l:List aJ):Bool:=l.all Ef
def wE(l:List aJ)(hl:l.length<2^40):Sq 202 [] [.sl 4 (l.map aJ.cells)] [] (.bool (nE l)):=by
 refine aX 26 1 [.tmp 2] mixed func202 ?_;refine s0 ?_;refine aF.w1 l.length 3 [0] [] (λi _=>nE (l.drop i)=nE l) rfl ?_ ?_
 ·intro i _ f d h a;obtain⟨x,o,g,hli⟩:=uy (c:=aJ.cells) l f;have k:=ji x.aO;have m:=jS x.cw;rw[fX f,<-o]at a;have n:Ef x=(aG.right ⟨x.kind,x.who,x.cur⟩&&bR x.cw):=rfl;simp only[nE,all_cons,n]at a;simp only[aJ.cells]at g;simp only[aG.cells,aJ.aO]at k;refine sc (a2 d g) k ?_;cases b:aG.right ⟨x.kind,x.who,x.cur⟩
  ·rw[b]at a;simp only[go_sem,seval,nE,<-a,eO]
  refine sc g m ?_;cases j:bR x.cw
  ·rw[b,j]at a;simp only[go_sem,seval,nE,<-a,eO,Bool.and_false]
  rw[b,j,Bool.and_self,cF]at a;refine sm h ?_;refine af.u f a ?_;exact iM
 ·intro _ e a;rw[mT]at a;simp only[go_sem,seval,e,<-a];rfl
theorem OF:vp (λt=>t) (λk=>k) aB.cells 3 24 where
 r1:=wJ func257 func257
 r2:=wJ func250 func250
 r3:=wJ func234 func234
 r4:=wJ func235 func235
 r5:=wJ func174 func174
 r6:=wJ func74 func74
 t0:=ct
 t3:=ct
 t4:=ct
 tu:=ct
 ne:=ct
 nv:=⟨by kernel_rfl,by kernel_rfl⟩
 sl:=Q9
 el:=Z9
 pos:=aj
 len:=λ_=>rfl
 ok:=λx d a=>by simp only[aB.cells,mem_cons,not_mem_nil,or_false]at a;rcases a with rfl|rfl|rfl<;>simp[go_sem,seval,br,cG,D.names]
 nm:=λ_=>rfl
 pl:=λx=>by simp only[go_sem,seval,aB.cells]
theorem FX(lt:aB->aB->Bool)(g:FuncId)(b:∀x y:aB,∃c:Int,Sq g [] [.agg (aB.cells x),.agg (aB.cells y)] [] (.int .i64 c)/\decide (c<0)=lt x y)(l:List (aB))(a:l.length<2^38) :
  Sq 74 [.own 3 (l.map aB.cells)] [.ref 0,.fn g []] [.own 3 ((Ag lt l).map aB.cells)] (.bH []):=Cy OF lt g [] rfl (eq_true trivial) (λ_ _=>eq_true trivial) b l a
def OG:vp (λt=>if t=86 then 148 else if t=44 then 73 else if t=140 then 243 else t) (λk=>if k=257 then 262 else if k=250 then 258 else if k=234 then 251 else if k=235 then 252 else if k=174 then 237 else if k=74 then 179 else k) aJ.cells 4 32 where
 r1:=wJ func257 func262
 r2:=wJ func250 func258
 r3:=wJ func234 func251
 r4:=wJ func235 func252
 r5:=wJ func174 func237
 r6:=wJ func74 func179
 t0:=ct
 t3:=ct
 t4:=ct
 tu:=ct
 ne:=ct
 nv:=⟨by kernel_rfl,by kernel_rfl⟩
 sl:=afH
 el:=Uw
 pos:=aj
 len:=λ_=>rfl
 ok:=λx d a=>by simp only[aJ.cells,mem_cons,not_mem_nil,or_false]at a;rcases a with rfl|rfl|rfl|rfl<;>simp[go_sem,seval,br,cG,D.names]
 nm:=λ_=>rfl
 pl:=λx=>by simp only[go_sem,seval,aJ.cells]
theorem FY(lt:aJ->aJ->Bool)(g:FuncId)(b:∀x y:aJ,∃c:Int,Sq g [] [.agg (aJ.cells x),.agg (aJ.cells y)] [] (.int .i64 c)/\decide (c<0)=lt x y)(l:List (aJ))(a:l.length<2^38) :
  Sq 179 [.own 4 (l.map aJ.cells)] [.ref 0,.fn g []] [.own 4 ((Ag lt l).map aJ.cells)] (.bH []):=Cy OG lt g [] rfl (eq_true trivial) (λ_ _=>eq_true trivial) b l a
def pick{A:Type}(p:A->Bool)(f:A->Int)(xs:List A):List Int:=xs.flatMap λx=>if p x then[f x]else[]
def El{A:Type}(p:A->Bool)(f:A->Int){xs:List A}{i:Nat}(h:i<xs.length):pick p f (xs.take (i+1))=pick p f (xs.take i)++(if p xs[i]then[f xs[i]]else[]):=jr _ h
def fu{A:Type}(p:A->Bool)(f:A->Int)(xs:List A):(pick p f xs).length<=xs.length:=by
 have:=gB (f:=λx=>if p x then[f x]else[]) (m:=1) (λx=>by split<;>simp) xs;simpa[pick]using this
def qj{A:Type}{p:A->Bool}{f:A->Int}{xs:List A}{R:Int->Prop}(h:∀x∈xs,R (f x)):∀n∈pick p f xs,R n:=by
 intro n a;obtain⟨x,b,a⟩:=mem_flatMap.1 a;split at a
 ·obtain rfl:n=f x:=su a;exact h x b
 ·cases a
theorem kf{A:Type}(p:A->Bool)(f:A->Int){xs:List A}{i:Nat}(h:i<xs.length):ints (pick p f (xs.take (i+1)))=ints (pick p f (xs.take i))++(if p xs[i]then[[.int .i64 (f xs[i])]]else[]):=by
 rw[El p f h];unfold ints;rw[jH];split<;>rfl
def Zc(l:List Int):(bR (aK l)&&addN l==0)=(aK l==0):=by
 unfold addN;cases h:bR (aK l)
 ·have:aK l≠0:=λe=>by rw[e]at h;cases h
  simp[this]
 ·simp
def qc{l:List aJ}(h:nE l=true):∀x∈l,x.aO.right=true/\bR x.cw=true:=λx a=>by
 have:=cR.1 h x a;simpa only[Ef,dO]using this
def jo(c:Int)(l:List aJ):List Int:=pick (λx=>x.cur==c) aJ.cw l
def oI(l:List aJ):Bool:=(range 3).all λc=>aK (jo c l)==0
def jc(l:List aJ):Int:=if l.length=0 then 2 else if 64<l.length then 5 else if nE l then(if oI l then 0 else 12)else 3
theorem B8(l:List aJ)(hl:l.length<2^30):Sq 117 [] [.sl 4 (l.map aJ.cells)] [] (.int .i64 (jc l)):=by
 have E:=wE l aj;refine aX 54 1 [.tmp 2] mixed func117 ?_;refine s0 ?_;by_cases b:l.length=0
 ·have d:((l.length:Int)==0)=true:=by simp[b]
  have e:jc l=2:=by simp[jc,b]
  exact dJ (a2 d e)
 have r:((l.length:Int)==0)=false:=su b;by_cases s:64<l.length
 ·have d:decide (64<(l.length:Int))=true:=kN;have e:jc l=5:=by simp only[jc];rw[az b,aE s]
  exact dJ (a3 r d e)
 have D:decide (64<(l.length:Int))=false:=kR;refine sc (a2 r D) E ?_;cases f:nE l
 ·have e:jc l=3:=by simp only[jc];rw[az b,az s,f];rfl
  exact dJ e
 have e:jc l=if oI l then 0 else 12:=by simp only[jc];rw[az b,az s,f];rfl
 have z:=qc f;rw[e];clear e r D E;refine s0 ?_;refine aF.w1 3 3 [0] [] (λi _=>∀c<i,(aK (jo (c:Nat) l)==0)=true) sT ?_ ?_
 ·intro c _ g a B t;have a:decide ((c:Int)<3)=true:=a;have G:=gO (jo c l) (qj λx C=>Bc (z x C).2) (by have:=fu (λx:aJ=>x.cur==(c:Int)) aJ.cw l;unfold jo;omega);have b:=Zc (jo c l);refine sm a ?_;refine aF.wv l.length [0,3] [] (λi=>[(5,.I i),(4,.ref 688)]) (λi=>[(688,.own 1 (ints (jo c (l.take i))))]) ?_ ?_ ?_
  ·simp only[go_sem,seval]<;>simp[jo,pick,ints]
  ·intro i _ p w n _;have q:=aP (c:=aJ.cells) l p;have m:ints (jo c (l.take (i+1)))=_:=kf (λx:aJ=>x.cur==(c:Int)) aJ.cw p;have j:=fu (λx:aJ=>x.cur==(c:Int)) aJ.cw (l.take i);have hlt:(l.take i).length=i:=by simp;omega
   have hli:(i:Int)<(l.length:Int):=aj
   have j:(jo c (l.take i)).length<=i:=by unfold jo;omega
   obtain⟨x,C⟩:=aV (l[i]);rw[<-C]at m q;simp only[aJ.cells]at q;refine sm (a2 w q) ?_;refine bG ?_;cases F:x.cur==(c:Int)
   ·simp only[F,jm,if_false,if_true,append_nil]at m;refine sm n ?_;refine af.v p ?_;simp only[go_sem,seval,m]<;>simp[jo]
   ·simp only[F,jm,if_false,if_true,append_nil]at m;simp only[go_sem,seval,n,aL,q];refine bG ?_;refine af.v p ?_;simp only[go_sem,seval,m]<;>simp[jo]
  ·intro _ y _;simp only[go_sem,seval,y,ef];refine sl aI G ?_;cases f:bR (aK (jo c l))
   ·have:oI l=false:=by
     rw[oI,all_eq_false];exact⟨c,mem_range.2 g,by rw[f]at b;rw[<-b];simp⟩
    exact dJ (a2 f this)
   cases o:addN (jo c l)==0
   ·have:oI l=false:=by
     rw[oI,all_eq_false];exact⟨c,mem_range.2 g,by rw[f,o]at b;rw[<-b];simp⟩
    exact dJ (a4 f lH o this)
   rw[f,o]at b;refine sm (a4 f lH o B) ?_;refine af.u g ?_ ?_
   ·intro k hk;rcases cq k c with h|h
    ·exact t k h
    ·obtain rfl:k=c:=aj
     exact b.symm
   ·exact iM
 ·intro _ a t;have a:decide ((3:Int)<3)=false:=a;have:oI l=true:=cR.2 λc g=>t c (mem_range.1 g);exact dJ (a2 a this)
def dz(a:aG)(l:List aJ):List Int:=pick (λx=>x.aO.same a) aJ.cw l
def tR(a:aG)(n:Int):List aJ:=if n==0 then[]else[⟨a.kind,a.who,a.cur,n⟩]
def mH(l:List aJ)(b:List aG):List aJ:=b.flatMap λa=>tR a (aK (dz a l))
def gU(l:List aJ)(b:List aG):Bool:=b.all λa=>bR (aK (dz a l))
def pZ(l:List aJ):Int:=if nE l then(if gU l eK then 0 else 1)else 3
def mI(l:List aJ):List aJ:=if pZ l=0 then mH l eK else[]
def G7(a:aG)(n:Int):(tR a n).length<=1:=by unfold tR;split<;>simp
def D6(l:List aJ)(b:List aG):(mH l b).length<=b.length:=by
 have:=gB (f:=λa=>tR a (aK (dz a l))) (m:=1) (λa=>G7 _ _) b;simpa[mH]using this
theorem FC(l:List aJ)(hl:l.length<2^29):Sq 116 [] [.sl 4 (l.map aJ.cells)] [.own 4 ((mI l).map aJ.cells)] (.bH [.ref 0,.int .i64 (pZ l)]):=by
 have F:=wE l aj;have h:=wD;refine aX 65 1 [.tmp 2,.tmp 3] mixed func116 ?_;refine sc aI F ?_;cases f:nE l
 ·have e:pZ l=3:=by simp[pZ,f]
  have e2:mI l=[]:=by simp[mI,e]
  exact lG (a2 e e2)
 have e:pZ l=if gU l eK then 0 else 1:=by simp[pZ,f]
 have e2:mI l=if gU l eK then mH l eK else[]:=by simp only[mI,e];cases gU l eK<;>simp
 have D:=qc f;have z:=Ar;rw[e,e2];clear e e2 F;obtain⟨d,n⟩:=aV (eK);rw[<-n]at h z |-;clear n;refine s0 ?_;refine ak.fk [240] [] false sT ?_;refine s0 ?_;refine bX.fV h ?_;refine s0 ?_;refine aF.wu d.length [0,5] [256] (λi=>[(6,.I i),(4,.ref 1024)]) (λi=>[(1024,.own 4 ((mH l (d.take i)).map aJ.cells))]) (λi=>gU l (d.drop i)=gU l d) rfl ?_ ?_ ?_
 ·simp only[go_sem,seval]<;>simp[mH]
 ·intro k _ o C s g;obtain⟨a,G,m,hlk⟩:=uy (c:=aG.cells) d o;have b:mH l (d.take (k+1))=mH l (d.take k)++_:=jr _ o;have hjl:=D6 l (d.take k);have hjt:(d.take k).length=k:=by simp;omega
  rw[fX o,<-G]at g;simp only[gU,all_cons]at g;rw[<-G]at b;have J:=gO (dz a l) (qj λx E=>Bc (D x E).2) (by have:=fu (λx:aJ=>x.aO.same a) aJ.cw l;unfold dz;omega);simp only[aG.cells]at m;refine sm C ?_;refine aF.wv l.length [0,4,5,6] [256,1024] (λi=>[(8,.I i),(7,.ref 736)]) (λi=>[(736,.own 1 (ints (dz a (l.take i))))]) ?_ ?_ ?_
  ·simp only[go_sem,seval]<;>simp[dz,pick,ints]
  ·intro i _ w B r _;have y:=aP (c:=aJ.cells) l w;have q:ints (dz a (l.take (i+1)))=ints (dz a (l.take i))++_:=kf (λx:aJ=>x.aO.same a) aJ.cw w;have p:=fu (λx:aJ=>x.aO.same a) aJ.cw (l.take i);have hlt:(l.take i).length=i:=by simp;omega
   have hli:(i:Int)<(l.length:Int):=aj
   have p:(dz a (l.take i)).length<=i:=by unfold dz;omega
   obtain⟨x,E⟩:=aV (l[i]);have K:Sq 120 [] [.agg [.I x.kind,.I x.who,.I x.cur],.agg [.I a.kind,.I a.who,.I a.cur]] [] (.bool (x.aO.same a)):=pF x.aO a;rw[<-E]at q y;simp only[aJ.cells]at y;refine sc (a3 B y m) K ?_;cases H:x.aO.same a
   ·simp only[H,jm,if_false,if_true,append_nil]at q;refine sm r ?_;refine af.v w ?_;exact dJ q
   ·simp only[H,jm,if_false,if_true,append_nil]at q;simp only[go_sem,seval,r,aL,y];refine bG ?_;refine af.v w ?_;exact dJ q
  ·intro _ j _;simp only[go_sem,seval,j,ef];refine sl aI J ?_;cases f:bR (aK (dz a l))
   ·rw[f,eO]at g;have:gU l d=false:=g.symm;exact lG (a2 f this)
   rw[f,cF]at g;have L:addN (dz a l)=aK (dz a l):=by simp[addN,f]
   rw[L];cases t:aK (dz a l)==0
   ·simp only[tR,t]at b;refine sm (a5 f lH t s m) ?_;refine bG ?_;refine af.u o g ?_;exact lG b
   ·simp only[tR,t]at b;refine sm (a4 f lH t s) ?_;refine af.u o g ?_;exact lG b
 ·intro _ j g;rw[mT]at g;have:gU l d=true:=g.symm;simp only[go_sem,seval,j,this,ef]<;>simp
theorem Di(l:List aJ)(a:l.length<2^29):Sq 116 [] [.sl 4 (l.map aJ.cells)] [] (.bH [.sl 4 ((mI l).map aJ.cells),.int .i64 (pZ l)]):=by
 refine Spec.frozen (FC l a) [0] rfl ?_;intro r;rcases r with _|r<;>rfl
theorem IY(a:List Int)(k:Int)(hl:a.length<2^62):Sq 204 [] [.sl 1 (ints a),.int .i64 k] [] (.int .i64 (iD id k a)):=by
 refine aX 19 2 [.tmp 4] mixed func204 ?_;simp only[go_sem,seval,aL];refine aF.w1 a.length 8 [0,1,7] [] (λi _=>∀j (c:j<a.length),j<i->id a[j]≠k) (by intros;omega) ?_ ?_
 ·intro i _ m g o d;have hli:(i:Int)<(a.length:Int):=aj
  simp only[go_sem,seval,g,aL,ints_at a m];refine bG ?_;cases f:k==a[i]
  ·have b:id a[i]≠k:=λh=>by simp only[id]at h;rw[h]at f;simp at f
   refine sm o ?_;refine af.u m ?_ ?_
   ·intro j c hji;rcases cq j i with h|h
    ·exact d j c h
    ·obtain rfl:j=i:=aj
     exact b
   ·exact iM
  ·have b:id a[i]=k:=by simp only[id];have:=BK f;omega
   obtain⟨n,e⟩:=je (z:=(0:Int)) m d b;rw[e];exact iM
 ·intro _ l d;obtain⟨n,e⟩:=gC (z:=(0:Int)) (λj c=>d j c c);rw[e];exact dJ l
theorem qX{A:Type}{no:A->Int}{n:Int}:∀{xs:List A},decide (0<=iD no n xs)=xs.any (λx=>no x==n)
 | []=>by simp[iD]
 |x::r=>by
  have a:=qX (no:=no) (n:=n) (xs:=r);rw[gI,decide_eq_true_iff]at a |-;rw[any_cons,Bool.or_eq_true,<-a,gm];simp only[iD];split
  ·simp[*]
  ·rename_i b;split
   ·exact⟨λh=>by omega,λh=>by rcases h with h|h;exact(b h).elim;omega⟩
   ·exact⟨λ_=>.inr aj,λh=>by omega⟩
theorem tZ(a:List Int)(k:Int)(b:a.length<2^62):Sq 123 [] [.sl 1 (ints a),.int .i64 k] [] (.bool (n6 a k)):=by
 have h:=IY a k b;have e:decide (0<=iD id k a)=n6 a k:=by rw[qX];rfl
 refine aX 9 2 [.tmp 4] mixed func123 ?_;exact qt e h
def ah.zero:ah:=⟨0,0,0⟩
theorem zh(xs:List ah)(n:Int)(hl:xs.length<2^62):Sq 225 [] [.sl 3 (xs.map ah.cells),.fn 144 [],.int .i64 n] [] (.bH [.agg (gL ah.no n ah.zero xs).cells,.int .i64 (iD ah.no n xs)]):=by
 refine aX 27 3 [.cell 6 152,.tmp 7] mixed func225 ?_;refine s0 ?_;refine aF.w1 xs.length 13 [1,2,6,11,12] [112,208] (λi _=>∀j (b:j<xs.length),j<i->xs[j].no≠n) (by intros;omega) ?_ ?_
 ·intro i _ o l q e;have p:=aP (c:=ah.cells) xs o;have d:=mB xs[i];simp only[ah.cells]at p d |-;refine sc (a2 l p) d ?_;cases f:xs[i].no==n
  ·have a:xs[i].no≠n:=su f;refine sm (a2 f q) ?_;refine af.u o ?_ ?_
   ·intro j b hji;rcases cq j i with h|h
    ·exact e j b h
    ·obtain rfl:j=i:=aj
     exact a
   ·exact iM
  ·have a:xs[i].no=n:=su f;obtain⟨g,k⟩:=je (z:=ah.zero) o e a;rw[g,k];exact dJ f
 ·intro _ m e;obtain⟨g,k⟩:=gC (z:=ah.zero) (λj b=>e j b b);rw[g,k];simp only[go_sem,seval,m,ah.cells,ah.zero]
def ni(r:aC)(n:Int):ah:=gL ah.no n ah.zero r.ms
def kG(r:aC)(n:Int):Bool:=decide (0<=iD ah.no n r.ms)
def cr(r:aC)(n:Int):Int:=(ni r n).state
theorem m7(r:aC)(n:Int)(b:r.small):Sq 141 [] [.agg r.cells,.int .i64 n] [] (.bH [.agg (ni r n).cells,.bool (kG r n)]):=by
 have h:=zh r.ms n (by have:=b.1;omega);obtain⟨g,a⟩:=aV (gL ah.no n ah.zero r.ms);simp only[ni,kG];rw[<-a]at h |-;simp only[ah.cells]at h |-;simp only[aC.cells];refine aX 18 2 [.cell 4 152,.tmp 5] mixed func141 ?_;exact qt aI h
theorem sC(s:au)(n:Int)(b:s.aA.small):Sq 220 [] [.int .i64 n,.bq s.cells] [] (.int .i64 (cr s.aA n)):=by
 have h:=m7 s.aA n b;simp only[cr];obtain⟨g,a⟩:=aV (ni s.aA n);rw[<-a]at h |-;simp only[aC.cells,ah.cells]at h;simp only[au.cells];refine aX 15 2 [.tmp 3] mixed func220 ?_;exact qt aI h
theorem G1(s:au)(n:Int)(b:s.aA.small):Sq 221 [] [.int .i64 n,.bq s.cells] [] (.bool (bZ s.aA n)):=by
 have h:=pH s.aA n b;obtain⟨g,a⟩:=aV (bU s.aA n);rw[<-a]at h;simp only[aC.cells,ay.cells]at h;simp only[au.cells];refine aX 14 2 [.tmp 3] mixed func221 ?_;exact qt aI h
def uk(r:aC)(n:Int):Bool:=cr r n==1||cr r n==2
theorem G2(s:au)(n:Int)(b:s.aA.small):Sq 222 [] [.int .i64 n,.bq [.fn 220 [.bq s.cells]]] [] (.bool (uk s.aA n)):=by
 have h:=sC s n b;simp only[au.cells]at h |-;refine aX 14 2 [.tmp 3] mixed func222 ?_;refine sc aI h ?_;cases a:cr s.aA n==1
 ·refine sm a ?_;refine bG ?_;refine ak.aH h ?_;simp only[go_sem,seval,uk,a,Bool.false_or]
 ·simp only[go_sem,seval,uk,a,Bool.true_or]
def G3(s:au)(c:aq)(a:s.aA.small):Sq 224 [] [.agg c.cells,.bq [.fn 220 [.bq s.cells]]] [] (.bool (!(cr s.aA c.who==1))):=by
 have h:=sC s c.who a;simp only[au.cells]at h |-;simp only[aq.cells];refine aX 10 2 [.tmp 3] mixed func224 ?_;refine s0 ?_;refine bG ?_;refine ak.aH h ?_;exact dJ lH
theorem AD(s:au)(cs:List aq)(p:s.aA.small)(l:cs.length<2^60):Sq 246 [] [.sl 4 (cs.map aq.cells),.fn 224 [.bq [.fn 220 [.bq s.cells]]]] [] (.int .i64 (iD (λc:aq=>if cr s.aA c.who==1 then 0 else 1) 1 cs)):=by
 have h:=λc=>G3 s c p;simp only[au.cells,aq.cells]at h |-;refine aX 19 2 [.tmp 4] mixed func246 ?_;refine s0 ?_;refine aF.w1 cs.length 8 [0,1,7] [] (λi _=>∀j (a:j<cs.length),j<i->(if cr s.aA cs[j].who==1 then(0:Int)else 1)≠1) (by intros;omega) ?_ ?_
 ·intro i _ k f q b;have m:=aP (c:=aq.cells) cs k;have hli:(i:Int)<(cs.length:Int):=aj
  have l:=h cs[i];simp only[aq.cells]at m;refine sc (a2 f m) l ?_;cases d:cr s.aA cs[i].who==1
  ·obtain⟨o,e⟩:=je (no:=λc:aq=>if cr s.aA c.who==1 then(0:Int)else 1) (n:=1) (z:=(⟨0,0,0,0⟩:aq)) k b (by simp[d]);rw[e];exact dJ d
  ·refine sm (a2 d q) ?_;refine af.u k ?_ ?_
   ·intro j a hji;rcases cq j i with h|h
    ·exact b j a h
    ·obtain rfl:j=i:=aj
     simp[d]
   ·exact iM
 ·intro _ g b;obtain⟨o,e⟩:=gC (no:=λc:aq=>if cr s.aA c.who==1 then(0:Int)else 1) (n:=1) (z:=(⟨0,0,0,0⟩:aq)) (λj a=>b j a a);rw[e];exact dJ g
def oE(r:aC)(c:aq):Bool:=cr r c.who==1
def vw(s:au)(cs:List aq)(d:s.aA.small)(b:cs.length<2^60):Sq 223 [] [.sl 4 (cs.map aq.cells),.fn 224 [.bq [.fn 220 [.bq s.cells]]]] [] (.bool (!cs.all (oE s.aA))):=by
 have h:=AD s cs d b;have e:decide (0<=iD (λc:aq=>if cr s.aA c.who==1 then(0:Int)else 1) 1 cs) = !cs.all (oE s.aA):=by
  rw[qX,not_all_eq_any_not];congr 1;funext c;cases a:cr s.aA c.who==1<;>simp[oE,a]
 simp only[au.cells]at h |-;refine aX 9 2 [.tmp 4] mixed func223 ?_;exact qt e h
def BS(r:aC)(p:aN):Bool:=uk r p.who&&bZ r p.inst
def tW(r:aC)(t:aR):Bool:=!(cr r t.rE==0)&&(!(cr r t.m9==0)&&bZ r t.inst)
def rD(r:aC)(n:Int):Bool:=decide (0<=iD av.a n r.xs)
def sJ(r:aC)(p:kq):Bool:=uk r p.who&&rD r p.cE
def l9(s:au):Bool:=s.book.qs.all (BS s.aA)&&(s.book.ts.all (tW s.aA)&&(s.ps.all (sJ s.aA)&&s.calls.all (oE s.aA)))
def qB{A:Type}{f:A->Bool}{xs:List A}{i:Nat}(h:i<xs.length)(a:f xs[i]=false):xs.all f=false:=by
 cases b:xs.all f
 ·rfl
 ·rw[cR.1 b _ (cZ h)]at a;cases a
def nx{A:Type}{f:A->Bool}{xs:List A}(h:∀j (a:j<xs.length),j<xs.length->f xs[j]=true):xs.all f=true:=cR.2 λx b=>by
 obtain⟨j,a,rfl⟩:=mem_iff_getElem.1 b;exact h j a a
def kZ{A:Type}{f:A->Bool}{xs:List A}{i:Nat}(hi:i<xs.length)(c:∀j (a:j<xs.length),j<i->f xs[j]=true)(b:f xs[i]=true):∀j (a:j<xs.length),j<i+1->f xs[j]=true:=λj a hji=>by
 rcases cq j i with h|h
 ·exact c j a h
 ·obtain rfl:j=i:=aj
  exact b
def I3(s:au)(D:s.fit)(hc:s.calls.length<2^30):Sq 139 [] [.agg s.cells] [] (.bool (l9 s)):=by
 obtain⟨q,B,_,hp⟩:=D;obtain⟨hb1,hb2⟩:=B;have k2:=λn=>G1 s n q;have k1:=λn=>sC s n q;have k3:=λn=>G2 s n q;have y:=λn=>sP s.aA n q;have z:=vw s s.calls q aj;simp only[aC.cells]at y;simp only[au.cells]at k1 k2 k3 z |-;refine aX 98 1 [.tmp 2] mixed func139 ?_;refine s0 ?_;refine aF.w1 s.book.qs.length 21 [1,3,4,5,19,20] [32,64,256,272,336] (λi _=>∀j (x:j<s.book.qs.length),j<i->BS s.aA s.book.qs[j]=true) (by intros;omega) ?_ ?_
 ·intro i _ k m r f;have p:=aP (c:=aN.cells) s.book.qs k;have e0:=kZ k f;have o:BS s.aA s.book.qs[i]=false->l9 s=false:=λh=>by simp[l9,qB k h]
  simp only[aN.cells]at p;refine sl (a2 m p) (k3 s.book.qs[i].who) ?_;cases b:uk s.aA s.book.qs[i].who
  ·have:=o (by simp[BS,b]);exact dJ (a2 b this)
  refine sl b (k2 s.book.qs[i].inst) ?_;cases d:bZ s.aA s.book.qs[i].inst
  ·have:=o (by simp[BS,b,d]);exact dJ (a2 d this)
  refine sm (a2 d r) ?_;refine af.u k (e0 (by simp[BS,b,d])) ?_;exact iM
 intro _ e f;have l:=nx f;have w:l9 s=(s.book.ts.all (tW s.aA)&&(s.ps.all (sJ s.aA)&&s.calls.all (oE s.aA))):=by simp[l9,l]
 rw[w];clear w l f;refine sm e ?_;clear e;refine aF.w1 s.book.ts.length 44 [1,3,4,5,42,43] [32,64,256,272,704] (λi _=>∀j (x:j<s.book.ts.length),j<i->tW s.aA s.book.ts[j]=true) (by intros;omega) ?_ ?_
 ·intro i _ k m r f;have p:=aP (c:=aR.cells) s.book.ts k;have e0:=kZ k f;have o:tW s.aA s.book.ts[i]=false->(s.book.ts.all (tW s.aA)&&(s.ps.all (sJ s.aA)&&s.calls.all (oE s.aA)))=false:=λh=>by simp[qB k h]
  simp only[aR.cells]at p;refine sl (a2 m p) (k1 s.book.ts[i].rE) ?_;cases b:cr s.aA s.book.ts[i].rE==0
  case true =>
   have:=o (by simp only[tW,b];rfl);exact dJ (a2 b this)
  refine sl b (k1 s.book.ts[i].m9) ?_;cases d:cr s.aA s.book.ts[i].m9==0
  case true =>
   have:=o (by simp only[tW,b,d];rfl);exact dJ (a2 d this)
  refine sl d (k2 s.book.ts[i].inst) ?_;cases t:bZ s.aA s.book.ts[i].inst
  ·have:=o (by simp only[tW,b,d,t];rfl);exact dJ (a2 t this)
  refine sm (a2 t r) ?_;refine af.u k (e0 (by simp only[tW,b,d,t];rfl)) ?_;exact iM
 intro _ e f;have l:=nx f;rw[l,cF];clear l f;have hpl:(pl s.ps).length=s.ps.length:=Oc s.ps;refine sm e ?_;clear e;refine aF.w1 s.ps.length 71 [1,3,5,69,70] [32,64,272,1136] (λi _=>∀j (x:j<s.ps.length),j<i->sJ s.aA s.ps[j]=true) (by intros;omega) ?_ ?_
 ·intro i _ k m r f;have p:=mP s.ps k;have e0:=kZ k f;have o:sJ s.aA s.ps[i]=false->(s.ps.all (sJ s.aA)&&s.calls.all (oE s.aA))=false:=λh=>by simp[qB k h]
  have l:=y s.ps[i].cE;obtain⟨g,C⟩:=aV (gL av.a s.ps[i].cE ⟨0,0,0,0⟩ s.aA.xs);have v:decide (0<=iD av.a s.ps[i].cE s.aA.xs)=rD s.aA s.ps[i].cE:=rfl;rw[<-C,v]at l;simp only[av.cells]at l;refine sc (a2 m p) l ?_;refine sl aI (k3 s.ps[i].who) ?_;cases b:uk s.aA s.ps[i].who
  ·have:=o (by simp only[sJ,b];rfl);exact dJ (a2 b this)
  cases d:rD s.aA s.ps[i].cE
  ·have:=o (by simp only[sJ,b,d];rfl);exact dJ (a3 b d this)
  refine sm (a3 b d r) ?_;refine af.u k (e0 (by simp only[sJ,b,d];rfl)) ?_;exact iM
 intro _ e f;have l:=nx f;rw[l,cF];clear l f;refine sm e ?_;refine ak.fk [32,64] [] true sT ?_;refine s0 ?_;refine bX.fV z ?_;simp only[go_sem,seval,Bool.not_not]
def uB(x y:Int):Int:=if x<y then -1 else if y<x then 1 else 0
theorem Bh(x:Int):Sq 175 [] [.int .i64 x] [] (.bool false):=by
 refine aX 6 1 [.tmp 2] mixed func175 ?_;simp only[go_sem,seval,bne,beq_self_eq_true,Bool.not_true]
theorem jW(x y:Int):Sq 77 [] [.int .i64 x,.int .i64 y] [] (.int .i64 (uB x y)):=by
 have b:=Bh x;have c:=Bh y;refine aX 20 2 [.tmp 4] mixed func77 ?_;refine sc aI b ?_;refine ak.aH c ?_;simp only[uB];rcases Int.lt_or_le x y with h|h
 ·have d:decide (x<y)=true:=gJ h;simp only[go_sem,seval,d,aE h]
 ·have d:decide (x<y)=false:=kR;rw[az aj];rcases Int.lt_or_le y x with h3|h3
  ·have a:decide (y<x)=true:=gJ h3;simp only[go_sem,seval,d,a,aE h3]
  ·have a:decide (y<x)=false:=kR;simp only[go_sem,seval,d,a,az (show ¬y<x by omega)]
def Fy:List Int->Int
 | []=>0
 |x::xs=>if x=0 then Fy xs else x
theorem Gt(xs:List Int)(hn:xs.length<2^60):Sq 76 [] [.sl 1 (ints xs)] [] (.int .i64 (Fy xs)):=by
 refine aX 18 1 [.tmp 2] mixed func76 ?_;simp only[go_sem,seval,aL];refine aF.w1 xs.length 8 [3,6,7] [128] (λi _=>Fy (xs.drop i)=Fy xs) sT ?_ ?_
 ·intro i _ g e k a;have b:=ints_at xs g;obtain⟨x,h⟩:=aV (xs[i]);have j:Fy (xs.drop i)=if x=0 then Fy (xs.drop (i+1))else x:=by rw[fX g,Fy,h]
  rw[j]at a;rw[<-h]at b;simp only[go_sem,seval,aL,e,b];refine bG ?_;cases c:x==0
  ·have d:x≠0:=su c;rw[az d]at a;rw[a]at c;exact dJ (a3 lH c a)
  ·have d:x=0:=su c;rw[aE d]at a;refine sm (a3 lH c k) ?_;refine af.u g a ?_;exact iM
 ·intro _ f a;rw[mT,Fy]at a;simp only[go_sem,seval,aL,f,<-a]
theorem AP(x y:Int):Sq 76 [] [.sl 1 [[.int .i64 x],[.int .i64 y]]] [] (.int .i64 (if x=0 then y else x)):=by
 have h:=Gt [x,y] sT;have e:Fy [x,y]=if x=0 then y else x:=by
  simp only[Fy];split<;>try rfl
  split<;>rename_i h<;>simp_all
 rw[e]at h;exact h
def bg(a b:aq):Bool:=decide (a.who<b.who)||(a.who==b.who&&decide (a.cur<b.cur))
def rV(a:aq)(w c:Int):Int:=if uB a.who w=0 then uB a.cur c else uB a.who w
def Gm(a b:aq):decide (0<=rV a b.who b.cur) = !bg a b:=by
 rw[gI,decide_eq_true_iff];simp only[rV,uB,bg,jY,Bool.or_eq_false_iff,iX,Bool.and_eq_false_iff,beq_eq_false_iff_ne];repeat' split
 all_goals omega
theorem pU(a:aq)(w c:Int):Sq 213 [] [.agg a.cells,.int .i64 w,.int .i64 c] [] (.int .i64 (rV a w c)):=by
 have b:=jW a.who w;have d:=jW a.cur c;have e:=AP (uB a.who w) (uB a.cur c);simp only[aq.cells];refine aX 19 3 [.tmp 6] mixed func213 ?_;refine sc aI b ?_;refine sc aI d ?_;refine bG ?_;refine ak.fk [] [] true sT ?_;refine s0 ?_;refine bX.fV e ?_;simp only[go_sem,seval,rV]
def bD(c:aq):Bool:=(within c.who 1 16&&within c.cur 0 2)&&(within c.cw 1 4611686018427387904&&within c.till 0 1099511627776)
theorem rX(w c:Int):Sq 210 [] [.int .i64 w,.int .i64 c] [] (.bool (within w 1 16&&within c 0 2)):=by
 refine aX 19 2 [.tmp 4] mixed func210 ?_;refine s0 ?_;repeat' with_reducible first|apply And.intro|exact .dq|refine ak.aH (by assumption) ?_|refine gr (λh=>?_) λh=>?_|refine .id ?_|refine af.bF aj ?_ ?_|exact aI|simp only[*,go_sem,seval]
 all_goals(simp_all[within];try omega)
def vI(a b:aB):Sq 113 [] [.agg a.cells,.agg b.cells] [] (.bool (decide (a.who<b.who)||(a.who==b.who&&decide (a.cur<b.cur)))):=by
 simp only[aB.cells];refine aX 24 2 [.tmp 4] mixed func113 ?_;refine s0 ?_;repeat' with_reducible first|apply And.intro|exact .dq|refine ak.aH (by assumption) ?_|refine gr (λh=>?_) λh=>?_|refine .id ?_|refine af.bF aj ?_ ?_|exact aI|simp only[*,go_sem,seval]
 all_goals(simp_all)
theorem rW(cs:List aq)(hl:cs.length<2^30):Sq 138 [] [.sl 4 (cs.map aq.cells)] [] (.int .i64 (if l7 bD bg cs then 0 else 14)):=by
 refine aX 64 1 [.tmp 2] mixed func138 ?_;refine s0 ?_;refine aF.count cs.length [0,5,6] [112] (λi=>[(7,.I i)]) (λi=>[]) (λi=>∀j<i,l6 bD bg cs j=true) sT ?_ ?_
 ·exact lA
 intro i hi m;refine s0 ?_;refine aU.cQ (λh=>?_) (λh=>?_)
 ·have a:i<cs.length:=aj
  have hw:IntKind.wrap .i64 ((i:Int)+1)=((i+1:Nat):Int):=eM;have n:=aP (c:=aq.cells) cs a;have e0:=oF (i:=i) m;have e1:l6 bD bg cs i=false->l7 bD bg cs=false:=sk a;have o:=rX cs[i].who cs[i].cur;have k:Sq 82 [] [.sl 1 [[.I cs[i].cw]]] [] (.bool (right [cs[i].cw])):=dL [cs[i].cw] sT;rw[mj]at k;have b:(bR cs[i].cw&&!decide (cs[i].cw<1))=within cs[i].cw 1 4611686018427387904:=by rw[gI];simp[bR,within];omega
  have g:(!decide (cs[i].till<0)&&!decide (1099511627776<cs[i].till))=within cs[i].till 0 1099511627776:=by rw[gI];simp[within]
  simp only[aq.cells]at n;rcases Nat.eq_zero_or_pos i with rfl|hpos
  ·have hk:=iH (ok:=bD) (lt:=bg) a;simp only[bD,<-b,<-g]at hk;refine sm n ?_;repeat' with_reducible first|apply And.intro|exact .dq|refine ak.aH (by assumption) ?_|refine ak.aH (o) ?_|(refine ak.fk [] [] true (by simp) ?_;simp only[go_sem,seval];refine bX.fV k ?_)|refine gr (λh=>?_) λh=>?_|refine .id ?_|refine af.bF aj ?_ ?_|exact aI|simp only[*,go_sem,seval]
   all_goals exact CO
  ·obtain⟨j,rfl⟩:∃j,i=j+1:=⟨i-1,by omega⟩
   have q:j<cs.length:=aj
   have hw1:IntKind.wrap .i64 (((j+1:Nat):Int)-1)=(j:Int):=eM;have hk:=gz (ok:=bD) (lt:=bg) a;simp only[bD,<-b,<-g]at hk;have f:=aP (c:=aq.cells) cs q;have p:=pU cs[j] cs[j+1].who cs[j+1].cur;have d:=Gm cs[j] cs[j+1];rw[d.symm.trans (by rfl:decide (0<=rV cs[j] cs[j+1].who cs[j+1].cur)=decide (0<=rV cs[j] cs[j+1].who cs[j+1].cur))]at d;simp only[aq.cells]at p;have e:bg cs[j] cs[j+1] = !decide (0<=rV cs[j] cs[j+1].who cs[j+1].cur):=by rw[Gm,Bool.not_not]
   rw[e]at hk;clear d e;simp only[aq.cells]at f;refine sm n ?_;repeat' with_reducible first|apply And.intro|exact .dq|refine ak.aH (by assumption) ?_|refine ak.aH (o) ?_|(refine ak.fk [] [] true (by simp) ?_;simp only[go_sem,seval];refine bX.fV k ?_)|refine ak.aH (p) ?_|refine gr (λh=>?_) λh=>?_|refine .id ?_|refine af.bF aj ?_ ?_|exact aI|simp only[*,go_sem,seval,f,mY]
   all_goals exact CO
 have l:=nA (λj (q:j<cs.length)=>m j aj);clear m;exact dJ l
def uo(cs:List aq)(hl:cs.length<2^30):Sq 102 [] [.sl 4 (cs.map aq.cells)] [] (.bool (l7 bD bg cs)):=by
 refine aX 56 1 [.tmp 2] mixed func102 ?_;refine s0 ?_;refine aF.count cs.length [0] [] (λi=>[(3,.I i)]) (λi=>[]) (λi=>∀j<i,l6 bD bg cs j=true) sT ?_ ?_
 ·exact lA
 intro i hi g;refine s0 ?_;refine aU.cQ (λh=>?_) (λh=>?_)
 ·have a:i<cs.length:=aj
  have hw:IntKind.wrap .i64 ((i:Int)+1)=((i+1:Nat):Int):=eM;have k:=aP (c:=aq.cells) cs a;have e0:=oF (i:=i) g;have e1:l6 bD bg cs i=false->l7 bD bg cs=false:=sk a;have l:=gP cs[i].who;have m:=oN cs[i].cur;have n:=ff cs[i].cw 1 4611686018427387904;have o:=ff cs[i].till 0 1099511627776;simp only[aq.cells]at k;rcases Nat.eq_zero_or_pos i with rfl|hpos
  ·have hk:=iH (ok:=bD) (lt:=bg) a;simp only[bD]at hk;refine sm k ?_;repeat' with_reducible first|apply And.intro|exact .dq|refine ak.aH (by assumption) ?_|refine ak.aH (l) ?_|refine ak.aH (m) ?_|refine ak.aH (n) ?_|refine ak.aH (o) ?_|refine gr (λh=>?_) λh=>?_|refine .id ?_|refine af.bF aj ?_ ?_|exact aI|simp only[*,go_sem,seval]
   all_goals exact CO
  ·obtain⟨j,rfl⟩:∃j,i=j+1:=⟨i-1,by omega⟩
   have p:j<cs.length:=aj
   have hw1:IntKind.wrap .i64 (((j+1:Nat):Int)-1)=(j:Int):=eM;have hk:=gz (ok:=bD) (lt:=bg) a;simp only[bD]at hk;have d:=aP (c:=aq.cells) cs p;have e:=vI ⟨cs[j].who,cs[j].cur,cs[j].cw⟩ ⟨cs[j+1].who,cs[j+1].cur,cs[j+1].cw⟩;simp only[aB.cells]at e;simp only[bg]at hk;obtain⟨lt,b⟩:=aV ((decide (cs[j].who<cs[j+1].who)||(cs[j].who==cs[j+1].who&&decide (cs[j].cur<cs[j+1].cur))));rw[<-b]at hk e;clear b;simp only[aq.cells]at d;refine sm k ?_;repeat' with_reducible first|apply And.intro|exact .dq|refine ak.aH (by assumption) ?_|refine ak.aH (l) ?_|refine ak.aH (m) ?_|refine ak.aH (n) ?_|refine ak.aH (o) ?_|refine ak.aH (e) ?_|refine gr (λh=>?_) λh=>?_|refine .id ?_|refine af.bF aj ?_ ?_|exact aI|simp only[*,go_sem,seval,d,mY]
   all_goals exact CO
 have f:=nA (λj (p:j<cs.length)=>g j aj);clear g;exact dJ f
def o7(s:au):Bool:=within s.now 0 1099511627776&&(within s.day 0 1099511627776&&within s.phase 0 2)
theorem zD(a b c:Int):Sq 136 [] [.agg [.int .i64 a,.int .i64 b,.int .i64 c]] [] (.bool (within a 0 1099511627776&&(within b 0 1099511627776&&within c 0 2))):=by
 refine aX 31 1 [.tmp 2] mixed func136 ?_;refine s0 ?_;repeat' with_reducible first|apply And.intro|exact .dq|refine ak.aH (by assumption) ?_|refine gr (λh=>?_) λh=>?_|refine .id ?_|refine af.bF aj ?_ ?_|exact aI|simp only[*,go_sem,seval]
 all_goals(simp_all[within];try omega)
def lQ(b:iW):Bool:=uJ b.who b.inst&&(within b.src 1 16&&(within b.eN 1 1048576&&within b.cH 1 1073741824))
def Dz(b:iW):Sq 140 [] [.agg b.cells] [] (.bool (lQ b)):=by
 simp only[iW.cells];refine aX 55 1 [.tmp 2] mixed func140 ?_;refine s0 ?_;repeat' with_reducible first|apply And.intro|exact .dq|refine ak.aH (by assumption) ?_|refine gr (λh=>?_) λh=>?_|refine .id ?_|refine af.bF aj ?_ ?_|exact aI|simp only[*,go_sem,seval]
 all_goals(simp_all[lQ,uJ,within];try omega)
def fC(x:aS):Bool:=within x.client 1 8&&within x.seq 1 1099511627776
def dX(a b:aS):Bool:=decide (a.client<b.client)
def bf(s:au):Bool:=o7 s&&(s.aA.okB&&(s.book.okB&&(s.cL.okB&&(j5 s.ps&&(l7 bD bg s.calls&&(l9 s&&(!decide (32<(s.bQ.length:Int))&&(s.bQ.all lQ&&l7 fC dX s.aM))))))))
theorem iz(s:au)(hs:s.small):Sq 45 [] [.agg s.cells] [] (.int .i64 (if bf s then 0 else 14)):=by
 have f:s.fit:=⟨hs.aA.small,hs.book,hs.cL,hs.ps⟩
 have c1:=zD s.now s.day s.phase;have c2:=gF s.aA hs.aA.small;have c3:=nP s.book hs.book;have c4:=pg s.cL hs.cL;have C:=Em s.ps (by have:=hs.ps;omega);have D:=rW s.calls hs.calls;have x:=I3 s f hs.calls;have hbl:=hs.bQ;have hsl:=hs.aM;clear f;simp only[aC.cells,bI.cells,bS.cells]at c2 c3 c4;simp only[au.cells]at x |-;refine aX 106 1 [.tmp 2] mixed func45 ?_;refine sc aI c1 ?_;cases a:o7 s
 ·have e:bf s=false:=by simp[bf,a]
  simp only[o7]at a;exact lG (a2 a e)
 have g:=a;simp only[o7]at g;refine sc g c2 ?_;cases p:s.aA.okB
 ·have e:bf s=false:=by simp[bf,p]
  exact lG e
 refine sc aI c3 ?_;cases q:s.book.okB
 ·have e:bf s=false:=by simp[bf,q]
  exact lG e
 refine sc aI c4 ?_;cases r:s.cL.okB
 ·have e:bf s=false:=by simp[bf,r]
  exact lG e
 refine sc aI C ?_;cases t:j5 s.ps
 ·have e:bf s=false:=by simp[bf,t]
  exact lG e
 refine sc aI D ?_;cases v:l7 bD bg s.calls
 ·have e:bf s=false:=by simp[bf,v]
  exact lG e
 refine sc aI x ?_;cases w:l9 s
 ·have e:bf s=false:=by simp[bf,w]
  exact lG e
 cases l:decide (32<(s.bQ.length:Int))
 case true =>
  have e:bf s=false:=by simp[bf,l]
  exact lG (a2 l e)
 have e:bf s=(s.bQ.all lQ&&l7 fC dX s.aM):=by simp only[bf,a,p,q,r,t,v,w,l,cF,Bool.not_false]
 rw[e];clear e c1 c2 c3 c4 C D x a g p q r t v w;refine sm l ?_;refine aF.w1 s.bQ.length 55 [1,53,54] [32,880] (λi _=>∀j (B:j<s.bQ.length),j<i->lQ s.bQ[j]=true) (by intros;omega) ?_ ?_
 ·intro i _ n z F d;have k:=aP (c:=iW.cells) s.bQ n;have E:=Dz s.bQ[i];have e0:=kZ n d;have e1:lQ s.bQ[i]=false->(s.bQ.all lQ&&l7 fC dX s.aM)=false:=λh=>by simp[qB n h]
  simp only[iW.cells]at k E;refine sc (a2 z k) E ?_;cases a:lQ s.bQ[i]
  ·have:=e1 a;exact lG this
  refine sm F ?_;refine af.u n (e0 a) ?_;exact iM
 intro _ m d;have hA:=nx d;rw[hA,cF];clear d hA;refine sm m ?_;clear m l;refine aF.count s.aM.length [1,64,65] [32,1056] (λi=>[(66,.I i)]) (λi=>[]) (λi=>∀j<i,l6 fC dX s.aM j=true) sT ?_ ?_
 ·exact lA
 intro i n d;refine s0 ?_;refine aU.cQ (λh=>?_) (λh=>?_)
 ·have b:i<s.aM.length:=aj
  have F:IntKind.wrap .i64 ((i:Int)+1)=((i+1:Nat):Int):=eM;have k:=aP (c:=aS.cells) s.aM b;have e0:=oF (i:=i) d;have e1:l6 fC dX s.aM i=false->l7 fC dX s.aM=false:=sk b

  simp only[aS.cells]at k;rcases Nat.eq_zero_or_pos i with rfl|hpos
  ·have hk:=iH (ok:=fC) (lt:=dX) b;simp only[fC,dX,within]at hk;refine sm k ?_;repeat' with_reducible first|apply And.intro|exact .dq|refine ak.aH (by assumption) ?_|refine gr (λh=>?_) λh=>?_|refine .id ?_|refine af.bF aj ?_ ?_|exact aI|simp only[*,go_sem,seval]
   all_goals exact CO
  ·obtain⟨j,rfl⟩:∃j,i=j+1:=⟨i-1,by omega⟩
   have B:j<s.aM.length:=aj
   have hw1:IntKind.wrap .i64 (((j+1:Nat):Int)-1)=(j:Int):=eM;have hk:=gz (ok:=fC) (lt:=dX) b;simp only[fC,dX,within]at hk;have o:=aP (c:=aS.cells) s.aM B

   simp only[aS.cells]at o;refine sm k ?_;repeat' with_reducible first|apply And.intro|exact .dq|refine ak.aH (by assumption) ?_|refine gr (λh=>?_) λh=>?_|refine .id ?_|refine af.bF aj ?_ ?_|exact aI|simp only[*,go_sem,seval,o,mY]
   all_goals exact CO
 have y:=nA (λj (B:j<s.aM.length)=>d j aj);clear d;exact dJ y
theorem fj(a b c:Int):Sq 49 [] [.int .i64 a,.int .i64 b,.int .i64 c] [] (.bool (within a b c)):=by
 refine aX 15 3 [.tmp 6] mixed func49 ?_;refine s0 ?_;repeat' with_reducible first|apply And.intro|exact .dq|refine ak.aH (by assumption) ?_|refine gr (λh=>?_) λh=>?_|refine .id ?_|refine af.bF aj ?_ ?_|exact aI|simp only[*,go_sem,seval]
 all_goals(simp only[within];simp<;>omega)
theorem uV(r:aC)(n:Int)(q:r.small):Sq 197 [] [.agg r.cells,.int .i64 n] [] (.bH [.agg (ni r n).cells,.bool (kG r n)]):=by
 obtain⟨l1,l2,l3⟩:=q;simp only[aC.cells];refine aX 28 2 [.cell 4 152,.tmp 5] mixed func197 ?_;refine s0 ?_;refine aF.w1 r.ms.length 6 [1,2,4] [48,80] (λi _=>∀j (b:j<r.ms.length),j<i->r.ms[j].no≠n) (by intros;omega) ?_ ?_
 ·intro i _ m k s d;have o:=aP (c:=ah.cells) r.ms m;have hlt:(i:Int)<(r.ms.length:Int):=aj
  simp only[ah.cells]at o |-;refine sm (a2 k o) ?_;refine bG ?_;cases p:r.ms[i].no==n
  ·have a:r.ms[i].no≠n:=su p;refine sm s ?_;refine af.u m ?_ ?_
   ·intro j b hji;rcases cq j i with h|h
    ·exact d j b h
    ·obtain rfl:j=i:=aj
     exact a
   ·exact iM
  ·have a:r.ms[i].no=n:=su p;obtain⟨f,g⟩:=je (z:=ah.zero) m d a;have e:ni r n=r.ms[i]:=f;have e2:kG r n=true:=by simp[kG,g]
   rw[e,e2];refine sm o ?_;exact U0
 ·intro _ l d;obtain⟨f,g⟩:=gC (z:=ah.zero) (λj b=>d j b b);have e:ni r n=ah.zero:=f;have e2:kG r n=false:=by simp[kG,g]
  rw[e,e2];simp only[go_sem,seval,l,ah.cells,ah.zero]
theorem Ds(s:au)(n:Int)(b:s.aA.small):Sq 103 [] [.agg s.cells,.int .i64 n] [] (.int .i64 (cr s.aA n)):=by
 have h:=uV s.aA n b;simp only[cr];obtain⟨g,a⟩:=aV (ni s.aA n);rw[<-a]at h |-;simp only[aC.cells,ah.cells]at h;simp only[au.cells];refine aX 16 2 [.tmp 4] mixed func103 ?_;exact qt aI h
theorem Ca(s:au)(n:Int)(b:s.aA.small):Sq 104 [] [.agg s.cells,.int .i64 n] [] (.bool (bZ s.aA n)):=by
 have h:=jw s.aA n b;obtain⟨g,a⟩:=aV (bU s.aA n);rw[<-a]at h;simp only[aC.cells,ay.cells]at h;simp only[au.cells];refine aX 15 2 [.tmp 4] mixed func104 ?_;exact qt aI h
def FE(s:au)(hl:s.bQ.length<2^30):Sq 106 [] [.agg s.cells] [] (.bool (!decide (32<(s.bQ.length:Int))&&s.bQ.all lQ)):=by
 simp only[au.cells];refine aX 43 1 [.tmp 2] mixed func106 ?_;refine s0 ?_;refine aF.w1 s.bQ.length 3 [1] [32] (λi _=>∀j (hj:j<s.bQ.length),j<i->lQ s.bQ[j]=true) (by intros;omega) ?_ ?_
 ·intro i _ b f w d;have o:=aP (c:=iW.cells) s.bQ b;have p:=yO s.bQ[i].who s.bQ[i].inst;have q:=gP s.bQ[i].src;have r:=fj s.bQ[i].eN 1 1048576;have t:=fj s.bQ[i].cH 1 1073741824;have hli:(i:Int)<(s.bQ.length:Int):=aj
  have e0:=kZ b d;have a:lQ s.bQ[i]=false->(!decide (32<(s.bQ.length:Int))&&s.bQ.all lQ)=false:=λh=>by simp[qB b h]
  simp only[lQ]at e0 a;simp only[iW.cells]at o;refine sc (a2 f o) p ?_;cases k:uJ s.bQ[i].who s.bQ[i].inst
  ·have:=a (by simp[k]);exact dJ this
  refine sc aI q ?_;cases l:within s.bQ[i].src 1 16
  ·have:=a (by simp[l]);exact dJ this
  refine sc aI r ?_;cases m:within s.bQ[i].eN 1 1048576
  ·have:=a (by simp[m]);exact dJ this
  refine sc aI t ?_;cases n:within s.bQ[i].cH 1 1073741824
  ·have:=a (by simp[n]);exact dJ this
  refine sm w ?_;refine af.u b (e0 (by simp[k,l,m,n])) ?_;exact iM
 ·intro _ g d;have v:=nx d;have e:decide ((s.bQ.length:Int)<=32) = !decide (32<(s.bQ.length:Int)):=by rw[gI];simp
  simp only[go_sem,seval,g,v,Bool.and_true,e]
def Dp(s:au)(hl:s.aM.length<2^30):Sq 107 [] [.agg s.cells] [] (.bool (l7 fC dX s.aM)):=by
 simp only[au.cells];refine aX 43 1 [.tmp 2] mixed func107 ?_;refine s0 ?_;refine aF.count s.aM.length [1] [32] (λi=>[(3,.I i)]) (λi=>[]) (λi=>∀j<i,l6 fC dX s.aM j=true) sT ?_ ?_
 ·exact lA
 intro i hi f;refine s0 ?_;refine aU.cQ (λh=>?_) (λh=>?_)
 ·have a:i<s.aM.length:=aj
  have hw:IntKind.wrap .i64 ((i:Int)+1)=((i+1:Nat):Int):=eM;have g:=aP (c:=aS.cells) s.aM a;have e0:=oF (i:=i) f;have e1:l6 fC dX s.aM i=false->l7 fC dX s.aM=false:=sk a;have k:=fj s.aM[i].client 1 8;have l:=fj s.aM[i].seq 1 1099511627776;simp only[aS.cells]at g;rcases Nat.eq_zero_or_pos i with rfl|hpos
  ·have hk:=iH (ok:=fC) (lt:=dX) a;simp only[fC,dX]at hk;refine sm g ?_;repeat' with_reducible first|apply And.intro|exact .dq|refine ak.aH (by assumption) ?_|refine ak.aH (k) ?_|refine ak.aH (l) ?_|refine gr (λh=>?_) λh=>?_|refine .id ?_|refine af.bF aj ?_ ?_|exact aI|simp only[*,go_sem,seval]
   all_goals exact CO
  ·obtain⟨j,rfl⟩:∃j,i=j+1:=⟨i-1,by omega⟩
   have m:j<s.aM.length:=aj
   have hw1:IntKind.wrap .i64 (((j+1:Nat):Int)-1)=(j:Int):=eM;have hk:=gz (ok:=fC) (lt:=dX) a;simp only[fC,dX]at hk;have d:=aP (c:=aS.cells) s.aM m;have b:decide (s.aM[j].client<s.aM[j+1].client) = !decide (s.aM[j+1].client<=s.aM[j].client):=by rw[gI];simp
   rw[b]at hk;clear b;simp only[aS.cells]at d;refine sm g ?_;repeat' with_reducible first|apply And.intro|exact .dq|refine ak.aH (by assumption) ?_|refine ak.aH (k) ?_|refine ak.aH (l) ?_|refine gr (λh=>?_) λh=>?_|refine .id ?_|refine af.bF aj ?_ ?_|exact aI|simp only[*,go_sem,seval,d,mY]
   all_goals exact CO
 have e:=nA (λj (m:j<s.aM.length)=>f j aj);clear f;exact dJ e
theorem OH{r:aC}(h:r.okB=true)(n:Int):0<=cr r n/\cr r n<=3:=by
 simp only[aC.okB,dO]at h;have a:=Co h.1.1;unfold cr ni;generalize r.ms=ms at a;induction ms with
 |nil=>simp[gL,ah.zero]
 |cons x t ih =>
  simp only[gL];split
  ·have:=a x sT;simp only[ah.ok,within,dO,bP]at this;omega
  ·exact ih λy b=>a y (by simp[b])
def Qx{r:aC}(h:r.okB=true)(n:Int):uk r n=(!(cr r n==0)&&!(cr r n==3)):=by
 have:=OH h n;rw[gI];simp only[uk,Bool.or_eq_true,dO,jY,gm,beq_eq_false_iff_ne];omega
theorem Cf(a b c:Int)(f:fP a)(d:fP (b*c)):Sq 199 [] [.int .i64 a,.int .i64 b,.int .i64 c] [] (.agg (wd (a*(b*c)))):=by
 have e:=qm a (b*c) f d;have w:IntKind.wrap .i64 (b*c)=b*c:=lF d.1 (by have:=d.2;omega);simp only[wd]at e |-;refine aX 12 3 [.cell 6 133] mixed func199 ?_;exact qt w e
def fF(p:aN)(m a:Int):Int:=p.eN*(a*m) + -p.cost*m
theorem Dw(p:aN)(m c:Int)(i:fP p.eN)(s:bR p.cost=true)(t:0<=m/\m<=1024)(u:0<=c/\c<=1073741824):Sq 110 [] [.agg p.cells,.int .i64 m,.int .i64 c] [] (.bH [.int .i64 (if bR (fF p m c)then fF p m c else 0),.bool (bR (fF p m c))]):=by
 have k1:=iL (a:=c) (b:=m) (A:=1073741824) (B:=1024) aj aj;have hcr:=fY.1 s;have y:0<=c*m:=Int.mul_nonneg u.1 t.1;have k2:=iL (a:=p.eN) (b:=c*m) (A:=9223372036854775808) (B:=1099511627776) (by have:=i.1;have:=i.2;omega) aj;have k3:=iL (a:=-p.cost) (b:=m) (A:=4611686018427387904) (B:=1024) aj aj;have e:=Cf p.eN c m i ⟨by omega,by omega⟩;have f:=qm (-p.cost) m ⟨by omega,by omega⟩ ⟨by omega,by omega⟩;have v:rI (p.eN*(c*m))=true:=by simp only[rI,dO,bP];omega
 have x:rI (-p.cost*m)=true:=by simp only[rI,dO,bP];omega
 have d:=oO [p.eN*(c*m),-p.cost*m] sT (by intro n o;simp only[mem_cons,not_mem_nil,or_false]at o;rcases o with rfl|rfl<;>assumption);have g:aK [p.eN*(c*m),-p.cost*m]=fF p m c:=by simp[aK,fF]
 have r:rI (fF p m c)=true:=by
  have q:fF p m c=p.eN*(c*m) + -p.cost*m:=rfl;rw[q];clear q g d f e;simp only[rI,dO,bP];constructor<;>omega
 rw[g,r,aE rfl]at d;have h:=mQ (fF p m c);have w:IntKind.wrap .i64 (0-p.cost) = -p.cost:=eM;simp only[rz,wd,map_cons,map_nil]at e f d h;simp only[aN.cells];obtain⟨A,j⟩:=aV (p.eN*(c*m));obtain⟨B,k⟩:=aV (-p.cost*m);obtain⟨C,l⟩:=aV (fF p m c);rw[<-j]at e d;rw[<-k]at f d;rw[<-l]at d h |-;clear j k l k1 y k2 k3 v x g r;refine aX 31 3 [.tmp 6,.tmp 7] mixed func110 ?_;refine sc w e ?_;refine sc aI f ?_;refine sl aI d ?_;exact qt aI h
def uc(d:aB):Bool:=(within d.who 1 16&&within d.cur 0 2)&&within d.cw 0 4611686018427387904
def xY(d:aB):Sq 131 [] [.agg d.cells] [] (.bool (uc d)):=by
 have c1:=gP d.who;have c2:=oN d.cur;have c3:=ff d.cw 0 4611686018427387904;simp only[aB.cells,uc];refine aX 16 1 [.tmp 2] mixed func131 ?_;refine sc aI c1 ?_;cases q1:within d.who 1 16
 ·simp only[go_sem,seval,eO]
 refine sc aI c2 ?_;cases q2:within d.cur 0 2
 ·simp only[go_sem,seval,eO,Bool.and_false]
 refine s0 ?_;refine bG ?_;refine ak.aH c3 ?_;simp only[go_sem,seval,cF]
def oZ(xs:List aq)(d:aB)(a:Int):Int:=if l7 bD bg xs then(if uc d&&within a 0 1099511627776 then 0 else 3)else 14
def tO(xs:List aq)(d:aB)(a:Int):List aq:=if oZ xs d a=0 then pI xs ⟨d.who,d.cur,d.cw,if cz d.who d.cur xs<0 then a else(nR d.who d.cur xs).till⟩ 16 else[]
theorem HE(xs:List aq)(d:aB)(a:Int)(m:xs.length<2^30):Sq 43 [] [.sl 4 (xs.map aq.cells),.agg d.cells,.int .i64 a] [] (.bH [.sl 4 ((tO xs d a).map aq.cells),.int .i64 (oZ xs d a)]):=by
 have c1:=uo xs m;have c2:=xY d;have c3:=ff a 0 1099511627776;have c4:=sM d.who d.cur xs aj;have b:=λx=>HK xs x m;simp only[aB.cells,aq.cells]at c2 b |-;refine aX 38 3 [.tmp 6,.tmp 7] mixed func43 ?_;refine sc aI c1 ?_;cases g:l7 bD bg xs
 ·have e:oZ xs d a=14:=by simp[oZ,g]
  simp only[go_sem,seval,tO,e]<;>simp
 refine sc aI c2 ?_;cases i:uc d
 ·have e:oZ xs d a=3:=by simp[oZ,g,i]
  simp only[go_sem,seval,tO,e]<;>simp
 refine sc aI c3 ?_;cases j:within a 0 1099511627776
 ·have e:oZ xs d a=3:=by simp[oZ,g,i,j]
  simp only[go_sem,seval,tO,e]<;>simp
 have e:oZ xs d a=0:=by simp[oZ,g,i,j]
 simp only[tO,e];refine sc aI c4 ?_;by_cases h:cz d.who d.cur xs<0
 ·have o:decide (0<=cz d.who d.cur xs)=false:=kR;have b:=b ⟨d.who,d.cur,d.cw,a⟩;rw[aE h];exact qt o b
 ·obtain⟨k,l,f,_⟩:=qD h;have n:=aP (c:=aq.cells) xs l;have hlk:(k:Int)<(xs.length:Int):=aj
  have p:nR d.who d.cur xs=xs[k]:=by rw[nR,f];simp[l]
  have b:=b ⟨d.who,d.cur,d.cw,xs[k].till⟩;simp only[aq.cells]at n;rw[az h,p];exact qt (a2 f n) b
def dR(n:Int)(xs:List aq):List aq:=xs.flatMap λx=>if x.till<=n then[x]else[]
def fM(n:Int)(xs:List aq):List aq:=xs.flatMap λx=>if x.till<=n then[]else[x]
theorem HF(n:Int)(xs:List aq)(hl:xs.length<2^30):Sq 50 [] [.int .i64 n,.sl 4 (xs.map aq.cells)] [.own 4 ((dR n xs).map aq.cells),.own 4 ((fM n xs).map aq.cells)] (.bH [.ref 0,.ref 1]):=by
 refine aX 38 2 [.tmp 4,.tmp 5] mixed func50 ?_;refine s0 ?_;refine aF.wv xs.length [0,1] [] (λi=>[(8,.I i),(6,.ref 464),(7,.ref 576)]) (λi=>[(464,.own 4 ((dR n (xs.take i)).map aq.cells)),(576,.own 4 ((fM n (xs.take i)).map aq.cells))]) ?_ ?_ ?_
 ·simp only[go_sem,seval]<;>simp[dR,fM]
 ·intro i _ f e g _;have h:=aP (c:=aq.cells) xs f;have hli:(i:Int)<(xs.length:Int):=aj
  have hlt:(xs.take i).length=i:=by simp;omega
  have a:dR n (xs.take (i+1))=dR n (xs.take i)++_:=jr _ f;have b:fM n (xs.take (i+1))=fM n (xs.take i)++_:=jr _ f;have j:(dR n (xs.take i)).length<=1*(xs.take i).length:=gB (λx=>by split<;>simp) _;have k:(fM n (xs.take i)).length<=1*(xs.take i).length:=gB (λx=>by split<;>simp) _;obtain⟨L,m⟩:=aV (dR n (xs.take i));obtain⟨M,o⟩:=aV (fM n (xs.take i));obtain⟨x,p⟩:=aV (xs[i]);rw[<-m]at a j;rw[<-o]at b k;rw[<-p]at a b h;rw[<-m,<-o];simp only[aq.cells]at h;by_cases q:x.till<=n
  ·have d:decide (x.till<=n)=true:=gJ q;rw[aE q]at a b;refine sm (a4 e h d g) ?_;refine bG ?_;refine af.v f ?_;exact lG (a2 a b)
  ·have d:decide (x.till<=n)=false:=kY q;rw[az q]at a b;refine sm (a4 e h d g) ?_;refine bG ?_;refine af.v f ?_;exact lG (a2 a b)
 ·intro _ l _;simp only[go_sem,seval,l,ef]
theorem FF(n:Int)(xs:List aq)(a:xs.length<2^30):Sq 50 [] [.int .i64 n,.sl 4 (xs.map aq.cells)] [] (.bH [.sl 4 ((dR n xs).map aq.cells),.sl 4 ((fM n xs).map aq.cells)]):=by
 refine Spec.frozen (HF n xs a) [0,1] rfl ?_;intro r;rcases r with _| _|r<;>rfl
def bJ(xs:List aq)(a:List Int):List aq:=xs.flatMap λx=>if n6 a x.who then[]else[x]
def Cg(xs:List aq)(a:List Int)(hl:xs.length<2^30)(hs:a.length<2^30):Sq 52 [] [.sl 4 (xs.map aq.cells),.sl 1 (ints a)] [.own 4 ((bJ xs a).map aq.cells)] (.ref 0):=by
 refine aX 45 2 [.tmp 4] mixed func52 ?_;refine s0 ?_;refine aF.wv xs.length [0,1] [] (λi=>[(6,.I i),(5,.ref 704)]) (λi=>[(704,.own 4 ((bJ (xs.take i) a).map aq.cells))]) ?_ ?_ ?_
 ·simp only[go_sem,seval]<;>simp[bJ]
 ·intro i _ m o h _;have f:=aP (c:=aq.cells) xs m;have hli:(i:Int)<(xs.length:Int):=aj
  have hlt:(xs.take i).length=i:=by simp;omega
  have e:bJ (xs.take (i+1)) a=bJ (xs.take i) a++_:=jr _ m;have n:(bJ (xs.take i) a).length<=1*(xs.take i).length:=gB (λx=>by split<;>simp) _;obtain⟨L,r⟩:=aV (bJ (xs.take i) a);obtain⟨x,s⟩:=aV (xs[i]);rw[<-r]at e n |-;rw[<-s]at e f;simp only[aq.cells]at f;simp only[go_sem,seval,o,aL];refine aF.wv a.length [0,1,5,6] [704] (λk=>[(8,.I k),(7,.bool (n6 (a.take k) x.who))]) (λ_=>[]) ?_ ?_ ?_
  ·simp only[go_sem,seval]<;>simp[n6]
  ·intro k _ g b j _;have d:=vP a x.who g;have hlk:(k:Int)<(a.length:Int):=aj
   cases q:n6 (a.take k) x.who
   ·rw[q,Bool.false_or]at d;simp only[go_sem,seval,aL,b,ints_at a g,f,j];refine bG ?_;refine af.v g ?_;exact dJ d
   ·rw[q,Bool.true_or]at d;simp only[go_sem,seval,aL,b,ints_at a g,f,j];refine bG ?_;refine af.v g ?_;exact dJ d
  ·intro _ b _;cases l:n6 a x.who
   ·simp only[l,jm,if_false]at e;simp only[go_sem,seval,aL,b,ef,l,f,h];refine bG ?_;refine af.v m ?_;exact lG e
   ·simp only[l,if_true,append_nil]at e;simp only[go_sem,seval,aL,b,ef,l,f,h];refine bG ?_;refine af.v m ?_;exact lG e
 ·intro _ p _;simp only[go_sem,seval,aL,p,ef]
def gX(l:List aB):Bool:=l.all λd=>bR d.cw
def uq(l:List aB)(hl:l.length<2^40):Sq 112 [] [.sl 3 (l.map aB.cells)] [] (.bool (gX l)):=by
 refine aX 17 1 [.tmp 2] mixed func112 ?_;refine s0 ?_;refine aF.w1 l.length 3 [0] [] (λi _=>gX (l.drop i)=gX l) rfl ?_ ?_
 ·intro i _ e b f a;obtain⟨x,m,h,hli⟩:=uy (c:=aB.cells) l e;have j:=jS x.cw;rw[fX e,<-m]at a;have k:gX (x::l.drop (i+1))=(bR x.cw&&gX (l.drop (i+1))):=rfl;rw[k]at a;simp only[aB.cells]at h;refine sc (a2 b h) j ?_;cases g:bR x.cw
  ·rw[g,eO]at a;simp only[go_sem,seval,<-a]
  rw[g,cF]at a;refine sm f ?_;refine af.u e a ?_;exact iM
 ·intro _ d a;rw[mT]at a;rw[<-a];refine sm d ?_;rfl
def vH(w c:Int)(d:aB):Bool:=d.who==w&&d.cur==c
def nY(w c:Int)(l:List aB):List Int:=pick (vH w c) aB.cw l
def eJ(w c:Int)(l:List aB):Int:=if gX l then(if bR (aK (nY w c l))then 0 else 1)else 3
def jJ(w c:Int)(l:List aB):Int:=if eJ w c l=0 then aK (nY w c l)else 0
theorem Dm(w c:Int)(l:List aB)(hl:l.length<2^29):Sq 114 [] [.int .i64 w,.int .i64 c,.sl 3 (l.map aB.cells)] [] (.bH [.int .i64 (jJ w c l),.int .i64 (eJ w c l)]):=by
 have r:=uq l aj;refine aX 53 3 [.tmp 6,.tmp 7] mixed func114 ?_;refine sc aI r ?_;cases n:gX l
 ·have e:eJ w c l=3:=by simp[eJ,n]
  simp only[go_sem,seval,jJ,e]<;>simp
 have e:eJ w c l=if bR (aK (nY w c l))then 0 else 1:=by simp[eJ,n]
 have p:∀x∈l,bR x.cw=true:=λx j=>cR.1 n x j;have s:=gO (nY w c l) (qj λx j=>Bc (p x j)) (by have:=fu (vH w c) aB.cw l;unfold nY;omega);simp only[jJ];rw[e];clear e r;refine s0 ?_;refine aF.wv l.length [0,1,2] [] (λi=>[(9,.I i),(8,.ref 720)]) (λi=>[(720,.own 1 (ints (nY w c (l.take i))))]) ?_ ?_ ?_
 ·simp only[go_sem,seval]<;>simp[nY,pick,ints]
 ·intro i _ g b d _;obtain⟨x,j,k,hli⟩:=uy (c:=aB.cells) l g;have a:ints (nY w c (l.take (i+1)))=ints (nY w c (l.take i))++_:=kf (vH w c) aB.cw g;have h:(nY w c (l.take i)).length<=(l.take i).length:=fu (vH w c) aB.cw (l.take i);have hlt:(l.take i).length=i:=by simp;omega
  obtain⟨L,t⟩:=aV (nY w c (l.take i));rw[<-t]at a h |-;rw[<-j]at a;simp only[aB.cells]at k;simp only[vH]at a;cases f:x.who==w
  ·simp only[f,eO,jm,if_false,append_nil]at a;refine sm (a4 b k f d) ?_;refine bG ?_;refine af.v g ?_;exact dJ a
  cases m:x.cur==c
  ·simp only[f,m,Bool.and_false,jm,if_false,append_nil]at a;refine sm (a5 b k f m d) ?_;refine bG ?_;refine af.v g ?_;exact dJ a
  simp only[f,m,Bool.and_self,if_true]at a;simp only[go_sem,seval,b,k,f,m,d,aL];refine bG ?_;refine af.v g ?_;exact dJ a
 ·intro _ o _;simp only[go_sem,seval,o,ef];refine sl aI s ?_;cases q:bR (aK (nY w c l))
  ·simp only[go_sem,seval,q,addN]<;>simp
  ·simp only[go_sem,seval,q,addN]<;>simp
structure bI.E6(b:bI):Prop where
 small:b.small
 short:b.qs.length<2^20
 gE:∀p∈b.qs,p.gE
 ok:∀p∈b.qs,(-1099511627776<=p.eN/\p.eN<=1099511627776)/\bR p.cost=true
def Ly(l:List aJ):(mI l).length<=306:=by
 unfold mI;split
 ·exact Nat.le_trans (D6 _ _) Ar
 ·simp
def UZ{p:kq}(h:p.ok):p.gE:=by
 obtain⟨a,h2,h3⟩:=h;have:=q9.1 a;exact⟨⟨by omega,by omega⟩,⟨by omega,by omega⟩,⟨by omega,by omega⟩⟩
