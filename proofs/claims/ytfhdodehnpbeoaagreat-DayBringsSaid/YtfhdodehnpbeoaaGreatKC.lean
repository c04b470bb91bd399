/- Parts. -/
import Derived.Test.YtfhdodehnpbeoaaGreatKA
set_option linter.all false
set_option maxHeartbeats 4000000
set_option maxRecDepth 16000
namespace Go.Proofs.YtfhdodehnpbeoaaGreat
open Go.Abs Tryz
def adq(A B c:Int)(hc:0<=c/\c<=1)(hB:-9223372036854775808<=B/\B<=9223372036854775807) :
  A/18446744073709551616+(A%18446744073709551616+B%18446744073709551616+c)/18446744073709551616+(if B<0 then -1 else 0)=(A+B+c)/18446744073709551616:=by
 split<;>omega
def qI(l:List Int)(hl:l.length<2^58)(hr:∀n∈l,xK n=true):Sq 53 [] [.sl 2 (sC l)] [] (.bD [.agg (wd (if xK (aC l)then aC l else 0)),.bool (xK (aC l))]):=by
 refine aX 75 1 [.cell 2 135,.tmp 3] mixed func53 ?_;refine s0 ?_;refine aG.count l.length [0,2] [48] (λi=>[(7,.I i),(6,.int .u64 (aC (l.take i)%18446744073709551616)),(5,.int .u64 ((aC (l.take i)/18446744073709551616)%18446744073709551616)),(4,.I (aC (l.take i)/18446744073709551616/18446744073709551616))]) (λi=>[]) (λi=>True) trivial ?_ ?_
 ·simp only[go_sem,seval]<;>simp[aC]
 ·intro i q _;refine s0 ?_;refine bK.fP (λh=>?_) (λh=>?_)
  ·have a:i<l.length:=aj
   have Q:IntKind.wrap .i64 ((i:Int)+1)=((i+1:Nat):Int):=fU;have R:=hr l[i] (dH a);have x:∀n∈l.take i,xK n=true:=λn g=>hr n (List.mem_of_mem_take g);have H:=Cu x;have hlt:(l.take i).length<=l.length:=by simp;omega
   obtain⟨S,G⟩:=aL (aC (l.take i));obtain⟨n,g⟩:=aL (l[i]);have f:aC (l.take (i+1))=S+n:=by rw[j7 a,rO,G,g]
   rw[<-g]at R;rw[<-G]at H;simp only[xK,cU,bO]at R;obtain⟨B,t⟩:=aL (n/18446744073709551616);have F:-9223372036854775808<=B/\B<=9223372036854775807:=aj
   have W:IntKind.wrap .u64 B=B%18446744073709551616:=IntKind.wrap_u64 B;obtain⟨c,O⟩:=aL ((S%18446744073709551616+n%18446744073709551616+0)/18446744073709551616);have K:0<=c/\c<=1:=aj
   have z:=adq (S/18446744073709551616) B c K F;have M:=QI S n;have N:=div_add S n;rw[<-t,<-O]at M N;rw[N]at z;obtain⟨d,P⟩:=aL ((S/18446744073709551616%18446744073709551616+B%18446744073709551616+c)/18446744073709551616);have hdr:0<=d/\d<=1:=aj
   obtain⟨e,b⟩:=aL (S/18446744073709551616/18446744073709551616);have htr:-4611686018427387904<=e/\e<=4611686018427387904:=aj
   have w1:IntKind.wrap .i64 d=d:=gx aj aj;have U:IntKind.wrap .i64 (e+d)=e+d:=gx aj aj;have X:IntKind.wrap .i64 (e+d-1)=e+d-1:=gx aj aj;rw[<-b,<-P]at z;simp only[go_sem,seval,B4 l a,<-g,<-G,<-t];refine⟨by omega,?_⟩;refine az.sem rfl ?_;with_reducible refine fG.zY (k:=149) (fn:=Tryz.f149) (i:=S%18446744073709551616) (j:=n%18446744073709551616) (m:=0) ?_ func149 ?_ ?_ m9 m0 ?_ ?_ ?_ ?_ ?_ ?_ ?_ ?_ ?_
   iterate 11 (first|rfl|omega)
   simp only[go_sem,seval,W,<-O,B4 l a,<-g,<-t];refine⟨by omega,?_⟩;refine az.sem rfl ?_;with_reducible refine fG.zY (k:=149) (fn:=Tryz.f149) (i:=S/18446744073709551616%18446744073709551616) (j:=B%18446744073709551616) (m:=c) ?_ func149 ?_ ?_ m9 m0 ?_ ?_ ?_ ?_ ?_ ?_ ?_ ?_ ?_
   iterate 11 (first|rfl|omega)
   rw[<-P,M,PV];rcases Int.lt_or_le B 0 with hB0|hB0
   ·have D:decide (B<0)=true:=dw hB0;rw[au hB0]at z;have E:e+d-1=(S+n)/18446744073709551616/18446744073709551616:=aj
    simp only[go_sem,seval,<-b,w1,U,B4 l a,<-g,<-t,D,X,Q];refine⟨by omega,ah.eI a trivial ?_⟩;simp only[go_sem,seval,f,E]
   ·have D:decide (B<0)=false:=lJ;rw[aq aj]at z;have E:e+d=(S+n)/18446744073709551616/18446744073709551616:=aj
    simp only[go_sem,seval,<-b,w1,U,B4 l a,<-g,<-t,D,Q];refine⟨by omega,ah.eI a trivial ?_⟩;simp only[go_sem,seval,f,E]
  ·obtain rfl:i=l.length:=aj
   obtain⟨T,u⟩:=aL (aC l);have J:=Cu hr;rw[<-u]at J |-;obtain⟨A,C⟩:=aL (T/18446744073709551616);obtain⟨m,v⟩:=aL (IntKind.wrap .i64 (A%18446744073709551616));have r:m=if A%18446744073709551616<9223372036854775808 then A%18446744073709551616 else A%18446744073709551616-18446744073709551616:=by
    rw[v,IntKind.wrap_i64];split<;>omega
   obtain⟨e,b⟩:=aL (A/18446744073709551616);by_cases q:xK T=true
   ·have hi2:=q;simp only[xK,cU,bO]at hi2;have w:m=A:=by rw[r];split<;>omega
    rw[au q,q];rcases Int.lt_or_le A 0 with hs|hs
    ·have o:(e==0)=false:=by rw[beq_eq_false_iff_ne];omega
     have s:(e == -1)=true:=by rw[fE];omega
     have p:decide (A<0)=true:=dw hs;simp only[go_sem,seval,eU,<-u,<-C,<-v,<-b,w,o,s,p,wd]
    ·have o:(e==0)=true:=by rw[fE];omega
     have p:decide (0<=A)=true:=dw hs;simp only[go_sem,seval,eU,<-u,<-C,<-v,<-b,w,o,p,wd]
   ·have hi2:¬(-170141183460469231731687303715884105728<=T/\T<170141183460469231731687303715884105728):=by
     simpa only[xK,cU,bO]using q
    have L:xK T=false:=su q;rw[aq q,L];have y:wd 0=[.I 0,.int .u64 0]:=rfl;rcases Int.lt_or_le m 0 with hs|hs
    ·have s:(e == -1)=false:=by rw[beq_eq_false_iff_ne];rw[r]at hs;split at hs<;>omega
     have p:decide (m<0)=true:=dw hs;have V:decide (0<=m)=false:=lJ;cases o:(e==0)<;>simp only[go_sem,seval,eU,<-u,<-C,<-v,<-b,o,s,p,V,y]
    ·have o:(e==0)=false:=by rw[beq_eq_false_iff_ne];rw[r]at hs;split at hs<;>omega
     have p:decide (m<0)=false:=lJ;cases s:(e == -1)<;>simp only[go_sem,seval,eU,<-u,<-C,<-v,<-b,o,s,p,y]
def age(X Y:Int):(X/18446744073709551616<Y/18446744073709551616\/(X/18446744073709551616=Y/18446744073709551616/\X%18446744073709551616<Y%18446744073709551616))↔X<Y:=aj
def BL(X Y:Int):Sq 378 [] [.agg (wd X),.agg (wd Y)] [] (.bool (decide (X<Y))):=by
 have h:=age X Y;simp only[wd];refine aX 24 2 [.tmp 4] mixed func378 ?_;obtain⟨a,e⟩:=aL (X/18446744073709551616);obtain⟨b,f⟩:=aL (Y/18446744073709551616);obtain⟨c,g⟩:=aL (X%18446744073709551616);obtain⟨d,i⟩:=aL (Y%18446744073709551616);rw[<-e,<-f,<-g,<-i]at h;rw[<-e,<-f,<-g,<-i];clear e f g i;have k:decide (X<Y)=(decide (a<b)||(a==b&&decide (c<d))):=by
  rw[lZ];simp only[bO,Bool.or_eq_true,cU,fE];exact h.symm
 rw[k];clear k h;cases j:decide (a<b)
 ·cases l:a==b
  ·simp only[go_sem,seval,j,l,Bool.false_or,dU];all_goals(with_reducible and_intros)<;>first|exact .dq|omega|skip
  ·simp only[go_sem,seval,j,l,Bool.false_or,cz];all_goals(with_reducible and_intros)<;>first|exact .dq|omega|skip
 ·simp only[go_sem,seval,j,Bool.true_or];all_goals(with_reducible and_intros)<;>first|exact .dq|omega|skip
def aee(X Y:Int)(h:-42535295865117307932921825928971026432<=X/\X<=42535295865117307932921825928971026432)(h':-42535295865117307932921825928971026432<=Y/\Y<=42535295865117307932921825928971026432) :
  IntKind.wrap .i64 ((X/18446744073709551616%18446744073709551616+Y/18446744073709551616%18446744073709551616+(X%18446744073709551616+Y%18446744073709551616+0)/18446744073709551616)%18446744073709551616)=(X+Y)/18446744073709551616:=by
 have a:=QI X Y;rw[a];obtain⟨z,b⟩:=aL ((X+Y)/18446744073709551616);have hzr:-9223372036854775808<=z/\z<9223372036854775808:=aj
 rw[<-b,IntKind.wrap_i64];omega
def ac5(X Y:Int):((decide (X/18446744073709551616<0) != decide (Y/18446744073709551616<0))||(decide ((X+Y)/18446744073709551616<0)==decide (X/18446744073709551616<0)))=true:=by
 by_cases a:X/18446744073709551616<0<;>by_cases b:Y/18446744073709551616<0
 ·have c:(X+Y)/18446744073709551616<0:=aj
  simp[a,b,c]
 ·simp[a,b]
 ·simp[a,b]
 ·have c:¬(X+Y)/18446744073709551616<0:=aj
  simp[a,b,c]
def M7(X Y:Int)(h:-42535295865117307932921825928971026432<=X/\X<=42535295865117307932921825928971026432)(l:-42535295865117307932921825928971026432<=Y/\Y<=42535295865117307932921825928971026432):Sq 382 [] [.agg (wd X),.agg (wd Y)] [] (.bD [.agg (wd (X+Y)),.bool true]):=by
 have c:IntKind.wrap .u64 (X/18446744073709551616)=(X/18446744073709551616)%18446744073709551616:=IntKind.wrap_u64 _;have d:IntKind.wrap .u64 (Y/18446744073709551616)=(Y/18446744073709551616)%18446744073709551616:=IntKind.wrap_u64 _;have g:=PV X Y;have e2:=aee X Y h l;have e:=ac5 X Y;obtain⟨p,a⟩:=aL (decide (X/18446744073709551616<0));obtain⟨q,f⟩:=aL (decide (Y/18446744073709551616<0));obtain⟨s,b⟩:=aL (decide ((X+Y)/18446744073709551616<0));rw[<-a,<-f,<-b]at e;simp only[wd];refine aX 50 2 [.cell 4 135,.tmp 5] mixed func382 ?_;simp only[go_sem,seval];refine az.sem rfl ?_;with_reducible refine fG.zY (k:=149) (fn:=Tryz.f149) (i:=X%18446744073709551616) (j:=Y%18446744073709551616) (m:=0) ?_ func149 ?_ ?_ m9 m0 ?_ ?_ ?_ ?_ ?_ ?_ ?_ ?_ ?_
 iterate 11 (first|rfl|omega)
 simp only[go_sem,seval,c,d];refine az.sem rfl ?_;with_reducible refine fG.zY (k:=149) (fn:=Tryz.f149) (i:=X/18446744073709551616%18446744073709551616) (j:=Y/18446744073709551616%18446744073709551616) (m:=(X%18446744073709551616+Y%18446744073709551616+0)/18446744073709551616) ?_ func149 ?_ ?_ m9 m0 ?_ ?_ ?_ ?_ ?_ ?_ ?_ ?_ ?_
 iterate 11 (first|rfl|omega)
 simp only[go_sem,seval,g,e2,<-a,<-f,<-b];cases p<;>cases q<;>cases s<;>(try(exact absurd e (by decide)))
 all_goals simp only[go_sem,seval,bne,beq_self_eq_true,Bool.not_true]
 all_goals(with_reducible and_intros)<;>first|exact .dq|omega|skip
 all_goals(rw[<-b,<-a];rfl)
def ap4(h:Int)(h0:0<=h)(h1:h<4611686018427387904):Dz .i64 h 1=2*h:=by
 unfold Dz;have a:min (Int.toNat 1) (IntKind.bits .i64)=1:=by simp[IntKind.bits]
 rw[a,IntKind.wrap_i64];omega
def aum(h c:Int)(h0:0<=h)(h1:h<4611686018427387904)(hc:0<=c/\c<=1):ior .i64 (2*h) c=2*h+c:=by
 obtain⟨n,rfl⟩:∃n:Nat,h=n:=⟨h.toNat,by omega⟩
 obtain⟨m,rfl⟩:∃m:Nat,c=m:=⟨c.toNat,by omega⟩
 unfold ior;rw[BitVec.toNat_or,BitVec.toNat_ofInt,BitVec.toNat_ofInt];simp only[IntKind.bits];have a:((2*(n:Int))%((2^64:Nat):Int)).toNat=2^1*n:=aj
 have e2:((m:Int)%((2^64:Nat):Int)).toNat=m:=aj
 rw[a,e2,<-Nat.two_pow_add_eq_or_of_lt (by omega:m<2^1),IntKind.wrap_i64];omega
def ap5(l:Int)(h0:0<=l):Dz .u64 l 1=l*2%18446744073709551616:=by
 unfold Dz;have a:min (Int.toNat 1) (IntKind.bits .u64)=1:=by simp[IntKind.bits]
 rw[a,IntKind.wrap_u64];rfl
def aku(l:Int)(a:0<=l):Bl .u64 l 63=l/9223372036854775808:=by
 have:=aaa l.toNat 63 aj;rw[Int.toNat_of_nonneg a]at this;have e:((63:Nat):Int)=63:=rfl;rw[e]at this;rw[this];have e2:(2:Nat)^63=9223372036854775808:=by decide
 rw[e2];omega
def aek(s:Int):Bool:=decide (4611686018427387904<=s/18446744073709551616)
def Ry:Nat->Int->Int
 | 0,s=>s
 |k+1,s=>if aek s then s else Ry k (2*s)
def LS:Nat->Int->Bool
 | 0,_=>true
 |k+1,s=>if aek s then false else LS k (2*s)
theorem Pm:∀{k:Nat} {s:Int},LS k s=true->Ry k s=s*2^k
 | 0,s,_=>by simp[Ry]
 |k+1,s,h=>by
  simp only[LS]at h;split at h
  ·cases h
  ·rename_i a;simp only[Ry,aq a];rw[Pm h,Int.mul_comm 2 s,Int.mul_assoc,Int.pow_succ,Int.mul_comm 2]
theorem LU:∀{k:Nat} {s:Int},0<=s->LS k s=false->85070591730234615865843651857942052864<=s*2^k
 | 0,s,_,h=>by cases h
 |k+1,s,h0,h=>by
  simp only[LS]at h;split at h
  ·rename_i b;simp only[aek,bO]at b;have h3:1<=(2:Nat)^(k+1):=Nat.one_le_two_pow;have a:(1:Int)<=2^(k+1):=by
    have e:((2^(k+1):Nat):Int)=(2:Int)^(k+1):=by push_cast;rfl
    rw[<-e];omega
   have h2:s*1<=s*2^(k+1):=Int.mul_le_mul_of_nonneg_left a h0;omega
  ·have:=LU (k:=k) (s:=2*s) aj h;rw[Int.pow_succ,<-Int.mul_assoc,Int.mul_comm (s*2^k) 2,<-Int.mul_assoc];exact this
def ac3(s:Int)(h0:0<=s)(h1:s/18446744073709551616<4611686018427387904):2*(s/18446744073709551616)+s%18446744073709551616/9223372036854775808=2*s/18446744073709551616:=aj
def ac4(s:Int):s%18446744073709551616*2%18446744073709551616=2*s%18446744073709551616:=aj
def Nl(X:Int)(k:Nat)(p:0<=X)(hk:k<100)(q:X<170141183460469231731687303715884105728):Sq 381 [] [.agg (wd X),.int .i64 k] [] (.bD [.agg (wd (Ry k X)),.bool (LS k X)]):=by
 simp only[wd];refine aX 29 2 [.cell 4 135,.tmp 5] mixed func381 ?_;simp only[go_sem,seval];refine aG.rT (S:=Int) k [1,2,4] [80] (λi _=>[(6,.int .i64 i)]) (λ_ s=>[(48,.box [.int .i64 (s/18446744073709551616),.int .u64 (s%18446744073709551616)])]) (λi s=>(Ry (k-i) s=Ry k X/\LS (k-i) s=LS k X)/\0<=s/\s<170141183460469231731687303715884105728) X ⟨⟨rfl,rfl⟩,p,q⟩ ?_ ?_ ?_
 ·exact jh
 ·rintro i s r b h ⟨⟨h1,h2⟩,h3,h4⟩;obtain⟨m,t⟩:∃m,k-i=m+1:=⟨k-i-1,by omega⟩
  have c:k-(i+1)=m:=aj
  rw[t]at h1 h2;simp only[Ry,LS]at h1 h2;cases e:aek s
  case true =>
   have d:decide (4611686018427387904<=s/18446744073709551616)=true:=e;rw[e,au rfl]at h1 h2;rw[<-h1,<-h2];simp only[go_sem,seval,b,d]
  have d:decide (4611686018427387904<=s/18446744073709551616)=false:=e;have a:s/18446744073709551616<4611686018427387904:=su d;rw[e,aq sT]at h1 h2;have n:=ap4 (s/18446744073709551616) aj a;have e2:=aku (s%18446744073709551616) aj;have f:0<=s%18446744073709551616/9223372036854775808/\s%18446744073709551616/9223372036854775808<=1:=aj
  have o:IntKind.wrap .i64 (s%18446744073709551616/9223372036854775808)=s%18446744073709551616/9223372036854775808:=gx aj aj;have j:=aum (s/18446744073709551616) (s%18446744073709551616/9223372036854775808) aj a f;have l:=ap5 (s%18446744073709551616) aj;rw[ac4]at l;rw[ac3 s h3 a]at j;simp only[go_sem,seval,b,d,n,e2,o,j,l,h];refine aV ?_;refine ah.jP (2*s) r ⟨⟨by rw[c];exact h1,by rw[c];exact h2⟩,by omega,by omega⟩ ?_;simp only[go_sem,seval]
 ·rintro s g ⟨⟨h1,h2⟩,h3,h4⟩;rw[Nat.sub_self]at h1 h2;simp only[Ry,LS]at h1 h2;rw[<-h1,<-h2];simp only[go_sem,seval,g]
def ahu:∀{k:Nat},k<=62->(2:Int)^k<=4611686018427387904/\1<=(2:Int)^k:=by
 intro k a;have h1:(2:Nat)^k<=2^62:=Nat.pow_le_pow_right (by decide) a;have h2:(2:Nat)^62=4611686018427387904:=by decide
 have h3:1<=(2:Nat)^k:=Nat.one_le_two_pow;have e:((2^k:Nat):Int)=(2:Int)^k:=by push_cast;rfl
 rw[<-e];omega
def afQ{k:Nat}(b:k<=62):Dz .i64 1 (k:Int)=(2:Int)^k:=by
 have h:=ahu b;unfold Dz;have a:min (Int.toNat (k:Int)) (IntKind.bits .i64)=k:=by simp[IntKind.bits];omega
 rw[a,Int.one_mul];exact gx aj aj
def Ln(X Y:Int)(H:0<=X)(hX:X<42535295865117307932921825928971026432)(hY:1<=Y)(hY2:Y<42535295865117307932921825928971026432)(I:X<Y*9223372036854775808):Sq 377 [] [.agg (wd X),.agg (wd Y)] [] (.bD [.int .i64 (X/Y),.agg (wd (X%Y))]):=by
 have g:=λk B=>Nl Y k aj B aj;have n:=λa b=>BL a b;simp only[wd]at g n;simp only[wd];refine aX 42 2 [.tmp 4,.cell 5 135] mixed func377 ?_;simp only[go_sem,seval];refine aG.rT (S:=Int×Int) 63 [3,5,7] [64,96] (λi s=>[(8,.int .i64 ((62:Int)-i)),(6,.int .i64 s.1)]) (λ_ s=>[(128,.box [.int .i64 (s.2/18446744073709551616),.int .u64 (s.2%18446744073709551616)])])
  (λi s=>(0<=s.2/\s.2<Y*2^(63-i))/\s.1*Y+s.2=X/\0<=s.1) (0,X) ⟨⟨H,I⟩,by simp,by simp⟩ ?_ ?_ ?_
 ·exact jh
 ·rintro i ⟨q,r⟩ hi _ _ ⟨⟨h1,c⟩,h3,h4⟩;dsimp only at h1 c h3 h4;obtain⟨k,B⟩:∃k,62-i=k:=⟨_,rfl⟩
  have u:(62:Int)-(i:Int)=(k:Int):=aj
  have t:63-i=k+1:=aj
  have l:63-(i+1)=k:=aj
  have A:decide (0<=(k:Int))=true:=jw;have x:IntKind.wrap .i64 ((k:Int)-1)=(62:Int)-((i+1:Nat):Int):=fU;have g:=g k aj;have f:=afQ (k:=k) aj;have w:=ahu (k:=k) aj;obtain⟨Q,j⟩:=aL ((2:Int)^k);rw[t,Int.pow_succ,<-j]at c;rw[<-j]at f w;obtain⟨Z,e⟩:=aL (Y*Q);have c:r<2*Z:=by rw[e];rw[<-Int.mul_assoc]at c;omega
  have hrX:r<=X:=by
   have:=Int.mul_nonneg h4 (show 0<=Y by omega);omega
  rw[u];cases o:LS k Y
  ·have m:=LU aj o;rw[<-j,<-e]at m;rw[o]at g;refine sc (a2 A x) g ?_;refine aV ?_;refine ah.jP (q,r) hi ⟨⟨h1,by rw[l,<-j,<-e];dsimp only;omega⟩,h3,h4⟩ ?_;simp only[go_sem,seval]
  have z:=Pm o;rw[<-j,<-e]at z;rw[o,z]at g;have n:=n r Z;refine sc A g ?_;refine sc aK n ?_;by_cases v:r<Z
  ·have d:decide (r<Z)=true:=dw v;simp only[go_sem,seval,d,x];refine aV ?_;refine ah.jP (q,r) hi ⟨⟨h1,by rw[l,<-j,<-e];exact v⟩,h3,h4⟩ ?_;simp only[go_sem,seval]
  have d:decide (r<Z)=false:=gB v;have hZ0:0<=Z:=by rw[e];exact Int.mul_nonneg aj aj
  have y:=aph Z aj;have p:=M7 r (-Z) aj aj;have C:r + -Z=r-Z:=aj
  have e2:(q+Q)*Y+(r-Z)=X:=by rw[Int.add_mul,Int.mul_comm Q Y,<-e];omega
  have D:q+Q<9223372036854775808:=by
   rcases Int.lt_or_le (q+Q) 9223372036854775808 with h|h
   ·exact h
   ·have:=Int.mul_le_mul_of_nonneg_right h (show 0<=Y by omega);rw[Int.mul_comm 9223372036854775808 Y]at this;omega
  have E:IntKind.wrap .i64 (q+Q)=q+Q:=gx aj D;rw[C]at p;simp only[wd]at y p;refine sc d y ?_;refine sc (a3 f E x) p ?_;refine aV ?_;refine ah.jP (q+Q,r-Z) hi ⟨⟨by dsimp only;omega,by rw[l,<-j,<-e];dsimp only;omega⟩,e2,by dsimp only;omega⟩ ?_;simp only[go_sem,seval]
 ·rintro⟨q,r⟩ _ ⟨⟨h1,c⟩,h3,h4⟩;dsimp only at h1 c h3 h4;rw[Nat.sub_self,Int.pow_zero,Int.mul_one]at c;have F:X/Y=q:=by
   rw[<-h3,Int.add_comm,Int.add_mul_ediv_right _ _ aj,Int.ediv_eq_zero_of_lt h1 c];omega
  have G:X%Y=r:=by
   rw[<-h3,Int.add_comm,Int.add_mul_emod_self_right,Int.emod_eq_of_lt h1 c]
  rw[F,G];have J:(62:Int)-((63:Nat):Int) = -1:=aj
  rw[J];simp only[go_sem,seval]
  and_intros<;>first|exact .dq|omega|skip
def zZ(xs:List av)(hl:xs.length<2^30):Sq 136 [] [.sl 3 (xs.map av.cells)] [.own 3 (xs.map av.cells)] (.ref 0):=by
 refine aX 8 1 [.tmp 2] mixed func136 ?_;refine s0 ?_;refine fG.By auC rfl aj ?_;intro b a;repeat' with_reducible first|apply And.intro|exact .dq|refine az.aP (by assumption) ?_|refine mW (λh=>?_) λh=>?_|refine .id ?_|refine ah.eI aj ?_ ?_|exact aK|simp only[*,go_sem,seval,qO]
 all_goals first
  |omega
  | (rw[a (by assumption)])
  |skip
def CT(xs:List aF)(hl:xs.length<2^30):Sq 137 [] [.sl 12 (xs.map aF.cells)] [.own 12 (xs.map aF.cells)] (.ref 0):=by
 refine aX 8 1 [.tmp 2] mixed func137 ?_;refine s0 ?_;refine fG.By auD rfl aj ?_;intro b a;repeat' with_reducible first|apply And.intro|exact .dq|refine az.aP (by assumption) ?_|refine mW (λh=>?_) λh=>?_|refine .id ?_|refine ah.eI aj ?_ ?_|exact aK|simp only[*,go_sem,seval,qO]
 all_goals first
  |omega
  | (rw[a (by assumption)])
  |skip
def AT(xs:List aF)(a:xs.length<2^30):Sq 137 [] [.sl 12 (xs.map aF.cells)] [] (.sl 12 (xs.map aF.cells)):=by
 refine Spec.frozen (CT xs a) [0] rfl ?_;intro r;rcases r with _|r<;>rfl
def JB(xs:List aD)(hl:xs.length<2^30):Sq 138 [] [.sl 4 (xs.map aD.cells)] [.own 4 (xs.map aD.cells)] (.ref 0):=by
 refine aX 8 1 [.tmp 2] mixed func138 ?_;refine s0 ?_;refine fG.By auE rfl aj ?_;intro b a;repeat' with_reducible first|apply And.intro|exact .dq|refine az.aP (by assumption) ?_|refine mW (λh=>?_) λh=>?_|refine .id ?_|refine ah.eI aj ?_ ?_|exact aK|simp only[*,go_sem,seval,qO]
 all_goals first
  |omega
  | (rw[a (by assumption)])
  |skip
def uh(xs:List aD)(a:xs.length<2^30):Sq 138 [] [.sl 4 (xs.map aD.cells)] [] (.sl 4 (xs.map aD.cells)):=by
 refine Spec.frozen (JB xs a) [0] rfl ?_;intro r;rcases r with _|r<;>rfl
def AU(xs:List aT)(hl:xs.length<2^30):Sq 139 [] [.sl 7 (xs.map aT.cells)] [.own 7 (xs.map aT.cells)] (.ref 0):=by
 refine aX 8 1 [.tmp 2] mixed func139 ?_;refine s0 ?_;refine fG.By auF rfl aj ?_;intro b a;repeat' with_reducible first|apply And.intro|exact .dq|refine az.aP (by assumption) ?_|refine mW (λh=>?_) λh=>?_|refine .id ?_|refine ah.eI aj ?_ ?_|exact aK|simp only[*,go_sem,seval,qO]
 all_goals first
  |omega
  | (rw[a (by assumption)])
  |skip
def uj(xs:List aT)(a:xs.length<2^30):Sq 139 [] [.sl 7 (xs.map aT.cells)] [] (.sl 7 (xs.map aT.cells)):=by
 refine Spec.frozen (AU xs a) [0] rfl ?_;intro r;rcases r with _|r<;>rfl
def Qe(xs:List aE)(hl:xs.length<2^30):Sq 140 [] [.sl 4 (xs.map aE.cells)] [.own 4 (xs.map aE.cells)] (.ref 0):=by
 refine aX 8 1 [.tmp 2] mixed func140 ?_;refine s0 ?_;refine fG.By auG rfl aj ?_;intro b a;repeat' with_reducible first|apply And.intro|exact .dq|refine az.aP (by assumption) ?_|refine mW (λh=>?_) λh=>?_|refine .id ?_|refine ah.eI aj ?_ ?_|exact aK|simp only[*,go_sem,seval,qO]
 all_goals first
  |omega
  | (rw[a (by assumption)])
  |skip
def wY(xs:List aE)(a:xs.length<2^30):Sq 140 [] [.sl 4 (xs.map aE.cells)] [] (.sl 4 (xs.map aE.cells)):=by
 refine Spec.frozen (Qe xs a) [0] rfl ?_;intro r;rcases r with _|r<;>rfl
def Gc(xs:List bY)(hl:xs.length<2^30):Sq 141 [] [.sl 4 (xs.map bY.cells)] [.own 4 (xs.map bY.cells)] (.ref 0):=by
 refine aX 8 1 [.tmp 2] mixed func141 ?_;refine s0 ?_;refine fG.By auH rfl aj ?_;intro b a;repeat' with_reducible first|apply And.intro|exact .dq|refine az.aP (by assumption) ?_|refine mW (λh=>?_) λh=>?_|refine .id ?_|refine ah.eI aj ?_ ?_|exact aK|simp only[*,go_sem,seval,qO]
 all_goals first
  |omega
  | (rw[a (by assumption)])
  |skip
def wg(xs:List bY)(a:xs.length<2^30):Sq 141 [] [.sl 4 (xs.map bY.cells)] [] (.sl 4 (xs.map bY.cells)):=by
 refine Spec.frozen (Gc xs a) [0] rfl ?_;intro r;rcases r with _|r<;>rfl
def yY(xs:List bn)(hl:xs.length<2^30):Sq 144 [] [.sl 5 (xs.map bn.cells)] [.own 5 (xs.map bn.cells)] (.ref 0):=by
 refine aX 8 1 [.tmp 2] mixed func144 ?_;refine s0 ?_;refine fG.By akI rfl aj ?_;intro b a;repeat' with_reducible first|apply And.intro|exact .dq|refine az.aP (by assumption) ?_|refine mW (λh=>?_) λh=>?_|refine .id ?_|refine ah.eI aj ?_ ?_|exact aK|simp only[*,go_sem,seval,qO]
 all_goals first
  |omega
  | (rw[a (by assumption)])
  |skip
def Er(xs:List aH)(hl:xs.length<2^30):Sq 126 [] [.sl 3 (xs.map aH.cells)] [.own 3 (xs.map aH.cells)] (.ref 0):=by
 refine aX 8 1 [.tmp 2] mixed func126 ?_;refine s0 ?_;refine fG.By akJ rfl aj ?_;intro b a;repeat' with_reducible first|apply And.intro|exact .dq|refine az.aP (by assumption) ?_|refine mW (λh=>?_) λh=>?_|refine .id ?_|refine ah.eI aj ?_ ?_|exact aK|simp only[*,go_sem,seval,qO]
 all_goals first
  |omega
  | (rw[a (by assumption)])
  |skip
def MD(xs:List aH)(a:xs.length<2^30):Sq 126 [] [.sl 3 (xs.map aH.cells)] [] (.sl 3 (xs.map aH.cells)):=by
 refine Spec.frozen (Er xs a) [0] rfl ?_;intro r;rcases r with _|r<;>rfl
def ME(xs:List eu)(hl:xs.length<2^30):Sq 259 [] [.sl 8 (xs.map eu.cells)] [.own 8 (xs.map eu.cells)] (.ref 0):=by
 refine aX 8 1 [.tmp 2] mixed func259 ?_;refine s0 ?_;refine fG.By auJ rfl aj ?_;intro b a;repeat' with_reducible first|apply And.intro|exact .dq|refine az.aP (by assumption) ?_|refine mW (λh=>?_) λh=>?_|refine .id ?_|refine ah.eI aj ?_ ?_|exact aK|simp only[*,go_sem,seval,qO]
 all_goals first
  |omega
  | (rw[a (by assumption)])
  |skip
def JD(xs:List eu)(a:xs.length<2^30):Sq 259 [] [.sl 8 (xs.map eu.cells)] [] (.sl 8 (xs.map eu.cells)):=by
 refine Spec.frozen (ME xs a) [0] rfl ?_;intro r;rcases r with _|r<;>rfl
def Fo(r:ay)(h:r.jQ):Sq 148 [] [.agg r.cells] [.own 3 (r.ms.map av.cells)] (.agg [.ref 0,.sl 12 (r.ns.map aF.cells),.sl 4 (r.xs.map aD.cells)]):=by
 obtain⟨a,b,c⟩:=h;have c1:=zZ r.ms a;have c2:=AT r.ns b;have c3:=uh r.xs c;simp only[ay.cells];refine aX 13 1 [.cell 2 29] mixed func148 ?_;refine so aK c1 ?_;refine sc aK c2 ?_;exact lX aK c3
def mC(x:bZ):Prop:=x.r.SH.length<2^30/\x.r.falls.length<2^30
def JF(l:List bZ)(hl:l.length<2^30)(n:∀x∈l,mC x):Sq 145 [] [.sl 7 (l.map bZ.cells)] [.own 7 (l.map bZ.cells)] (.ref 0):=by
 refine aX 30 1 [.tmp 2] mixed func145 ?_;refine s0 ?_;refine aV ?_;refine aG.wv l.length [6,7] [128] (λi=>[(8,.I i),(3,.ref 448)]) (λi=>[(448,.own 7 ((l.take i).map bZ.cells))]) ?_ ?_ ?_
 ·exact jh
 ·intro i _ d e h _;have g:=aM (c:=bZ.cells) l d;obtain⟨k,m⟩:=n _ (dH d);have hli:(i:Int)<(l.length:Int):=aj
  have a:(l.take (i+1)).map bZ.cells=(l.take i).map bZ.cells++[bZ.cells l[i]]:=by rw[j7 d,jv];rfl
  have b:((l.take i).map bZ.cells).length=i:=by simp;omega
  obtain⟨x,o⟩:=aL (l[i]);rw[<-o]at g k m a;have c1:=MD x.r.SH k;have c2:=JD x.r.falls m;obtain⟨O,j⟩:=aL ((l.take i).map bZ.cells);rw[<-j]at a b |-;simp only[bZ.cells]at g a;clear o j n;refine sc (a2 e g) c1 ?_;refine sc (a2 b h) c2 ?_;refine aV ?_;refine ah.v d ?_;exact eo a
 ·intro _ f _;simp only[go_sem,seval,f,eU]
def Aa(l:List bZ)(a:l.length<2^30)(b:∀x∈l,mC x):Sq 145 [] [.sl 7 (l.map bZ.cells)] [] (.sl 7 (l.map bZ.cells)):=by
 refine Spec.frozen (JF l a b) [0] rfl ?_;intro r;rcases r with _|r<;>rfl
