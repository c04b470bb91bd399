/- Parts. -/
import Derived.Test.YtfhdodehnpbeoaaGreatKA
set_option linter.all false
set_option maxHeartbeats 4000000
set_option maxRecDepth 16000
namespace Go.Proofs.YtfhdodehnpbeoaaGreat
open Go.Abs Tryz
open List hiding min
def akr(a k:Nat)(hk:k<=64):Dz .u64 (a:Int) (k:Int)=((a*2^k%18446744073709551616:Nat):Int):=by
 unfold Dz;have b:min (Int.toNat (k:Int)) (IntKind.bits .u64)=k:=by simp[IntKind.bits];omega
 rw[b,IntKind.wrap_u64,Int.natCast_emod,Int.natCast_mul,Int.natCast_pow];rfl
def orN(a b k:Nat)(e:b<2^k)(h:a*2^k+b<18446744073709551616):ior .u64 ((a*2^k:Nat):Int) (b:Int)=((a*2^k+b:Nat):Int):=by
 unfold ior;rw[BitVec.toNat_or,BitVec.toNat_ofInt,BitVec.toNat_ofInt];simp only[IntKind.bits];have c:(((a*2^k:Nat):Int)%((2^64:Nat):Int)).toNat=a*2^k:=aj
 have d:((b:Int)%((2^64:Nat):Int)).toNat=b:=aj
 rw[c,d,Nat.mul_comm a,<-Nat.two_pow_add_eq_or_of_lt e,Nat.mul_comm,IntKind.wrap_u64];omega
def aqy(a b X m:Int)(h:X+m=a+b)(c:0<=m)(d:m<18446744073709551616):IntKind.wrap .u64 (IntKind.wrap .u64 (IntKind.wrap .u64 a+b)-IntKind.wrap .u64 X)=m:=by
 simp only[IntKind.wrap_u64];rw[Int.emod_add_emod,<-Int.sub_emod,<-h,show X+m-X=m by omega];exact Int.emod_eq_of_lt c d
def aon(a w v q m:Nat)(d:q=(a*4294967296+w)/v)(c:m=(a*4294967296+w)%v)(hv:m<v)(hv2:v<18446744073709551616):IntKind.wrap .u64 (IntKind.wrap .u64 (IntKind.wrap .u64 ((a:Int)*4294967296)+(w:Int))-IntKind.wrap .u64 ((q:Int)*(v:Int)))=(m:Int):=by
 have b:=Nat.div_add_mod (a*4294967296+w) v;rw[<-c,<-d,Nat.mul_comm v]at b;refine aqy _ _ _ _ ?_ (Int.natCast_nonneg _) ?_
 ·rw[Mul64.mulN];generalize q*v=x at b |-;omega
 ·omega
def atj(q a Q:Nat)(h:q*4294967296+a=Q)(hQ:Q<18446744073709551616):IntKind.wrap .u64 (IntKind.wrap .u64 ((q:Int)*4294967296)+(a:Int))=(Q:Int):=by
 simp only[IntKind.wrap_u64];omega
set_option maxRecDepth 20000 in
set_option maxHeartbeats 1000000 in
def JO(e lo y:Nat)(hy:y<18446744073709551616)(hh:e<y)(hl:lo<18446744073709551616):Sq 315 [] [.int .u64 e,.int .u64 lo,.int .u64 y] [] (.bD [.int .u64 ((e*18446744073709551616+lo)/y:Nat),.int .u64 ((e*18446744073709551616+lo)%y:Nat)]):=by
 have K:((y:Int)==0)=false:=by simp;omega
 have L:decide ((y:Int)<=e)=false:=by simp;omega
 refine Abs.Spec.yN (n:=135) (np:=3) (rs:=[.tmp 6,.tmp 7]) mixed func315 rfl rfl rfl rfl rfl sT sT ?_;simp only[sO,rN,go_sem,seval,K,L];refine bK.split (λh=>?_) (λh=>?_)
 ·simp only[sO,rN,go_sem,seval,K,L,h];have:e=0:=su h;subst this;refine⟨gY.mk (by kernel_rfl),?_,?_,?_,?_⟩
  ·omega
  ·omega
  ·rw[Xk,Mul64.wrapN]
   ·simp
   ·exact Nat.lt_of_le_of_lt (Nat.div_le_self _ _) hl
  ·rw[ape];simp
 ·obtain⟨l1,O,l3⟩:=aaP y hy;have O:=O aj;obtain⟨s,hs⟩:=aL (64-L64 y);have g:s<=64:=aj
  have Y:2^L64 y*2^s=18446744073709551616:=by rw[<-Nat.pow_add,show L64 y+s=64 by omega]
  have z:y*2^s<18446744073709551616:=by rw[<-Y];exact Nat.mul_lt_mul_of_pos_right l1 (Nat.two_pow_pos s)
  have J:18446744073709551616<=2*(y*2^s):=by rw[<-Y,<-Nat.mul_assoc];exact pH _ O
  obtain⟨p1,p2,p3⟩:=auo e lo y s g hh hl;obtain⟨v,C⟩:=aL (y*2^s);obtain⟨c,t⟩:=aL (e*2^s+lo/2^(64-s));obtain⟨W,M⟩:=aL (lo*2^s%18446744073709551616);have E:v<18446744073709551616:=by rw[C];exact z
  have hvg:18446744073709551616<=2*v:=by rw[C];exact J
  have B:c<v:=by rw[t,C];exact p2
  have hA:e*2^s<=c:=by rw[t];exact Nat.le_add_right _ _
  have V:W<18446744073709551616:=by rw[M];exact Nat.mod_lt _ (by decide)
  have e1:IntKind.wrap .u64 ((64-L64 y:Nat):Int)=(s:Int):=by rw[<-hs,Mul64.wrapN _ aj]
  have e2:Dz .u64 (y:Int) (s:Int)=(v:Int):=by rw[akr _ _ g,C,Nat.mod_eq_of_lt z]
  have e3:IntKind.wrap .u64 (64-(s:Int))=((64-s:Nat):Int):=by rw[IntKind.wrap_u64];omega
  have e4:Dz .u64 (e:Int) (s:Int)=((e*2^s:Nat):Int):=by rw[akr _ _ g,Nat.mod_eq_of_lt (Nat.lt_of_le_of_lt hA (Nat.lt_trans B E))]
  have e5:Bl .u64 (lo:Int) ((64-s:Nat):Int)=((lo/2^(64-s):Nat):Int):=aaa _ _ aj;have e6:ior .u64 ((e*2^s:Nat):Int) ((lo/2^(64-s):Nat):Int)=(c:Int):=by rw[orN _ _ _ p1 (Nat.lt_trans p2 z),t]
  have e7:Dz .u64 (lo:Int) (s:Int)=(W:Int):=by rw[akr _ _ g,M]
  have D:v=v/4294967296*4294967296+v%4294967296:=aj
  have e8:IntKind.wrap .u64 ((c/(v/4294967296):Nat):Int)=((c/(v/4294967296):Nat):Int):=Mul64.wrapN _ (Nat.lt_of_le_of_lt (Nat.div_le_self _ _) aj);have d1:RV c (W/4294967296) (v/4294967296) (v%4294967296) (c/(v/4294967296)) (c%(v/4294967296)):=RV.start aj aj aj aj aj;have e9:IntKind.wrap .u64 ((c:Int)-IntKind.wrap .u64 (((c/(v/4294967296):Nat):Int)*((v/4294967296:Nat):Int)))=((c%(v/4294967296):Nat):Int):=by
   have:=d1.sum;rw[Mul64.mulN,Mul64.wrapN _ aj,IntKind.wrap_u64];omega
  simp only[sO,rN,go_sem,seval,K,L,h];refine az.aP (ae8 y hy) ?_;simp only[sO,rN,go_sem,seval,K,L,h,e1,e2,e3,e4,e5,e6,e7,Xk,e8,e9];repeat (refine And.intro aj ?_)
  have w:∀x:Nat,(e*18446744073709551616+lo)*2^s/v=x->x=(e*18446744073709551616+lo)/y:=λx f=>by
   rw[<-f,C,Nat.mul_div_mul_right _ _ (Nat.two_pow_pos s)]
  have i:∀x:Nat,(e*18446744073709551616+lo)*2^s%v=x->x/2^s=(e*18446744073709551616+lo)%y:=λx f=>by
   rw[<-f,C,Nat.mul_mod_mul_right,Nat.mul_div_cancel _ (Nat.two_pow_pos s)]
  obtain⟨t1,t2⟩:=two ((e*18446744073709551616+lo)*2^s) c W v (by rw[t,M];exact p3) V aj B;have w:=w _ t1;have i:=i _ t2;have ab:∀a:Nat,Bl .u64 (a:Int) (s:Int)=((a/2^s:Nat):Int):=λa=>aaa a s g;clear p1 p2 p3 z J Y M t hA e1 e2 e3 e4 e5 e6 e7 l1 O l3 t1 t2 C hs;have d:0<v/4294967296:=aj
  obtain⟨m,N⟩:=aL ((c*4294967296+W/4294967296)%v);have H:m<v:=by rw[N];exact Nat.mod_lt _ aj
  have j:m<v/4294967296*4294967296+v%4294967296:=by rw[<-D];exact H
  obtain⟨F,p⟩:=aL ((c*4294967296+W/4294967296)/v);rw[<-N,<-p]at w;rw[<-N]at i;have u:c<v/4294967296*4294967296+v%4294967296:=by rw[<-D];exact B
  have k:=D.symm;refine Sy (T:=Unit) (λ_=>[(2,.int .u64 v),(6,.int .u64 0),(7,.int .u64 0),(8,.int .u64 s),(9,.int .u64 (v/4294967296:Nat)),(10,.int .u64 (v%4294967296:Nat)),(11,.int .u64 c),(13,.int .u64 (W/4294967296:Nat)),(14,.int .u64 (W%4294967296:Nat)),(15,.int .u64 F)]) (λ_=>[]) (λ_=>True) (by rfl) ?_ ?_
  ·rintro⟨⟩ -;have P:=aon c (W/4294967296) v F m p N H E;have Q:IntKind.wrap .u64 ((m/(v/4294967296):Nat):Int)=((m/(v/4294967296):Nat):Int):=Mul64.wrapN _ (Nat.lt_of_le_of_lt (Nat.div_le_self _ _) aj);have d2:RV m (W%4294967296) (v/4294967296) (v%4294967296) (m/(v/4294967296)) (m%(v/4294967296)):=RV.start aj aj aj aj j;have R:IntKind.wrap .u64 ((m:Int)-IntKind.wrap .u64 (((m/(v/4294967296):Nat):Int)*((v/4294967296:Nat):Int)))=((m%(v/4294967296):Nat):Int):=by
    have:=d2.sum;rw[Mul64.mulN,Mul64.wrapN _ aj,IntKind.wrap_u64];omega
   simp only[sO,rN,go_sem,seval,Xk,P,Q,R];repeat (refine And.intro aj ?_)
   refine Sy (T:=Unit) (λ_=>[(2,.int .u64 v),(8,.int .u64 s),(14,.int .u64 (W%4294967296:Nat)),(15,.int .u64 F),(17,.int .u64 m),(18,.int .u64 ((m*4294967296+W%4294967296)/v:Nat))]) (λ_=>[]) (λ_=>True) (by rfl) ?_ ?_
   ·rintro⟨⟩ -;simp only[sO,rN,go_sem,seval,Xk];have g1:IntKind.wrap .u64 (IntKind.wrap .u64 ((F:Int)*4294967296)+(((m*4294967296+W%4294967296)/v:Nat):Int))=(((e*18446744073709551616+lo)/y:Nat):Int):=by
     have hQ:(e*18446744073709551616+lo)/y<18446744073709551616:=by
      rw[Nat.div_lt_iff_lt_mul aj];omega
     exact atj F _ _ w hQ
    have g2:=aon m (W%4294967296) v ((m*4294967296+W%4294967296)/v) ((m*4294967296+W%4294967296)%v) rfl rfl (Nat.mod_lt _ aj) E;rw[g1,g2,ab,i];exact⟨rfl,rfl⟩
   refine⟨Nat×Nat,λx=>[(2,.int .u64 v),(6,.int .u64 0),(7,.int .u64 0),(8,.int .u64 s),(9,.int .u64 (v/4294967296:Nat)),(10,.int .u64 (v%4294967296:Nat)),(14,.int .u64 (W%4294967296:Nat)),(15,.int .u64 F),(17,.int .u64 m),(18,.int .u64 x.1),(16,.int .u64 x.2)],λ_=>[],λx=>RV m (W%4294967296) (v/4294967296) (v%4294967296) x.1 x.2,λx=>x.1,(m/(v/4294967296),m%(v/4294967296)),d2,?_,?_⟩
   ·exact iB
   ·rintro⟨q,r⟩ dg;simp only at dg;have aa:=dg.small;have ac:=dg.top;have I:=dg.sum;have S:IntKind.wrap .u64 (4294967296*(r:Int))=((4294967296*r:Nat):Int):=by rw[IntKind.wrap_u64];omega
    have U:IntKind.wrap .u64 (((4294967296*r:Nat):Int)+((W%4294967296:Nat):Int))=((4294967296*r+W%4294967296:Nat):Int):=by rw[IntKind.wrap_u64];omega
    have G:IntKind.wrap .u64 ((r:Int)+((v/4294967296:Nat):Int))=((r+v/4294967296:Nat):Int):=by rw[IntKind.wrap_u64];omega
    have step:(4294967296<=q\/4294967296*r+W%4294967296<q*(v%4294967296))->IntKind.wrap .u64 ((q:Int)-1)=((q-1:Nat):Int):=λf=>by
     have:=(dg.step j aj f).1;rw[IntKind.wrap_u64];omega
    simp only[sO,rN,go_sem,seval];refine dh.kB (λo=>?_) (λo=>?_)
    ·have Z:q<4294967296:=by simp at o;omega
     have X:q*(v%4294967296)<18446744073709551616:=by
      have:=Nat.mul_le_mul (show q<=4294967295 by omega) (show v%4294967296<=4294967295 by omega);omega
     simp only[sO,rN,go_sem,seval,o,S,U,Mul64.mulN,Mul64.wrapN _ X];refine bK.split (λl=>?_) (λl=>?_)
     ·have f:4294967296*r+W%4294967296<q*(v%4294967296):=by rw[bO]at l;exact_mod_cast l
      obtain⟨s1,s2,s3,s4⟩:=dg.step j aj (.inr f);simp only[go_sem,seval,step (.inr f),G];refine bK.split (λhr=>?_) (λhr=>?_)
      ·refine s0 ?_;have b:=RV.brk s2 s3 s4 aj d (by rw[bO]at hr;omega);rw[k]at b;refine⟨(),aK,?_⟩;exact eo b
      ·refine s0 ?_;refine⟨(q-1,r+v/4294967296),⟨s2,by rw[gP]at hr;omega,by omega,s4⟩,?_,by simp only;omega⟩;exact iB
     ·refine s0 ?_;have b:=dg.stop d (by rw[gP]at l;have A:=Int.not_lt.1 l;exact_mod_cast A);rw[k]at b;refine⟨(),aK,?_⟩;exact eo b
    ·have f:4294967296<=q:=by simp at o;omega
     obtain⟨s1,s2,s3,s4⟩:=dg.step j aj (.inl f);simp only[sO,rN,go_sem,seval,o,step (.inl f),G];refine bK.split (λhr=>?_) (λhr=>?_)
     ·refine s0 ?_;have b:=RV.brk s2 s3 s4 aj d (by rw[bO]at hr;omega);rw[k]at b;refine⟨(),aK,?_⟩;exact eo b
     ·refine s0 ?_;refine⟨(q-1,r+v/4294967296),⟨s2,by rw[gP]at hr;omega,by omega,s4⟩,?_,by simp only;omega⟩;exact iB

  refine⟨Nat×Nat,λx=>[(2,.int .u64 v),(6,.int .u64 0),(7,.int .u64 0),(8,.int .u64 s),(9,.int .u64 (v/4294967296:Nat)),(10,.int .u64 (v%4294967296:Nat)),(11,.int .u64 c),(13,.int .u64 (W/4294967296:Nat)),(14,.int .u64 (W%4294967296:Nat)),(15,.int .u64 x.1),(16,.int .u64 x.2)],λ_=>[],λx=>RV c (W/4294967296) (v/4294967296) (v%4294967296) x.1 x.2,λx=>x.1,(c/(v/4294967296),c%(v/4294967296)),d1,?_,?_⟩
  ·exact iB
  ·rintro⟨q,r⟩ dg;simp only at dg;have aa:=dg.small;have ac:=dg.top;have I:=dg.sum;have S:IntKind.wrap .u64 (4294967296*(r:Int))=((4294967296*r:Nat):Int):=by rw[IntKind.wrap_u64];omega
   have U:IntKind.wrap .u64 (((4294967296*r:Nat):Int)+((W/4294967296:Nat):Int))=((4294967296*r+W/4294967296:Nat):Int):=by rw[IntKind.wrap_u64];omega
   have G:IntKind.wrap .u64 ((r:Int)+((v/4294967296:Nat):Int))=((r+v/4294967296:Nat):Int):=by rw[IntKind.wrap_u64];omega
   have step:(4294967296<=q\/4294967296*r+W/4294967296<q*(v%4294967296))->IntKind.wrap .u64 ((q:Int)-1)=((q-1:Nat):Int):=λf=>by
    have:=(dg.step u aj f).1;rw[IntKind.wrap_u64];omega
   simp only[sO,rN,go_sem,seval];refine dh.kB (λo=>?_) (λo=>?_)
   ·have Z:q<4294967296:=by simp at o;omega
    have X:q*(v%4294967296)<18446744073709551616:=by
     have:=Nat.mul_le_mul (show q<=4294967295 by omega) (show v%4294967296<=4294967295 by omega);omega
    simp only[sO,rN,go_sem,seval,o,S,U,Mul64.mulN,Mul64.wrapN _ X];refine bK.split (λl=>?_) (λl=>?_)
    ·have f:4294967296*r+W/4294967296<q*(v%4294967296):=by rw[bO]at l;exact_mod_cast l
     obtain⟨s1,s2,s3,s4⟩:=dg.step u aj (.inr f);simp only[go_sem,seval,step (.inr f),G];refine bK.split (λhr=>?_) (λhr=>?_)
     ·refine s0 ?_;have b:=RV.brk s2 s3 s4 aj d (by rw[bO]at hr;omega);rw[k,<-p]at b;refine⟨(),aK,?_⟩;exact eo b
     ·refine s0 ?_;refine⟨(q-1,r+v/4294967296),⟨s2,by rw[gP]at hr;omega,by omega,s4⟩,?_,by simp only;omega⟩;exact iB
    ·refine s0 ?_;have b:=dg.stop d (by rw[gP]at l;have A:=Int.not_lt.1 l;exact_mod_cast A);rw[k,<-p]at b;refine⟨(),aK,?_⟩;exact eo b
   ·have f:4294967296<=q:=by simp at o;omega
    obtain⟨s1,s2,s3,s4⟩:=dg.step u aj (.inl f);simp only[sO,rN,go_sem,seval,o,step (.inl f),G];refine bK.split (λhr=>?_) (λhr=>?_)
    ·refine s0 ?_;have b:=RV.brk s2 s3 s4 aj d (by rw[bO]at hr;omega);rw[k,<-p]at b;refine⟨(),aK,?_⟩;exact eo b
    ·refine s0 ?_;refine⟨(q-1,r+v/4294967296),⟨s2,by rw[gP]at hr;omega,by omega,s4⟩,?_,by simp only;omega⟩;exact iB
def bP(a b c:Int):Sq 157 [] [.I a,.I b,.I c] [] (.bool (within a b c)):=by
 refine aX 15 3 [.tmp 6] mixed func157 ?_;refine s0 ?_;repeat' with_reducible first|apply And.intro|exact .dq|refine az.aP (by assumption) ?_|refine mW (λh=>?_) λh=>?_|refine .id ?_|refine ah.eI aj ?_ ?_|exact aK|simp only[*,go_sem,seval]
 all_goals(simp only[within];simp<;>omega)
def jj(a b c:Int):Sq 166 [] [.I a,.I b,.I c] [] (.bool (within a b c)):=by
 refine aX 15 3 [.tmp 6] mixed func166 ?_;refine s0 ?_;repeat' with_reducible first|apply And.intro|exact .dq|refine az.aP (by assumption) ?_|refine mW (λh=>?_) λh=>?_|refine .id ?_|refine ah.eI aj ?_ ?_|exact aK|simp only[*,go_sem,seval]
 all_goals(simp only[within];simp<;>omega)
def jY(c:Int):Sq 113 [] [.I c] [] (.bool (within c 0 2)):=by
 have h:=bP c 0 2;refine aX 5 1 [.tmp 2] mixed func113 ?_;refine s0 ?_;exact ato
def jZ(c:Int):Sq 164 [] [.I c] [] (.bool (within c 1 16)):=by
 have h:=bP c 1 16;refine aX 5 1 [.tmp 2] mixed func164 ?_;refine s0 ?_;exact ato
def Am(c:Int):Sq 165 [] [.I c] [] (.bool (within c 1 6)):=by
 have h:=jj c 1 6;refine aX 5 1 [.tmp 2] mixed func165 ?_;refine s0 ?_;exact ato
def xA(x:aD):Sq 156 [] [.agg x.cells] [] (.bool x.ok):=by
 have h1:=bP x.a 1 6;have h2:=jY x.b;have h3:=bP x.c 1 1073741824;have h4:=bP x.d 0 10000;refine aX 21 1 [.tmp 2] mixed func156 ?_;simp only[go_sem,seval,aD.cells];repeat' with_reducible first|apply And.intro|exact .dq|refine az.aP (by assumption) ?_|refine mW (λh=>?_) λh=>?_|refine .id ?_|refine ah.eI aj ?_ ?_|exact aK|simp only[*,go_sem,seval]
 all_goals(simp only[aD.ok];simp_all)
def Tz(a:Nat)(h:a<9223372036854775808):Sq 151 [] [.I a] [] (.int .u64 a):=by
 have b:decide ((a:Int)<0)=false:=by simp
 have c:IntKind.wrap .u64 (a:Int)=a:=by rw[IntKind.wrap_u64];omega
 refine aX 10 1 [.tmp 2] mixed func151 ?_;exact eo (a2 b c)
def Nn(a b:Nat)(c:a<9223372036854775808)(d:b<9223372036854775808):Sq 55 [] [.I a,.I b] [] (.agg [.I ((a*b/18446744073709551616:Nat):Int),.int .u64 ((a*b%18446744073709551616:Nat):Int)]):=by
 have g:=Tz a c;have h:=Tz b d;have i:=zn a b aj aj;have hP:a*b/18446744073709551616<9223372036854775808:=by
  have:a*b<9223372036854775808*9223372036854775808:=Nat.mul_lt_mul'' c d;omega
 have j:IntKind.wrap .i64 ((a*b/18446744073709551616:Nat):Int)=((a*b/18446744073709551616:Nat):Int):=by rw[IntKind.wrap_i64];omega
 have e:decide ((a:Int)<0)=false:=by simp
 have f:decide ((b:Int)<0)=false:=by simp
 refine aX 28 2 [.cell 4 135] mixed func55 ?_;refine sc aK g ?_;refine sc aK h ?_;exact lX (a3 j e f) i
def Ul(P N:Nat)(i:0<N/\N<9223372036854775808)(hP:P<170141183460469231731687303715884105728):Sq 269 [] [.agg [.I ((P/18446744073709551616:Nat):Int),.int .u64 ((P%18446744073709551616:Nat):Int)],.I N] []
  (.bD [.I (if P/N<=4611686018427387904 then(P/N:Nat)else(0:Int)),.I (if P/N<=4611686018427387904 then(P%N:Nat)else(0:Int)),.bool (decide (P/N<=4611686018427387904))]):=by
 obtain⟨H,n⟩:=aL (P/18446744073709551616);obtain⟨L,o⟩:=aL (P%18446744073709551616);have c:H*18446744073709551616+L=P:=aj
 have d:L<18446744073709551616:=aj
 have hHl:H<9223372036854775808:=aj
 rw[<-n,<-o];obtain⟨Q,e⟩:=aL (P/N);obtain⟨R,f⟩:=aL (P%N);have hRN:R<N:=by rw[f];exact Nat.mod_lt _ i.1
 have j:=JO H L N aj;rw[c,<-e,<-f]at j;have b:N<=H->18446744073709551616<=Q:=λh=>by
  rw[e,Nat.le_div_iff_mul_le i.1];have:=pH 18446744073709551616 h;rw[Nat.mul_comm]at this;omega
 rw[<-e,<-f];have l:decide ((N:Int)<1)=false:=by simp;omega
 have m:decide ((H:Int)<0)=false:=by simp
 have w1:IntKind.wrap .u64 (H:Int)=H:=by rw[IntKind.wrap_u64];omega
 have k:IntKind.wrap .u64 (N:Int)=N:=by rw[IntKind.wrap_u64];omega
 refine aX 79 2 [.tmp 4,.tmp 5,.tmp 6] mixed func269 ?_;refine sm (a4 l m w1 k) ?_;refine⟨gY.mk (by kernel_rfl),B6.mk (by kernel_rfl),B6.mk (by kernel_rfl),?_⟩;refine bK.fP (λh=>?_) (λh=>?_)
 ·have g:=b aj;have a:¬Q<=4611686018427387904:=aj
  simp only[go_sem,seval,aq a,gB a]
 ·have g:H<N:=aj
  refine sc (a2 w1 k) (j g d) ?_;refine bK.fP (λp=>?_) (λp=>?_)
  ·have a:¬Q<=4611686018427387904:=aj
   simp only[go_sem,seval,aq a,gB a]
  ·have a:Q<=4611686018427387904:=aj
   have q:IntKind.wrap .i64 (Q:Int)=Q:=gx aj aj;have r:IntKind.wrap .i64 (R:Int)=R:=gx aj aj;simp only[go_sem,seval,au a,dw a,q,r]
def Dd(x:aD)(u:Int):Sq 174 [] [.agg x.cells,.I u] [] (.bD [.I (x.V u),.I (x.E u)]):=by
 have m:=xA x;have o:=jj u 0 1099511627776;simp only[aD.cells]at m |-;refine aX 33 2 [.tmp 4,.tmp 5] mixed func174 ?_;refine sc aK m ?_;cases a:x.ok
 ·have e:x.V u=0:=by simp[aD.V,aD.fit,a]
  have e2:x.E u=3:=by simp[aD.E,aD.fit,a]
  exact eo (a2 e e2)
 refine sc aK o ?_;cases b:within u 0 1099511627776
 ·have g:x.fit u=false:=by simp[aD.fit,a];simp[within]at b;omega
  have e:x.V u=0:=by simp[aD.V,g]
  have e2:x.E u=3:=by simp[aD.E,g]
  exact eo (a2 e e2)
 have g:x.fit u=true:=by simp[aD.fit,a];simp[within]at b;omega
 have hr:=(aD.acq x).1 a;obtain⟨U,rfl⟩:∃U:Nat,u=U:=⟨u.toNat,by simp[within]at b;omega⟩
 have s:U<=1099511627776:=by simp[within]at b;omega
 obtain⟨C,n⟩:∃C:Nat,x.c=C:=⟨x.c.toNat,by omega⟩
 obtain⟨M,p⟩:∃M:Nat,10000-x.d=M:=⟨(10000-x.d).toNat,by omega⟩
 have j:C<=1073741824:=aj
 have l:M<=10000:=aj
 have k:C*M<=1073741824*10000:=Nat.mul_le_mul j l;have hP:U*(C*M)<=1099511627776*(1073741824*10000):=Nat.mul_le_mul s k;have w1:IntKind.wrap .i64 (10000-x.d)=M:=fU;have t:IntKind.wrap .i64 (x.c*(M:Int))=((C*M:Nat):Int):=by
  rw[n,<-Int.natCast_mul,gx aj aj]
 have r:=Nn U (C*M) aj aj;have q:=Ul (U*(C*M)) 10000 aj aj;have f:x.P U=((U*(C*M):Nat):Int):=by
  simp only[aD.P,p,n];rw[Int.natCast_mul,Int.natCast_mul,Int.mul_assoc,Int.mul_comm (M:Int)]
 refine sc (a2 w1 t) r ?_;refine az.aP q ?_;by_cases i:U*(C*M)/10000<=4611686018427387904
 ·have h:bA (x.P U/10000)=true:=by rw[f];simp only[bA,cU,bO];omega
  have e:x.V U=((U*(C*M)/10000:Nat):Int):=by
   simp only[aD.V,g,if_true,Le,h];rw[f];rfl
  have e2:x.E U=0:=by simp[aD.E,g,Ld,h]
  simp only[go_sem,seval,au i,dw i,e,e2]
 ·have h:bA (x.P U/10000)=false:=by rw[f];simp only[bA,Bool.and_eq_false_iff,gP];omega
  have e:x.V U=0:=by simp[aD.V,g,Le,h]
  have e2:x.E U=1:=by simp[aD.E,g,Ld,h]
  simp only[go_sem,seval,aq i,gB i,e,e2]
def rZ(f:Int->Int->Int)(w:Int):Nat->List iu
 | 0=>[]
 |n+1=>rZ f w n++if 0<f w (n+1)then[⟨w,n+1,f w (n+1)⟩]else[]
def enum(f:Int->Int->Int):Nat->List iu
 | 0=>[]
 |n+1=>enum f n++rZ f (n+1) 6
theorem Cg{f:Int->Int->Int}{w:Int}{p:iu}:∀{n:Nat},p∈rZ f w n↔p.who=w/\1<=p.bV/\p.bV<=n/\p.units=f w p.bV/\0<p.units
 | 0=>by simp[rZ];omega
 |n+1=>by
  simp only[rZ,mem_append,Cg (n:=n)];constructor
  ·rintro(⟨b,c,e,a,d⟩|h)
   ·exact⟨b,c,by omega,a,d⟩
   ·split at h
    ·rename_i g;simp only[mem_cons,not_mem_nil,or_false]at h;subst h;exact⟨rfl,by show(1:Int)<=n+1;omega,by show(n:Int)+1<=_;omega,rfl,g⟩
    ·cases h
  ·rintro⟨b,c,e,a,d⟩;by_cases h:p.bV=n+1
   ·right;rw[h]at a;rw[au aj];cases p
    simp_all
   ·left;exact⟨b,c,by omega,a,d⟩
theorem KD{f:Int->Int->Int}{p:iu}:∀{n:Nat},p∈enum f n↔1<=p.who/\p.who<=n/\1<=p.bV/\p.bV<=6/\p.units=f p.who p.bV/\0<p.units
 | 0=>by simp[enum];omega
 |n+1=>by
  simp only[enum,mem_append,KD (n:=n),Cg];constructor
  ·rintro(⟨b,e,a⟩| ⟨b,e,a,c,d⟩)
   ·exact⟨b,by omega,a⟩
   ·rw[<-b]at c;exact⟨by omega,by omega,e,a,c,d⟩
  ·rintro⟨b,e,a,c,d,g⟩;by_cases h:p.who=n+1
   ·right;rw[h]at d;exact⟨h,a,c,d,g⟩
   ·left;exact⟨b,by omega,a,c,d,g⟩
theorem Ey(f:Int->Int->Int)(w:Int):∀n:Nat,(rZ f w n).Pairwise (λp q=>p.key<q.key)
 | 0=>by simp[rZ]
 |n+1=>by
  simp only[rZ,pairwise_append];refine⟨Ey f w n,by split<;>simp,?_⟩;intro p b q a;have h:=Cg.1 b;split at a
  ·simp only[mem_cons,not_mem_nil,or_false]at a;subst a;simp only[iu.key];omega
  ·cases a
theorem Hj(f:Int->Int->Int):∀n:Nat,(enum f n).Pairwise (λp q=>p.key<q.key)
 | 0=>by simp[enum]
 |n+1=>by
  simp only[enum,pairwise_append];refine⟨Hj f n,Ey f _ 6,?_⟩;intro p a q b;have h:=KD.1 a;have h2:=Cg.1 b;simp only[iu.key];omega
theorem L0:∀{l m:List iu},l.Pairwise (λp q=>p.key<q.key)->m.Pairwise (λp q=>p.key<q.key)->(∀p,p∈l↔p∈m)->l=m
 | [],[],_,_,_=>rfl
 | [],q::m,_,_,h=>by have:=(h q).2 sT;cases this
 |p::l,[],_,_,h=>by have:=(h p).1 sT;cases this
 |p::l,q::m,hl,hm,h=>by
  rw[jR]at hl hm;have c:p=q:=by
   rcases mem_cons.1 ((h p).1 sT)with e|e
   ·exact e
   ·rcases mem_cons.1 ((h q).2 sT)with e2|e2
    ·exact e2.symm
    ·have a:=hm.1 p e;have b:=hl.1 q e2;omega
  subst c;rw[L0 hl.2 hm.2];intro r;constructor
  ·intro hr;rcases mem_cons.1 ((h r).1 (by simp[hr]))with e|e
   ·subst e;have:=hl.1 r hr;omega
   ·exact e
  ·intro hr;rcases mem_cons.1 ((h r).2 (by simp[hr]))with e|e
   ·subst e;have:=hm.1 r hr;omega
   ·exact e
theorem aau{ps:List iu}(a:Good ps){p:iu}(f:p∈ps):eT p.who p.bV ps=p.units:=by
 induction ps with
 |nil=>cases f
 |cons q r ih =>
  have b:Good r:=⟨λx g=>a.1 x (by simp[g]),(jR.1 a.2).2⟩
  simp only[eT];rcases mem_cons.1 f with e|e
  ·subst e;simp
  ·have c:=(jR.1 a.2).1 p e;have d:¬(q.who=p.who/\q.bV=p.bV):=λhh=>by
    simp only[iu.key]at c;omega
   rw[aq d,ih b e]
theorem Mg{w a:Int}:∀{ps:List iu},0<eT w a ps->(⟨w,a,eT w a ps⟩:iu)∈ps
 | [],h=>by simp[eT]at h
 |q::r,h=>by
  simp only[eT]at h |-;split
  ·rename_i b;have:(⟨w,a,q.units⟩:iu)=q:=by cases q;simp_all
   rw[this];simp
  ·rename_i b;rw[aq b]at h;exact mem_cons_of_mem _ (Mg h)
def VI{ps:List iu}(c:Good ps):enum (λw a=>eT w a ps) 16=ps:=by
 refine L0 (Hj _ 16) c.2 ?_;intro p;rw[KD];constructor
 ·rintro⟨h1,h2,h3,h4,d,f⟩;have:=Mg (w:=p.who) (a:=p.bV) (ps:=ps) (by rw[<-d];exact f);rw[<-d]at this;exact this
 ·intro e;have hr:=(c.1 p e)
  have b:=sW.1 hr.1;exact⟨b.1,b.2.1,b.2.2.1,b.2.2.2,(aau c e).symm,by have:=hr.2;omega⟩
def yE(ps:List iu)(w a n:Int)(w' b:Int):Int:=if w'=w/\b=a then n else eT w' b ps
def YU{ps:List iu}{w a n:Int}(b:Good ps)(hr:jH w a=true)(d:0<=n)(e:n<=1099511627776):enum (yE ps w a n) 16=NW w a n ps:=by
 have:yE ps w a n=λw' c=>eT w' c (NW w a n ps):=by
  funext w' c;unfold yE;split
  ·rename_i h;rw[h.1,h.2,PA hr d b]
  ·rename_i h;rw[HL h hr b]
 rw[this,VI (Sr hr e b)]
def Dc(w a:Int)(ps:List iu)(hl:ps.length<2^62):Sq 326 [] [.int .i64 w,.int .i64 a,.sl 3 (pl ps)] [] (.int .i64 (eT w a ps)):=by
 refine aX 35 3 [.tmp 6] mixed func326 ?_;simp only[go_sem,seval];refine aG.count ps.length [0,1,2] [] (λi=>[(7,.int .i64 i)]) (λi=>[]) (λi=>eT w a (ps.drop i)=eT w a ps) sT ?_ ?_
 ·exact jh
 ·intro i hi c;simp only[go_sem,seval];refine bK.fP (λh=>?_) (λh=>?_)
  ·have b:i<ps.length:=aj
   have hw:IntKind.wrap .i64 ((i:Int)+1)=((i+1:Nat):Int):=fU;rw[Qr b]at c;simp only[eT]at c;simp only[go_sem,seval,oA ps b];repeat' with_reducible first|apply And.intro|exact .dq|refine az.aP (by assumption) ?_|refine mW (λh=>?_) λh=>?_|refine .id ?_|refine ah.eI aj ?_ ?_|exact aK|simp only[*,go_sem,seval,oA ps b]
   all_goals(simp_all;done)
  ·obtain rfl:i=ps.length:=aj
   simp only[jJ,eT]at c;exact ato
def zP(w a:Int):jH w a=(within w 1 16&&within a 1 6):=by simp[jH,within,Bool.and_assoc]
def KP(q p:iu):Bool:=decide (q.who>p.who)||(q.who==p.who&&decide (q.bV >= p.bV))
def afq{q p:iu}(b:jH q.who q.bV=true)(a:jH p.who p.bV=true):KP q p = !decide (Qf q p.who p.bV<0):=by
 rw[JH b a,lZ];simp only[KP,Bool.or_eq_true,cU,bO,fE,iN,gP];split<;>omega
def uw(ps:List iu)(hl:ps.length<2^62):Sq 62 [] [.sl 3 (pl ps)] [] (.bool (kf ps)):=by
 refine aX 66 1 [.tmp 2] mixed func62 ?_;refine s0 ?_;refine aG.count ps.length [0] [] (λi=>[(3,.I i)]) (λi=>[]) (λi=>∀j<i,vD ps j=true) sT ?_ ?_
 ·exact jh
 ·intro i hi l;refine s0 ?_;refine bK.fP (λh=>?_) (λh=>?_)
  ·have b:i<ps.length:=aj
   have hw:IntKind.wrap .i64 ((i:Int)+1)=((i+1:Nat):Int):=fU;have o:=jZ ps[i].who;have p:=Am ps[i].bV;have q:=jj ps[i].units 1 1099511627776;have a:=QN b;have f:within ps[i].units 1 1099511627776=(decide (1<=ps[i].units)&&decide (ps[i].units<=1099511627776)):=rfl;rw[zP,Bool.and_assoc _ (decide (1<=ps[i].units)),<-f]at a;clear f;have e0:vD ps i=true->∀k<i+1,vD ps k=true:=λs k a=>by
    rcases dN k i with h|h
    ·exact l k h
    ·obtain rfl:k=i:=aj
     exact s
   have g:vD ps i=false->kf ps=false:=NV b;rcases Nat.eq_zero_or_pos i with rfl|hpos
   ·simp only[go_sem,seval,oA ps b];repeat' with_reducible first|apply And.intro|exact .dq|refine az.aP (by assumption) ?_|refine az.aP (o) ?_|refine az.aP (p) ?_|refine az.aP (q) ?_|refine mW (λh=>?_) λh=>?_|refine .id ?_|refine ah.eI aj ?_ ?_|exact aK|simp only[*,go_sem,seval]
    all_goals first
     |omega
     |rfl
     | (refine e0 ?_;rw[a];simp_all;done)
     | (refine e0 ?_;rw[a];simp_all[KP];omega)
     | (rw [g ?_]
        cases c:vD ps 0
        ·rfl
        ·exfalso;rw[a]at c;simp_all[KP])
     | (rw [g ?_]
        cases c:vD ps 0
        ·rfl
        ·exfalso;rw[a]at c;simp_all[KP];omega)
   ·obtain⟨j,rfl⟩:∃j,i=j+1:=⟨i-1,by omega⟩
    have m:j<ps.length:=aj
    have hw1:IntKind.wrap .i64 (((j+1:Nat):Int)-1)=(j:Int):=fU;have r:ps.getD (j+1-1) ⟨0,0,0⟩=ps[j]:=by simp[m]
    rw[r]at a;have d:=l j aj;have n:jH ps[j].who ps[j].bV=true:=by
     rw[QN m]at d;simp only[cU]at d;exact d.1.1.1
    replace a:vD ps (j+1)=(within ps[j+1].who 1 16&&within ps[j+1].bV 1 6&&within ps[j+1].units 1 1099511627776&&!KP ps[j] ps[j+1]):=by
     rw[a];cases e:within ps[j+1].who 1 16&&within ps[j+1].bV 1 6
     ·simp
     ·rw[<-zP]at e;rw[afq n e];simp
    simp only[go_sem,seval,oA ps b];repeat' with_reducible first|apply And.intro|exact .dq|refine az.aP (by assumption) ?_|refine az.aP (o) ?_|refine az.aP (p) ?_|refine az.aP (q) ?_|refine mW (λh=>?_) λh=>?_|refine .id ?_|refine ah.eI aj ?_ ?_|exact aK|simp only[*,go_sem,seval,oA ps m]
    all_goals first
     |omega
     |rfl
     | (refine e0 ?_
        have t:KP ps[j] ps[j+1]=false:=by
         simp only[fE,beq_eq_false_iff_ne]at *;simp only[KP,Bool.or_eq_false_iff,Bool.and_eq_false_iff,gP,beq_eq_false_iff_ne];omega
        rw[a,t]
        simp only[*,Bool.and_self,Bool.not_false])
     | (refine e0 ?_;rw[a];simp_all;done)
     | (refine e0 ?_;rw[a];simp_all[KP];omega)
     | (rw [g ?_]
        cases c:vD ps (j+1)
        ·rfl
        ·exfalso;rw[a]at c;simp_all[KP])
     | (rw [g ?_]
        cases c:vD ps (j+1)
        ·rfl
        ·exfalso;rw[a]at c;simp_all[KP];omega)
  ·obtain rfl:i=ps.length:=aj
   have hc:=Jw l;exact ato
theorem Gf(f:Int->Int->Int)(w:Int):∀n:Nat,(rZ f w n).length<=n
 | 0=>by simp[rZ]
 |n+1=>by have:=Gf f w n;simp only[rZ,ct];split<;>simp<;>omega
theorem SI(f:Int->Int->Int):∀n:Nat,(enum f n).length<=6*n
 | 0=>by simp[enum]
 |n+1=>by have:=SI f n;have:=Gf f (n+1) 6;simp only[enum,ct];omega
def Ll(ps:List iu)(w a u:Int)(hl:ps.length<2^29) :
  Sq 288 [] [.sl 3 (pl ps),.int .i64 w,.int .i64 a,.int .i64 u] [.own 3 (pl (gy ps w a u))] (.bD [.ref 0,.int .i64 (iy ps w a u)]):=by
 have z:=uw ps aj;have t:=jZ w;have v:=Am a;have x:=jj u (-1099511627776) 1099511627776;have p:=Dc w a ps aj;have e:=zP w a;refine aX 72 4 [.tmp 8,.tmp 9] mixed func288 ?_;refine sc aK z ?_;cases d:kf ps
 ·have b:iy ps w a u=14:=by simp[iy,d]
  have e2:gy ps w a u=[]:=by simp[gy,b]
  simp only[d,go_sem,seval,b,e2];rfl
 have y:=lN.1 d;have hur:=FJ (w:=w) (a:=a) y.1;simp only[d,go_sem,seval];refine az.aP t ?_;cases g:within w 1 16
 ·have b:iy ps w a u=3:=by simp[iy,d,e,g]
  have e2:gy ps w a u=[]:=by simp[gy,b]
  simp only[go_sem,seval,b,e2];rfl
 refine sc aK v ?_;cases k:within a 1 6
 ·have b:iy ps w a u=3:=by simp[iy,d,e,k]
  have e2:gy ps w a u=[]:=by simp[gy,b]
  simp only[go_sem,seval,b,e2];rfl
 have c:jH w a=true:=by rw[e,g,k];rfl
 refine sc aK x ?_;cases l:within u (-1099511627776) 1099511627776
 ·have b:iy ps w a u=3:=by
   have:(decide (-1099511627776<=u)&&decide (u<=1099511627776))=false:=l;simp only[iy,d,c,cz,this];rfl
  have e2:gy ps w a u=[]:=by simp[gy,b]
  simp only[go_sem,seval,b,e2];rfl
 have hub:-1099511627776<=u/\u<=1099511627776:=by simpa[within]using l
 refine sc aK p ?_;obtain⟨n,s⟩:=aL (eT w a ps+u);have q:IntKind.wrap .i64 (eT w a ps+u)=n:=by rw[gx aj aj,s]
 rcases Int.lt_or_le n 0 with h3|h3
 ·have b:iy ps w a u=13:=by simp[iy,d,c];omega
  have e2:gy ps w a u=[]:=by simp[gy,b]
  have o:decide (n<0)=true:=su h3;simp only[go_sem,seval,q,b,e2,o];rfl
 have o:decide (n<0)=false:=su h3;rcases Int.lt_or_le 1099511627776 n with h4|h4
 ·have b:iy ps w a u=1:=by simp[iy,d,c];omega
  have e2:gy ps w a u=[]:=by simp[gy,b]
  have r:decide (1099511627776<n)=true:=su h4;simp only[go_sem,seval,q,b,e2,o,r];rfl
 have r:decide (1099511627776<n)=false:=su h4;have b:iy ps w a u=0:=by simp[iy,d,c];omega
 have e2:gy ps w a u=NW w a n ps:=by simp[gy,b,s]
 simp only[go_sem,seval,q,o,r,b,e2];rw[<-YU y c h3 h4];clear s q b e2 p;refine aG.count 16 [0,1,2,10] [560] (λj=>[(12,.int .i64 ((j:Int)+1)),(11,.ref 1136)]) (λj=>[(1136,.own 3 (pl (enum (yE ps w a n) j)))]) (λ_=>True) trivial ?_ ?_
 ·simp only[go_sem,seval]<;>simp[enum,pl]
 ·intro j hj _;simp only[go_sem,seval];refine bK.fP (λh=>?_) (λh=>?_)
  ·have hj':j<16:=aj
   have hwj:IntKind.wrap .i64 ((j:Int)+1+1)=((j+1:Nat):Int)+1:=fU;simp only[go_sem,seval];refine aG.count 6 [0,1,2,10,12] [560] (λi=>[(13,.int .i64 ((i:Int)+1)),(11,.ref 1136)]) (λi=>[(1136,.own 3 (pl (enum (yE ps w a n) j++rZ (yE ps w a n) (j+1) i)))]) (λ_=>True) trivial ?_ ?_
   ·simp only[go_sem,seval]<;>simp[rZ]
   ·intro i hi _;have hwi:IntKind.wrap .i64 ((i:Int)+1+1)=((i+1:Nat):Int)+1:=fU;have p:=Dc (j+1) (i+1) ps aj;simp only[go_sem,seval];refine bK.fP (λh=>?_) (λh=>?_)
    ·have hi':i<6:=aj
     have f:pl (enum (yE ps w a n) j++rZ (yE ps w a n) (j+1) (i+1))=pl (enum (yE ps w a n) j++rZ (yE ps w a n) (j+1) i)++if 0<yE ps w a n (j+1) (i+1)then[[.int .i64 (j+1),.int .i64 (i+1),.int .i64 (yE ps w a n (j+1) (i+1))]]else[]:=by
      simp only[rZ];split<;>simp[pl,iu.cells]
     have m:(enum (yE ps w a n) j++rZ (yE ps w a n) (j+1) i).length<=102:=by
      have:=SI (yE ps w a n) j;have:=Gf (yE ps w a n) (j+1) i;simp only[ct];omega
     refine sc aK p ?_;repeat' with_reducible first|apply And.intro|exact .dq|refine az.aP (by assumption) ?_|refine mW (λh=>?_) λh=>?_|refine .id ?_|refine ah.eI aj ?_ ?_|exact aK|simp only[*,go_sem,seval]
     all_goals first
      |omega
      | (clear f m
         simp only[fE,beq_eq_false_iff_ne]at *;simp only[yE];(repeat' split)<;>first
          |rfl
          |omega
          | (simp;done)
          | (exfalso;omega))
    ·obtain rfl:i=6:=aj
     have e3:enum (yE ps w a n) (j+1)=enum (yE ps w a n) j++rZ (yE ps w a n) (j+1) 6:=rfl;exact ato
  ·obtain rfl:j=16:=aj
   simp only[go_sem,seval]
