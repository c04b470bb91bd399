/- Parts. -/
import Derived.Test.YtfhdodehnpbeoaaGreatMA
set_option linter.all false
set_option maxHeartbeats 4000000
set_option maxRecDepth 16000
namespace Go.Proofs.YtfhdodehnpbeoaaGreat
open Go.Abs Tryz
open List hiding lt max min
section
variable{α:Type}
theorem Te{lt:α->α->Bool}{p:α->Bool}(c:Vk lt p)(x:α):∀R:List α,(CI lt x R).filter p=(x::R).filter p
 | []=>rfl
 |y::R=>by
  unfold CI;split
  ·rename_i h;have:=A0 c (A:=[y]) (B:=[x]) λa f b g=>by rw[iD.1 f,iD.1 g];exact h
   rw[show y::CI lt x R=[y]++CI lt x R from rfl,pL,Te c x R,show x::y::R=([x]++[y])++R from rfl,pL,this,<-pL,<-pL];rfl
  ·rfl
theorem Tb{lt:α->α->Bool}{p:α->Bool}(a:Vk lt p):∀(X R:List α),(xg lt R X).filter p=(X.reverse++R).filter p
 | [],R=>rfl
 |x::X,R=>by
  simp only[xg,reverse_cons,dS];rw[Tb a X,pL,Te a,<-pL];rfl
def Ka{lt:α->α->Bool}{p:α->Bool}(a:Vk lt p)(X:List α):(Dy lt X).filter p=X.filter p:=by
 rw[Dy,filter_reverse,Tb a,append_nil,filter_reverse,reverse_reverse]
def RA{lt:α->α->Bool}(c:Ord lt){p:α->Bool}(f:Vk lt p){X Y:List α}(a:xP lt X)(b:xP lt Y):(Eb lt X Y).filter p=(X++Y).filter p:=(Fy c _ X Y (fO _) a b).2.2 p f
theorem Sb{lt:α->α->Bool}{p:α->Bool}(a:Vk lt p):∀(n:Nat)(l:List α),(CD lt n l).filter p=l.filter p
 | 0,l=>Ka a l
 |n+1,l=>by
  unfold CD;split
  ·rw[pL,Ka a,Sb a n,<-pL,n5]
  ·exact Ka a l
theorem GJ{lt:α->α->Bool}(a:Ord lt){p:α->Bool}(b:Vk lt p){bs:Nat}:∀(n:Nat)(l:List α),Vn lt bs l->(pg lt bs n l).filter p=l.filter p
 | 0,l,c=>rfl
 |n+1,l,c=>by
  unfold pg;cases c with
  |last _ h1 h2 =>
   split
   ·have:l.length=0\/l.length≠0:=aj
    have g:l=[]:=length_eq_zero_iff.1 aj;subst g;simp only[take_nil,drop_nil,LX,nil_append];exact GJ a b n _ (.last _ (by simp) (by simp[xP]))
   ·rw[aq aj]
  |more A B h1 h2 f =>
   have h:(A++B).take bs=A:=by rw[<-h1];simp
   have t2:(A++B).drop bs=B:=by rw[<-h1];simp
   have t3:(A++B).drop (2*bs)=B.drop bs:=by rw[show 2*bs=bs+bs by omega,<-drop_drop,t2]
   rw[h,t2,t3];cases f with
   |last _ k1 k2 =>
    split
    ·rename_i c;have:B.length=bs:=by rw[ct]at c;omega
     rw[take_of_length_le aj,drop_of_length_le aj];have e:pg lt bs n ([]:List α)=[]:=length_eq_zero_iff.1 (by rw[yx];rfl);rw[e,append_nil,RA a b h2 k2]
    split
    ·rw[RA a b h2 k2]
    ·rfl
   |more B C k1 k2 k3 =>
    rw[au (by simp only[ct];omega)];rw[show(B++C).take bs=B by rw[<-k1];simp,show(B++C).drop bs=C by rw[<-k1];simp];rw[pL,RA a b h2 k2,GJ a b n C k3,<-pL,dS]
theorem SA{lt:α->α->Bool}(a:Ord lt){p:α->Bool}(b:Vk lt p):∀(n bs:Nat)(l:List α),0<bs->Vn lt bs l->(Ev lt n bs l).filter p=l.filter p
 | 0,bs,l,_,h=>rfl
 |n+1,bs,l,hb,h=>by
  unfold Ev;split
  ·rw[SA a b n _ _ aj (GI a hb _ l (fO _) h),GJ a b _ l h]
  ·rfl
def X9{lt:α->α->Bool}(a:Ord lt){p:α->Bool}(b:Vk lt p)(l:List α):(DZ lt l).filter p=l.filter p:=by
 rw[DZ,SA a b _ _ _ aj (Jm a _ l (fO _)),Sb b]
theorem akA{lt:α->α->Bool}(g:Ord lt):∀{l m:List α},xP lt l->xP lt m->(∀p,Vk lt p->l.filter p=m.filter p)->l=m:=by
 have o:∀x,Vk lt λa=>!lt a x&&!lt x a:=λx a b j k=>by
  simp only[cU,iN]at j k;exact g.Ye b x a k.2 j.1
 have t:∀x,(!lt x x&&!lt x x)=true:=λx=>by simp[g.refl]
 have c:∀{l m:List α},(∀p,Vk lt p->l.filter p=m.filter p)->∀x∈l,x∈m:=λ{l m} h x hm=>by
  have:=(mem_filter (p:=λa=>!lt a x&&!lt x a)).2 ⟨hm,t x⟩;rw[h _ (o x)]at this;exact(mem_filter.1 this).1
 intro l;induction l with
 |nil =>
  intro m _ _ h;cases m with
  |nil=>rfl
  |cons y s=>cases c (λp f=>(h p f).symm) y (mem_cons_self ..)
 |cons x r ih =>
  intro m u v h;cases m with
  |nil=>cases c h x (mem_cons_self ..)
  |cons y s =>
   have k1:=jR.1 u;have k2:=jR.1 v;have w:lt y x=false:=by
    rcases mem_cons.1 (c (λp f=>(h p f).symm) y (mem_cons_self ..))with rfl|hm
    ·exact g.refl _
    ·exact k1.1 y hm
   have i:lt x y=false:=by
    rcases mem_cons.1 (c h x (mem_cons_self ..))with rfl|hm
    ·exact g.refl _
    ·exact k2.1 x hm
   have e:=h _ (o x);rw[filter_cons_of_pos (p:=λa=>!lt a x&&!lt x a) (t x),filter_cons_of_pos (p:=λa=>!lt a x&&!lt x a) (by simp[w,i])]at e;obtain⟨rfl,_⟩:=List.cons.inj e
   rw[ih k1.2 k2.2 λp f=>by
    have:=h p f;cases q:p x
    ·rwa[filter_cons_of_neg (by simp[q]),filter_cons_of_neg (by simp[q])]at this
    ·rw[filter_cons_of_pos q,filter_cons_of_pos q]at this
     exact(List.cons.inj this).2]
def akB{lt:α->α->Bool}(a:Ord lt){l m:List α}(f:xP lt m)(c:∀p,Vk lt p->m.filter p=l.filter p):DZ lt l=m:=
 akA a (I3 a l) f λp b=>by rw[X9 a b,c p b]
end
def rJ(x:Int×Nat):List D:=[.int .u64 (x.1/18446744073709551616),.int .u64 (x.1%18446744073709551616),.I x.2]
def ada:AE (λt=>if t=63 then 102 else if t=44 then 39 else if t=220 then 371 else t) (λk=>if k=359 then 379 else if k=340 then 374 else if k=309 then 364 else if k=310 then 365 else if k=253 then 347 else if k=127 then 318 else k) bn.cells 5 40 where
 r1:=tZ func359 func379
 r2:=tZ func340 func374
 r3:=tZ func309 func364
 r4:=tZ func310 func365
 r5:=tZ func253 func347
 r6:=tZ func127 func318
 t0:=cY
 t3:=cY
 t4:=cY
 tu:=cY
 ne:=cY
 nv:=cY
 sl:=akI
 el:=ajy
 pos:=aj
 len:=λ_=>rfl
 ok:=λx d a=>by simp only[bn.cells,mem_cons,not_mem_nil,or_false]at a;rcases a with rfl|rfl|rfl|rfl|rfl<;>simp[go_sem,seval,cE,gM,D.names]
 nm:=λ_=>rfl
 pl:=λx=>by simp only[go_sem,seval,bn.cells]
def RE(lt:bn->bn->Bool)(g:FuncId)(cs:List D)(a:D.cq cs=[])(b:xN cs=True)(f:∀(k:Nat->Option Nat)(j:Nat->Bool),nM k j cs cs=True)(i:∀x y:bn,∃c:Int,Sq g [] (.agg (bn.cells x)::.agg (bn.cells y)::cs) [] (.I c)/\decide (c<0)=lt x y)(l:List (bn))(h:l.length<2^38) :
  Sq 318 [.own 5 (l.map bn.cells)] [.ref 0,.fn g cs] [.own 5 ((DZ lt l).map bn.cells)] (.bD []):=zU ada lt g cs a b f i l h
def aaf:AE (λt=>if t=63 then 381 else if t=44 then 377 else if t=220 then 384 else t) (λk=>if k=359 then 380 else if k=340 then 375 else if k=309 then 367 else if k=310 then 368 else if k=253 then 350 else if k=127 then 323 else k) rJ 3 24 where
 r1:=tZ func359 func380
 r2:=tZ func340 func375
 r3:=tZ func309 func367
 r4:=tZ func310 func368
 r5:=tZ func253 func350
 r6:=tZ func127 func323
 t0:=cY
 t3:=cY
 t4:=cY
 tu:=cY
 ne:=cY
 nv:=cY
 sl:=aqr
 el:=ajA
 pos:=aj
 len:=λ_=>rfl
 ok:=λx d a=>by simp only[rJ,mem_cons,not_mem_nil,or_false]at a;rcases a with rfl|rfl|rfl<;>simp[go_sem,seval,cE,gM,D.names]
 nm:=λ_=>rfl
 pl:=λx=>by simp only[go_sem,seval,rJ]
def Nx(lt:Int×Nat->Int×Nat->Bool)(g:FuncId)(b:∀x y:Int×Nat,∃c:Int,Sq g [] [.agg (rJ x),.agg (rJ y)] [] (.I c)/\decide (c<0)=lt x y)(l:List (Int×Nat))(a:l.length<2^38) :
  Sq 323 [.own 3 (l.map rJ)] [.ref 0,.fn g []] [.own 3 ((DZ lt l).map rJ)] (.bD []):=zU aaf lt g [] rfl (eq_true trivial) (λ_ _=>eq_true trivial) b l a
def Av(t:Int)(l:List Int)(hl:l.length<2^30):Sq 271 [] [.I t,.sl 1 (ints l)] [] (.I (j9 t l)):=by
 have c1:=eH [t] sT;have c2:=eH l aj;rw[zN]at c1;simp only[ints,map_cons,map_nil]at c1;refine aX 32 2 [.tmp 4] mixed func271 ?_;by_cases m:t<0
 ·have d:decide (t<0)=true:=dw m;have e:j9 t l=3:=by simp[j9,m]
  rw[e];exact gH d
 have g:decide (t<0)=false:=gB m;obtain⟨A,o⟩:=aL (bA t);obtain⟨B,p⟩:=aL (right l);obtain⟨E,b⟩:=aL (j9 t l);rw[<-b];simp only[j9,g,<-o,<-p]at b;rw[<-o]at c1;rw[<-p]at c2;cases A
 ·have e:E=3:=su b;rw[e];refine X6 g c1
 refine sl g c1 ?_;cases B
 ·have e:E=3:=su b;rw[e];refine lX aK c2
 have e:E=if vI l then(if 1024<l.length then 5 else 0)else 3:=su b;rw[e];refine sc aK c2 ?_;simp only[go_sem,seval,aA];refine aG.w1 l.length 22 [1,20,21] [352] (λi _=>vI (l.drop i)=vI l) rfl ?_ ?_
 ·intro i _ h c k a;have j:=ints_at l h;have hli:(i:Int)<(l.length:Int):=aj
  obtain⟨x,r⟩:=aL (l[i]);rw[dI h,<-r]at a;rw[<-r]at j;have s:vI (x::l.drop (i+1))=(!decide (x<0)&&vI (l.drop (i+1))):=rfl;rw[s]at a;by_cases q:x<0
  ·have d:decide (x<0)=true:=dw q;rw[d,Bool.not_true,dU]at a;rw[<-a];simp only[go_sem,seval,aA,c,j,d]
   and_intros<;>first|exact .dq|omega|skip
   all_goals simp[ints]
  ·have d:decide (x<0)=false:=gB q;rw[d,Bool.not_false,cz]at a;simp only[go_sem,seval,aA,c,j,d,k];refine aV ?_;refine ah.u h a ?_;exact iB
 ·intro _ f a;have a:vI l=true:=by rw[<-a,jJ];rfl
  rw[a];by_cases q:1024<l.length
  ·have d:decide ((1024:Int)<(l.length:Int))=true:=jw;simp only[go_sem,seval,aA,f,d,au q]<;>simp
  ·have d:decide ((1024:Int)<(l.length:Int))=false:=lJ;simp only[go_sem,seval,aA,f,d,aq q]<;>simp
def VO(t:Int)(l:List Int)(p:l.length<2^30):Sq 181 [] [.I t,.sl 1 (ints l)] [.own 1 (ints (if j9 t l=0 then vm t l else[]))] (.bD [.ref 0,.I (if j9 t l=0 then ze t l else 0),.I (j9 t l)]):=by
 have c1:=Av t l p;refine aX 35 2 [.tmp 4,.tmp 5,.tmp 6] mixed func181 ?_;by_cases b:j9 t l=0
 case neg =>
  have d:(j9 t l==0)=false:=su b;rw[aq b,aq b];refine sc aK c1 ?_;simp only[go_sem,seval,bne,d]<;>simp[ints]
 rw[au b,au b,b];rw[b]at c1;unfold j9 at b;split at b
 case isFalse=>cases b
 rename_i a;split at b
 case isFalse=>cases b
 rename_i c;simp only[cU,iN,gP]at a;have g:=λx f=>bf.1 (cg.1 a.2 x f);have htin:=bf.1 a.1.2;have ht0:=a.1.1;have j:∀x∈l,0<=x:=λx f=>by
  have:=cg.1 c x f;simp only[iN,gP]at this;omega
 clear a c b;refine sc aK c1 ?_;simp only[go_sem,seval,aA];refine aG.rT (S:=Int×List Int) l.length [16,17] [288] (λi s=>[(18,.I i),(0,.I s.1),(4,.ref 464)]) (λi s=>[(464,.own 1 (ints s.2))]) (λi s=>(s.2++vm s.1 (l.drop i)=vm t l/\ze s.1 (l.drop i)=ze t l)/\(0<=s.1/\s.1<=t)/\s.2.length=i) (t,[]) ⟨⟨rfl,rfl⟩,by omega,rfl⟩ ?_ ?_ ?_
 ·simp only[go_sem,seval]<;>simp[ints]
 ·rintro i ⟨u,L⟩ hi hdi hwi ⟨⟨a,c⟩,h3,h4⟩;dsimp only at a c h3 h4;have o:=ints_at l hi;have hli:(i:Int)<(l.length:Int):=aj
  have k:=g _ (dH hi);have m:=j _ (dH hi);obtain⟨x,f⟩:=aL (l[i]);rw[dI hi,<-f]at a c;rw[<-f]at o k m;simp only[vm,ze]at a c;have q:IntKind.wrap .i64 (u-min u x)=u-min u x:=gx aj aj;have h:min x u=min u x:=aj
  simp only[go_sem,seval,aA,hdi,o,h,q,hwi];refine aV ?_;refine ah.jP (u-min u x,L++[min u x]) hi ⟨⟨by rw[dS];exact a,c⟩,by omega,by simp[h4]⟩ ?_;simp only[go_sem,seval]<;>simp[ints]
 ·rintro⟨u,L⟩ hdx ⟨⟨a,c⟩,h3,h4⟩;dsimp only at a c;rw[jJ]at a c;simp only[vm,ze,append_nil]at a c;simp only[go_sem,seval,aA,hdx,if_true,<-a,<-c];all_goals simp
def SU(t:Int)(l:List Int)(a:l.length<2^30):Sq 181 [] [.I t,.sl 1 (ints l)] [] (.bD [.sl 1 (ints (if j9 t l=0 then vm t l else[])),.I (if j9 t l=0 then ze t l else 0),.I (j9 t l)]):=by
 refine Spec.frozen (VO t l a) [0] rfl ?_;intro r;rcases r with _|r<;>rfl
def Zn(a b:aI)(n:Int):Sq 183 [] [.agg a.cells,.agg b.cells,.I n] [.own 4 ((cr a b n).map aN.cells)] (.ref 0):=by
 have c1:=eH [n] sT;rw[zN]at c1;simp only[ints,map_cons,map_nil]at c1;simp only[aI.cells];refine aX 19 3 [.tmp 6] mixed func183 ?_;obtain⟨A,c⟩:=aL (bA n);rw[<-c]at c1;have f:IntKind.wrap .i64 0=0:=rfl;cases A
 ·refine sl aK c1 ?_;simp only[go_sem,seval,cr,<-c]<;>simp[f]
 ·have hr:=bf.1 c.symm;have w:IntKind.wrap .i64 (0-n) = -n:=fU;refine sl aK c1 ?_;simp only[go_sem,seval,cr,<-c,w]<;>simp
def L7 : Array Value -> Sem Value := (Extern.MathBitsCarry.rows.getD 1 ("", fun _ => pure (.tuple #[]))).2
def afO{P:Program}(x y b:Nat)(hb:b<=1)(w:World):(L7 #[.int .u64 x,.int .u64 y,.int .u64 b]).run P w=.ok (.tuple #[.int .u64 (((x+18446744073709551616-y-b)%18446744073709551616:Nat):Int),.int .u64 ((if x<y+b then 1 else 0:Nat):Int)]) w:=by
 have:b=0\/b=1:=aj
 rcases this with rfl|rfl<;>rfl
theorem UR:Extern.find Tryz.f366=some L7:=cY
theorem US:Extern.findNext Tryz.f366=none:=cY
section
variable{P:Program}{n:Nat}{e:Env}{K:Env->Prop}{ty:TypeId}{pos:String}{after:Array Edge}{gu:Option (Nat×Bool)}{d:Nat}
def aqk {f x y c : Operand} {k : FuncId} {fn : Func} {ts : Array TypeId} {i j m : Nat} (hf : rd e f = .fn k []) (hk : P.funcs[k]? = some fn) (hname : (fn.name == "runtime.NumGoroutine") = false) (hb : fn.body.isNone = true) (hn : Extern.findNext fn = none) (he : Extern.find fn = some L7)
  (hx:rd e x=.int .u64 i) (hy:rd e y=.int .u64 j) (hc:rd e c=.int .u64 m) (h4:m<=1) (hd:d<n) (hK:K (cQ e d (.bD [.int .u64 (((i+18446744073709551616-j-m)%18446744073709551616:Nat):Int),.int .u64 ((if i<j+m then 1 else 0:Nat):Int)]))) :
  fG P n ⟨some d,.call ⟨.value f,#[x,y,c],ts⟩,ty,pos,after,gu⟩ e K:=by
 intro w0 l0 G S0 w lev own S a next Q h hnn hdf hnext
 have hof:=h.yR a rfl f;have ho1:=h.yR a rfl x;have ho2:=h.yR a rfl y;have ho3:=h.yR a rfl c;rw[hf]at hof;rw[hx]at ho1;rw[hy]at ho2;rw[hc]at ho3;obtain⟨cv,hv,hcs,hcc⟩:=hof.Du;have hcv:cv = #[]:=Array.eq_empty_of_size_eq_zero (su hcs);subst hcv;have hm:(#[x,y,c].map a.eval:Array Value) = #[.int .u64 i,.int .u64 j,.int .u64 m]:=by simp[ho1.fk,ho2.fk,ho3.fk]
 refine upon_value rfl (Dq hv hk hname hb hn he (by rw[hm];exact afO i j m h4 w)) (gV hnn hdf hnext hd (h.put (.bD _ _ rfl ?_)) hK);intro i' v dd hi' hd';rcases i' with _| _|i'
 ·simp at hi' hd';subst hi';subst hd';exact .int _ _
 ·simp at hi' hd';subst hi';subst hd';exact .int _ _
 ·simp at hi'
end
def VM(g n:Nat)(hn:n<18446744073709551616)(h:g+n<340282366920938463463374607431768211456):Sq 321 [] [.agg (gd g),.int .u64 n] [] (.agg (gd (g+n))):=by
 simp only[gd];refine aX 20 2 [.cell 4 375] mixed func321 ?_;refine s0 ?_;refine az.sem rfl ?_;with_reducible refine fG.zY (k:=149) (fn:=Tryz.f149) (i:=((g%18446744073709551616:Nat):Int)) (j:=n) (m:=0) ?_ func149 ?_ ?_ m9 m0 ?_ ?_ ?_ ?_ ?_ ?_ ?_ ?_ ?_
 iterate 11 (first|rfl|omega)
 have a:(((g%18446744073709551616:Nat):Int)+n+0)%18446744073709551616=(((g+n)%18446744073709551616:Nat):Int):=aj
 have e2:IntKind.wrap .u64 (((g/18446744073709551616:Nat):Int)+(((g%18446744073709551616:Nat):Int)+n+0)/18446744073709551616)=(((g+n)/18446744073709551616:Nat):Int):=by rw[IntKind.wrap_u64];omega
 exact eo (a2 a e2)
def VL(a b:Nat)(hb:b<=a)(ha:a<340282366920938463463374607431768211456):Sq 349 [] [.agg (gd a),.agg (gd b)] [] (.agg (gd (a-b))):=by
 simp only[gd];refine aX 29 2 [.cell 4 375] mixed func349 ?_;refine s0 ?_;refine az.sem rfl ?_;with_reducible refine aqk (k:=366) (fn:=Tryz.f366) (i:=a%18446744073709551616) (j:=b%18446744073709551616) (m:=0) ?_ func366 ?_ ?_ US UR ?_ ?_ ?_ ?_ ?_ ?_
 iterate 8 (first|rfl|omega)
 refine s0 ?_;refine az.sem rfl ?_;with_reducible refine aqk (k:=366) (fn:=Tryz.f366) (i:=a/18446744073709551616) (j:=b/18446744073709551616) (m:=if a%18446744073709551616<b%18446744073709551616+0 then 1 else 0) ?_ func366 ?_ ?_ US UR ?_ ?_ ?_ ?_ ?_ ?_
 iterate 6 (first|rfl|omega)
 ·split<;>omega
 ·omega
 have c:(a%18446744073709551616+18446744073709551616-b%18446744073709551616-0)%18446744073709551616=(a-b)%18446744073709551616:=aj
 have e2:(a/18446744073709551616+18446744073709551616-b/18446744073709551616-(if a%18446744073709551616<b%18446744073709551616+0 then 1 else 0))%18446744073709551616=(a-b)/18446744073709551616:=by split<;>omega
 rw[e2,c];exact iB
def Hq(x:Int):Sq 369 [] [.int .u64 x] [] (.bool false):=by
 refine aX 6 1 [.tmp 2] mixed func369 ?_;simp only[go_sem,seval,bne,beq_self_eq_true,Bool.not_true]
def oM(x y:Int):Sq 351 [] [.int .u64 x,.int .u64 y] [] (.I (gG x y)):=by
 have b:=Hq x;have c:=Hq y;refine aX 20 2 [.tmp 4] mixed func351 ?_;refine sc aK b ?_;refine az.aP c ?_;simp only[gG];rcases Int.lt_or_le x y with h|h
 ·have d:decide (x<y)=true:=dw h;simp only[go_sem,seval,d,au h]
 ·have d:decide (x<y)=false:=lJ;rw[aq aj];rcases Int.lt_or_le y x with h3|h3
  ·have a:decide (y<x)=true:=dw h3;simp only[go_sem,seval,d,a,au h3]
  ·have a:decide (y<x)=false:=lJ;simp only[go_sem,seval,d,a,aq (by omega:¬y<x)]
def MN(a b:Nat):Sq 325 [] [.agg (gd a),.agg (gd b)] [] (.I (gG a b)):=by
 have f:=oM ((a/18446744073709551616:Nat):Int) ((b/18446744073709551616:Nat):Int);have g:=oM ((a%18446744073709551616:Nat):Int) ((b%18446744073709551616:Nat):Int);have c:=sI (gG ((a/18446744073709551616:Nat):Int) ((b/18446744073709551616:Nat):Int)) (gG ((a%18446744073709551616:Nat):Int) ((b%18446744073709551616:Nat):Int));have e:(if gG ((a/18446744073709551616:Nat):Int) ((b/18446744073709551616:Nat):Int)=0 then gG ((a%18446744073709551616:Nat):Int) ((b%18446744073709551616:Nat):Int)else gG ((a/18446744073709551616:Nat):Int) ((b/18446744073709551616:Nat):Int))=gG a b:=by
  unfold gG;repeat' split
  all_goals omega
 rw[e]at c;simp only[gd];refine aX 17 2 [.tmp 4] mixed func325 ?_;refine sc aK f ?_;refine sc aK g ?_;exact X6 aK c
def PI{x:Nat}(h:x<18446744073709551616):IntKind.wrap .u64 (x:Int)=x:=by rw[IntKind.wrap_u64];omega
def KK(x:Nat):BitVec.ofInt 64 (x:Int)=BitVec.ofNat 64 x:=by simp
def aiu(x s:Nat)(hs:s<64):Bl .u64 (x:Int) (s:Int)=((x/2^s:Nat):Int):=by
 show(x:Int).fdiv (2^(min (s:Int).toNat 64))=_;rw[Int.toNat_natCast,Nat.min_eq_left aj,Int.fdiv_eq_ediv_of_nonneg _ (Int.le_of_lt (Int.pow_pos (by decide))),Int.natCast_ediv,Int.natCast_pow];rfl
def agE(x:Nat)(h:x<18446744073709551616):aeT .u64 (x:Int) 1=((x%2:Nat):Int):=by
 show IntKind.wrap .u64 (((BitVec.ofInt 64 (x:Int)) &&& (BitVec.ofInt 64 (1:Int))).toNat:Int)=_;rw[KK,show BitVec.ofInt 64 (1:Int)=BitVec.ofNat 64 1 from rfl,BitVec.toNat_and,BitVec.toNat_ofNat,BitVec.toNat_ofNat,Nat.mod_eq_of_lt h,show 1%2^64=1 from rfl,Nat.and_one_is_mod,PI aj]
def NK(x:Nat):Dz .u64 (x:Int) 1=((2*x%18446744073709551616:Nat):Int):=by
 show IntKind.wrap .u64 ((x:Int)*2^(min (1:Int).toNat 64))=_;rw[show(2:Int)^(min (1:Int).toNat 64)=2 from rfl,IntKind.wrap_u64];omega
def bOr(y v:Nat)(hv:v<2)(a:2*y+v<18446744073709551616):ior .u64 ((2*y:Nat):Int) (v:Int)=((2*y+v:Nat):Int):=by
 show IntKind.wrap .u64 (((BitVec.ofInt 64 ((2*y:Nat):Int)) ||| (BitVec.ofInt 64 (v:Int))).toNat:Int)=_;rw[KK,KK,BitVec.toNat_or,BitVec.toNat_ofNat,BitVec.toNat_ofNat,Nat.mod_eq_of_lt aj,Nat.mod_eq_of_lt aj];have:=Nat.shiftLeft_add_eq_or_of_lt (b:=v) (i:=1) aj y;rw[Nat.shiftLeft_eq,show y*2^1=2*y by omega]at this;rw[<-this,PI a]
def divMod{b m r:Nat}(a:0<b)(hr:r<b):(b*m+r)/b=m/\(b*m+r)%b=r:=by
 rw[Nat.mul_add_div a,Nat.div_eq_of_lt hr,Nat.mul_add_mod,Nat.mod_eq_of_lt hr];exact⟨rfl,rfl⟩
def YY(a b:Nat)(A:0<b)(R:b<37778931862957161709568)(ha:a<340282366920938463463374607431768211456)(T:a/b<18446744073709551616):Sq 322 [] [.agg (gd a),.agg (gd b)] [] (.bD [.int .u64 ((a/b:Nat):Int),.agg (gd (a%b))]):=by
 have D:=λx=>MN x b;have u:=λx=>VL x b;simp only[gd]at D u |-;refine aX 56 2 [.tmp 4,.cell 5 375] mixed func322 ?_;refine s0 ?_;refine aG.wv 128 [2,3,5,6] [48,64,96] (λi=>[(8,.I (127-(i:Int))),(7,.int .u64 ((a/2^(128-i)/b:Nat):Int))]) (λi=>[(112,.box [.int .u64 ((a/2^(128-i)%b/18446744073709551616:Nat):Int),.int .u64 ((a/2^(128-i)%b%18446744073709551616:Nat):Int)])]) ?_ ?_ ?_
 ·have e0:a/340282366920938463463374607431768211456=0:=Nat.div_eq_of_lt ha;simp only[go_sem,seval]<;>simp[e0]
 ·intro i _ G _ _ _;obtain⟨k,hk⟩:∃k:Nat,k=127-i:=⟨_,rfl⟩
  have S:(127:Int)-(i:Int)=k:=aj
  have F:decide (0<=(k:Int))=true:=jw;obtain⟨P,N⟩:=aL (a/2^(128-i));rw[S,<-N];obtain⟨l,H⟩:=aL (P%b);obtain⟨q,T⟩:=aL (P/b);rw[<-H,<-T];have hl0:l<37778931862957161709568:=by rw[H];exact Nat.lt_trans (Nat.mod_lt _ A) R
  have O:P<=a:=by rw[N];exact Nat.div_le_self _ _
  obtain⟨B,L⟩:=aL (a/2^k%2);have M:B<2:=by rw[L];exact Nat.mod_lt _ aj
  have j:a/2^(128-(i+1))=2*P+B:=by
   have e1:128-(i+1)=k:=aj
   have e2:128-i=k+1:=aj
   rw[N,L,e1,e2,Nat.pow_succ,<-Nat.div_div_eq_div_mul];omega
  have f:B=(if 64<=k then a/18446744073709551616/2^(k%64)%2 else a%18446744073709551616/2^(k%64)%2):=by
   rw[L];split
   ·rename_i h;rw[Nat.div_div_eq_div_mul,show(18446744073709551616:Nat)=2^64 from rfl,<-Nat.pow_add,show 64+k%64=k by omega]
   ·rename_i h;rw[Nat.mod_eq_of_lt (show k<64 by omega)];have e3:(18446744073709551616:Nat)=2^k*(2*2^(63-k)):=by
     rw[<-Nat.pow_succ',<-Nat.pow_add,show k+(63-k+1)=64 by omega]
    rw[e3,Nat.mod_mul_right_div_self,Nat.mod_mul_right_mod]
  have y:IntKind.wrap .u64 ((k:Int).tmod 64)=((k%64:Nat):Int):=by
   rw[show(k:Int).tmod 64=((k%64:Nat):Int)by rw[Int.tmod_eq_emod_of_nonneg aj];omega,PI aj]
  have E:k%64<64:=Nat.mod_lt _ aj;have V:=agE (a%18446744073709551616/2^(k%64)) (Nat.lt_of_le_of_lt (Nat.div_le_self _ _) aj);have W:=agE (a/18446744073709551616/2^(k%64)) (Nat.lt_of_le_of_lt (Nat.div_le_self _ _) aj);have Z:=aiu (a%18446744073709551616) (k%64) E;have y2:=aiu (a/18446744073709551616) (k%64) E;have z1:Bl .u64 ((l%18446744073709551616:Nat):Int) 63=((l%18446744073709551616/9223372036854775808:Nat):Int):=aiu _ 63 aj;have z2:Dz .u64 ((l/18446744073709551616:Nat):Int) 1=((2*(l/18446744073709551616):Nat):Int):=by rw[NK];omega
  have z3:Dz .u64 ((l%18446744073709551616:Nat):Int) 1=((2*(l%9223372036854775808):Nat):Int):=by rw[NK];omega
  have X:=bOr (l/18446744073709551616) (l%18446744073709551616/9223372036854775808) aj aj;have Y:=bOr (l%9223372036854775808) B M aj;have v1:2*(l/18446744073709551616)+l%18446744073709551616/9223372036854775808=(2*l+B)/18446744073709551616:=aj
  have v2:2*(l%9223372036854775808)+B=(2*l+B)%18446744073709551616:=aj
  rw[v1]at X;rw[v2]at Y;have t:128-(i+1)=127-i:=aj
  have hlb:l<b:=by rw[H];exact Nat.mod_lt _ A
  have Q:b*q+l=P:=by rw[T,H];exact Nat.div_add_mod P b
  have g:2*P+B=b*(2*q)+(2*l+B):=by rw[<-Q,Nat.mul_add,<-Nat.mul_assoc,<-Nat.mul_assoc,Nat.mul_comm 2 b];omega
  have o:b<=2*l+B->2*P+B=b*(2*q+1)+(2*l+B-b):=λh=>by rw[g,Nat.mul_add b (2*q) 1];omega
  have hqa:2*q+1<=2*(a/b)+1:=by have:=Nat.div_le_div_right (c:=b) O;omega
  have hnx:a/2^(128-(i+1))/b<=a/b:=Nat.div_le_div_right (Nat.div_le_self _ _);have hqn:2*q<18446744073709551616:=by
   have h1:2*q<=(2*P+B)/b:=by
    rw[Nat.le_div_iff_mul_le A,g,Nat.mul_comm];omega
   rw[<-j]at h1;omega
  have J:IntKind.wrap .i64 ((k:Int)-1)=(k:Int)-1:=gx aj aj;have w:(k:Int)-1=127-((i+1:Nat):Int):=aj
  have D:=D (2*l+B);have u:=u (2*l+B);by_cases C:64<=k
  ·have d:decide ((64:Int)<=(k:Int))=true:=jw;rw[au C]at f;rw[<-f]at W;refine sc (a5 F d y Z (a5 y2 V W z1 (a4 z2 z3 X Y))) D ?_;rcases dN (2*l+B) b with hX|hX
   ·have z:decide (0<=gG ((2*l+B:Nat):Int) (b:Int))=false:=by
     rw[gP,gG,au aj];omega
    obtain⟨n1,p⟩:=divMod (m:=2*q) A hX;rw[<-g,<-j,t]at n1 p;have s:=NK q;rw[Nat.mod_eq_of_lt aj]at s;refine sm (a3 z s J) ?_;refine ah.v G ?_;exact eo (a3 n1 p w)
   ·have z:decide (0<=gG ((2*l+B:Nat):Int) (b:Int))=true:=by
     rw[decide_eq_true_iff,gG,aq aj];split<;>omega
    have u:=u hX aj;obtain⟨n1,p⟩:=divMod (m:=2*q+1) (r:=2*l+B-b) A aj;rw[<-o hX,<-j,t]at n1 p;have s:=NK q;rw[Nat.mod_eq_of_lt aj]at s;have U:ior .u64 ((2*q:Nat):Int) 1=((2*q+1:Nat):Int):=bOr q 1 aj aj;refine sc (a4 z s U J) u ?_;refine ah.v G ?_;exact eo (a3 n1 p w)
  ·have d:decide ((64:Int)<=(k:Int))=false:=lJ;rw[aq C]at f;rw[<-f]at V;refine sc (a5 F d y Z (a5 y2 V W z1 (a4 z2 z3 X Y))) D ?_;rcases dN (2*l+B) b with hX|hX
   ·have z:decide (0<=gG ((2*l+B:Nat):Int) (b:Int))=false:=by
     rw[gP,gG,au aj];omega
    obtain⟨n1,p⟩:=divMod (m:=2*q) A hX;rw[<-g,<-j,t]at n1 p;have s:=NK q;rw[Nat.mod_eq_of_lt aj]at s;refine sm (a3 z s J) ?_;refine ah.v G ?_;exact eo (a3 n1 p w)
   ·have z:decide (0<=gG ((2*l+B:Nat):Int) (b:Int))=true:=by
     rw[decide_eq_true_iff,gG,aq aj];split<;>omega
    have u:=u hX aj;obtain⟨n1,p⟩:=divMod (m:=2*q+1) (r:=2*l+B-b) A aj;rw[<-o hX,<-j,t]at n1 p;have s:=NK q;rw[Nat.mod_eq_of_lt aj]at s;have U:ior .u64 ((2*q:Nat):Int) 1=((2*q+1:Nat):Int):=bOr q 1 aj aj;refine sc (a4 z s U J) u ?_;refine ah.v G ?_;exact eo (a3 n1 p w)
 ·intro _ _ _;have F:decide (0<=(127:Int)-((128:Nat):Int))=false:=rfl;simp only[go_sem,seval,F,Nat.sub_self,Nat.pow_zero,Nat.div_one];exact RS
def rLt(a b:Int×Nat):Bool:=decide (b.1<a.1)
def Ih(rs:List Int):List (Int×Nat):=rs.zipIdx
def vK(rs:List Int):List (Int×Nat):=DZ rLt (Ih rs)
def CE:List (Int×Nat)->List Int->List Int
 | [],ps=>ps
 |x::r,ps=>CE r (ps.set x.2 (ps.getD x.2 0+1))
def XV:Ord rLt:=⟨λx y h=>by simp only[rLt,bO,gP]at *;omega,λx y z h1 h2=>by simp only[rLt,gP]at *;omega⟩
def acV{rs:List Int}{x:Int×Nat}:x∈Ih rs↔rs[x.2]?=some x.1:=by
 obtain⟨v,i⟩:=x;rw[Ih,mem_zipIdx_iff_getElem?]
def Fc{rs:List Int}{x:Int×Nat}:x∈vK rs↔rs[x.2]?=some x.1:=by rw[vK,(yO _ _).mem_iff,acV]
def afE(rs:List Int):(Ih rs).Pairwise λa b=>a.2<b.2:=by
 have:((Ih rs).map Prod.snd).Pairwise (· < ·):=by rw[Ih,zipIdx_map_snd];exact pairwise_lt_range'
 exact pairwise_map.1 this
def afF(rs:List Int):(vK rs).Pairwise λa b=>b.1<a.1\/(a.1=b.1/\a.2<b.2):=by
 have key:∀{L:List (Int×Nat)},xP rLt L->(∀v,(L.filter λa=>a.1==v).Pairwise λa b=>a.2<b.2)->L.Pairwise λa b=>b.1<a.1\/(a.1=b.1/\a.2<b.2):=by
  intro L;induction L with
  |nil=>intro _ _;exact .nil
  |cons x r ih =>
   intro i f;have k:=jR.1 i;refine jR.2 ⟨λb c=>?_,ih k.2 λv=>?_⟩
   ·have j:=k.1 b c;simp only[rLt,gP]at j;rcases Int.lt_or_le b.1 x.1 with h|h
    ·exact .inl h
    ·have e:b.1=x.1:=aj
     have g:=f x.1;rw[filter_cons_of_pos (by simp),jR]at g;exact .inr ⟨e.symm,g.1 b (mem_filter.2 ⟨c,by simpa using e⟩)⟩
   ·have:=f v;cases q:x.1==v
    ·rwa[filter_cons_of_neg (by simp[q])]at this
    ·rw[filter_cons_of_pos (by simpa using q)]at this;exact(jR.1 this).2
 refine key (I3 XV _) λv=>?_;rw[vK,X9 XV (λa b l c=>by simp only[fE]at l c;simp only[rLt,gP];omega)];exact(afE rs).sublist filter_sublist
theorem Xg(rs:List Int)(gs:List Bool):∀i,(∀j,j<i->gs.getD j true=false->0<=jD rs gs i/\rs.getD j 0<=rs.getD (jD rs gs i).toNat 0/\((j:Int)<jD rs gs i->rs.getD j 0<rs.getD (jD rs gs i).toNat 0))
 | 0,j,hj,_=>by omega
 |i+1,j,hj,hg=>by
  have hr:=u0 rs gs i;have g:=Xg rs gs i;simp only[jD];rcases dN j i with h|h
  ·obtain⟨b,c,f⟩:=g j h hg;split
   ·rename_i a;simp only[cU,Bool.or_eq_true,bO]at a;rw[show((i:Int)).toNat=i by omega];refine⟨by omega,?_,λ_=>?_⟩<;>omega
   ·exact⟨b,c,f⟩
  ·obtain rfl:j=i:=aj
   split
   ·rw[show((j:Int)).toNat=j by omega];exact⟨by omega,Int.le_refl _,λh=>by omega⟩
   ·rename_i a;simp only[hg,Bool.not_false,cz,Bool.or_eq_true,bO]at a;refine⟨by omega,by omega,λh=>by omega⟩
theorem Om(rs:List Int):∀(n:Nat)(A B:List (Int×Nat))(gs:List Bool)(ps:List Int),vK rs=A++B->n<=B.length->gs.length=rs.length->(∀j,j<rs.length->gs.getD j true=A.any λx=>x.2==j)->o9 rs n gs ps=CE (B.take n) ps
 | 0,_,_,_,_,_,_,_,_=>rfl
 |n+1,A,[],gs,ps,_,h,_,_=>by simp at h
 |n+1,A,x::B,gs,ps,hL,hn,hgl,hg=>by
  have g:=afF rs;rw[hL]at g;have i:rs[x.2]?=some x.1:=Fc.1 (by rw[hL];simp);have l:=(ia.1 i).1;have t:rs.getD x.2 0=x.1:=by rw[getD_eq_getElem?_getD,i];rfl
  have p:=(pairwise_append.1 g).2.2;have s:gs.getD x.2 true=false:=by
   rw[hg _ l,any_eq_false];intro a v w;simp only[fE]at w;have m:=p a v x (mem_cons_self ..);have k:rs[a.2]?=some a.1:=Fc.1 (by rw[hL];simp[v]);rw[w,i]at k;have:=Option.some.inj k;omega
  obtain⟨u,m,k⟩:=Xg rs gs rs.length x.2 l s;have hr:=u0 rs gs rs.length;have o:=AL rs gs rs.length u;have q:jD rs gs rs.length=x.2:=by
   obtain⟨b,q⟩:∃b:Nat,jD rs gs rs.length=b:=⟨_,(Int.toNat_of_nonneg u).symm⟩
   rw[q]at m k o hr |-;simp only[Int.toNat_natCast]at m k o;have c:b<rs.length:=aj
   have r:rs.getD b 0=rs[b]:=by rw[getD_eq_getElem?_getD,gF c];rfl
   have f:(rs[b],b)∈A++x::B:=by rw[<-hL,Fc];exact gF c
   rw[hg b c,any_eq_false]at o;rcases mem_append.1 f with f|f
   ·exact absurd (by simp) (o _ f)
   ·rcases mem_cons.1 f with rfl|f
    ·rfl
    ·have:=(jR.1 (pairwise_append.1 g).2.1).1 _ f;simp only at this;rw[t,r]at m k;omega
  simp only[o9,q,Int.toNat_natCast,take_succ_cons,CE];refine Om rs n (A++[x]) B _ _ (by rw[hL,dS];rfl) (by simpa using hn) (by rw[length_set,hgl]) λj y=>?_;rw[any_append,getD_eq_getElem?_getD,getElem?_set];by_cases e:x.2=j
  ·subst e;rw[au rfl,au aj];simp
  ·rw[aq e,<-getD_eq_getElem?_getD,hg j y];simp[e]
def abz(rs:List Int){n:Nat}(b:n<=rs.length)(ps:List Int):o9 rs n (replicate rs.length false) ps=CE ((vK rs).take n) ps:=
 Om rs n [] (vK rs) _ ps rfl (by rw[vK,RI,Ih,length_zipIdx];exact b) (by simp) λj a=>by simp[getD_eq_getElem?_getD,a]
def J3(a b:Int):Sq 325 [] [.agg [.int .u64 (a/18446744073709551616),.int .u64 (a%18446744073709551616)],.agg [.int .u64 (b/18446744073709551616),.int .u64 (b%18446744073709551616)]] [] (.I (gG a b)):=by
 have f:=oM (a/18446744073709551616) (b/18446744073709551616);have g:=oM (a%18446744073709551616) (b%18446744073709551616);have c:=sI (gG (a/18446744073709551616) (b/18446744073709551616)) (gG (a%18446744073709551616) (b%18446744073709551616));have e:(if gG (a/18446744073709551616) (b/18446744073709551616)=0 then gG (a%18446744073709551616) (b%18446744073709551616)else gG (a/18446744073709551616) (b/18446744073709551616))=gG a b:=by
  unfold gG;repeat' split
  all_goals omega
 rw[e]at c;refine aX 17 2 [.tmp 4] mixed func325 ?_;refine sc aK f ?_;refine sc aK g ?_;exact X6 aK c
def Ny(x y:Int×Nat):∃c:Int,Sq 324 [] [.agg (rJ x),.agg (rJ y)] [] (.I c)/\decide (c<0)=rLt x y:=by
 have h:=J3 y.1 x.1;refine⟨gG y.1 x.1,?_,?_⟩
 ·simp only[rJ];refine aX 10 2 [.tmp 4] mixed func324 ?_;exact lX aK h
 ·rw[lZ,decide_eq_true_iff,rLt,decide_eq_true_iff,gG];repeat' split
  all_goals omega
def LZ(rs:List Int)(a:rs.length<2^38):Sq 323 [.own 3 ((Ih rs).map rJ)] [.ref 0,.fn 324 []] [.own 3 ((vK rs).map rJ)] (.bD []):=
 Nx rLt 324 Ny (Ih rs) (by rw[Ih,length_zipIdx];exact a)
def G1(t:Int)(ws:List Int):jt t ws=if j9 t ws=0 then(if aC ws=0 then(if t=0 then 0 else 2)else 0)else j9 t ws:=by
 unfold jt j9;by_cases a:((!decide (t<0)&&bA t)&&right ws)=true
 ·by_cases b:vI ws=true
  ·by_cases c:1024<ws.length
   ·simp[a,b,c]
   ·simp[a,b,c]
  ·simp[a,b]
 ·simp only[a];rfl
def IM{t:Int}{l:List Int}(a:j9 t l=0):(0<=t/\t<=4611686018427387904)/\(∀x∈l,0<=x/\x<=4611686018427387904)/\l.length<=1024:=by
 unfold j9 at a;split at a
 case isFalse=>cases a
 rename_i c;split at a
 case isFalse=>cases a
 rename_i g;split at a
 ·cases a
 rename_i h3;simp only[cU,iN,gP]at c;have f:=λx b=>bf.1 (cg.1 c.2 x b);have htin:=bf.1 c.1.2;refine⟨⟨by omega,by omega⟩,λx b=>?_,by omega⟩;have:=cg.1 g x b;simp only[iN,gP]at this;have:=f x b;omega
theorem I4:∀{l:List Int},(∀x∈l,0<=x/\x<=4611686018427387904)->0<=aC l/\aC l<=4611686018427387904*l.length
 | [],_=>by simp[aC]
 |x::r,h=>by
  have:=I4 λy a=>h y (mem_cons_of_mem _ a);have:=h x sT;simp only[aC,length_cons];omega
theorem RL{x:Int}:∀{l:List Int},(∀x∈l,0<=x/\x<=4611686018427387904)->x∈l->x<=aC l
 |y::r,h,hx=>by
  have h1:=h y sT;have h2:=I4 (l:=r) λz a=>h z (mem_cons_of_mem _ a);rcases mem_cons.1 hx with rfl|hx
  ·simp only[aC];omega
  ·have:=RL (λz a=>h z (mem_cons_of_mem _ a)) hx;simp only[aC];omega
theorem Sg:∀(A:List (Int×Nat))(x:Int×Nat)(ps:List Int),CE (A++[x]) ps=(CE A ps).set x.2 ((CE A ps).getD x.2 0+1)
 | [],_,_=>rfl
 |y::A,x,ps=>by simp only[cons_append,CE];exact Sg A x _
theorem Si:∀(A:List (Int×Nat))(ps:List Int),(CE A ps).length=ps.length
 | [],_=>rfl
 |y::A,ps=>by simp only[CE];rw[Si A];simp
theorem Xh{B:Int}:∀(A:List (Int×Nat)) {ps:List Int},(∀p∈ps,0<=p/\p<=B)->0<=B->∀p∈CE A ps,0<=p/\p<=B+A.length
 | [],ps,h,_=>by simpa[CE]using h
 |x::A,ps,h,hB=>by
  intro p b;simp only[CE]at b
  have h2:=Xh (B:=B+1) A (ps:=ps.set x.2 (ps.getD x.2 0+1)) (λq a=>by
   rcases mem_or_eq_of_mem_set a with a|rfl
   ·have:=h q a;omega
   ·rw[getD_eq_getElem?_getD];cases c:ps[x.2]? with
    |none=>simp;omega
    |some v=>have:=h v (fC c);simp;omega) aj p b
  simp only[length_cons];omega
def Pr(t:Int)(ws:List Int)(hl:ws.length<2^30):Sq 281 [] [.I t,.sl 1 (ints ws)] [.own 1 (ints (cy t ws))] (.bD [.ref 0,.I (jt t ws)]):=by
 have c1:=Av t ws hl;have O:=G1 t ws;refine aX 103 2 [.tmp 4,.tmp 5] mixed func281 ?_;by_cases C:j9 t ws=0
 case neg =>
  have d:(j9 t ws==0)=false:=su C;rw[aq C]at O;rw[cy,O,aq C];refine sc aK c1 ?_;simp only[go_sem,seval,bne,d]<;>simp[ints]
 rw[au C]at O;rw[C]at c1;obtain⟨ht,q,hl2⟩:=IM C;rw[cy,O];refine sc aK c1 ?_;simp only[go_sem,seval,aA];refine aG.wv ws.length [0,1,6,26,27] [] (λi=>[(28,.I i),(7,.addr 128 0),(4,.nil)]) (λi=>[(128,.box (gd (aC (ws.take i)).toNat))]) ?_ ?_ ?_
 ·simp only[go_sem,seval,gd,take_zero,aC,Int.toNat_zero,Nat.zero_div,Nat.zero_mod]<;>simp
 ·intro i _ g j m _;have o:=ints_at ws g;have h:=q _ (dH g);have hs:=I4 (l:=ws.take i) λx h=>q x (mem_of_mem_take h);have s:aC (ws.take (i+1))=aC (ws.take i)+ws[i]:=by rw[j7 g,rO]
  have y:(ws.take i).length<=1024:=by rw[gh];omega
  obtain⟨x,A⟩:=aL (ws[i]);rw[<-A]at o h s;obtain⟨n,hn⟩:∃n:Nat,x=n:=⟨x.toNat,by omega⟩
  obtain⟨S,hS⟩:∃S:Nat,S=(aC (ws.take i)).toNat:=⟨_,rfl⟩
  have f:(aC (ws.take (i+1))).toNat=S+n:=aj
  have c2:=VM S n aj aj;have hu:IntKind.wrap .u64 (n:Int)=n:=PI aj;rw[<-hS];rw[hn]at o;simp only[gd]at c2 |-;simp only[go_sem,seval,aA,j,o,hu];refine sc m c2 ?_;refine ah.v g ?_;exact gH f
 ·intro _ k _;have hs:=I4 q;obtain⟨S,hS⟩:∃S:Nat,S=(aC ws).toNat:=⟨_,rfl⟩
  have f:aC ws=S:=aj
  simp only[eU,<-hS];rw[f];simp only[gd];by_cases q1:S=0
  ·rw[au (by omega:(S:Int)=0)]at *;subst q1;by_cases q2:t=0
   ·subst q2;simp only[go_sem,seval,aA,k];exact⟨Int.le_refl _,by omega,by omega,by simp[ints]⟩
   ·have d2:(t==0)=false:=su q2;simp only[go_sem,seval,aA,k,bne,d2];simp[q2,ints]
  ·rw[aq (by omega:¬(S:Int)=0),au rfl,aq (by omega:¬(S:Int)=0)];have hz:(((S/18446744073709551616:Nat):Int)==0&&(((S%18446744073709551616:Nat):Int)==0))=false:=by
    rw[Bool.and_eq_false_iff,beq_eq_false_iff_ne,beq_eq_false_iff_ne];omega
   have hS72:S<=4722366482869645213696:=aj
   obtain⟨T,hT⟩:∃T:Nat,t=T:=⟨t.toNat,by omega⟩
   subst hT;simp only[go_sem,seval,aA,k,hz];refine aG.wv ws.length [0,1,6,7,46,47] [128] (λi=>[(48,.I i),(10,.ref 1184),(11,.ref 1280),(12,.I ((T:Int)-aC (pW T S (ws.take i))))]) (λi=>[(1184,.own 1 (ints (pW T S (ws.take i)))),(1280,.own 3 (((vU T S (ws.take i)).zipIdx).map rJ))]) ?_ ?_ ?_
   ·simp only[go_sem,seval]<;>simp[pW,vU,ints,aC]
   ·intro i _ g j m _;have o:=ints_at ws g;have h:=q _ (dH g);have hg:=RL q (dH g);have y:(ws.take i).length=i:=by rw[gh];omega
    have z:pW T S (ws.take (i+1))=pW T S (ws.take i)++[(T:Int)*ws[i]/S]:=by rw[j7 g,pW,pW,jv];rfl
    have hr:vU T S (ws.take (i+1))=vU T S (ws.take i)++[(T:Int)*ws[i]%S]:=by rw[j7 g,vU,vU,jv];rfl
    have G:(pW T S (ws.take i)).length=i:=by rw[pW,qO,y]
    have a:(vU T S (ws.take i)).length=i:=by rw[vU,qO,y]
    obtain⟨x,A⟩:=aL (ws[i]);rw[<-A]at o h hg z hr;obtain⟨n,hn⟩:∃n:Nat,x=n:=⟨x.toNat,by omega⟩
    subst hn;have ae:n<=S:=aj
    have hTn:T*n<=4611686018427387904*4611686018427387904:=Nat.mul_le_mul aj aj;have ai:T*n/S<=T:=Nat.div_le_of_le_mul (by rw[Nat.mul_comm S];exact Nat.mul_le_mul_left T ae);have hu:IntKind.wrap .u64 (n:Int)=n:=PI aj;have am:IntKind.wrap .u64 (T:Int)=T:=PI aj;have c2:=zn T n aj aj;have c3:=YY (T*n) S aj aj aj aj;simp only[gd]at c3;obtain⟨Q,X⟩:=aL (T*n/S);obtain⟨R,hR⟩:=aL (T*n%S);have Y:(T:Int)*n/S=Q:=by rw[X];push_cast;rfl
    have Z:(T:Int)*n%S=R:=by rw[hR];push_cast;rfl
    rw[Y]at z;rw[Z]at hr;rw[<-X,<-hR]at c3;rw[<-X]at ai;have F:IntKind.wrap .i64 (Q:Int)=Q:=gx aj aj;obtain⟨L,U⟩:=aL (pW T S (ws.take i));obtain⟨M,hM⟩:=aL (vU T S (ws.take i));rw[<-U]at z G |-;rw[<-hM]at hr a |-;have ac:aC (pW T S (ws.take (i+1)))=aC L+Q:=by rw[z,rO]
    simp only[go_sem,seval,aA,j,o,hu,am];refine sc aK c2 ?_;refine az.aP c3 ?_;simp only[go_sem,seval,F,aA,G,a,m,length_zipIdx];refine aV ?_;have r:=BD (t:=(T:Int)) (W:=(S:Int)) (ws:=ws) aj f aj (λx h=>(q x h).1) (i+1);rw[ac]at r;have hle0:0<=aC L:=by rw[U];exact(BD (t:=(T:Int)) (W:=(S:Int)) (ws:=ws) aj f aj (λx h=>(q x h).1) i).1
    have wl:IntKind.wrap .i64 ((T:Int)-aC L-Q)=(T:Int)-aC L-Q:=gx aj aj;have ak:((M++[(R:Int)]).zipIdx).map rJ=(M.zipIdx).map rJ++[[.int .u64 ((R/18446744073709551616:Nat):Int),.int .u64 ((R%18446744073709551616:Nat):Int),.I i]]:=by
     rw[zipIdx_append,jv,a];simp only[zipIdx_cons,zipIdx_nil,map_cons,map_nil,rJ,Nat.zero_add];rfl
    have ag:ints (L++[(Q:Int)])=ints L++[[.I (Q:Int)]]:=by simp[ints]
    have al:(T:Int)-aC (L++[(Q:Int)])=(T:Int)-aC L-Q:=by rw[rO];omega
    refine ah.v g ?_;exact eo (a5 z hr ak ag (a2 al wl))
   ·intro _ k _;have a:(vU (T:Int) S ws).length=ws.length:=by rw[vU,qO]
    have c4:=LZ (vU T S ws) (by rw[a];omega);have hlr:=vA (t:=(T:Int)) (W:=(S:Int)) (ws:=ws) aj f aj (λx h=>(q x h).1);obtain⟨N,hN⟩:∃N:Nat,(T:Int)-aC (pW T S ws)=N:=⟨((T:Int)-aC (pW T S ws)).toNat,by omega⟩
    have E:=abz (vU T S ws) (n:=N) (by rw[a];omega) (pW T S ws);rw[a]at E;simp only[eU];rw[hN,Int.toNat_natCast,E];simp only[Ih]at c4;refine sg [1280] k c4 ?_;refine aG.wv N [87] [] (λi=>[(88,.I i),(10,.ref 176),(11,.ref 192)]) (λi=>[(176,.own 1 (ints (CE ((vK (vU T S ws)).take i) (pW T S ws)))),(192,.own 3 ((vK (vU T S ws)).map rJ))]) ?_ ?_ ?_
    ·simp only[go_sem,seval]<;>simp[CE]
    ·intro i _ g j m _;have hol:(vK (vU (T:Int) S ws)).length=ws.length:=by rw[vK,(yO _ _).length_eq,Ih,length_zipIdx,a]
     have hi2:i<(vK (vU (T:Int) S ws)).length:=aj
     have o:=aM (c:=rJ) (vK (vU (T:Int) S ws)) hi2;have u:=Fc.1 (dH hi2);have s:(vK (vU (T:Int) S ws)).take (i+1)=(vK (vU (T:Int) S ws)).take i++[(vK (vU (T:Int) S ws))[i]]:=j7 hi2;obtain⟨x,h⟩:=aL ((vK (vU (T:Int) S ws))[i]);rw[<-h]at o u s;have hx2:x.2<ws.length:=by rw[<-a];exact(ia.1 u).1
     have V:=Sg ((vK (vU (T:Int) S ws)).take i) x (pW T S ws);rw[<-s]at V;have af:∀p∈pW (T:Int) S ws,0<=p/\p<=4611686018427387904:=λp z=>by
      obtain⟨w,J,rfl⟩:=mem_map.1 z;have h1:=q w J;have h2:=RL q J;refine⟨Int.ediv_nonneg (Int.mul_nonneg aj h1.1) aj,?_⟩;refine Int.le_trans (Int.ediv_le_of_le_mul (b:=(T:Int)) aj ?_) ht.2;rw[f]at h2;exact Int.mul_le_mul_of_nonneg_left h2 aj
     have r:=Xh ((vK (vU (T:Int) S ws)).take i) af aj;have D:=Si ((vK (vU (T:Int) S ws)).take i) (pW T S ws);rw[show(pW (T:Int) S ws).length=ws.length by rw[pW,qO]]at D;obtain⟨L,U⟩:=aL (CE ((vK (vU (T:Int) S ws)).take i) (pW T S ws));rw[<-U]at r D V |-;have B:x.2<L.length:=aj
     have ad:=ints_at L B;have hv:=r _ (dH B);have ab:L.getD x.2 0=L[x.2]:=by simp[B]
     rw[ab]at V;rw[gh]at hv;have wv:IntKind.wrap .i64 (L[x.2]+1)=L[x.2]+1:=gx aj aj;simp only[rJ]at o;have H:ints (L.set x.2 (L[x.2]+1))=(ints L).set x.2 [.I (L[x.2]+1)]:=by simp[ints,map_set]
     simp only[go_sem,seval,j,o,ad,wv,m,aA];refine aV ?_;refine ah.v g ?_;exact eo (a2 V H)
    ·intro _ aa _;exact eo aa
def WH(t:Int)(ws:List Int)(a:ws.length<2^30):Sq 281 [] [.I t,.sl 1 (ints ws)] [] (.bD [.sl 1 (ints (cy t ws)),.I (jt t ws)]):=by
 refine Spec.frozen (Pr t ws a) [0] rfl ?_;intro r;rcases r with _|r<;>rfl
def bk(long:Bool)(a:bn):Int:=if long then -a.aS else a.aS
def F5{long:Bool}{a b:bn}:ahead long a b=true↔bk long a<bk long b\/(bk long a=bk long b/\a.src<b.src):=by
 unfold ahead bk;cases long<;>simp only[fE,iI,if_true,if_false]<;>split<;>simp<;>omega
def NG(long:Bool):Ord (ahead long):=by
 have h:∀a b,ahead long a b=false↔¬(bk long a<bk long b\/(bk long a=bk long b/\a.src<b.src)):=λa b=>by rw[<-F5,Bool.not_eq_true]
 refine⟨λx y c=>?_,λx y z h1 h2=>?_⟩
 ·rw[F5]at c;rw[h];omega
 ·rw[h]at *;omega
theorem Xz(long:Bool)(x:bn)(out:List bn):∀k,k<=out.length->(∀j y,kpos long x out k<=j->j<k->out[j]?=some y->ahead long x y=true)/\∀y,0<kpos long x out k->out[kpos long x out k-1]?=some y->ahead long x y=false
 | 0,_=>⟨λj y g i=>by omega,λy h=>by simp[kpos]at h⟩
 |k+1,hk=>by
  have l:out[k]?=some (out.getD k ⟨0,0,0,0,0⟩):=by rw[getD_eq_getElem?_getD,gF aj];rfl
  simp only[kpos];split
  ·rename_i f;obtain⟨g,i⟩:=Xz long x out k aj;refine⟨λj y a b c=>?_,i⟩;rcases dN j k with h|h
   ·exact g j y a h c
   ·obtain rfl:j=k:=aj
    rw[l]at c;obtain rfl:=Option.some.inj c;exact f
  ·rename_i f;refine⟨λj y a b=>by omega,λy _ c=>?_⟩;rw[Nat.add_sub_cancel,l]at c;obtain rfl:=Option.some.inj c;simpa using f
def aeZ(long:Bool)(x:bn){out:List bn}(h:xP (ahead long) out):xP (ahead long) (J' long x out)/\∀p,Vk (ahead long) p->(J' long x out).filter p=(out++[x]).filter p:=by
 have m:=NG long;obtain⟨s,t⟩:=Xz long x out out.length (fO _);have hk:=Qy long x out out.length;unfold J';generalize kpos long x out out.length=k at *;have r:∀y∈out.drop k,ahead long x y=true:=λy c=>by
  obtain⟨j,u,o⟩:=jX c;exact s j y u (ff o) o
 refine⟨?_,λp v=>?_⟩
 ·unfold xP;rw[pairwise_append,jR];refine⟨h.sublist (take_sublist _ _),⟨λy c=>m.asy _ _ (r y c),h.sublist (drop_sublist _ _)⟩,λa q b g=>?_⟩;obtain⟨i,hi,o⟩:=mH q;have f:ahead long x a=false:=by
   obtain⟨y,c⟩:=ld (l:=out) (i:=k-1) aj;exact m.Ye a y x (h.Yw m aj o c) (t y aj c)
  rcases mem_cons.1 g with rfl|g
  ·exact f
  ·exact m.Ye a x b f (m.asy _ _ (r b g))
 ·have:=A0 v (A:=out.drop k) (B:=[x]) λa q b g=>by rw[iD.1 g];exact r a q
  rw[show out.take k++x::out.drop k=out.take k++([x]++out.drop k)from rfl,pL,this,<-pL,<-dS,n5]
theorem QS(long:Bool):∀(l out:List bn),xP (ahead long) out->xP (ahead long) (DG long out l)/\∀p,Vk (ahead long) p->(DG long out l).filter p=(out++l).filter p
 | [],out,h=>⟨h,λp _=>by rw[append_nil];rfl⟩
 |x::r,out,h=>by
  obtain⟨a,b⟩:=aeZ long x h;obtain⟨c,d⟩:=QS long r _ a;refine⟨c,λp f=>?_⟩;rw[DG,d p f,pL,b p f,<-pL,dS];rfl
def afW(long:Bool)(l:List bn):DZ (ahead long) l=zC long l:=
 akB (NG long) (QS long l [] (by simp[xP])).1 λp a=>(QS long l [] (by simp[xP])).2 p a
def TX(long:Bool)(x y:bn):∃c:Int,Sq 319 [] (.agg x.cells::.agg y.cells :: [.bG [.bool long]]) [] (.I c)/\decide (c<0)=ahead long x y:=by
 have b:=jE x.aS y.aS;have f:=jE x.src y.src;have hr:gG x.aS y.aS = -1\/gG x.aS y.aS=0\/gG x.aS y.aS=1:=by
  unfold gG;repeat' split
  all_goals omega
 have w:IntKind.wrap .i64 (0-gG x.aS y.aS) = -gG x.aS y.aS:=fU;refine⟨if(if long then -gG x.aS y.aS else gG x.aS y.aS)=0 then gG x.src y.src else(if long then -gG x.aS y.aS else gG x.aS y.aS),?_,?_⟩
 ·simp only[bn.cells];cases long
  ·have a:=sI (gG x.aS y.aS) (gG x.src y.src);refine aX 23 3 [.tmp 5] mixed func319 ?_;refine sc aK b ?_;refine sc aK f ?_;exact X6 aK a
  ·have a:=sI (-gG x.aS y.aS) (gG x.src y.src);refine aX 23 3 [.tmp 5] mixed func319 ?_;refine sc aK b ?_;refine sc w f ?_;exact X6 aK a
 ·rw[lZ,decide_eq_true_iff,F5];simp only[gG,bk];cases long<;>simp only[iI,if_false,if_true]
  all_goals repeat' split
  all_goals omega
def ZB(long:Bool)(l:List bn)(hl:l.length<2^28):Sq 277 [] [.bool long,.sl 5 (l.map bn.cells)] [.own 5 ((zC long l).map bn.cells)] (.ref 0):=by
 have c1:=yY l aj;have c2:=RE (ahead long) 319 [.bG [.bool long]] rfl (by simp only[go_sem,seval]) (λ_ _=>by simp only[go_sem,seval]) (TX long) l aj;rw[afW]at c2;refine aX 12 2 [.tmp 4] mixed func277 ?_;refine so aK c1 ?_;refine az.iw [] [128] true sT ?_;refine s0 ?_;refine dL.ij c2 ?_;refine s0 ?_;intro r hr d a;obtain⟨y,_,rfl⟩:=mem_map.1 hr;simp only[bn.cells,mem_cons,not_mem_nil,or_false]at a;rcases a with rfl|rfl|rfl|rfl|rfl<;>trivial
def Wb(long:Bool)(l:List bn)(a:l.length<2^28):Sq 277 [] [.bool long,.sl 5 (l.map bn.cells)] [] (.sl 5 ((zC long l).map bn.cells)):=by
 refine Spec.frozen (ZB long l a) [0] rfl ?_;intro r;rcases r with _|r<;>rfl
theorem VK:∀{l:List bn} {a:Int},¬ 0<a->mF a l=([],a)
 | [],_,_=>rfl
 | _::_,_,h=>by rw[mF,aq h]
def afp{long:Bool}{l:List bn}(h:l.all nh=true):∀b∈zC long l,nh b=true:=by
 have key:∀(m out:List bn),(∀b∈out,nh b=true)->(∀b∈m,nh b=true)->∀b∈DG long out m,nh b=true:=by
  intro m;induction m with
  |nil=>intro out c _;exact c
  |cons x r ih =>
   intro out c f;refine ih _ ?_ λb a=>f b (by simp[a]);intro b a;rcases mem_append.1 a with a|a
   ·exact c b (mem_of_mem_take a)
   ·rcases mem_cons.1 a with rfl|a
    ·exact f b sT
    ·exact c b (mem_of_mem_drop a)
 exact key l [] sT λb a=>cg.1 h b a
def abp(q:Int)(l:List bn)(U:l.length<2^28)(hq64:jB q):Sq 217 [] [.I q,.sl 5 (l.map bn.cells)] [.own 3 ((jz q l).1.map dX.cells)] (.bD [.ref 0,.I (jz q l).2,.I (mD q l)]):=by
 have c2:=Wb (decide (0<q)) l U;have E:(zC (decide (0<q)) l).length=l.length:=by rw[zC,ET];simp
 refine aX 77 2 [.tmp 4,.tmp 5,.tmp 6] mixed func217 ?_;by_cases J:q < -1099511627776
 ·have y:decide (q < -1099511627776)=true:=dw J;have e:mD q l=3:=by
   have:within q (-1099511627776) 1099511627776=false:=by simp[within];omega
   simp[mD,this]
  simp only[go_sem,seval,y,jz,e]<;>simp
 have y:decide (q < -1099511627776)=false:=gB J;by_cases w:1099511627776<q
 ·have C:decide (1099511627776<q)=true:=dw w;have e:mD q l=3:=by
   have:within q (-1099511627776) 1099511627776=false:=by simp[within];omega
   simp[mD,this]
  simp only[go_sem,seval,y,C,jz,e]<;>simp
 have C:decide (1099511627776<q)=false:=gB w;have e:mD q l=if l.all nh then 0 else 3:=by
  have:within q (-1099511627776) 1099511627776=true:=by simp[within];omega
  simp[mD,this]
 simp only[jz];rw[e];clear e;refine sm (a2 y C) ?_;clear y C;refine aG.wu l.length [0,1,18,19] [320] (λi=>[(20,.I i),(4,.nil)]) (λ_=>[]) (λi=>(l.drop i).all nh=l.all nh) rfl ?_ ?_ ?_
 ·exact jh
 ·intro i _ j b r g;have k:=aM (c:=bn.cells) l j;have m:(i:Int)<(l.length:Int):=aj
  obtain⟨x,z⟩:=aL (l[i]);rw[dI j,<-z]at g;rw[<-z]at k;simp only[all_cons,nh]at g;simp only[bn.cells]at k;clear c2;have bad:(within x.aQ 1 1048576&&within x.aS 1 1073741824)=false->l.all nh=false:=λh=>by rw[h,dU]at g;exact g.symm
  by_cases M:x.aQ<1
  ·have v:decide (x.aQ<1)=true:=dw M;have f:=bad (by simp[within];omega);simp only[go_sem,seval,b,k,v,f]<;>simp[m,j]
  have v:decide (x.aQ<1)=false:=gB M;by_cases N:1048576<x.aQ
  ·have B:decide (1048576<x.aQ)=true:=dw N;have f:=bad (by simp[within];omega);simp only[go_sem,seval,b,k,v,B,f]<;>simp[m,j]
  have B:decide (1048576<x.aQ)=false:=gB N;by_cases O:x.aS<1
  ·have D:decide (x.aS<1)=true:=dw O;have f:=bad (by simp[within];omega);simp only[go_sem,seval,b,k,v,B,D,f]<;>simp[m,j]
  have D:decide (x.aS<1)=false:=gB O;by_cases Q:1073741824<x.aS
  ·have G:decide (1073741824<x.aS)=true:=dw Q;have f:=bad (by simp[within];omega);simp only[go_sem,seval,b,k,v,B,D,G,f]<;>simp[m,j]
  have G:decide (1073741824<x.aS)=false:=gB Q;have T:(within x.aQ 1 1048576&&within x.aS 1 1073741824)=true:=by simp[within];omega
  rw[T,cz]at g;refine sm (a5 b k v B (a3 D G r)) ?_;refine aV ?_;refine ah.u j g ?_;exact iB
 intro _ p g;rw[jJ]at g;have g:l.all nh=true:=g.symm;have t:=afp (long:=decide (0<q)) g;rw[g];clear g;obtain⟨o,V⟩:=aL (zC (decide (0<q)) l);rw[<-V]at c2 E t |-;have F:IntKind.wrap .i64 (0-q) = -q:=fU;refine sm (a2 p F) ?_;refine sc aK c2 ?_;clear c2 p;refine aG.rT (S:=List dX×Int) o.length [50,51] [816,832] (λi s=>[(52,.I i),(5,.I s.2),(4,.ref 1136)]) (λi s=>[(1136,.own 3 (s.1.map dX.cells))]) (λi s=>(s.1++(mF s.2 (o.drop i)).1=(mF (max q (-q)) o).1/\(mF s.2 (o.drop i)).2=(mF (max q (-q)) o).2)/\s.1.length<=i/\(0<=s.2/\s.2<=1099511627776)) ([],max q (-q)) ⟨⟨rfl,rfl⟩,by simp,by omega⟩ ?_ ?_ ?_
 ·exact jh
 ·rintro i ⟨L,a⟩ j b r ⟨⟨h1,h2⟩,h3,h4⟩;dsimp only at h1 h2 h3 h4;have k:=aM (c:=bn.cells) o j;have m:(i:Int)<(o.length:Int):=aj
  have A:=t _ (dH j);obtain⟨x,z⟩:=aL (o[i]);rw[dI j,<-z]at h1 h2;rw[<-z]at k A;simp only[nh,within,cU,bO]at A;simp only[mF]at h1 h2;simp only[bn.cells]at k;have R:IntKind.wrap .i64 (a-min a x.aQ)=a-min a x.aQ:=gx aj aj;by_cases H:0<a
  ·have d:decide (0<min a x.aQ)=true:=jw;rw[au H]at h1 h2;refine sm (a5 b k d R r) ?_;refine aV ?_;refine ah.jP (L++[⟨x.src,min a x.aQ,x.aS⟩],a-min a x.aQ) j ⟨⟨by rw[dS];exact h1,h2⟩,by simp;omega,by dsimp only;omega⟩ ?_;exact jh
  ·have d:decide (0<min a x.aQ)=false:=lJ;rw[aq H]at h1 h2;refine sm (a5 b k d R r) ?_;refine aV ?_;refine ah.jP (L,a-min a x.aQ) j ⟨?_,by dsimp only;omega,by dsimp only;omega⟩ ?_
   ·dsimp only;rw[show a-min a x.aQ=a by omega,VK H];exact⟨h1,h2⟩
   ·exact jh
 ·rintro⟨L,a⟩ p ⟨⟨h1,h2⟩,h3,h4⟩;dsimp only at h1 h2;rw[jJ]at h1 h2;simp only[mF,append_nil]at h1 h2;simp only[go_sem,seval,p,if_true,<-h1,<-h2];all_goals simp
def Qp(w n:Int)(long:Bool)(l:List dX)(hl:l.length<2^28):Sq 278 [] [.agg [.I w,.I n],.bool long,.sl 3 (l.map dX.cells)] [.own 4 ((lR w n long l).map aE.cells)] (.bD [.ref 0,.I (jL l)]):=by
 simp only[lR];refine aX 86 3 [.tmp 6,.tmp 7] mixed func278 ?_;refine s0 ?_;refine aG.w1 l.length 18 [1,2,3,16,17] [64,288] (λi _=>(l.drop i).all uD=l.all uD) rfl ?_ ?_
 ·intro i _ j g q a;have k:=aM (c:=dX.cells) l j;have o:(i:Int)<(l.length:Int):=aj
  obtain⟨x,v⟩:=aL (l[i]);rw[dI j,<-v]at a;rw[<-v]at k;simp only[all_cons,uD]at a;simp only[dX.cells]at k;have bad:(within x.aQ 0 1099511627776&&within x.aS 0 1073741824)=false->jL l=3:=λh=>by
   rw[h,dU]at a;simp only[jL];rw[show l.all uD=false from a.symm];rfl
  by_cases F:x.aQ<0
  ·have s:decide (x.aQ<0)=true:=dw F;have b:=bad (by simp[within];omega);simp only[go_sem,seval,g,k,s,b]<;>simp[o,j]
  have s:decide (x.aQ<0)=false:=gB F;by_cases G:1099511627776<x.aQ
  ·have z:decide (1099511627776<x.aQ)=true:=dw G;have b:=bad (by simp[within];omega);simp only[go_sem,seval,g,k,s,z,b]<;>simp[o,j]
  have z:decide (1099511627776<x.aQ)=false:=gB G;by_cases H:x.aS<0
  ·have A:decide (x.aS<0)=true:=dw H;have b:=bad (by simp[within];omega);simp only[go_sem,seval,g,k,s,z,A,b]<;>simp[o,j]
  have A:decide (x.aS<0)=false:=gB H;by_cases J:1073741824<x.aS
  ·have E:decide (1073741824<x.aS)=true:=dw J;have b:=bad (by simp[within];omega);simp only[go_sem,seval,g,k,s,z,A,E,b]<;>simp[o,j]
  have E:decide (1073741824<x.aS)=false:=gB J;have T:(within x.aQ 0 1099511627776&&within x.aS 0 1073741824)=true:=by simp[within];omega
  rw[T,cz]at a;refine sm (a5 g k s z (a3 A E q)) ?_;refine aV ?_;refine ah.u j a ?_;exact iB
 intro _ p a;rw[jJ]at a;have a:l.all uD=true:=a.symm;have t:∀f∈l,uD f=true:=cg.1 a;have e:jL l=if l.all λf=>bA (f.aQ*f.aS)then 0 else 1:=by simp[jL,a]
 rw[e];clear e a;refine sm p ?_;clear p;refine aG.wu l.length [1,3,41,42] [64,688] (λi=>[(43,.I i),(10,.ref 1344)]) (λi=>[(1344,.own 4 (((l.take i).flatMap (vl w n long)).map aE.cells))]) (λi=>((l.drop i).all λf=>bA (f.aQ*f.aS))=l.all λf=>bA (f.aQ*f.aS)) rfl ?_ ?_ ?_
 ·exact jh
 ·intro i _ j g q a;have k:=aM (c:=dX.cells) l j;have o:(i:Int)<(l.length:Int):=aj
  have r:=gU (vl w n long) j;have D:=gJ (f:=vl w n long) (m:=2) (λf=>by simp[vl]) (l.take i);have hlt:(l.take i).length=i:=by simp;omega
  have y:=t _ (dH j);obtain⟨L,S⟩:=aL ((l.take i).flatMap (vl w n long));obtain⟨x,v⟩:=aL (l[i]);rw[<-S]at r D |-;rw[dI j,<-v,all_cons]at a;rw[<-v]at r k y;simp only[uD,within,cU,bO]at y;have c1:=oG x.aQ x.aS ⟨by omega,by omega⟩ ⟨by omega,by omega⟩;simp only[vl]at r;obtain⟨C,R⟩:=aL (x.aQ*x.aS);rw[<-R]at c1 a r;have c2:=oZ C;simp only[wd]at c1 c2;simp only[dX.cells]at k;obtain⟨B,M⟩:=aL (bA C);rw[<-M]at c2 a;refine sc (a2 g k) c1 ?_;cases B
  ·rw[dU]at a;rw[<-a];simp only[iI,if_false]at c2;refine az.aP c2 ?_;refine s0 ?_;all_goals simp
  have hCr:=bf.1 M.symm;rw[cz]at a;have w1:IntKind.wrap .i64 (0-x.aQ) = -x.aQ:=fU;have N:IntKind.wrap .i64 (0-C) = -C:=fU;have O:IntKind.wrap .i64 (0 - -x.aQ) = - -x.aQ:=fU;have Q:IntKind.wrap .i64 (0 - -C) = - -C:=fU;simp only[if_true]at c2;refine sc aK c2 ?_;cases long
  ·simp only[xG,iI,if_false]at r;simp only[go_sem,seval,k,w1,N,O,Q,q,if_true];refine aV ?_;refine ah.u j a ?_;exact gH r
  ·simp only[xG,if_true]at r;simp only[go_sem,seval,k,w1,N,O,Q,q,if_true];refine aV ?_;refine ah.u j a ?_;exact gH r
 ·intro _ p a;rw[jJ]at a;rw[<-a];simp only[go_sem,seval,p,eU]
  and_intros<;>first|exact .dq|omega|skip
  all_goals simp
def I5(l:List aE):Int:=if right (l.map aE.aQ)&&right (l.map aE.cost)then(if bA (aC (l.map aE.aQ))&&bA (aC (l.map aE.cost))then 0 else 1)else 3
def tsQ(l:List aE):Int:=if I5 l=0 then aC (l.map aE.aQ)else 0
def tsC(l:List aE):Int:=if I5 l=0 then aC (l.map aE.cost)else 0
def Ox{A:Type}(f:A->Int){xs:List A}{i:Nat}(h:i<xs.length):ints ((xs.take (i+1)).map f)=ints ((xs.take i).map f)++[[.I (f xs[i])]]:=by
 rw[j7 h,jv];simp only[ints,jv];rfl
def Nz(l:List aE)(hl:l.length<2^30):Sq 348 [] [.sl 4 (l.map aE.cells)] [] (.bD [.I (tsQ l),.I (tsC l),.I (I5 l)]):=by
 have r1:=eH (l.map aE.aQ) (by simp;omega);have r2:=eH (l.map aE.cost) (by simp;omega);have s1:=ju (l.map aE.aQ) (by simp;omega);have s2:=ju (l.map aE.cost) (by simp;omega);obtain⟨q,m⟩:=aL (tsQ l);obtain⟨c,j⟩:=aL (tsC l);obtain⟨e,k⟩:=aL (I5 l);rw[<-m,<-j,<-k];refine aX 52 1 [.tmp 2,.tmp 3,.tmp 4] mixed func348 ?_;refine s0 ?_;refine aG.wv l.length [9,10] [176] (λi=>[(11,.I i),(5,.ref 320),(6,.ref 400)]) (λi=>[(320,.own 1 (ints ((l.take i).map aE.aQ))),(400,.own 1 (ints ((l.take i).map aE.cost)))]) ?_ ?_ ?_
 ·simp only[go_sem,seval]<;>simp[ints]
 ·intro i _ o p u _;have t:=aM (c:=aE.cells) l o;have s1:=Ox aE.aQ o;have s2:=Ox aE.cost o;have s:(l.take i).length=i:=by simp;omega
  obtain⟨x,w⟩:=aL (l[i]);rw[<-w]at t s1 s2;simp only[aE.cells]at t;simp only[go_sem,seval,p,t,u,aA,s];refine aV ?_;refine ah.v o ?_;exact eo (a2 s1 s2)
 ·intro _ r _;rw[pY,oF]at s1 s2;obtain⟨R,a⟩:∃b,b=right (l.map aE.aQ):=⟨_,rfl⟩
  obtain⟨T,f⟩:∃b,b=right (l.map aE.cost):=⟨_,rfl⟩
  obtain⟨I,g⟩:∃b,b=bA (aC (l.map aE.aQ)):=⟨_,rfl⟩
  obtain⟨J,h⟩:∃b,b=bA (aC (l.map aE.cost)):=⟨_,rfl⟩
  rw[<-a]at r1 s1;rw[<-f]at r2 s2;rw[<-g]at s1;rw[<-h]at s2;simp only[go_sem,seval,r,eU];cases R
  ·rw[show q=0 by rw[m,tsQ,I5,<-a];rfl,show c=0 by rw[j,tsC,I5,<-a];rfl,show e=3 by rw[k,I5,<-a];rfl];refine X6 aK r1
  refine sl aK r1 ?_;cases T
  ·rw[show q=0 by rw[m,tsQ,I5,<-a,<-f];rfl,show c=0 by rw[j,tsC,I5,<-a,<-f];rfl,show e=3 by rw[k,I5,<-a,<-f];rfl];refine X6 aK r2
  refine sl aK r2 ?_;cases I
  ·rw[show q=0 by rw[m,tsQ,I5,<-a,<-f,<-g];rfl,show c=0 by rw[j,tsC,I5,<-a,<-f,<-g];rfl,show e=1 by rw[k,I5,<-a,<-f,<-g];rfl];refine X6 aK s1
  refine sl aK s1 ?_;cases J
  ·rw[show q=0 by rw[m,tsQ,I5,<-a,<-f,<-g,<-h];rfl,show c=0 by rw[j,tsC,I5,<-a,<-f,<-g,<-h];rfl,show e=1 by rw[k,I5,<-a,<-f,<-g,<-h];rfl];refine X6 aK s2
  rw[show q=aC (l.map aE.aQ)by rw[m,tsQ,I5,<-a,<-f,<-g,<-h];rfl,show c=aC (l.map aE.cost)by rw[j,tsC,I5,<-a,<-f,<-g,<-h];rfl,show e=0 by rw[k,I5,<-a,<-f,<-g,<-h];rfl];exact X6 aK s2
def Se(b:aJ)(w n:Int)(p:b.small):Sq 280 [] [.agg b.cells,.agg [.I w,.I n]] [] (.agg (posOf w n b.qs).cells):=by
 obtain⟨h1,h2⟩:=p;simp only[aJ.cells];refine aX 22 2 [.cell 4 58] mixed func280 ?_;refine s0 ?_;refine aG.w1 b.qs.length 10 [3,4,8,9] [48,64,80,160] (λi _=>posOf w n (b.qs.drop i)=posOf w n b.qs) rfl ?_ ?_
 ·intro i _ k f j a;have h:=aM (c:=aE.cells) b.qs k;have hli:(i:Int)<(b.qs.length:Int):=aj
  obtain⟨x,o⟩:=aL (b.qs[i]);rw[dI k,<-o]at a;rw[<-o]at h;simp only[posOf,cZ]at a;simp only[aE.cells]at h;cases g:x.who==w
  ·simp only[g,dU,iI,if_false]at a;refine sm (a4 f h g j) ?_;refine aV ?_;refine ah.u k a ?_;exact iB
  cases l:x.inst==n
  ·simp only[g,l,Bool.and_false,iI,if_false]at a;refine sm (a5 f h g l j) ?_;refine aV ?_;refine ah.u k a ?_;exact iB
  simp only[g,l,Bool.and_self,if_true]at a;rw[<-a];refine sm (a4 f h g l) ?_;exact RS
 ·intro _ m a;rw[jJ]at a;rw[<-a];simp only[go_sem,seval,m,posOf]
def A9{A:Type}(p:A->Bool){xs:List A}{i:Nat}(h:i<xs.length):(xs.take (i+1)).filter p=(xs.take i).filter p++(if p xs[i]then[xs[i]]else[]):=by
 rw[j7 h,pL];congr 1;by_cases a:p xs[i]=true<;>simp[a]
def Ms(w n:Int)(P L:List aE):List aE:=P.filter (cZ w n)++L.filter (cZ w n)
def jnE(w n:Int)(P L:List aE):Int:=if I5 (Ms w n P L)==0&&within (tsQ (Ms w n P L)) (-1099511627776) 1099511627776 then 0 else 1
def jnP(w n:Int)(P L:List aE):aE:=if jnE w n P L=0 then⟨w,n,tsQ (Ms w n P L),tsC (Ms w n P L)⟩else⟨0,0,0,0⟩
def Tl(w n:Int)(P L:List aE)(hP:P.length<2^28)(hL:L.length<2^28):Sq 320 [] [.agg [.I w,.I n],.sl 4 (P.map aE.cells),.sl 4 (L.map aE.cells)] [] (.bD [.agg (jnP w n P L).cells,.I (jnE w n P L)]):=by
 have z:(Ms w n P L).length<2^30:=by
  have:=length_filter_le (cZ w n) P;have:=length_filter_le (cZ w n) L;simp only[Ms,ct];omega
 have hS:=Nz (Ms w n P L) z;obtain⟨a,g⟩:∃a:List (List aE),a=[P,L]:=⟨_,rfl⟩
 have m:([[D.sl 4 (P.map aE.cells)],[.sl 4 (L.map aE.cells)]]:List (List D))=a.map λl=>[.sl 4 (l.map aE.cells)]:=by rw[g];rfl
 have two:a.length=2:=by rw[g];rfl
 have j:a.flatMap (λl=>l.filter (cZ w n))=Ms w n P L:=by rw[g];simp[Ms]
 have Q:∀l∈a,l.length<2^28:=by rw[g];intro l F;simp at F;rcases F with rfl|rfl<;>assumption
 have A:∀i,((a.take i).flatMap (λl=>l.filter (cZ w n))).length<=(Ms w n P L).length:=by
  intro i;rw[<-j]
  conv=>rhs;rw[<-n5 i a]
  rw[flatMap_append,ct];omega
 refine aX 61 3 [.cell 6 58,.tmp 7] mixed func320 ?_;refine sm m ?_;clear m;refine aG.wv 2 [3,6,18,19] [64,112,304,320] (λi=>[(20,.I i),(8,.ref 608)]) (λi=>[(608,.own 4 (((a.take i).flatMap λl=>l.filter (cZ w n)).map aE.cells))]) ?_ ?_ ?_
 ·exact jh
 ·intro i _ hi o X _;have hi2:i<a.length:=aj
  have S:(i:Int)<2:=aj
  have o:decide ((i:Int)<2)=true:=o;have hm:=aM (c:=λl:List aE=>[D.sl 4 (l.map aE.cells)]) a hi2;have M:(a.take (i+1)).flatMap (λl=>l.filter (cZ w n))=(a.take i).flatMap (λl=>l.filter (cZ w n))++a[i].filter (cZ w n):=by
   rw[j7 hi2,flatMap_append,flatMap_singleton]
  have T:=A i;have R:=Q a[i] (dH _);obtain⟨J,N⟩:=aL ((a.take i).flatMap (λl=>l.filter (cZ w n)));obtain⟨l,F⟩:=aL (a[i]);rw[<-F]at hm M R;rw[<-N]at M T |-;simp only[go_sem,seval,o,hm,two];refine⟨S,hi,?_⟩;refine aG.wv l.length [3,6,18,19,20,24,25] [64,112,304,320,416] (λk=>[(26,.I k),(8,.ref 608)]) (λk=>[(608,.own 4 ((J++(l.take k).filter (cZ w n)).map aE.cells))]) ?_ ?_ ?_
  ·exact jh
  ·intro k _ y b p _;have hlk:(k:Int)<(l.length:Int):=aj
   have f:=aM (c:=aE.cells) l y;have h:=A9 (cZ w n) y;have hfl:=length_filter_le (cZ w n) (l.take k);have hlt:(l.take k).length=k:=by simp;omega
   obtain⟨V,O⟩:=aL (J++(l.take k).filter (cZ w n));have hVl:V.length<2^31:=by rw[O,ct];omega
   obtain⟨x,hx⟩:=aL (l[k]);have h:J++(l.take (k+1)).filter (cZ w n)=V++(if cZ w n x then[x]else[]):=by rw[h,O,hx,dS]
   rw[<-hx]at f;rw[<-O];simp only[cZ]at h;simp only[aE.cells]at f;cases r:x.who==w
   ·simp only[r,dU,iI,if_false,append_nil]at h;refine sm (a4 b f r p) ?_;refine aV ?_;refine ah.v y ?_;simp only[go_sem,seval,cZ,h]
   cases G:x.inst==n
   ·simp only[r,G,Bool.and_false,iI,if_false,append_nil]at h;refine sm (a5 b f r G p) ?_;refine aV ?_;refine ah.v y ?_;simp only[go_sem,seval,cZ,h]
   simp only[r,G,Bool.and_self,if_true]at h;refine sm (a5 b f r G p) ?_;refine aV ?_;refine ah.v y ?_;simp only[go_sem,seval,cZ,h]<;>simp
  ·intro _ b _;simp only[go_sem,seval,b,X,eU];refine aV ?_;refine ah.v hi ?_;exact eo M
 ·intro _ s _;have s:decide ((2:Int)<2)=false:=rfl;have t:decide (((2:Nat):Int)<2)=false:=rfl;have u:decide (((2:Nat):Int)<((2:Nat):Int))=false:=rfl;have W:a.take 2=a:=take_of_length_le aj;obtain⟨q,U⟩:=aL (tsQ (Ms w n P L));obtain⟨c,hc⟩:=aL (tsC (Ms w n P L));obtain⟨e,he⟩:=aL (I5 (Ms w n P L));have hE:jnE w n P L=if e==0&&within q (-1099511627776) 1099511627776 then 0 else 1:=by rw[jnE,<-he,<-U]
  rw[<-U,<-hc,<-he]at hS;simp only[jnP];rw[<-U,<-hc,hE];simp only[go_sem,seval,two,s,t,u,W,j];refine sl aK hS ?_;cases E:e==0
  ·exact gH (a2 dV E)
  by_cases Y:q < -1099511627776
  ·have C:decide (q < -1099511627776)=true:=dw Y;have B:within q (-1099511627776) 1099511627776=false:=by simp[within];omega
   exact gH (a4 dV E C B)
  have C:decide (q < -1099511627776)=false:=gB Y;by_cases Z:1099511627776<q
  ·have H:decide (1099511627776<q)=true:=dw Z;have B:within q (-1099511627776) 1099511627776=false:=by simp[within];omega
   exact gH (a5 dV E C H B)
  have H:decide (1099511627776<q)=false:=gB Z;have B:within q (-1099511627776) 1099511627776=true:=by simp[within];omega
  exact gH (a5 dV E C H B)
theorem u5{w n:Int}:∀{qs:List aE},(∃p∈qs,p.who=w/\p.inst=n)->posOf w n qs∈qs/\(posOf w n qs).who=w/\(posOf w n qs).inst=n
 | [],h=>by obtain⟨_,h,_⟩:=h;cases h
 |p::r,h=>by
  simp only[posOf];split
  ·rename_i a;simp only[cZ,cU,fE]at a;exact⟨by simp,a⟩
  ·rename_i a;simp only[cZ,cU,fE]at a;obtain⟨x,b,c⟩:=h;rcases mem_cons.1 b with rfl|b
   ·exact absurd c a
   ·obtain⟨f,g⟩:=u5 ⟨x,b,c⟩;exact⟨by simp[f],g⟩
def acw(q n:Int)(p:aE):sP q n p=(p.inst==n&&decide (gG q 0*p.aQ<0))/\(sP q n p=true -> -gG q 0*p.aQ=max p.aQ (-p.aQ)):=by
 have c:(gG q 0 = -1/\q<0)\/(gG q 0=0/\q=0)\/(gG q 0=1/\0<q):=by unfold gG;repeat' split<;>omega
 rcases c with⟨h,b⟩| ⟨h,b⟩| ⟨h,b⟩<;>rw[h]<;>refine⟨?_,λa=>?_⟩
 ·rw[sP,lZ];simp;omega
 ·simp[sP]at a;omega
 ·rw[sP,lZ];simp;omega
 ·simp[sP]at a;omega
 ·rw[sP,lZ];simp;omega
 ·simp[sP]at a;omega
def adm(b:aJ)(w n k:Int)(hb:b.small)(hq:b.qs.length<2^20):Sq 219 [] [.agg b.cells,.agg [.I w,.I n],.I k] [.own 3 ((kG b w n k).map dX.cells)] (.bD [.ref 0,.I (j4 b w n k)]):=by
 have c1:=oc b hb;have c2:=Se b w n hb;have c3:=jE (posOf w n b.qs).aQ 0;simp only[aJ.cells,aE.cells]at c1 c2 |-;refine aX 109 3 [.tmp 6,.tmp 7] mixed func219 ?_;refine sc aK c1 ?_;cases E:b.okB
 ·have e:j4 b w n k=14:=by simp[j4,E]
  simp only[go_sem,seval,kG,e]<;>simp
 by_cases k1:k<0
 ·have G:decide (k<0)=true:=dw k1;have e:j4 b w n k=3:=by
   have:within k 0 1099511627776=false:=by simp[within];omega
   simp[j4,E,this]
  simp only[go_sem,seval,G,kG,e]<;>simp
 have G:decide (k<0)=false:=gB k1;by_cases k2:1099511627776<k
 ·have d2:decide (1099511627776<k)=true:=dw k2;have e:j4 b w n k=3:=by
   have:within k 0 1099511627776=false:=by simp[within];omega
   simp[j4,E,this]
  simp only[go_sem,seval,G,d2,kG,e]<;>simp
 have d2:decide (1099511627776<k)=false:=gB k2;have b2:within k 0 1099511627776=true:=by simp[within];omega
 have e:j4 b w n k=if aC (kk (posOf w n b.qs).aQ n b.qs)<k then 13 else 0:=by simp[j4,E,b2]
 have D:=λp C=>BB (AK E p C);simp only[kG];rw[e];obtain⟨Q,hQ⟩:=aL ((posOf w n b.qs).aQ);rw[<-hQ]at c3 c2 |-;refine sc (a2 G d2) c2 ?_;refine sc aK c3 ?_;have hσ:gG Q 0 = -1\/gG Q 0=0\/gG Q 0=1:=by
  unfold gG;repeat' split
  all_goals omega
 have S:=acw Q n;obtain⟨σ,ai⟩:=aL (gG Q 0);rw[<-ai]at hσ S |-;have wσ:IntKind.wrap .i64 (0-σ) = -σ:=fU;refine aG.wv b.qs.length [2,4,9,36,37] [64,80,560,608] (λi=>[(38,.I i),(10,.ref 976),(11,.ref 1104),(12,.I (aC (kk Q n (b.qs.take i))))]) (λi=>[(976,.own 1 (ints (uv Q n (b.qs.take i)))),(1104,.own 1 (ints (kk Q n (b.qs.take i))))]) ?_ ?_ ?_
 ·simp only[go_sem,seval]<;>simp[uv,kk,pick,ints,aC]
 ·intro i _ j g o _;have z:=aM (c:=aE.cells) b.qs j;have C:=D _ (dH j);have u:ints (uv Q n (b.qs.take (i+1)))=_:=ga (sP Q n) aE.who j;have t:ints (kk Q n (b.qs.take (i+1)))=_:=ga (sP Q n) (λp=>max p.aQ (-p.aQ)) j;have a:kk Q n (b.qs.take (i+1))=kk Q n (b.qs.take i)++(if sP Q n b.qs[i]then[max b.qs[i].aQ (-b.qs[i].aQ)]else[]):=by
   rw[j7 j,kk,kk,pick,pick,flatMap_append,flatMap_singleton]
  have N:=bR (sP Q n) aE.who (b.qs.take i);have O:=bR (sP Q n) (λp=>max p.aQ (-p.aQ)) (b.qs.take i);have hlt:(b.qs.take i).length=i:=by rw[gh];omega
  have ak:=yP (B:=1099511627776) (by decide) (l:=kk Q n (b.qs.take i)) (lB λp C=>by have:=D p (mem_of_mem_take C);omega);obtain⟨x,U⟩:=aL (b.qs[i]);rw[<-U]at z C u t a;obtain⟨o1,o2⟩:=S x;have wm:IntKind.wrap .i64 (σ*x.aQ)=σ*x.aQ:=by
   rcases hσ with h|h|h<;>rw[h]<;>rw[gx aj aj]
  have am:IntKind.wrap .i64 (-σ*x.aQ) = -σ*x.aQ:=by
   rcases hσ with h|h|h<;>rw[h]<;>rw[gx aj aj]
  simp only[aE.cells]at z;have N:(uv Q n (b.qs.take i)).length<=i:=by unfold uv;omega
  have O:(kk Q n (b.qs.take i)).length<=i:=by unfold kk;omega
  obtain⟨W,J⟩:=aL (uv Q n (b.qs.take i));obtain⟨V,H⟩:=aL (kk Q n (b.qs.take i));have u:ints (uv Q n (b.qs.take (i+1)))=ints W++(if sP Q n x then[[.I x.who]]else[]):=by rw[u,J];rfl
  have t:ints (kk Q n (b.qs.take (i+1)))=ints V++(if sP Q n x then[[.I (max x.aQ (-x.aQ))]]else[]):=by rw[t,H];rfl
  rw[<-H]at a ak O |-;rw[<-J]at N |-
  by_cases Y:sP Q n x=true
  ·rw[au Y]at u t a;have o2:=o2 Y;rw[o1,cU]at Y;obtain⟨X,q2⟩:=Y;have al:aC (kk Q n (b.qs.take (i+1)))=aC V+max x.aQ (-x.aQ):=by rw[a,rO]
   have wa:IntKind.wrap .i64 (aC V+max x.aQ (-x.aQ))=aC V+max x.aQ (-x.aQ):=gx aj aj;have wq:IntKind.wrap .i64 (max x.aQ (-x.aQ))=max x.aQ (-x.aQ):=gx aj aj;simp only[go_sem,seval,g,z,X,q2,wm,wσ,am,o2,wq,wa,aA,o];refine aV ?_;refine ah.v j ?_;exact eo (a3 u t al)
  ·have qf:sP Q n x=false:=su Y;rw[qf]at u t a o1;simp only[iI,if_false,append_nil]at u t a;cases X:x.inst==n
   ·refine sm (a4 g z X o) ?_;refine aV ?_;refine ah.v j ?_;exact eo (a3 u t a)
   ·rw[X,cz]at o1;simp only[go_sem,seval,g,z,X,wm,<-o1,o];refine aV ?_;refine ah.v j ?_;exact eo (a3 u t a)
 intro _ y _;rw[eU];have s:(uv Q n b.qs).length=(kk Q n b.qs).length:=Cl _ _ _ _;have ae:(kk Q n b.qs).length<=b.qs.length:=bR _ _ _;have h128:=vg E;have A:∀x∈kk Q n b.qs,0<=x/\x<=1099511627776:=lB λp C=>by have:=D p C;omega
 obtain⟨ns,R⟩:=aL (kk Q n b.qs);obtain⟨ws,T⟩:=aL (uv Q n b.qs);rw[<-R]at s ae A |-;rw[<-T]at s |-;clear R T e c1 c2;by_cases Z:aC ns<k
 ·have d:decide (aC ns<k)=true:=dw Z;simp only[go_sem,seval,y,d,au Z]<;>simp
 have d3:decide (aC ns<k)=false:=gB Z;have c4:=Pr k ns aj;have af:=oE k ns;have hE:jt k ns=0:=by
  rw[G1];have hg:j9 k ns=0:=by
   have h1:right ns=true:=cg.2 λx U=>by rw[bf];have:=A x U;omega
   have h2:vI ns=true:=cg.2 λx U=>by have:=A x U;simp;omega
   have h3:bA k=true:=by rw[bf];omega
   simp only[j9,G,h1,h2,h3,aq (by omega:¬ 1024<ns.length)];rfl
  rw[au hg];split
  ·rw[au aj]
  ·rfl
 rw[hE]at c4;simp only[aq Z];obtain⟨ps,ag⟩:=aL (cy k ns);rw[<-ag]at c4 af |-;refine sl (a2 y d3) c4 ?_;simp only[go_sem,seval,aA];refine⟨λr hr d hd=>?_,?_⟩
 ·obtain⟨v,_,rfl⟩:=mem_map.1 hr;obtain rfl:=iD.1 hd;trivial
 refine aG.wv ps.length [10,89,90] [976,1344] (λi=>[(91,.I i),(16,.ref 1712)]) (λi=>[(1712,.own 3 ((n6 (pZ ws ps) i).map dX.cells))]) ?_ ?_ ?_
 ·simp only[go_sem,seval,l9]<;>simp
 ·intro i _ j g o _;have M:i<ws.length:=aj
  have z:=ints_at ps j;have ad:=ints_at ws M;have aa:ps.getD i 0=ps[i]:=by simp[j]
  have ab:ws.getD i 0=ws[i]:=by simp[M]
  have F:=iS (pZ ws ps) i;have ac:=nS (f:=pZ ws ps) (m:=1) (λi=>by unfold pZ;split<;>simp) i;obtain⟨L,hL⟩:=aL (n6 (pZ ws ps) i);rw[<-hL]at F ac |-;simp only[pZ,aa,ab]at F;have hlw:(i:Int)<(ws.length:Int):=aj
  have hlp:(i:Int)<(ps.length:Int):=aj
  by_cases q:0<ps[i]
  ·have d:decide (0<ps[i])=true:=dw q;rw[au q]at F;simp only[go_sem,seval,aA,g,z,d,ad,o];refine aV ?_;refine ah.v j ?_;exact gH F
  ·have d:decide (0<ps[i])=false:=gB q;rw[aq q,append_nil]at F;simp only[go_sem,seval,aA,g,z,d,o];refine aV ?_;refine ah.v j ?_;exact eo F
 ·intro _ y _;simp only[go_sem,seval,aA,y,Df]
theorem mJ{A:Type}(p:A->Bool)(f:A->Int):∀l:List A,pick p f l=(l.filter p).map f
 | []=>rfl
 |x::r=>by
  have a:=mJ p f r;simp only[pick,flatMap_cons]at a |-;rw[a];by_cases h:p x=true<;>simp[h]
theorem JV(f:aE->Int){w n:Int}(c:f ⟨w,n,0,0⟩=0):∀{qs:List aE},qs.Pairwise (λx y=>lC x y=true)->aC ((qs.filter (cZ w n)).map f)=f (posOf w n qs)
 | [],_=>by rw[posOf,c];rfl
 |p::r,h=>by
  have h:=jR.1 h;by_cases a:cZ w n p=true
  ·have g:r.filter (cZ w n)=[]:=by
    rw[filter_eq_nil_iff];intro x i b;have:=sS.1 (h.1 x i);simp only[cZ,cU,fE]at a b;omega
   rw[filter_cons,au a,g,posOf,au a];simp[aC]
  ·rw[filter_cons,aq a,posOf,aq a];exact JV f c h.2
def ag2{b:aJ}{g:List aE}(h:b.okB=true)(i:g.all mK=true)(w n:Int):(aC ((Ms w n b.qs g).map aE.aQ)=CP b g w n/\aC ((Ms w n b.qs g).map aE.cost)=Mp b g w n)/\right ((Ms w n b.qs g).map aE.aQ)=true/\right ((Ms w n b.qs g).map aE.cost)=true:=by
 have hr:=dY.1 h;have f:∀p∈Ms w n b.qs g,bA p.aQ=true/\bA p.cost=true:=by
  intro p a;simp only[Ms,mem_append,mem_filter]at a;rcases a with⟨a,_⟩| ⟨a,_⟩
  ·have:=jG.1 (hr.ok p a);exact⟨by rw[bf];omega,this.2.2.2.1⟩
  ·have:=cg.1 i p a;simp only[mK,cU]at this;exact this.2
 refine⟨⟨?_,?_⟩,cg.2 ?_,cg.2 ?_⟩
 ·rw[Ms,jv,gO,JV aE.aQ rfl hr.pw,CP,mJ];rfl
 ·rw[Ms,jv,gO,JV aE.cost rfl hr.pw,Mp,mJ];rfl
 ·intro x c;obtain⟨p,a,rfl⟩:=mem_map.1 c;exact(f p a).1
 ·intro x c;obtain⟨p,a,rfl⟩:=mem_map.1 c;exact(f p a).2
def abT{b:aJ}{g:List aE}(f:b.okB=true)(h:g.all mK=true)(w n:Int):jnE w n b.qs g=if xQ b g w n then 0 else 1:=by
 obtain⟨⟨a,c⟩,h3,h4⟩:=ag2 f h w n;simp only[jnE,I5,tsQ,a,c,h3,h4,xQ];rcases Bool.eq_false_or_eq_true (bA (CP b g w n))with h5|h5<;>rcases Bool.eq_false_or_eq_true (bA (Mp b g w n))with h6|h6<;>simp[h5,h6]
def ajq{b:aJ}{g:List aE}(i:b.okB=true)(k:g.all mK=true){w n:Int}(h:xQ b g w n=true):jnP w n b.qs g=⟨w,n,CP b g w n,Mp b g w n⟩:=by
 obtain⟨⟨c,f⟩,h3,h4⟩:=ag2 i k w n;have j:=abT i k w n;rw[h,au rfl]at j;simp only[xQ,cU]at h;have a:I5 (Ms w n b.qs g)=0:=by simp[I5,c,f,h3,h4,h.1,h.2.1]
 rw[jnP,au j];simp only[tsQ,tsC,au a,c,f]
def P4(b:aJ)(h:b.small):Sq 176 [] [.agg b.cells] [.own 7 (b.ts.map aT.cells)] (.agg [.I b.next,.ref 0,.sl 4 (b.qs.map aE.cells)]):=by
 have c1:=AU b.ts h.1;have c2:=wY b.qs h.2;simp only[aJ.cells];refine aX 12 1 [.cell 2 33] mixed func176 ?_;refine so aK c1 ?_;exact lX aK c2
def akn(a b:Int):right [a,b]=(bA a&&bA b):=by simp[right]
def Zj{g:List aE}(h:g.all mK=true):qw g=Bc g:=by
 have hr:∀n,right (fB n g)=true:=λn=>cg.2 λx a=>by
  simp only[fB,mem_map,mem_filter]at a;obtain⟨p,⟨b,_⟩,rfl⟩:=a;have:=cg.1 h p b;simp only[mK,cU]at this;exact this.2.1
 have c:∀n,fB n g=pick (λp:aE=>p.inst==n) aE.aQ g:=λn=>by rw[mJ];rfl
 unfold qw Bc;congr 1;funext i;rw[lZ,Kx,hr,c];simp
def Sd(b:aJ)(g:List aE)(hb:b.small)(hq:b.qs.length<2^28)(hg:g.length<2^28):Sq 279 [] [.agg b.cells,.sl 4 (g.map aE.cells)] [.own 7 ((qW b g).ts.map aT.cells),.own 4 ((qW b g).qs.map aE.cells)] (.bD [.agg [.I (qW b g).next,.ref 0,.ref 1],.I (kR b g)]):=by
 have c1:=oc b hb;have c2:=P4 b hb;have c3:=Ky g aj;have c4:=λw n=>Tl w n b.qs g hq hg;simp only[aJ.cells]at c1 c2 |-;refine aX 86 2 [.cell 4 33,.tmp 5] mixed func279 ?_;refine sc aK c1 ?_;cases H:b.okB
 ·have e:kR b g=14:=by simp[kR,H]
  simp only[go_sem,seval,qW,e]<;>simp
 have e:kR b g=if g.all mK then(if Bc g then(if vY b g then 0 else 1)else 12)else 3:=by simp[kR,H]
 simp only[qW];rw[e];clear e c1;refine s0 ?_;refine aG.w1 g.length 22 [1,2,4,20,21] [48,80,352] (λi _=>(g.drop i).all mK=g.all mK) rfl ?_ ?_
 ·intro i _ z F Z f;have N:=aM (c:=aE.cells) g z;have hli:(i:Int)<(g.length:Int):=aj
  obtain⟨x,hx⟩:=aL (g[i]);have k1:=tJ x.who x.inst;have k2:=eH [x.aQ,x.cost] sT;rw[akn]at k2;rw[dI z,<-hx]at f;rw[<-hx]at N;simp only[all_cons,mK]at f;simp only[aE.cells]at N;simp only[ints,map_cons,map_nil]at k2;clear c2 c3 c4;obtain⟨B,hB⟩:∃q,q=vv x.who x.inst:=⟨_,rfl⟩
  obtain⟨C,p⟩:∃q,q=(bA x.aQ&&bA x.cost):=⟨_,rfl⟩
  rw[<-hB]at k1 f;rw[<-p]at k2 f;cases B
  ·have r:g.all mK=false:=by rw[<-f];rfl
   refine sc (a2 F N) k1 ?_;rw[r];refine s0 ?_;all_goals simp
  refine sc (a2 F N) k1 ?_;cases C
  ·have r:g.all mK=false:=by rw[<-f];rfl
   refine sl aK k2 ?_;rw[r];refine s0 ?_;all_goals simp
  refine sl Z k2 ?_;refine ah.u z f ?_;exact iB
 intro _ U f;rw[jJ]at f;have m:g.all mK=true:=f.symm;rw[m];rw[Zj m]at c3;have S:=λw n=>abT H m w n;have D:=λw n=>@ajq b g H m w n;clear f;refine sc U c3 ?_;cases b2:Bc g
 ·exact jh
 refine so aK c2 ?_;clear c2 c3;refine aG.wu 16 [1,2,4,9] [80,752] (λi=>[(10,.I ((i:Int)+1))]) (λi=>[(48,.box [.I b.next,.ref 752,.ref 1344]),(1344,.own 4 ((AG b g i).map aE.cells))]) (λi=>∀k<i,Eh b g (((k:Nat):Int)+1)=true) sT ?_ ?_ ?_
 ·simp only[go_sem,seval]<;>simp[AG]
 ·intro i _ z _ _ f;obtain⟨w,Q⟩:=aL ((i:Int)+1);have L:decide (w<=16)=true:=jw;have ab:IntKind.wrap .i64 (w+1)=((i+1:Nat):Int)+1:=fU;have t:AG b g (i+1)=AG b g i++Mq b g w 8:=by rw[Q];exact wA _ i
  have aa:=Ei b g i;have E:Eh b g w=false->vY b g=false:=λh=>by
   rw[vY,all_eq_false];exact⟨i,mem_range.2 z,by rw[<-Q,h];simp⟩
  obtain⟨W,hW⟩:=aL (AG b g i);rw[<-hW]at t aa |-;rw[<-Q];refine sm L ?_;refine aG.wu 8 [1,2,4,9,10] [80,752] (λj=>[(11,.I ((j:Int)+1))]) (λj=>[(48,.box [.I b.next,.ref 752,.ref 1344]),(1344,.own 4 ((W++Mq b g w j).map aE.cells))]) (λj=>∀k<j,xQ b g w (((k:Nat):Int)+1)=true) sT ?_ ?_ ?_
  ·simp only[go_sem,seval]<;>simp[Mq]
  ·intro j _ M _ _ T;obtain⟨n,O⟩:=aL ((j:Int)+1);have L:decide (n<=8)=true:=jw;have y:IntKind.wrap .i64 (n+1)=((j+1:Nat):Int)+1:=fU;have G:Mq b g w (j+1)=Mq b g w j++ID b g w n:=by rw[O];exact wA _ j
   have hnl:=PR b g w j
   have l:xQ b g w n=false->vY b g=false:=λh=>E (by
    rw[Eh,all_eq_false]
    exact⟨j,mem_range.2 M,by rw[<-O,h];simp⟩)
   have p:=c4 w n;have S:=S w n;have D:=D w n;rw[S]at p;obtain⟨V,J⟩:=aL (W++Mq b g w j);have hVl:V.length<=200:=by rw[J,ct];omega
   have a:W++Mq b g w (j+1)=V++ID b g w n:=by rw[G,J,dS]
   rw[<-J,<-O];clear J hW G t c4;cases o:xQ b g w n
   ·have l:=l o;rw[o]at p;refine sc L p ?_;refine sm l ?_;all_goals simp
   ·have D:=D o;rw[o,D]at p;simp only[aE.cells]at p;have s:∀k<j+1,xQ b g w (((k:Nat):Int)+1)=true:=λk hk2=>by
     rcases dN k j with h|h
     ·exact T k h
     ·obtain rfl:k=j:=aj
      rw[<-O];exact o
    simp only[ID]at a;obtain⟨X,hX⟩:=aL (CP b g w n);obtain⟨Y,hY⟩:=aL (Mp b g w n);rw[<-hX,<-hY]at p a;refine sc L p ?_;cases A:X==0
    ·simp only[A,dU,iI,if_false]at a;refine sm (a3 dV A y) ?_;refine aV ?_;refine ah.u M s ?_;exact gH a
    cases R:Y==0
    ·simp only[A,R,Bool.and_false,iI,if_false]at a;refine sm (a4 dV A R y) ?_;refine aV ?_;refine ah.u M s ?_;exact gH a
    simp only[A,R,Bool.and_self,if_true,append_nil]at a;refine sm (a4 dV A R y) ?_;refine aV ?_;refine ah.u M s ?_;exact eo a
  ·intro _ _ T;have v:Eh b g w=true:=cg.2 λk o=>T k (mem_range.1 o);refine sm ab ?_;refine aV ?_;refine ah.u z ?_ ?_
   ·intro k o;rcases dN k i with h|h
    ·exact f k h
    ·obtain rfl:k=i:=aj
     rw[<-Q];exact v
   ·exact eo t
 ·intro _ _ f;have v:vY b g=true:=cg.2 λk o=>f k (mem_range.1 o);exact eo v
def P3(b:aJ)(g:List aE)(a:b.small)(f:b.qs.length<2^28)(c:g.length<2^28):Sq 279 [] [.agg b.cells,.sl 4 (g.map aE.cells)] [] (.bD [.agg (qW b g).cells,.I (kR b g)]):=by
 refine Spec.frozen (Sd b g a f c) [0,1] rfl ?_;intro r;rcases r with _| _|r<;>rfl
def MI(w n:Int)(long:Bool)(l:List dX)(a:l.length<2^28):Sq 278 [] [.agg [.I w,.I n],.bool long,.sl 3 (l.map dX.cells)] [] (.bD [.sl 4 ((lR w n long l).map aE.cells),.I (jL l)]):=by
 refine Spec.frozen (Qp w n long l a) [0] rfl ?_;intro r;rcases r with _|r<;>rfl
def YW(q:Int)(l:List bn)(b:l.length<2^28)(a:jB q):Sq 217 [] [.I q,.sl 5 (l.map bn.cells)] [] (.bD [.sl 3 ((jz q l).1.map dX.cells),.I (jz q l).2,.I (mD q l)]):=by
 refine Spec.frozen (abp q l b a) [0] rfl ?_;intro r;rcases r with _|r<;>rfl
def zB:aJ:=⟨0,[],[]⟩
def Vl(b:aJ)(w n:Int)(long:Bool)(f:List dX):aJ×Int:=if jL f=0 then(qW b (lR w n long f),kR b (lR w n long f))else(zB,jL f)
def ovT(b:aJ)(w n p:Int)(long:Bool)(rest:Int):aJ×Int:=if j4 b w n rest=0 then Vl b w n long ((kG b w n rest).map (eK p))else(zB,j4 b w n rest)
def ovF(b:aJ)(w n p:Int)(long:Bool)(f:List dX)(rest:Int):aJ×Int:=if(Vl b w n long f).2=0 then ovT (Vl b w n long f).1 w n p long rest else(zB,(Vl b w n long f).2)
def ovR(s:af)(b:aJ)(w n q p:Int):aJ×Int:=
 if mD q (gQ s w n s.aZ)=0 then ovF b w n p (decide (0<q)) (jz q (gQ s w n s.aZ)).1 (jz q (gQ s w n s.aZ)).2 else(zB,mD q (gQ s w n s.aZ))
def J4(b:aJ)(w n q c:Int)(f:List dX)(g:b.small)(h:b.qs.length<2^28)(hf:f.length<2^26):Sq 218 [] [.agg b.cells,.agg [.I w,.I n,.I q,.I c],.sl 3 (f.map dX.cells)] [] (.bD [.agg (Vl b w n (decide (0<q)) f).1.cells,.I (Vl b w n (decide (0<q)) f).2]):=by
 have c1:=MI w n (decide (0<q)) f aj;have c2:=P3 b (lR w n (decide (0<q)) f) g h (by have:=Gh w n (decide (0<q)) f;omega);obtain⟨long,a⟩:=aL (decide (0<q));rw[<-a]at c1 c2 |-;simp only[Vl];simp only[aJ.cells]at c2 |-;refine aX 29 3 [.cell 6 33,.tmp 7] mixed func218 ?_;by_cases k:jL f=0
 case neg =>
  have d:(jL f==0)=false:=su k;rw[aq k];refine sc a.symm c1 ?_;simp only[go_sem,seval,bne,d,zB]<;>simp
 rw[au k];rw[k]at c1;refine sc a.symm c1 ?_;exact lX aK c2
def J7{b:aJ}(a:b.fY)(w n:Int)(long:Bool)(f:List dX):(Vl b w n long f).1.fY:=by
 unfold Vl;split
 ·exact F3 a _
 ·exact⟨⟨by simp[zB],by simp[zB]⟩,by simp[zB],by simp[zB],by simp[zB]⟩
def OU(s:af)(b:aJ)(w n q c p:Int)(hs:s.small)(Y:s.ak.okB=true)(T:b.fY)(hbl:s.aZ.length<2^20)(hq:jB q):Sq 103 [] [.agg s.cells,.agg b.cells,.agg [.I w,.I n,.I q,.I c],.I p] [] (.bD [.agg (ovR s b w n q p).1.cells,.I (ovR s b w n q p).2]):=by
 have c1:=Mb s.ak [1] hs.ak sT;have E:=λk=>w7 (iP s.ak [1]) k (by have:=td s.ak [1];have:=hs.ak.1;omega);simp only[Ou Y]at E;have U:=yU s w n s.aZ;obtain⟨R,a⟩:=aL (ovR s b w n q p);rw[<-a];simp only[ovR]at a;obtain⟨B,hB⟩:=aL (gQ s w n s.aZ);rw[<-hB]at a U;have c3:=YW q B aj hq;have V:=Od q B;obtain⟨f,hf⟩:=aL ((jz q B).1);obtain⟨rest,O⟩:=aL ((jz q B).2);rw[<-hf]at c3 V a;rw[<-O]at c3 a;have c4:=J4 b w n q c f T.small (by have:=T.short;omega) aj;have h:=J7 T w n (decide (0<q)) f;simp only[ovF]at a;obtain⟨A,m⟩:=aL ((Vl b w n (decide (0<q)) f).1);obtain⟨e1,J⟩:=aL ((Vl b w n (decide (0<q)) f).2);rw[<-m,<-J]at a c4;rw[<-m]at h;have C:=adm A w n rest h.small h.short;have S:=Px A w n rest;have hqs:=h.short;simp only[ovT]at a;obtain⟨F,hF⟩:=aL (kG A w n rest);rw[<-hF]at C S a;have D:=J4 A w n q c (F.map (eK p)) h.small aj (by rw[qO];omega);obtain⟨b2,G⟩:=aL (Vl A w n (decide (0<q)) (F.map (eK p)));obtain⟨e0,H⟩:=aL (mD q B);obtain⟨e3,N⟩:=aL (j4 A w n rest);rw[<-G]at D a;rw[<-H]at c3 a;rw[<-N]at C a;clear hf O m J hF G H N h;simp only[af.cells];simp only[ay.cells]at c1;rw[show ints [1]=[[.I 1]]from rfl]at c1;simp only[aJ.cells]at c4 C D |-;refine aX 98 4 [.cell 8 33,.tmp 9] mixed func103 ?_;refine s0 ?_;refine aV ?_;refine az.iw [352] [] false sT ?_;refine s0 ?_;refine dL.ij c1 ?_;refine s0 ?_;refine aG.wv s.aZ.length [3,5,6,8,10,24,25] [80,96,112,144,368,416] (λi=>[(26,.I i),(11,.ref 720)]) (λi=>[(720,.own 5 ((gQ s w n (s.aZ.take i)).map bn.cells))]) ?_ ?_ ?_
 ·simp only[go_sem,seval]<;>simp[gQ]
 ·intro i _ t o j _;have l:=aM (c:=bn.cells) s.aZ t;have X:(i:Int)<(s.aZ.length:Int):=aj
  have g:gQ s w n (s.aZ.take (i+1))=gQ s w n (s.aZ.take i)++_:=gU _ t;have W:=yU s w n (s.aZ.take i);have hlt:(s.aZ.take i).length=i:=by simp;omega
  obtain⟨y,Z⟩:=aL (s.aZ[i]);obtain⟨L,hL⟩:=aL (gQ s w n (s.aZ.take i));rw[<-Z]at l g;rw[<-hL]at g W |-;have E:=E y.src;simp only[F9]at g;simp only[bn.cells]at l;clear c1 c3 c4 C D a;cases k1:y.who==w
  ·simp only[k1,dU,iI,if_false,append_nil]at g;refine sm (a4 o l k1 j) ?_;refine aV ?_;refine ah.v t ?_;exact eo g
  cases k2:y.inst==n
  ·simp only[k1,k2,Bool.and_false,dU,iI,if_false,append_nil]at g;refine sm (a5 o l k1 k2 j) ?_;refine aV ?_;refine ah.v t ?_;exact eo g
  refine sc (a4 o l k1 k2) E ?_;cases k3:bF s.ak y.src==1
  ·simp only[k1,k2,k3,Bool.and_false,iI,if_false,append_nil]at g;refine sm (a2 k3 j) ?_;refine aV ?_;refine ah.v t ?_;exact eo g
  simp only[k1,k2,k3,Bool.and_self,if_true]at g;refine sm (a3 k3 l j) ?_;refine aV ?_;refine ah.v t ?_;exact gH g
 intro _ x _;rw[eU,<-hB];clear E;refine sm x ?_;refine aV ?_;refine az.iw [720] [] false sT ?_;refine s0 ?_;refine dL.ij c3 ?_;by_cases Q:e0=0
 case neg =>
  have d:(e0==0)=false:=su Q;rw[aq Q]at a;rw[a];simp only[go_sem,seval,bne,d,zB];all_goals simp
 rw[au Q]at a;rw[Q];refine sc aK c4 ?_;by_cases k1:e1=0
 case neg =>
  have d:(e1==0)=false:=su k1;rw[aq k1]at a;rw[a];simp only[go_sem,seval,bne,d,zB];all_goals simp
 rw[au k1]at a;rw[k1];refine so aK C ?_;by_cases k3:e3=0
 case neg =>
  have d:(e3==0)=false:=su k3;rw[aq k3]at a;rw[a];simp only[go_sem,seval,bne,d,zB];all_goals simp
 rw[au k3]at a;rw[k3,a];refine s0 ?_;refine aG.wv F.length [3,5,6,8,17,82] [96,112,144] (λi=>[(83,.I i)]) (λi=>[(1200,.own 3 ((qx (eK p) F i).map dX.cells))]) ?_ ?_ ?_
 ·simp only[go_sem,seval,Ch]<;>simp
 ·intro i _ t o j _;have u:=tU (eK p) F i;have l:=aM (c:=dX.cells) (qx (eK p) F i) (i:=i) aj;have r:=Bv (eK p) t;rw[ES (eK p) t]at l;obtain⟨y,Z⟩:=aL (F[i]);obtain⟨M,hM⟩:=aL (qx (eK p) F i);rw[<-Z]at l r;rw[<-hM]at l r u |-;have z:M.set i { y with aS:=p }=qx (eK p) F (i+1):=r;have X:(i:Int)<(F.length:Int):=aj
  simp only[dX.cells]at l;clear D a;refine sm (a4 u o l j) ?_;refine aV ?_;all_goals first
   |omega
   | (refine ah.v t ?_
      simp only[go_sem,seval,<-z,map_set])
 intro _ x _;rw[Bu];refine sm x ?_;refine aV ?_;refine az.iw [1200] [] false sT ?_;refine s0 ?_;refine dL.ij D ?_;refine s0 ?_;all_goals(with_reducible and_intros)<;>first|exact .dq|omega|skip
theorem T0{A:Type}(p:A->Bool)(f:A->Int):pick p f []=[]:=rfl
def IE(b:aJ)(w n:Int):CP b [] w n=(posOf w n b.qs).aQ:=by simp[CP,T0,aC]
def IC(b:aJ)(w n:Int):Mp b [] w n=(posOf w n b.qs).cost:=by simp[Mp,T0,aC]
def OZ{b:aJ}(h:b.okB=true)(w n:Int):(-1099511627776<=(posOf w n b.qs).aQ/\(posOf w n b.qs).aQ<=1099511627776)/\bA (posOf w n b.qs).cost=true:=by
 by_cases a:∃p∈b.qs,p.who=w/\p.inst=n
 ·have:=jG.1 ((dY.1 h).ok _ (u5 a).1);exact⟨this.2.2.1,this.2.2.2.1⟩
 ·rw[iW λp f c=>a ⟨p,f,c⟩];exact⟨⟨by show(-1099511627776:Int)<=0;decide,by show(0:Int)<=1099511627776;decide⟩,rfl⟩
def W6{b:aJ}(h:b.okB=true):AG b [] 16=b.qs:=by
 have g:=dY.1 h;refine Lb (no:=λp:aE=>p.who*16+p.inst) ?_ ?_ λx=>⟨λf=>?_,λf=>?_⟩
 ·refine(FZ b []).imp_of_mem λ{p q} c j hpq=>?_;obtain⟨k,m,i,u,c⟩:=uG c;obtain⟨k2,m2,hk2,hm2,j⟩:=uG j;obtain⟨rfl,-⟩:=qV c;obtain⟨rfl,-⟩:=qV j;rw[sS]at hpq;dsimp only at hpq |-;omega
 ·refine g.pw.imp_of_mem λ{p q} c j hpq=>?_;have:=jG.1 (g.ok p c);have:=jG.1 (g.ok q j);rw[sS]at hpq;omega
 ·obtain⟨k,m,i,u,f⟩:=uG f;obtain⟨e,a⟩:=qV f;rw[IE,IC]at a;by_cases r:∃p∈b.qs,p.who=(k:Int)+1/\p.inst=(m:Int)+1
  ·obtain⟨s,l,o⟩:=u5 r;have:x=posOf ((k:Int)+1) ((m:Int)+1) b.qs:=by
    rw[e,IE,IC];rcases hz:posOf ((k:Int)+1) ((m:Int)+1) b.qs with⟨a1,a2,a3,a4⟩
    rw[hz]at l o;dsimp only at l o |-;rw[l,o]
   rw[this];exact s
  ·rw[iW λp c i=>r ⟨p,c,i⟩]at a;exact absurd ⟨rfl,rfl⟩ a
 ·have i:=jG.1 (g.ok x f);have t:=tY g.pw f ⟨rfl,rfl⟩;refine mem_flatMap.2 ⟨(x.who-1).toNat,mem_range.2 aj,mem_flatMap.2 ⟨(x.inst-1).toNat,mem_range.2 aj,?_⟩⟩;rw[show(((x.who-1).toNat:Nat):Int)+1=x.who by omega,show(((x.inst-1).toNat:Nat):Int)+1=x.inst by omega];unfold ID;rw[IE,IC,t,aq (by simp only[cU,fE];exact i.2.2.2.2)];simp
def add_nil{b:aJ}(h:b.okB=true):kR b []=0/\qW b []=b:=by
 have a:kR b []=0:=by
  have c:Bc []=true:=by decide
  have e2:vY b []=true:=by
   refine cg.2 λk _=>cg.2 λm _=>?_;have:=OZ h ((k:Int)+1) ((m:Int)+1);have f:bA (posOf ((k:Int)+1) ((m:Int)+1) b.qs).aQ=true:=by rw[bf];omega
   simp only[xQ,IE,IC,f,this.2,within,cz,cU,bO];exact this.1
  simp[kR,h,c,e2]
 refine⟨a,?_⟩;rw[qW,au a,W6 h]
def T8{S:Int}(ws:List Int):∀x∈pW 0 S ws,x=0:=λx a=>by
 obtain⟨w,_,rfl⟩:=mem_map.1 a;simp
theorem aaj{l:List Int}(h:∀x∈l,x=0):aC l=0:=by
 induction l with
 |nil=>rfl
 |cons x r ih=>simp only[aC];rw[h x sT,ih λy a=>h y (by simp[a])];rfl
def WI(ws:List Int):∀x∈cy 0 ws,x=0:=by
 intro x a;unfold cy at a;split at a
 ·split at a
  ·exact(mem_replicate.1 a).2
  ·rw[aaj (T8 ws)]at a;exact T8 ws x a
 ·cases a
theorem aan{b:aJ}(h:b.okB=true)(w n:Int):j4 b w n 0=0/\kG b w n 0=[]:=by
 have h0:0<=aC (kk (posOf w n b.qs).aQ n b.qs):=by
  refine(yP (B:=1099511627776) (by decide) λx k=>?_).1;obtain⟨p,j,_,rfl⟩:=pV k;have:=jG.1 ((dY.1 h).ok p j);omega
 have c:j4 b w n 0=0:=by
  have e:within 0 0 1099511627776=true:=rfl;simp only[j4,h,e,if_true,aq (by omega:¬aC (kk (posOf w n b.qs).aQ n b.qs)<0)]
 refine⟨c,?_⟩;rw[kG,au c];have f:=WI (kk (posOf w n b.qs).aQ n b.qs);obtain⟨ps,a⟩:=aL (cy 0 (kk (posOf w n b.qs).aQ n b.qs));rw[<-a]at f |-;rw[Df,n6,flatMap_eq_nil_iff];intro i _;unfold pZ;rw[aq];rw[getD_eq_getElem?_getD];cases g:ps[i]? with
 |none=>simp
 |some x=>rw[f x (fC g)];simp
def Xr{b:aJ}{w n:Int}{long:Bool}{f:List dX}:(Vl b w n long f).2=(mO b w n long f).2/\((mO b w n long f).2=0->Vl b w n long f=mO b w n long f):=by
 unfold Vl mO;split
 ·exact⟨rfl,λ_=>rfl⟩
 ·rename_i h;exact⟨rfl,λa=>absurd a h⟩
def Z7{b:aJ}{w n:Int}{long:Bool}{f:List dX}(a:b.okB=true)(h:(mO b w n long f).2=0):(mO b w n long f).1.okB=true:=by
 unfold mO at h |-;split
 ·rename_i c;rw[au c]at h;exact W9 h
 ·exact a
def afs{s:af}{b:aJ}(x:b.okB=true){w n q:Int}(y:eG (aU s.ak n)=true):(ovR s b w n q (bC (aU s.ak n))).2=(nB s b w n q).2/\((nB s b w n q).2=0->ovR s b w n q (bC (aU s.ak n))=nB s b w n q):=by
 unfold ovR nB;rw[au y];by_cases j:mD q (gQ s w n s.aZ)=0
 case neg=>rw[aq j,aq j];exact⟨rfl,λh=>absurd h j⟩
 rw[au j,au j];obtain⟨F,v⟩:=aL (jz q (gQ s w n s.aZ));rw[<-v];obtain⟨long,i⟩:=aL (decide (0<q));rw[<-i];obtain⟨m,t⟩:=Xr (b:=b) (w:=w) (n:=n) (long:=long) (f:=F.1);unfold ovF;by_cases c:(mO b w n long F.1).2=0
 case neg =>
  rw[aq (by rw[m];exact c),aq (by rintro⟨h,_⟩;exact c h)];exact⟨m,λh=>absurd h c⟩
 rw[t c,au c];have g:=Z7 x c;obtain⟨k,a⟩:=aL ((mO b w n long F.1).1);by_cases l:F.2=0
 ·rw[aq (by rintro⟨_,h⟩;exact h l)];rw[<-a]at g;obtain⟨z,t2⟩:=aan g w n;obtain⟨o,a2⟩:=add_nil g;have e:ovT k w n (bC (aU s.ak n)) long F.2=(k,0):=by
   rw[l,ovT,au z,t2];have p:jL []=0:=by simp[jL]
   have e2:lR w n long []=[]:=by rw[lR];split<;>rfl
   rw[map_nil,Vl,au p,e2,o,a2]
  rw[<-a,e];have r:mO b w n long F.1=(k,0):=by rw[a,<-c]
  rw[r];exact⟨rfl,λ_=>rfl⟩
 ·rw[au ⟨c,l⟩,<-a];unfold ovT Au;split
  ·exact Xr
  ·rename_i u;exact⟨rfl,λh=>absurd h u⟩
def ovP(s:af)(b:aJ)(p:aE):aJ×Int:=if eG (aU s.ak p.inst)then ovR s b p.who p.inst p.aQ (bC (aU s.ak p.inst))else(zB,20)
def acI(s:af):List aE->aJ->aJ×Int
 | [],b=>(b,0)
 |p::r,b=>if(ovP s b p).2=0 then acI s r (ovP s b p).1 else(zB,(ovP s b p).2)
def H8(w:Int)(p:aE):Bool:=p.who==w&&!(p.aQ==0)
def QY(s:af)(w:Int)(l:List aE)(b:aJ):aJ×Int:=acI s (l.filter (H8 w)) b
def KZ(s:af)(w:Int)(i:Nat):List aE:=if(posOf w ((i:Int)+1) s.book.qs).aQ==0 then[]else[posOf w ((i:Int)+1) s.book.qs]
def aeQ{s:af}(h:s.book.okB=true)(w:Int):s.book.qs.filter (H8 w)=n6 (KZ s w) 8:=by
 have j:=dY.1 h;have g:∀i,∀x∈KZ s w i,x∈s.book.qs/\x.who=w/\x.inst=(i:Int)+1/\x.aQ≠0:=λi x a=>by
  unfold KZ at a;split at a
  ·cases a
  ·rename_i b;obtain rfl:=iD.1 a;have b:(posOf w ((i:Int)+1) s.book.qs).aQ≠0:=su b;by_cases r:∃p∈s.book.qs,p.who=w/\p.inst=(i:Int)+1
   ·obtain⟨c,f,m⟩:=u5 r;exact⟨c,f,m,b⟩
   ·rw[iW λp l o=>r ⟨p,l,o⟩]at b;exact absurd rfl b
 refine Lb (no:=aE.inst) ?_ (Wm (λi _=>by unfold KZ;split<;>simp) λi _ x a=>(g i x a).2.2.1) λx=>⟨λa=>?_,λa=>?_⟩
 ·refine(j.pw.filter _).imp_of_mem λ{p q} l b hpq=>?_;have c:=(mem_filter.1 l).2;have f:=(mem_filter.1 b).2;simp only[H8,cU,fE]at c f;rw[sS]at hpq;omega
 ·obtain⟨a,k⟩:=mem_filter.1 a;simp only[H8,cU,iN,fE,beq_eq_false_iff_ne]at k;have o:=jG.1 (j.ok x a);refine jf.2 ⟨(x.inst-1).toNat,by omega,?_⟩;have u:=tY j.pw a ⟨k.1,rfl⟩;unfold KZ;rw[show(((x.inst-1).toNat:Nat):Int)+1=x.inst by omega,u,aq (su k.2)];simp
 ·obtain⟨i,hi,a⟩:=jf.1 a;obtain⟨c,f,m,t⟩:=g i x a;exact mem_filter.2 ⟨c,by simp[H8,f,t]⟩
theorem Wf{s:af}{w:Int}(h:s.right)(v:1<=w/\w<=16)(u:bF s.ak w=2):∀(m i:Nat) {b:aJ},i+m=8->Ic s.ak w b s.book.ts s.ps s.calls->(∀k:Nat,i<=k->k<8->(posOf w ((k:Int)+1) b.qs).aQ=(posOf w ((k:Int)+1) s.book.qs).aQ) ->
  (acI s ((range' i m).flatMap (KZ s w)) b).2=(mo s w m i b).2/\((mo s w m i b).2=0->acI s ((range' i m).flatMap (KZ s w)) b=mo s w m i b)
 | 0,_,_,_,_,_=>⟨rfl,λ_=>rfl⟩
 |m+1,i,b,hi,hb,hq=>by
  have hb0:=dY.1 h.book;have c:=hq i (fO _) aj;rw[range'_succ,flatMap_cons];simp only[mo];by_cases j:(posOf w ((i:Int)+1) s.book.qs).aQ=0
  ·have q:KZ s w i=[]:=by rw[KZ,au (su j)]
   have e2:jA s w b ((i:Int)+1)=(b,0):=by rw[jA,au (by rw[c];simpa using j)]
   rw[q,e2,nil_append,au rfl];exact Wf h v u m (i+1) aj hb λk z r=>hq k aj r
  ·obtain⟨p,l⟩:=aL (posOf w ((i:Int)+1) s.book.qs);have q:KZ s w i=[p]:=by rw[KZ,aq (su j),l]
   have o:p.who=w/\p.inst=(i:Int)+1:=by
    by_cases x:∃p∈s.book.qs,p.who=w/\p.inst=(i:Int)+1
    ·rw[l];exact(u5 x).2
    ·rw[iW λp l B=>x ⟨p,l,B⟩]at j;exact absurd rfl j
   have e2:jA s w b ((i:Int)+1)=nB s b w ((i:Int)+1) (posOf w ((i:Int)+1) b.qs).aQ:=by rw[jA,aq (by rw[c];simpa using j)]
   have t:=UE (n:=(i:Int)+1) h v aj hb u (by rw[c];exact j);rw[q,e2,cons_append,nil_append];rw[c]at t |-;rw[<-l]at t |-;simp only[acI];have g:(ovP s b p).2=(nB s b w ((i:Int)+1) p.aQ).2/\((nB s b w ((i:Int)+1) p.aQ).2=0->ovP s b p=nB s b w ((i:Int)+1) p.aQ):=by
    unfold ovP;rw[o.1,o.2];by_cases a:eG (aU s.ak ((i:Int)+1))=true
    ·rw[au a];exact afs hb.ok a
    ·rw[aq a];unfold nB;rw[aq a];exact⟨rfl,λh=>by cases h⟩
   by_cases f:(nB s b w ((i:Int)+1) p.aQ).2=0
   ·rw[g.2 f,au f,au f];obtain⟨y,a2,a3⟩:=t f;exact Wf h v u m (i+1) aj y λk z r=>by rw[a3 _ aj aj];exact hq k aj r
   ·rw[aq (by rw[g.1];exact f),aq f];exact⟨g.1,λA=>absurd A f⟩
def afw{s:af}{w:Int}(h:s.right)(b:1<=w/\w<=16)(a:bF s.ak w=2):(QY s w s.book.qs s.book).2=(mo s w 8 0 s.book).2/\((mo s w 8 0 s.book).2=0->QY s w s.book.qs s.book=mo s w 8 0 s.book):=by
 rw[QY,aeQ h.book,n6,range_eq_range'];exact Wf h b a 8 0 rfl ⟨h.book,h.known,rfl⟩ λ_ _ _=>rfl
def JG(s:af)(b:aJ)(w:Int)(X:s.small)(A:s.ak.okB=true)(G:b.fY)(S:∀p∈b.qs,bE s.ak p.inst=true):Sq 104 [] [.agg s.cells,.agg b.cells,.I w] [.own 4 ((if tj s w b.qs then mg w b.qs else[]).map aE.cells),.own 3 ((if tj s w b.qs then qL s w b.qs else[]).map aH.cells)]
  (.bD [.agg [.I (if tj s w b.qs then b.next else 0),.sl 7 ((if tj s w b.qs then b.ts else[]).map aT.cells),.ref 0],.ref 1,.I (if tj s w b.qs then 0 else 1)]):=by
 have B:=λn=>pX s.ak n X.ak.small;have E:=uj b.ts G.small.1;have hbs:=G.small.2;obtain⟨W,R⟩:=aL (tj s w b.qs);rw[<-R];have r:∀p∈b.qs,1<=(aU s.ak p.inst).mult/\(aU s.ak p.inst).mult<=1024:=λp U=>by
  have:=EJ ((fF.1 A).2.1.1 _ (vr (S p U)).1);omega
 simp only[af.cells,aJ.cells];simp only[ay.cells]at B;clear S A;refine aX 87 3 [.cell 6 33,.tmp 7,.tmp 8] mixed func104 ?_;refine s0 ?_;refine aG.wu b.qs.length [2,3,4,6,20,21] [64,80,112] (λi=>[(7,.nil),(8,.I 0),(22,.I i),(9,.ref 944)]) (λi=>[(944,.own 3 ((qL s w (b.qs.take i)).map aH.cells))]) (λi=>tj s w (b.qs.drop i)=W) R.symm ?_ ?_ ?_
 ·simp only[go_sem,seval]<;>simp[qL]
 ·intro i _ h j k f;have m:=aM (c:=aE.cells) b.qs h;have L:(i:Int)<(b.qs.length:Int):=aj
  have M:(b.qs.take i).length=i:=by simp;omega
  have a:qL s w (b.qs.take (i+1))=qL s w (b.qs.take i)++_:=gU _ h;have J:(qL s w (b.qs.take i)).length<=1*(b.qs.take i).length:=gJ (λp=>by unfold Vd;split<;>simp) _;have z:=G.ok _ (dH h);have t:=r _ (dH h);obtain⟨x,C⟩:=aL (b.qs[i]);obtain⟨V,F⟩:=aL (qL s w (b.qs.take i));rw[dI h,<-C]at f;rw[<-C]at m a z t;rw[<-F]at a J;rw[<-F];have T:tj s w (x::b.qs.drop (i+1))=((!(x.who==w)||bA (gN x (aU s.ak x.inst).mult 0))&&tj s w (b.qs.drop (i+1))):=rfl;rw[T]at f;have o:=B x.inst;simp only[Vd]at a;obtain⟨y,N⟩:=aL (aU s.ak x.inst);rw[<-N]at o f t;simp only[<-N]at a;have O:=Mj x y.mult 0 z.1 z.2 t ⟨by omega,by omega⟩;simp only[aE.cells]at m O;simp only[aF.cells]at o;clear B r F N E;cases l:x.who==w
  ·simp only[l,iI,if_false,append_nil]at a;simp only[l,Bool.not_false,Bool.true_or,cz]at f;refine sm (a5 j m dV l k) ?_;refine aV ?_;refine ah.u h f ?_;exact gH a
  simp only[l,if_true]at a;simp only[l,Bool.not_true,Bool.false_or]at f;refine sm (a4 j m dV l) ?_;refine sc aK o ?_;refine sc aK O ?_;cases D:bA (gN x y.mult 0)
  ·rw[D,dU]at f;rw[<-f];refine sm D ?_;all_goals simp
  rw[D,cz]at f;simp only[go_sem,seval,D,k,if_true];refine aV ?_;refine ah.u h f ?_;exact gH a
 ·intro _ q f;rw[jJ]at f;have f:W=true:=f.symm;rw[f,eU];simp only[if_true];clear B r;refine sm q ?_;refine aV ?_;refine az.aP E ?_;clear E;refine s0 ?_;refine⟨B6.mk (by kernel_rfl),?_⟩;refine aG.wv b.qs.length [2,6,9,16,67,68] [80,112,944] (λi=>[(69,.I i)]) (λi=>[(272,.box [.I b.next,.sl 7 (b.ts.map aT.cells),.ref 1328]),(1328,.own 4 ((mg w (b.qs.take i)).map aE.cells))]) ?_ ?_ ?_
  ·simp only[go_sem,seval]<;>simp[mg]
  ·intro i _ h j k _;have m:=aM (c:=aE.cells) b.qs h;have L:(i:Int)<(b.qs.length:Int):=aj
   have M:(b.qs.take i).length=i:=by simp;omega
   have g:mg w (b.qs.take (i+1))=mg w (b.qs.take i)++_:=gU _ h;have H:(mg w (b.qs.take i)).length<=1*(b.qs.take i).length:=gJ (λp=>by split<;>simp) _;obtain⟨x,C⟩:=aL (b.qs[i]);obtain⟨K,Q⟩:=aL (mg w (b.qs.take i));rw[<-C]at m g;rw[<-Q]at g H;rw[<-Q];simp only[aE.cells]at m;cases l:x.who==w
   ·simp only[l,iI,if_false]at g;refine sm (a5 j m dV l k) ?_;refine aV ?_;refine ah.v h ?_;exact gH g
   ·simp only[l,if_true,append_nil]at g;refine sm (a5 j m dV l k) ?_;refine aV ?_;refine ah.v h ?_;exact gH g
  ·intro _ q _;simp only[go_sem,seval,q,eU];all_goals simp
def HW(s:af)(b:aJ)(w:Int)(g:s.small)(a:s.ak.okB=true)(c:b.fY)(f:∀p∈b.qs,bE s.ak p.inst=true):Sq 104 [] [.agg s.cells,.agg b.cells,.I w] [] (.bD [.agg (if tj s w b.qs then(⟨b.next,b.ts,mg w b.qs⟩:aJ)else zB).cells,.sl 3 ((if tj s w b.qs then qL s w b.qs else[]).map aH.cells),.I (if tj s w b.qs then 0 else 1)]):=by
 have h:=JG s b w g a c f;cases q:tj s w b.qs;all_goals
  rw[q]at h;refine Spec.frozen h [0,1] rfl ?_;intro r;rcases r with _| _|r<;>rfl
def acF{s:af}{b:aJ}(c:b.fY)(w n q p:Int):(ovR s b w n q p).1.fY:=by
 have a:zB.fY:=⟨⟨by simp[zB],by simp[zB]⟩,by simp[zB],by simp[zB],by simp[zB]⟩
 unfold ovR ovF ovT;split
 ·split
  ·split
   ·exact J7 (J7 c _ _ _ _) _ _ _ _
   ·exact a
  ·exact a
 ·exact a
def ZH(s:af)(w:Int)(x:aE)(l:List aE)(b:aJ):QY s w (x::l) b=if H8 w x then(if(ovP s b x).2=0 then QY s w l (ovP s b x).1 else(zB,(ovP s b x).2))else QY s w l b:=by
 unfold QY;rw[filter_cons];split<;>rfl
def BC(s:af)(w:Int)(F:s.small)(hq:s.book.qs.length<2^20)(ac:∀p∈s.book.qs,p.gq)(ai:s.aZ.length<2^20):Sq 39 [] [.agg s.cells,.I w] [] (.bD [.agg (kQ s w).cells,.sl 3 ((iT s w).map aH.cells),.I (jN s w)]):=by
 have c1:=kZ s.ak w F.ak.small;have c2:=kX s F;have L:=λn=>pX s.ak n F.ak.small;have cP:=λx=>Bt x;obtain⟨E,f⟩:=aL (jN s w);have a:=f;simp only[jN,Gz]at f;have m:bF s.ak w=(fj s.ak w).state:=rfl;obtain⟨mb,aa⟩:=aL (fj s.ak w);rw[<-aa]at c1 m;cases b1:bS s
 ·simp only[b1]at f c2;have e:E=14:=by rw[f];rfl
  have Q:kQ s w=zB:=by rw[kQ,<-a,e];rfl
  have T:iT s w=[]:=by rw[iT,<-a,e];rfl
  rw[<-a,Q,T,e];simp only[af.cells,aJ.cells,zB]at c2 |-;simp only[ay.cells,av.cells]at c1;refine aX 98 2 [.cell 4 33,.tmp 5,.tmp 6] mixed func39 ?_;refine sc aK c1 ?_;refine az.aP c2 ?_;refine sm dV ?_;all_goals simp
 have hr:=bU.1 b1;simp only[b1]at f c2;simp only[if_true]at f c2;cases B:gp s.ak w
 ·have U:bF s.ak w=0:=by
   by_cases h:bF s.ak w=0
   ·exact h
   ·rw[(tc hr.ak).1 h]at B;cases B
  rw[au U]at f;have e:E=10:=by rw[f];rfl
  have Q:kQ s w=zB:=by rw[kQ,<-a,e];rfl
  have T:iT s w=[]:=by rw[iT,<-a,e];rfl
  rw[<-a,Q,T,e];rw[B]at c1;simp only[af.cells,aJ.cells,zB]at c2 |-;simp only[ay.cells,av.cells]at c1;refine aX 98 2 [.cell 4 33,.tmp 5,.tmp 6] mixed func39 ?_;refine sc aK c1 ?_;refine az.aP c2 ?_;refine sm dV ?_;all_goals simp
 have U:=(tc hr.ak).2 B;rw[aq U]at f;rw[B]at c1;by_cases b3:mb.state=2
 case neg =>
  have d:(mb.state==2)=false:=su b3;have W:bF s.ak w≠2:=by rw[m];exact b3
  simp only[aq W]at f;have e:E=14:=by rw[f];rfl
  have Q:kQ s w=zB:=by rw[kQ,<-a,e];rfl
  have T:iT s w=[]:=by rw[iT,<-a,e];rfl
  rw[<-a,Q,T,e];simp only[af.cells,aJ.cells,zB]at c2 |-;simp only[ay.cells,av.cells]at c1;refine aX 98 2 [.cell 4 33,.tmp 5,.tmp 6] mixed func39 ?_;refine sc aK c1 ?_;refine az.aP c2 ?_;refine sm (a2 dV d) ?_;all_goals simp
 have d3:(mb.state==2)=true:=su b3;have l:bF s.ak w=2:=by rw[m];exact b3
 simp only[au l,if_true]at f;have hw:=(xH hr.ak U).2;obtain⟨u,g2⟩:=afw hr hw l;have g3:=QX hr hw l 8 0 (b:=s.book) rfl ⟨hr.book,hr.known,rfl⟩ (λk hk=>by omega);have am:s.book.fY:=⟨F.book,hq,ac,λp hp=>by have:=jG.1 ((dY.1 hr.book).ok p hp);exact⟨this.2.2.1,this.2.2.2.1⟩⟩
 have X:kQ s w=if E=0 then⟨(mo s w 8 0 s.book).1.next,(mo s w 8 0 s.book).1.ts,mg w (mo s w 8 0 s.book).1.qs⟩else zB:=by rw[kQ,<-a];rfl
 have Y:iT s w=if E=0 then qL s w (mo s w 8 0 s.book).1.qs else[]:=by rw[iT,<-a]
 rw[X,Y,<-a];obtain⟨G,hG⟩:=aL (mo s w 8 0 s.book);rw[<-hG]at f u g2 g3 |-;obtain⟨R,hR⟩:=aL (QY s w s.book.qs s.book);rw[<-hR]at u g2;have cO:=λb q (h1:aJ.fY b)=>OU s b w q;have hbok:=(dY.1 hr.book).ok;have j:=λ(b:aJ)(n q c p:Int)(h1:b.fY)(W:jB q)=>OU s b w n q c p F hr.ak h1 ai W;have cW:=λ(b:aJ)(h1:b.fY)(W:∀p∈b.qs,bE s.ak p.inst=true)=>HW s b w F hr.ak h1 W;clear cO a X Y hG aa m l b1 B U;simp only[af.cells,aJ.cells]at c2 j cW |-;simp only[ay.cells,av.cells]at c1 L;simp only[aF.cells]at L cP;refine aX 98 2 [.cell 4 33,.tmp 5,.tmp 6] mixed func39 ?_;refine sc aK c1 ?_;refine sc aK c2 ?_;refine sm (a2 dV d3) ?_;refine aG.rT (S:=aJ) s.book.qs.length [1,2,4,10,44,45] [48,80] (λi _=>[(5,.nil),(6,.I 0),(46,.I i)]) (λi b=>[(176,.box [.I b.next,.sl 7 (b.ts.map aT.cells),.sl 4 (b.qs.map aE.cells)])]) (λi b=>QY s w (s.book.qs.drop i) b=R/\b.fY) s.book ⟨hR.symm,am⟩ ?_ ?_ ?_
 ·exact iB
 ·rintro i b C z A ⟨g,hb⟩;have D:=aM (c:=aE.cells) s.book.qs C;have hli:(i:Int)<(s.book.qs.length:Int):=aj
  have ad:=ac _ (dH C);obtain⟨x,hx⟩:=aL (s.book.qs[i]);rw[dI C,<-hx,ZH]at g;rw[<-hx]at D ad;simp only[aE.cells]at D;clear cW hx;cases H:x.who==w
  ·have e:H8 w x=false:=by simp only[H8,H,dU]
   rw[e,aq sT]at g;refine sm (a5 z D dV H A) ?_;refine aV ?_;refine ah.jP b C ⟨g,hb⟩ ?_;exact iB
  cases q2:x.aQ==0
  case true =>
   have e:H8 w x=false:=by simp only[H8,H,q2];rfl
   rw[e,aq sT]at g;refine sm (a5 z D dV H (a2 q2 A)) ?_;refine aV ?_;refine ah.jP b C ⟨g,hb⟩ ?_;exact iB
  have e:H8 w x=true:=by simp only[H8,H,q2];rfl
  rw[e,au rfl]at g;have an:x.who=w:=su H;have M:=L x.inst;have o:ovP s b x=if eG (aU s.ak x.inst)=true then ovR s b x.who x.inst x.aQ (bC (aU s.ak x.inst))else(zB,20):=rfl;obtain⟨V,Z⟩:=aL (ovP s b x);rw[<-Z]at g o;clear Z;have N:=cP (aU s.ak x.inst);have t:=j b x.inst x.aQ x.cost (bC (aU s.ak x.inst)) hb ad.2.2.1;have ab:=acF (s:=s) hb w x.inst x.aQ (bC (aU s.ak x.inst));rw[an]at o D;obtain⟨O,hO⟩:=aL (ovR s b w x.inst x.aQ (bC (aU s.ak x.inst)));rw[<-hO]at t ab o;obtain⟨y,hy⟩:=aL (aU s.ak x.inst);rw[<-hy]at M N t o;have ao:(w==w)=true:=by simp
  clear L cP j hO hy;refine sm (a5 z D dV ao q2) ?_;refine sc aK M ?_;refine sc aK N ?_;cases q3:eG y
  ·rw[q3,aq sD]at o;subst o;have g:(zB,(20:Int))=R:=g;rw[<-g]at u;have f:E=20:=by rw[f,<-u];rfl
   rw[f];simp only[go_sem,seval,bne,q3,zB];all_goals simp
  rw[q3,au rfl]at o;subst o;simp only[go_sem,seval,q3,if_true];refine sc aK t ?_;by_cases J:V.2=0
  ·rw[au J]at g;rw[J];refine sm (a2 dV A) ?_;refine aV ?_;refine ah.jP V.1 C ⟨g,ab⟩ ?_;exact iB
  ·have d:(V.2==0)=false:=su J;rw[aq J]at g;rw[<-g]at u;have f:E=V.2:=by rw[f,<-u,aq J]
   rw[f];simp only[go_sem,seval,bne,d,aq J,zB];all_goals simp
 ·rintro b al ⟨g,hb⟩;rw[jJ]at g;have g:(b,(0:Int))=R:=g;have v:G.2=0:=by rw[<-u,<-g]
  have ag:G=(b,0):=by rw[<-g2 v,g]
  rw[au v]at f;have r:=(g3 v).1;rw[ag]at r f |-;have ae:=cW b hb λp hp=>(r.known.qs p hp).2;clear cW L cP j c1 c2;dsimp only at f |-;refine sc al ae ?_;rw[f];cases q:tj s w b.qs
  ·simp only[go_sem,seval,zB];all_goals simp
  ·refine s0 ?_;all_goals simp
def join_eq(l:List aN):yc l=(kj l,nq l):=Kj (λ_ h=>oa.2 h) uH l
def Za(l:List aN)(a:l.length<2^29):Sq 135 [] [.sl 4 (l.map aN.cells)] [.own 4 ((kj l).map aN.cells)] (.bD [.ref 0,.I (nq l)]):=by
 have:=Kl l a;rwa[join_eq]at this
def Kk(l:List aN)(a:l.length<2^29):Sq 135 [] [.sl 4 (l.map aN.cells)] [] (.bD [.sl 4 ((kj l).map aN.cells),.I (nq l)]):=by
 refine Spec.frozen (Za l a) [0] rfl ?_;intro r;rcases r with _|r<;>rfl
def V3(a b:aI)(n:Int):Sq 183 [] [.agg a.cells,.agg b.cells,.I n] [] (.sl 4 ((cr a b n).map aN.cells)):=by
 refine Spec.frozen (Zn a b n) [0] rfl ?_;intro r;rcases r with _|r<;>rfl
def EC(c:Int):Sq 221 [] [.I c] [] (.bool (within c 0 2)):=by
 refine aX 9 1 [.tmp 2] mixed func221 ?_;by_cases f:0<=c
 ·by_cases g:c<3
  ·have a:decide (0<=c)=true:=dw f;have b:decide (c<3)=true:=dw g;have e:within c 0 2=true:=by simp[within];omega
   exact eo (a3 a b e)
  ·have a:decide (0<=c)=true:=dw f;have b:decide (c<3)=false:=gB g;have e:within c 0 2=false:=by simp[within];omega
   exact eo (a3 a b e)
 ·have a:decide (0<=c)=false:=gB f;have e:within c 0 2=false:=by simp[within];omega
  exact eo (a2 a e)
def B5(ws:List Int):Bool:=nQ (λx=>within x 1 16) (λa b=>decide (a<b)) ws
def named_eq(c:Int)(ws:List Int):Bw c ws=(within c 0 2&&B5 ws):=by rw[Bw,Bool.and_comm];rfl
def CU(ws:List Int)(hl:ws.length<2^30):Sq 222 [] [.sl 1 (ints ws)] [] (.bool (B5 ws)):=by
 simp only[B5];refine aX 32 1 [.tmp 2] mixed func222 ?_;simp only[go_sem,seval,aA];refine aG.w1 ws.length 7 [0,5,6] [112] (λi _=>∀j<i,pO (λx=>within x 1 16) (λa b=>decide (a<b)) ws j=true) sT ?_ ?_
 ·intro i _ f c p v;have l:=ints_at ws f;have hil:=aA ws;have hli:(i:Int)<(ws.length:Int):=aj
  have e0:=tB (ok:=λx=>within x 1 16) (lt:=λa b:Int=>decide (a<b)) (xs:=ws) (i:=i) v;have t:pO (λx=>within x 1 16) (λa b=>decide (a<b)) ws i=false->nQ (λx=>within x 1 16) (λa b=>decide (a<b)) ws=false:=λh=>wX f h;have k:within ws[i] 1 16=false->pO (λx=>within x 1 16) (λa b=>decide (a<b)) ws i=false:=λh=>by
   rcases Nat.eq_zero_or_pos i with rfl|hpos
   ·rw[j8 (ok:=λx=>within x 1 16) (lt:=λa b:Int=>decide (a<b)) f,h]
   ·obtain⟨j,rfl⟩:∃j,i=j+1:=⟨i-1,by omega⟩
    rw[jy (ok:=λx=>within x 1 16) (lt:=λa b:Int=>decide (a<b)) f,h];rfl
  by_cases B:ws[i]<1
  ·have d:decide (ws[i]<1)=true:=dw B;have:=t (k (by simp[within];omega));simp only[go_sem,seval,aA,c,l,d,this];exact RS
  have q:decide (ws[i]<1)=false:=gB B;by_cases C:16<ws[i]
  ·have d:decide (16<ws[i])=true:=dw C;have:=t (k (by simp[within];omega));simp only[go_sem,seval,aA,c,l,q,d,this];exact RS
  have s:decide (16<ws[i])=false:=gB C;have g:within ws[i] 1 16=true:=by simp[within];omega
  rcases Nat.eq_zero_or_pos i with rfl|hpos
  ·have r:=j8 (ok:=λx=>within x 1 16) (lt:=λa b:Int=>decide (a<b)) f;have w:decide ((0:Int)<(ws.length:Int))=true:=jw;simp only[go_sem,seval,aA,w,l,q,s,p];refine aV ?_;all_goals refine ah.u f (e0 (by rw[r,g])) ?_
   all_goals simp only[go_sem,seval]
   all_goals rfl
  ·obtain⟨j,rfl⟩:∃j,i=j+1:=⟨i-1,by omega⟩
   have z:j<ws.length:=aj
   have o:IntKind.wrap .i64 (((j+1:Nat):Int)-1)=(j:Int):=fU;have r:=jy (ok:=λx=>within x 1 16) (lt:=λa b:Int=>decide (a<b)) f;have m:=ints_at ws z;have A:decide (0<((j+1:Nat):Int))=true:=jw;by_cases D:ws[j]<ws[j+1]
   ·have d:decide (ws[j+1]<=ws[j])=false:=lJ;simp only[go_sem,seval,aA,c,l,q,s,A,o,m,d,p];refine aV ?_;refine ah.u f (e0 (by rw[r,g,dw D];rfl)) ?_;exact iB
   ·have d:decide (ws[j+1]<=ws[j])=true:=jw;have:=t (by rw[r,g,gB D];rfl);simp only[go_sem,seval,aA,c,l,q,s,A,o,m,d,this];exact RS
 ·intro _ y v;have:=q9 (λj (z:j<ws.length)=>v j z);simp only[go_sem,seval,aA,y,this]
def MM(l:bu)(c:Int)(ws:List Int)(hb:l.bs.length<2^30)(hl:ws.length<2^30):Sq 223 [] [.agg l.cells,.I c,.sl 1 (ints ws)] [.own 1 (ints (cB l c ws))] (.ref 0):=by
 have f:=λa=>zh l a aj;simp only[bu.cells,aI.cells]at f |-;refine aX 26 3 [.tmp 6] mixed func223 ?_;simp only[go_sem,seval,aA];refine aG.wv ws.length [1,3,10,11] [64] (λi=>[(12,.I i),(7,.ref 384)]) (λi=>[(384,.own 1 (ints (cB l c (ws.take i))))]) ?_ ?_ ?_
 ·simp only[go_sem,seval]<;>simp[cB,ints]
 ·intro i _ k h m _;have o:=ints_at ws k;have hil:=aA ws;have hli:(i:Int)<(ws.length:Int):=aj
  have p:ints (cB l c (ws.take (i+1)))=ints (cB l c (ws.take i))++[[.I (gw ⟨3,ws[i],c⟩ l.bs)]]:=by
   rw[j7 k];simp only[cB,ints,jv,map_cons,map_nil]
  have b:(cB l c (ws.take i)).length=i:=by simp[cB];omega
  have g:=f ⟨3,ws[i],c⟩;clear f;refine sc (a2 h o) g ?_;simp only[go_sem,seval,aA,b,m];refine aV ?_;refine ah.v k ?_;exact eo p
 ·intro _ j _;simp only[go_sem,seval,aA,j,eU]
def Bg(l:bu)(c:Int)(ws:List Int)(a:l.bs.length<2^30)(b:ws.length<2^30):Sq 223 [] [.agg l.cells,.I c,.sl 1 (ints ws)] [] (.sl 1 (ints (cB l c ws))):=by
 refine Spec.frozen (MM l c ws a b) [0] rfl ?_;intro r;rcases r with _|r<;>rfl
def J2(r:ay)(ws:List Int)(h:r.jQ)(hl:ws.length<2^30):Sq 226 [] [.agg r.cells,.sl 1 (ints ws)] [.own 1 (ints (gj r ws))] (.ref 0):=by
 have c:=λn=>kZ r n h.small;simp only[ay.cells]at c |-;refine aX 29 2 [.tmp 4] mixed func226 ?_;simp only[go_sem,seval,aA];refine aG.wv ws.length [2,10,11] [48] (λi=>[(12,.I i),(5,.ref 432)]) (λi=>[(432,.own 1 (ints (gj r (ws.take i))))]) ?_ ?_ ?_
 ·simp only[go_sem,seval]<;>simp[gj,ints]
 ·intro i _ k f l _;have p:=ints_at ws k;have hil:=aA ws;have hli:(i:Int)<(ws.length:Int):=aj
  have m:ints (gj r (ws.take (i+1)))=ints (gj r (ws.take i))++[[.I (fj r ws[i]).need]]:=by
   rw[j7 k];simp only[gj,ints,jv,map_cons,map_nil]
  have b:(gj r (ws.take i)).length=i:=by simp[gj];omega
  have a:=c ws[i];obtain⟨g,o⟩:=aL (fj r ws[i]);rw[<-o]at a m;simp only[av.cells]at a;clear c;refine sc (a2 f p) a ?_;simp only[go_sem,seval,aA,b,l];refine aV ?_;refine ah.v k ?_;exact eo m
 ·intro _ j _;simp only[go_sem,seval,aA,j,eU]
def Ad(r:ay)(ws:List Int)(h:r.jQ)(a:ws.length<2^30):Sq 226 [] [.agg r.cells,.sl 1 (ints ws)] [] (.sl 1 (ints (gj r ws))):=by
 refine Spec.frozen (J2 r ws h a) [0] rfl ?_;intro r;rcases r with _|r<;>rfl
def F6{l:List Int}(h:∀n∈l,bA n=true):right l=true:=cg.2 h
def mX{l:List Int}(h:right l=true):pY l=(if bA (aC l)then aC l else 0)/\oF l=if bA (aC l)then 0 else 1:=by
 simp[pY,oF,h]
def Ae(l:bu)(c:Int)(ws:List Int)(j:l.bs.length<2^30)(hl:ws.length<2^29):Sq 110 [] [.agg l.cells,.I c,.sl 1 (ints ws)] [] (.bD [.I (lY l c ws),.I (fR l c ws)]):=by
 have c1:=tE l j;have c2:=EC c;have c3:=CU ws aj;have c4:=Bg l c ws j aj;have i:=ju (cB l c ws) (by simp[cB];omega);have a:fR l c ws=if l.okB then(if within c 0 2&&B5 ws then(if bA (aC (cB l c ws))then 0 else 1)else 3)else 14:=by rw[fR,named_eq]
 obtain⟨E,b⟩:=aL (fR l c ws);simp only[lY,<-b];rw[<-b]at a;clear b;simp only[bu.cells]at c1 c4 |-;refine aX 31 3 [.tmp 6,.tmp 7] mixed func110 ?_;refine sc aK c1 ?_;cases f:l.okB
 ·rw[f]at a;have e:E=14:=su a;rw[e];exact jh
 rw[f,au rfl]at a;refine sc aK c2 ?_;cases g:within c 0 2
 ·have e:E=3:=by rw[a,g];rfl
  rw[e];exact jh
 refine sc aK c3 ?_;cases h:B5 ws
 ·have e:E=3:=by rw[a,g,h];rfl
  rw[e];exact jh
 rw[g,h,Bool.and_self,au rfl]at a;have hr:=F6 (l:=cB l c ws) λn k=>by obtain⟨w,_,rfl⟩:=mem_map.1 k;exact qD f _
 rw[(mX hr).1,(mX hr).2]at i;refine sc aK c4 ?_;refine sc aK i ?_;rw[a];cases q:bA (aC (cB l c ws))<;>simp only[go_sem,seval,q]<;>simp
def TH{r:ay}(h:r.okB=true)(w:Int):bA (fj r w).need=true:=by
 refine xY (R:=λm:av=>bA m.need=true) (by decide) λm a=>?_;have:=V2 h m a;simp only[av.ok,cU]at this;exact this.1.2
def Bf(r:ay)(ws:List Int)(h:r.jQ)(hl:ws.length<2^29):Sq 112 [] [.agg r.cells,.sl 1 (ints ws)] [] (.bD [.I (qy r ws),.I (iO r ws)]):=by
 have c1:=kr r h.small;have c3:=CU ws aj;have c4:=Ad r ws h aj;have g:=ju (gj r ws) (by simp[gj];omega);have a:iO r ws=if r.okB then(if B5 ws then(if bA (aC (gj r ws))then 0 else 1)else 3)else 14:=by rw[iO,named_eq];simp[within]
 obtain⟨E,b⟩:=aL (iO r ws);simp only[qy,<-b];rw[<-b]at a;clear b;simp only[ay.cells]at c1 c4 |-;refine aX 23 2 [.tmp 4,.tmp 5] mixed func112 ?_;refine sc aK c1 ?_;cases c:r.okB
 ·rw[c]at a;have e:E=14:=su a;rw[e];exact jh
 rw[c,au rfl]at a;refine sc aK c3 ?_;cases f:B5 ws
 ·have e:E=3:=by rw[a,f];rfl
  rw[e];exact jh
 rw[f,au rfl]at a;have hr:=F6 (l:=gj r ws) λn i=>by obtain⟨w,_,rfl⟩:=mem_map.1 i;exact TH c w
 rw[(mX hr).1,(mX hr).2]at g;refine sc aK c4 ?_;refine sc aK g ?_;rw[a];cases q:bA (aC (gj r ws))<;>simp only[go_sem,seval,q]<;>simp
def UP{n:Int}{gs:List Int}(h0:0<=n)(h1:n<=aC gs)(h2:n<=4611686018427387904)(c:∀g∈gs,0<=g/\g<=4611686018427387904)(hl:gs.length<=1024):jt n gs=0:=by
 rw[G1];have a:j9 n gs=0:=by
  have f:right gs=true:=cg.2 λx b=>by rw[bf];have:=c x b;omega
  have e2:vI gs=true:=cg.2 λx b=>by have:=c x b;simp;omega
  have h:bA n=true:=by rw[bf];omega
  have i:decide (n<0)=false:=lJ;simp only[j9,i,f,e2,h,aq (by omega:¬ 1024<gs.length)];rfl
 rw[au a];split
 ·rw[au aj]
 ·rfl
def Be(k c n:Int)(ws gs:List Int)(he:gs.length=ws.length)(hl:ws.length<=1024)(D:∀g∈gs,0<=g/\g<=4611686018427387904):Sq 272 [] [.I k,.I c,.I n,.I (aC gs),.sl 1 (ints ws),.sl 1 (ints gs)] [] (.bD [.sl 4 ((vh k c n (aC gs) ws gs).map aN.cells),.I (tM k c n (aC gs) ws gs)]):=by
 have c0:=eH [n] sT;rw[zN]at c0;simp only[ints,map_cons,map_nil]at c0;obtain⟨b,l⟩:=aL (aC gs);rw[<-l];obtain⟨E,a⟩:=aL (tM k c n b ws gs);have j:=a;simp only[vh,<-j];clear j;simp only[tM]at a;refine aX 71 6 [.tmp 12,.tmp 13] mixed func272 ?_;by_cases G:n<0
 ·have d:decide (n<0)=true:=dw G;have e:E=3:=by rw[a,aq];simp[within];omega
  rw[e];exact gH d
 have J:decide (n<0)=false:=gB G;refine sl J c0 ?_;cases H:bA n
 ·have e:E=3:=by rw[a,aq];simp[bA,within]at H |-;omega
  rw[e];exact jh
 have hn:=bf.1 H;rw[au (by simp[within];omega)]at a;by_cases t:b<n
 ·have d:decide (b<n)=true:=dw t;rw[au t]at a;rw[a];exact gH d
 have M:decide (b<n)=false:=gB t;rw[aq t]at a;have c2:=WH n gs aj;have y:=oE n gs;have p:=L2 n gs;rw[UP aj aj aj D aj]at c2;obtain⟨ps,q⟩:=aL (cy n gs);rw[<-q]at c2 y p a |-;have hgl:=nS (f:=pM k c ws ps) (m:=1) (λi=>by simp[pM]) ps.length;have A:=Kk (v7 k c n ws ps) (by simp only[v7,length_cons];omega);have B:(if E=0 then kj (v7 k c n ws ps)else[])=kj (v7 k c n ws ps):=by
  split
  ·rfl
  ·rename_i h;simp[kj,<-a,h]
 rw[B,a];clear B a q D c0;refine sc M c2 ?_;simp only[go_sem,seval,aA];refine aG.wv ps.length [0,1,4,46,47] [] (λi=>[(48,.I i),(16,.ref 1056)]) (λi=>[(1056,.own 4 ((⟨6,0,c,n⟩::n6 (pM k c ws ps) i:List aN).map aN.cells))]) ?_ ?_ ?_
 ·simp only[go_sem,seval,l9]<;>simp
 ·intro i _ s u z _;have N:=ints_at ps s;have o:i<ws.length:=aj
  have x:=ints_at ws o;have hp:=p ps[i] (dH s);have O:IntKind.wrap .i64 (0-ps[i]) = -ps[i]:=fU;have F:(⟨6,0,c,n⟩::n6 (pM k c ws ps) (i+1):List aN)=(⟨6,0,c,n⟩::n6 (pM k c ws ps) i)++[⟨k,ws[i],c,-ps[i]⟩]:=by
   rw[iS];simp[pM,s,o]
  have hll:=nS (f:=pM k c ws ps) (m:=1) (λi=>by simp[pM]) i;obtain⟨L,C⟩:=aL ((⟨6,0,c,n⟩::n6 (pM k c ws ps) i:List aN));have hLl:L.length<=i+1:=by rw[C,length_cons];omega
  rw[<-C]at F |-;have hlw:(i:Int)<(ws.length:Int):=aj
  have hlp:(i:Int)<(ps.length:Int):=aj
  clear A;simp only[go_sem,seval,aA,u,N,x,O,z];refine aV ?_;refine ah.v s ?_;refine s0 ?_;have r:=congrArg (map aN.cells) F;simp only[jv,map_cons,map_nil]at r |-;exact r.symm
 ·intro _ w _;simp only[go_sem,seval,aA,w];refine aV ?_;refine az.iw [1056] [] false sT ?_;refine s0 ?_;refine dL.ij A ?_;exact iB
def Vc{ws:List Int}(h:B5 ws=true):ws.length<=16:=by
 have g:=(tA (lt:=λa b:Int=>decide (a<b)) (λ{a b c} h1 h2=>by simp only[bO]at h1 h2 |-;omega)).1 h;have:=Bp (λx:Int=>x) 1 17 g.2 (λa _ b _ f=>su f) (λx i=>by have:=g.1 x i;simp[within]at this;omega) (by decide);omega
def LW{l:bu}{c:Int}{ws:List Int}(h:fR l c ws=0):l.okB=true/\ws.length<=16/\lY l c ws=aC (cB l c ws):=by
 refine⟨?_,?_,by rw[lY,au h]⟩
 ·unfold fR at h;split at h
  ·assumption
  ·cases h
 ·unfold fR at h;split at h
  ·split at h
   ·rename_i a;rw[named_eq,cU]at a;exact Vc a.2
   ·cases h
  ·cases h
def Zo{r:ay}{ws:List Int}(h:iO r ws=0):r.okB=true/\ws.length<=16/\qy r ws=aC (gj r ws):=by
 refine⟨?_,?_,by rw[qy,au h]⟩
 ·unfold iO at h;split at h
  ·assumption
  ·cases h
 ·unfold iO at h;split at h
  ·split at h
   ·rename_i a;rw[named_eq,cU]at a;exact Vc a.2
   ·cases h
  ·cases h
def MK(l:bu)(c n:Int)(ws:List Int)(b:l.bs.length<2^30)(h:ws.length<2^29):Sq 184 [] [.agg l.cells,.I c,.I n,.sl 1 (ints ws)] [] (.bD [.sl 4 ((yg l c n ws).map aN.cells),.I (Bs l c n ws)]):=by
 have c1:=Ae l c ws b h;have c2:=Bg l c ws b aj;simp only[bu.cells]at c1 c2 |-;simp only[yg,Bs];refine aX 33 4 [.tmp 8,.tmp 9] mixed func184 ?_;by_cases a:fR l c ws=0
 case neg =>
  have d:(fR l c ws==0)=false:=su a;refine sc aK c1 ?_;simp only[go_sem,seval,bne,d,aq a]<;>simp
 obtain⟨k1,k2,k3⟩:=LW a
 have c3:=Be 3 c n ws (cB l c ws) (by simp[cB]) aj (λg f=>by
  obtain⟨w,_,rfl⟩:=mem_map.1 f;have:=bf.1 (qD k1 ⟨3,w,c⟩);have:=XE k1 w c
  omega)
 rw[k3,a]at c1;rw[au a,au a,k3];refine sc aK c1 ?_;refine sc aK c2 ?_;exact lX aK c3
def H7(r:ay)(c n:Int)(ws:List Int)(h:r.jQ)(f:ws.length<2^29):Sq 185 [] [.agg r.cells,.I c,.I n,.sl 1 (ints ws)] [] (.bD [.sl 4 ((oJ r c n ws).map aN.cells),.I (qZ r c n ws)]):=by
 have c1:=Bf r ws h f;have c2:=Ad r ws h aj;have c4:=EC c;simp only[ay.cells]at c1 c2 |-;simp only[oJ,qZ];refine aX 34 4 [.tmp 8,.tmp 9] mixed func185 ?_;by_cases a:iO r ws=0
 case neg =>
  have d:(iO r ws==0)=false:=su a;refine sc aK c1 ?_;simp only[go_sem,seval,bne,d,aq a]<;>simp[a]
 obtain⟨k1,k2,k3⟩:=Zo a
 have c3:=Be 2 c n ws (gj r ws) (by simp[gj]) aj (λg b=>by
  obtain⟨w,_,rfl⟩:=mem_map.1 b;have:=bf.1 (TH k1 w);have:0<=(fj r w).need:=xY (R:=λm:av=>0<=m.need) (by decide) λm i=>(uS (V2 k1 m i)).2.2.1
  omega)
 rw[k3,a]at c1;rw[au a,a,k3];refine sc aK c1 ?_;refine sc aK c4 ?_;cases b2:within c 0 2
 ·exact jh
 refine sc aK c2 ?_;exact lX aK c3
def MO{A:Type}(p:A->Bool):List A->Int
 | []=>-1
 |t::r=>if p t then 0 else if MO p r<0 then -1 else MO p r+1
theorem J9{A:Type}{p:A->Bool}:∀{xs:List A} {i:Nat} (h:i<xs.length),(∀j (b:j<xs.length),j<i->p xs[j]=false)->p xs[i]=true->MO p xs=i
 | [],i,h,_,_=>by simp at h
 |x::r,0,h,_,a=>by
  have a:p x=true:=a;simp[MO,a]
 |x::r,i+1,h,hn,a=>by
  have c:p x=false:=hn 0 sT aj;have f:=J9 (xs:=r) (i:=i) (su h) (λj b hji=>hn (j+1) (su b) aj) a;simp only[MO,c,f];rw[aq sT,aq aj];omega
theorem Gl{A:Type}{p:A->Bool}:∀{xs:List A},(∀j (a:j<xs.length),p xs[j]=false)->MO p xs = -1
 | [],_=>rfl
 |x::r,hn=>by
  have b:p x=false:=hn 0 sT;have c:=Gl (xs:=r) (λj a=>hn (j+1) (su a));simp[MO,b,c]
theorem aa2{A:Type}{p:A->Bool}:∀{l:List A},l.any p=true->∃k,∃h:k<l.length,(∀j (b:j<l.length),j<k->p l[j]=false)/\p l[k]=true
 | [],h=>by simp at h
 |x::r,h=>by
  cases a:p x
  ·rw[any_cons,a,Bool.false_or]at h;obtain⟨k,g,c,f⟩:=aa2 h;refine⟨k+1,su g,λj b hjk=>?_,f⟩;cases j with
   |zero=>exact a
   |succ j=>exact c j (su b) aj
  ·exact⟨0,by simp,λj _ h=>by omega,a⟩
def ail{A:Type}{p:A->Bool}{l:List A}(h:l.any p=false)(j:Nat)(a:j<l.length):p l[j]=false:=by
 rw[any_eq_false]at h;simpa using h _ (dH a)
def af3{A:Type}{p:A->Bool}{l:List A}{k:Nat}(hk:k<l.length)(h:∀j (a:j<l.length),j<k->p l[j]=false):(l.take k).filter (λx=>!p x)=l.take k:=by
 rw[filter_eq_self];intro x b;obtain⟨j,a,rfl⟩:=mem_iff_getElem.1 b;rw[gh]at a;rw[getElem_take,h j aj aj];rfl
def Spec.Xp{P:Program}{f:FuncId}{g ds a:List D}{d:D}(h:Abs.Spec P f g ds a d)(k:Nat){c:List D}{z:D}(T:a.getD k .undef≠.undef)(N:(CH k (uT [(0,d)] (vT 0 a))).t 0=z)
  (C:∀r,(CH k (uT [(0,d)] (vT 0 a))).o r=c.getD r .undef) (U:∀i,i<g.length->a.getD i .undef=.undef->c.getD i .undef=.undef):Abs.Spec P f g ds c z:=by
 have R:c.getD k .undef=.undef:=by rw[<-C k];simp[CH]
 refine⟨h.1,?_⟩;intro w E y p F vs A u M x hr m;refine(h.2 w E y p F vs A u M x hr m).mono ?_;rintro e w' ⟨v,rfl,o⟩;refine⟨v,rfl,o.os,o.tape,o.output,o.size,o.old,o.part,?_⟩;obtain⟨lev,own,S,G,H,I,J,L⟩:=o.rep;have Q:Inv w E y S w' lev own S (uT [(0,d)] (vT 0 a)) (λj=>if j=0 then v else Go.undef):=by
  refine⟨⟨o.os,A⟩,o.tape,o.output,o.size,o.old,o.part,G,H,λ_ _ _=>rfl,?_,?_⟩
  ·intro s;show aO _ _ (Abs.look [(0,d)] s);by_cases g:s=0
   ·subst g;simpa[Abs.look]using I
   ·simp only[Abs.look,aq g];exact .undef _
  ·intro r;show n8 _ _ _ _ _ _ r (Abs.look (vT 0 a) r);rw[rC];simpa using J r
 have b:=(Inv.frz Q k).resolve_right (λq=>T (by
  have q:Abs.look (vT 0 a) k=.undef:=q;rw[rC]at q
  simpa using q))
 refine⟨_,own,lP S k none,b.priv,b.mT,?_,?_,?_⟩
 ·have:=b.rP 0;rw[N]at this;simpa using this
 ·intro r;have:=b.objs r;rwa[C]at this
 ·intro i B l;have:i≠k:=λe=>l (by rw[e];exact R);simp only[lP,this,if_false];exact L i B λO=>l (U i B O)
def aG.ovt{a:(Exit->Env->Prop)->Env->Prop}{Q:Exit->Env->Prop}{e:Env}{T:Type}{os:T->EL}(g:Tf os)(i h:List Nat)(ts:T->EL)(I:T->Prop)(m:T->Nat)(s0:T){c b:EL}
  (j:I s0) (f:Mv e (ts s0++c) (os s0++b))
  (hr:∀s,I s->a (oC (λs=>ts s++c) (λs=>os s++b) I m s Q) (uT (ts s++c) (os s++b)))
  (l:Ag e.t i=c:=by simp only[go_sem,seval,seval]<;>exact rfl) (k:Ah e.o h=b:=by simp only[go_sem,seval,seval]<;>exact rfl):aG a Q e:=aG.yh i h ts os I m s0 j f hr l k
def fG.aiK{P:Program}{n:Nat}{e:Env}{K:Env->Prop}{ty T:TypeId}{pos:String}{after:Array Edge}{gu:Option (Nat×Bool)}{x:Operand}{z b:Nat}{i:Bool}{r lo l:Nat}{R:List (List D)}{zc:List D}(g:Tf λ_:Nat=>R)(m:fD P T=.slice z b i)(q:rd e x=.gl r z lo l)(p:e.o r=.own z R)(c:gr P T=some zc)(f:zc.length=z)(h:∀d∈zc,cE d)
  (a:lo+l<=R.length) (j:l≠0) (k:K (eV e r (.own z (splice R lo (replicate l zc))))):fG P n ⟨none,.call ⟨.builtin .clear,#[x],#[T]⟩,ty,pos,after,gu⟩ e K:=fG.Ss m q p c f h a j k
def ajm{A:Type}{W E:Prop}{C:A->Prop}(t o:List Nat)(k:Nat)(c:A->List D)(e:E)(r:∀x,C x) (h:Tg t o k->E->(∀x,C x)->(∀(l:List A)(i:Nat)(h:i<l.length),(l.map c).getD i []=c l[i])->W:=by
 intro z w r g;refine s0 ?_;refine aG.wt z cs.length (λi _=>∀j (a:j<cs.length),j<i->p cs[j]=false) (by intros;omega) ?_ ?_
 ·intro i _ s m y b;have g:=g cs i s;have hli:(i:Int)<(cs.length:Int):=aj
  have v:=r cs[i];try simp only[w]at g v
  refine sc (a2 m g) v ?_;cases f:p cs[i]
  ·refine sm (a2 f y) ?_;refine ah.u s ?_ ?_
   ·intro j a hji;rcases dN j i with h|h
    ·exact b j a h
    ·obtain rfl:j=i:=aj
     exact f
   ·exact iB
  ·simp only[go_sem,seval,f,J9 s b f]
 ·intro _ q b
  simp only[go_sem,seval,q,Gl λj a=>b j a a]):W:=h ⟨⟩ e r λ_ _ h=>aM _ h
def aiS{A:Type}(c:A->List D)(zc:List D)(W Z:List A)(N i:Nat)(a:W.take i=Z)(hN:W.length=N)(b:Z.length=i)(hl:i<=N):∃F,splice (W.map c) i (replicate (N-i) zc)=F/\F.length=N/\Z.map c++replicate (N-Z.length) zc=F:=by
 refine⟨_,?_,?_,rfl⟩
 ·rw[splice,drop_of_length_le (by rw[qO,length_replicate];omega),b,<-a,map_take,append_nil]
 ·rw[ct,qO,length_replicate];omega
def aiU{A:Type}{W E R S T:Prop}{C:A->Prop}(c:A->List D)(z:Nat)(zc:List D)(e:E)(J:∀x,C x)(c1:R)(O:S)(Q:T) (h:E->(∀x,C x)->R->S->T->Tf (λs:Nat×Nat×List A=>([(0,.own z (s.2.2.map c))]:EL))->(∀W:List A,Tf λ_:Nat=>W.map c) ->
  (∀(l:List A)(i:Nat)(u:A),l[i]?=some u->(l.map c).getD i []=c u)->(∀(W:List A)(i:Nat)(y:A),(W.map c).set i (c y)=(W.set i y).map c) ->
  (∀(W Z:List A)(N i:Nat),W.take i=Z->W.length=N->Z.length=i->i<=N->∃F,splice (W.map c) i (replicate (N-i) zc)=F/\F.length=N/\Z.map c++replicate (N-Z.length) zc=F)->W:=by
 intro ce J c1 O Q tf tr mG mS mE;obtain⟨N,b⟩:=aL (l.length);rw[<-b]at hN hB;cases ha:l.any p
 ·obtain⟨rfl,rfl⟩:=hA ha;rw[Gl (ail ha)]at c1;exact X6 aK c1
 obtain⟨k,hk,U,V⟩:=aa2 ha;obtain⟨Z,X⟩:=aL (l.filter λx=>!p x);have hB:=hB ha;rw[<-X]at hB;obtain⟨rfl,rfl⟩:=hB;rw[J9 hk U V]at c1;rw[<-b]at hk;have wk:IntKind.wrap .i64 ((k:Int)+1)=((k+1:Nat):Int):=fU;have d0:((k:Int) == -1)=false:=by simp<;>omega
 refine sl aK c1 ?_;refine sm (a2 d0 wk) ?_;refine aG.ovt tf [0,1] [] (λs=>[(5,.I ((s.1:Nat):Int)),(6,.I ((s.2.1:Nat):Int))]) (λs=>s.1<s.2.1/\s.2.1<=N/\s.2.2.length=N/\s.2.2.take s.1=(l.take s.2.1).filter (λx=>!p x)/\s.2.2.drop s.2.1=l.drop s.2.1) (λs=>N-s.2.1) (k,k+1,l) ?_ ?_ ?_
 ·refine⟨Nat.lt_succ_self _,hk,b.symm,?_,rfl⟩;show l.take k=(l.take (k+1)).filter _;rw[A9 _ aj,af3 aj U,V];simp
 ·exact iB
 rintro⟨i,j,W⟩ ⟨i1,i2,i3,i4,i5⟩;dsimp only at i1 i2 i3 i4 i5;rcases dN j N with hj|hj
 ·have B:decide ((j:Int)<(N:Int))=true:=jw;have wj:IntKind.wrap .i64 ((j:Int)+1)=((j+1:Nat):Int):=fU;have wi:IntKind.wrap .i64 ((i:Int)+1)=((i+1:Nat):Int):=fU;have q:j<l.length:=aj
  have a:=A9 (λx=>!p x) q;obtain⟨y,w⟩:=aL (l[j]);rw[<-w]at a;have hy:l[j]?=some y:=by rw[w,gF q]
  have G:W[j]?=some y:=by
   have:=congrArg (λz=>z[0]?) i5;simpa only[getElem?_drop,Nat.add_zero,hy]using this
  obtain⟨v,hv⟩:=ld (l:=W) (i:=i) aj;have M:=mG W j y G;have m2:=mG W i v hv;have m:=J y;have o:W.drop (j+1)=l.drop (j+1):=by
   have:=congrArg (drop 1) i5;simpa only[drop_drop]using this
  have t:=mS W i y;try simp only[ce]at M m2 m t
  cases Y:p y
  ·rw[Y]at m a;refine sc (a5 i3 B M m2 (a3 wj wi t)) m ?_;refine aV ?_;refine⟨(i+1,j+1,W.set i y),⟨by show i+1<j+1;omega,by show j+1<=N;omega,by show(W.set i y).length=N;rw[length_set];exact i3,?_,?_⟩,?_,by show N-(j+1)<N-j;omega⟩
   ·show(W.set i y).take (i+1)=(l.take (j+1)).filter λx=>!p x;have ht:(W.set i y).take (i+1)=W.take i++[y]:=by
     rw[take_add_one,take_set_of_le (fO _),getElem?_set_self aj];rfl
    rw[ht,i4,a];simp
   ·show(W.set i y).drop (j+1)=l.drop (j+1);rw[drop_set_of_lt aj];exact o
   ·exact iB
  ·rw[Y]at m a;refine sc (a4 i3 B M wj) m ?_;refine⟨(i,j+1,W),⟨by show i<j+1;omega,by show j+1<=N;omega,i3,?_,o⟩,?_,by show N-(j+1)<N-j;omega⟩
   ·show W.take i=(l.take (j+1)).filter λx=>!p x;rw[i4,a];simp
   ·exact iB
 ·have B:decide ((j:Int)<(N:Int))=false:=lJ;have f:W.take i=Z:=by rw[i4,X,take_of_length_le aj]
  have g:Z.length=i:=by rw[<-f,gh];omega
  have wsl:((N:Int)-((i:Nat):Int))=((N-i:Nat):Int):=aj
  refine sm (a2 i3 B) ?_;refine aV ?_;with_reducible refine fG.aiK (tr W) (r:=0) (lo:=i) (l:=N-i) O ?_ ?_ Q ?_ ?_ ?_ ?_ ?_
  ·rfl
  ·rfl
  ·rfl
  ·simp[go_sem]
  ·rw[qO];omega
  ·omega
  ·obtain⟨F,L,H,hF⟩:=mE W Z N i f i3 g aj;rw[L,hF];refine sm (a2 H g) ?_
   (with_reducible and_intros)<;>first|exact .dq|omega|skip):W:=h e J c1 O Q ⟨⟩ (λ_=>⟨⟩) (λl i u hu=>(kM (c:=c) hu hu).1) (λW i y=>by rw[map_set]) (λW Z N i=>aiS c zc W Z N i)
def aiT{A:Type}{c:A->List D}{z:Nat}{zc:List D}{p:A->Bool}{F:FuncId}{g:D}{l:List A}
  (h:∀f d,(l.any p=false->f=[.own z (l.map c)]/\d=.ref 0)->(l.any p=true->f=[.own z ((l.filter λx=>!p x).map c++replicate (l.length-(l.filter λx=>!p x).length) zc)]/\d=.gl 0 z 0 (l.filter λx=>!p x).length) ->
   Sq F [.own z (l.map c)] [.ref 0,g] f d):Sq F [.own z (l.map c)] [.ref 0,g] [.undef] (.sl z ((l.filter λx=>!p x).map c)):=by
 have a:∀i:Nat,([.undef]:List D).getD i .undef=.undef:=λi=>by rcases i with _|i<;>rfl
 cases b:l.any p
 ·have e:(l.filter λx=>!p x)=l:=by
   rw[filter_eq_self];intro x j;rw[any_eq_false]at b;have:=b x j;simp only[Bool.not_eq_true]at this;rw[this];rfl
  rw[e];exact Spec.Xp (h _ _ (λ_=>⟨rfl,rfl⟩) (λh=>by rw[b]at h;cases h)) 0 sT rfl (λr=>by rcases r with _|r<;>rfl) λi _ _=>a i
 ·have hl:=length_filter_le (λx=>!p x) l;refine Spec.Xp (h _ _ (λh=>by rw[b]at h;cases h) (λ_=>⟨rfl,rfl⟩)) 0 sT ?_ (λr=>by rcases r with _|r<;>rfl) λi _ _=>a i;show qo z 0 _ (.own z _)=_;rw[qo,au ⟨rfl,by simp⟩,drop_zero,take_left' sT]
def S9(p:Int->Bool)(g:FuncId)(w:Int)(a:∀x:Int,Sq g [] [.I x,.bG [.I w]] [] (.bool (p x)))(cs:List Int)(hc:cs.length<2^60):Sq 282 [] [.sl 1 (cs.map (λx:Int=>[D.I x])),.fn g [.bG [.I w]]] [] (.I (MO p cs)):=by
 refine aX 19 2 [.tmp 4] mixed func282 ?_;exact ajm [0,1,7] [] 8 (λx:Int=>[D.I x]) trivial a
def SD(p:Int->Bool)(g:FuncId)(w:Int)(a:∀x:Int,Sq g [] [.I x,.bG [.I w]] [] (.bool (p x)))(l:List Int)(hN:l.length<2^38):Sq 224 [.own 1 (l.map (λx:Int=>[D.I x]))] [.ref 0,.fn g [.bG [.I w]]] [.undef] (.sl 1 ((l.filter λx=>!p x).map (λx:Int=>[D.I x]))):=by
 refine aiT (zc:=[.I 0]) λhs d hA hB=>?_;have c1:=S9 p g w a l aj;refine aX 42 2 [.tmp 4] mixed func224 ?_;exact aiU (λx:Int=>[D.I x]) 1 [.I 0] aK a c1 aqs aqD
def Ta(p:iu->Bool)(g:FuncId)(w:Int)(a:∀x:iu,Sq g [] [.agg x.cells,.bG [.I w]] [] (.bool (p x)))(cs:List iu)(hc:cs.length<2^60):Sq 273 [] [.sl 3 (cs.map iu.cells),.fn g [.bG [.I w]]] [] (.I (MO p cs)):=by
 refine aX 19 2 [.tmp 4] mixed func273 ?_;exact ajm [0,1,7] [] 8 iu.cells iu.cells.eq_1 a
def SE(p:iu->Bool)(g:FuncId)(w:Int)(a:∀x:iu,Sq g [] [.agg x.cells,.bG [.I w]] [] (.bool (p x)))(l:List iu)(hN:l.length<2^38):Sq 186 [.own 3 (l.map iu.cells)] [.ref 0,.fn g [.bG [.I w]]] [.undef] (.sl 3 ((l.filter λx=>!p x).map iu.cells)):=by
 refine aiT (zc:=[.I 0,.I 0,.I 0]) λhs d hA hB=>?_;have c1:=Ta p g w a l aj;refine aX 42 2 [.tmp 4] mixed func186 ?_;exact aiU iu.cells 3 [.I 0,.I 0,.I 0] iu.cells.eq_1 a c1 aqq aqA
def S7(p:bn->Bool)(g:FuncId)(w:Int)(a:∀x:bn,Sq g [] [.agg x.cells,.bG [.I w]] [] (.bool (p x)))(cs:List bn)(hc:cs.length<2^60):Sq 274 [] [.sl 5 (cs.map bn.cells),.fn g [.bG [.I w]]] [] (.I (MO p cs)):=by
 refine aX 19 2 [.tmp 4] mixed func274 ?_;exact ajm [0,1,7] [] 8 bn.cells bn.cells.eq_1 a
def SC(p:bn->Bool)(g:FuncId)(w:Int)(a:∀x:bn,Sq g [] [.agg x.cells,.bG [.I w]] [] (.bool (p x)))(l:List bn)(hN:l.length<2^38):Sq 188 [.own 5 (l.map bn.cells)] [.ref 0,.fn g [.bG [.I w]]] [.undef] (.sl 5 ((l.filter λx=>!p x).map bn.cells)):=by
 refine aiT (zc:=[.I 0,.I 0,.I 0,.I 0,.I 0]) λhs d hA hB=>?_;have c1:=S7 p g w a l aj;refine aX 42 2 [.tmp 4] mixed func188 ?_;exact aiU bn.cells 5 [.I 0,.I 0,.I 0,.I 0,.I 0] bn.cells.eq_1 a c1 akI aqB
def DH(s:af)(w:Int):aY s w=(iP s.ak [1]).filter λx=>!(x==w):=by rw[aY,mJ];simp
def HM{s:af}(h:s.ak.okB=true)(w:Int):B5 (aY s w)=true:=by
 obtain⟨⟨f,g⟩,-,-⟩:=fF.1 h;refine(tA (lt:=λa b:Int=>decide (a<b)) (λ{a b c} f g=>by simp only[bO]at f g |-;omega)).2 ⟨λx i=>?_,?_⟩
 ·rw[DH]at i;obtain⟨m,j,-,rfl⟩:=pV (mem_filter.1 i).1;have:=uS (f m j);simp[within];omega
 ·rw[DH,iP,mJ];refine Pairwise.filter _ ?_;rw[pairwise_map];refine(g.filter _).imp λh=>su h
def Wy{l:bu}{c:Int}{ws:List Int}(a:l.okB=true)(b:within c 0 2=true)(f:B5 ws=true):fR l c ws=0\/fR l c ws=1:=by
 rw[fR,named_eq,a,b,f];simp only[if_true,Bool.and_self];split
 ·exact .inl rfl
 ·exact .inr rfl
def Zp{r:ay}{ws:List Int}(a:r.okB=true)(b:B5 ws=true):iO r ws=0\/iO r ws=1:=by
 rw[iO,named_eq,a,b,show within 0 0 2=true from rfl];simp only[if_true,Bool.and_self];split
 ·exact .inl rfl
 ·exact .inr rfl
def QT(w x:Int):Sq 225 [] [.I x,.bG [.I w]] [] (.bool (x==w)):=by
 refine aX 7 2 [.tmp 3] mixed func225 ?_;exact iB
def Hy(s:af)(w:Int)(a:s.small):Sq 111 [] [.agg s.cells,.I w] [] (.sl 1 (ints (aY s w))):=by
 have c1:=Py s.ak [1] a.ak sT;have c:=td s.ak [1];have hml:=a.ak.1;rw[DH];obtain⟨T,b⟩:=aL (iP s.ak [1]);rw[<-b]at c1 c |-;have c2:=SD (λx=>x==w) 225 w (QT w) T aj;simp only[ay.cells,ints,map_cons,map_nil]at c1;simp only[af.cells,ints];refine aX 11 2 [.tmp 4] mixed func111 ?_;refine s0 ?_;refine az.iw [128] [] false sT ?_;refine s0 ?_;refine dL.ij c1 ?_;refine s0 ?_;refine az.iw [64] [144] false sT ?_;refine s0 ?_;refine dL.ij c2 ?_;exact iB
def Po(s:af)(w c:Int)(hs:s.small)(R:s.ak.okB=true)(S:kf s.ps=true):Sq 108 [] [.agg s.cells,.I w,.I c] [] (.bD [.I (nD s w c),.I (if bA (sA s w c)then 0 else 1)]):=by
 have J:∀n,Sq 212 [] [.agg s.ak.cells,.I n] [] (.bD [.agg (qk s.ak n).cells,.bool (o7 s.ak n)]):=λn=>vM s.ak n hs.ak.small;have hll:(sx s w c).length<=s.ps.length:=bR _ _ _;have hpl:=hs.ps;have y:=Pn R S;have A:∀n∈sx s w c,0<=n:=lB λp W=>(y p W).1;have t:=FC A;have O:=ju (sx s w c) aj;have o:(∀n∈sx s w c,bA n=true)->pY (sx s w c)=nD s w c/\oF (sx s w c)=if bA (sA s w c)then 0 else 1:=λh=>mX (F6 h);have r:∀n∈sx s w c,bA n=false->bA (sA s w c)=false:=λn v l=>by
  have a1:=t n v;have a2:=A n v;rw[Bool.eq_false_iff]at l |-;intro h;rw[bf]at h;refine l (bf.2 ⟨by omega,?_⟩);have:sA s w c=aC (sx s w c):=rfl;omega
 have q:=λn=>P1 R n;have hu:=λp W=>((lN.1 S).1 p W).2;simp only[af.cells];simp only[ay.cells]at J;clear R S A t y;refine aX 61 3 [.tmp 6,.tmp 7] mixed func108 ?_;simp only[go_sem,seval,pK];refine aG.wu s.ps.length [1,2,3,16,17] [64] (λi=>[(6,.I 0),(7,.I 0),(18,.I i),(8,.ref 896)]) (λi=>[(896,.own 1 (ints (pick (vR s w c) (sy s) (s.ps.take i))))]) (λi=>∀n∈pick (vR s w c) (sy s) (s.ps.take i),bA n=true) (by simp[pick]) ?_ ?_ ?_
 ·simp only[go_sem,seval]<;>simp[pick,ints]
 ·intro i _ l z B m;have G:=oA s.ps l;have f:=Cm (vR s w c) (sy s) l;have g:=ga (vR s w c) (sy s) l;have E:=bR (vR s w c) (sy s) (s.ps.take i);have hlt:(s.ps.take i).length=i:=by simp;omega
  have hli:(i:Int)<(s.ps.length:Int):=aj
  have X:=hu _ (dH l);have j:vR s w c s.ps[i]=true->sy s s.ps[i]∈sx s w c:=λh=>mem_flatMap.2 ⟨s.ps[i],dH l,by simp[h]⟩;obtain⟨L,Y⟩:=aL (pick (vR s w c) (sy s) (s.ps.take i));obtain⟨x,hx⟩:=aL (s.ps[i]);rw[<-hx]at G f g X j;rw[<-Y]at f g E m |-;have k:=J x.bV;have U:=q x.bV;simp only[vR,sy]at f g j;obtain⟨a,T⟩:=aL (qk s.ak x.bV);rw[<-T]at k U;simp only[<-T]at f g j;have Q:=oG x.units a.c ⟨by omega,by omega⟩ ⟨by omega,by omega⟩;have N:=oZ (x.units*a.c);have D:=r (x.units*a.c);have hLl:(ints L).length<=i:=by rw[aA];omega
  obtain⟨M,hM⟩:=aL (x.units*a.c);rw[<-hM]at Q N f g j D;simp only[aD.cells]at k;simp only[wd]at Q N;clear J O q hu o r T hx Y;cases C:x.who==w
  ·simp only[C,dU,iI,if_false,append_nil]at f g;simp only[go_sem,seval,pK,z,G];refine aV ?_;refine az.aP k ?_;refine sm (a3 dV C B) ?_
   and_intros<;>first|exact .dq|omega|skip
   refine ah.u l (by rw[f];exact m) ?_;simp only[go_sem,seval,g]
  cases F:a.b==c
  ·simp only[C,F,Bool.and_false,iI,if_false,append_nil]at f g;simp only[go_sem,seval,pK,z,G];refine aV ?_;refine az.aP k ?_;refine sm (a4 dV C F B) ?_
   and_intros<;>first|exact .dq|omega|skip
   refine ah.u l (by rw[f];exact m) ?_;simp only[go_sem,seval,g]
  simp only[C,F,Bool.and_self,if_true]at f g;have j:=j (by rw[C,F];rfl);simp only[go_sem,seval,pK,z,G];refine aV ?_;refine az.aP k ?_;refine sm (a3 dV C F) ?_;refine aV ?_;refine sc aK Q ?_;refine az.aP N ?_;cases H:bA M
  ·have Z:=D j H;have e:nD s w c=0:=by rw[nD,Z];rfl
   rw[e,Z];refine sm (a2 dV H) ?_;all_goals simp
  simp only[go_sem,seval,bne,H,B,if_true]
  and_intros<;>first|exact .dq|omega|skip
  refine ah.u l (by
   rw[f];intro n v;rcases mem_append.1 v with v|v
   ·exact m n v
   ·obtain rfl:=iD.1 v
    exact H) ?_
  simp only[go_sem,seval,g]
 ·intro _ V m;rw[eU]at m;have e:pick (vR s w c) (sy s) s.ps=sx s w c:=rfl;rw[e]at m;obtain⟨e1,e2⟩:=o m;rw[e1,e2]at O;simp only[go_sem,seval,pK,V,eU,e]
  and_intros<;>first|exact .dq|omega|skip
  refine az.iw [] [] true sT ?_;simp only[go_sem,seval];refine dL.ij O ?_;simp only[go_sem,seval];all_goals(with_reducible and_intros)<;>first|exact .dq|omega|skip
def aa'(s:af)(w c b:Int)(o:s.small)(hm:s.ak.ms.length<2^27):Sq 41 [] [.agg s.cells,.I w,.I c,.I b] [.own 1 (ints (gC s w c b))] (.bD [.I (gm s w c b),.ref 0,.I (lp s w c b)]):=by
 have c1:=kZ s.ak w o.ak.small;have c2:=kX s o;have c4:=eH [b] sT;rw[zN]at c4;have r:=λa=>zh s.bp a (by have:=o.bp;omega);have T:=Hy s w o;have ab:=wE s w;have U:=Ae s.bp c (aY s w) o.bp aj;have V:=Bf s.ak (aY s w) o.ak aj;have g:=Po s w c o;simp only[aI.cells,bu.cells]at r;simp only[bu.cells]at U;simp only[ay.cells]at V;obtain⟨E,f⟩:=aL (lp s w c b);have z:=f;simp only[lp]at f;simp only[gC,gm,<-z];clear z ab;have ac:bF s.ak w=(fj s.ak w).state:=rfl;obtain⟨mb,aa⟩:=aL (fj s.ak w);rw[<-aa]at c1 ac;have N:=@tc s.ak;have H:=@bU s;simp only[ay.cells,av.cells]at c1;simp only[af.cells]at c2 T g |-;simp only[ints,map_cons,map_nil]at c4;refine aX 135 4 [.tmp 8,.tmp 9,.tmp 10] mixed func41 ?_;refine sc aK c1 ?_;refine sc aK c2 ?_;cases R:bS s
 ·rw[R,aq sT]at f;rw[f];simp only[go_sem,seval,bne]<;>simp[ints]
 have hr:=H.1 R;have N:=N hr.ak (w:=w);have g:=g hr.ak hr.ps;rw[R,au rfl]at f;cases S:gp s.ak w
 ·have h0:bF s.ak w=0:=by
   by_cases h:bF s.ak w=0
   ·exact h
   ·rw[N.1 h]at S;cases S
  rw[au h0]at f;rw[f];simp only[go_sem,seval,bne]<;>simp[ints]
 rw[aq (N.2 S)]at f;by_cases q1:c<0
 ·have d:decide (c<0)=true:=dw q1;have e:within c 0 2=false:=by simp[within];omega
  rw[e,dU,aq sT]at f;rw[f];simp only[go_sem,seval,bne,d]<;>simp[ints]
 have d1:decide (c<0)=false:=gB q1;by_cases q2:3<=c
 ·have d:decide (3<=c)=true:=dw q2;have e:within c 0 2=false:=by simp[within];omega
  rw[e,dU,aq sT]at f;rw[f];simp only[go_sem,seval,bne,d1,d]<;>simp[ints]
 have d2:decide (3<=c)=false:=gB q2;have B:within c 0 2=true:=by simp[within];omega
 refine sm (a3 dV d1 d2) ?_;refine sl aK c4 ?_;cases O:bA b
 ·rw[O,Bool.and_false,aq sT]at f;rw[f];simp only[go_sem,seval]<;>simp[ints]
 rw[B,O,Bool.and_self,au rfl]at f;have J:=Wy (l:=s.bp) hr.bp B (HM hr.ak w);have D:=Zp hr.ak (HM hr.ak w);have i:=qD hr.bp ⟨2,w,c⟩;have M:=FA s w c;have t:=r ⟨2,w,c⟩;have u:=r ⟨3,w,c⟩;have x:=r ⟨4,0,c⟩;have Z:yX s w c b=aC [b,min (gw ⟨2,w,c⟩ s.bp.bs) 0]:=rfl;have y:uL s w c b=aC [max (gw ⟨2,w,c⟩ s.bp.bs) 0,nD s w c,max (yX s w c b) 0]:=rfl;obtain⟨Q,A⟩:=aL (gw ⟨2,w,c⟩ s.bp.bs);obtain⟨ow,G⟩:=aL (gw ⟨3,w,c⟩ s.bp.bs);obtain⟨sk,L⟩:=aL (gw ⟨4,0,c⟩ s.bp.bs);obtain⟨v,hv⟩:=aL (nD s w c);obtain⟨vb,q⟩:=aL (bA (sA s w c));obtain⟨sE,p⟩:=aL (fR s.bp c (aY s w));obtain⟨nE,m⟩:=aL (iO s.ak (aY s w));simp only[Jv,<-q,<-p,<-m]at f;rw[<-p]at U J;rw[<-m]at V D;rw[<-hv]at g y M;rw[<-q]at g;rw[<-A]at t Z y i;rw[<-G]at u |-;rw[<-L]at x |-;obtain⟨X,k⟩:=aL (yX s w c b);obtain⟨F,j⟩:=aL (uL s w c b);rw[<-k]at Z y;rw[<-j]at y;simp only[<-k,<-j]at f |-;have hcr:=bf.1 i;have hg:=bf.1 O;have W:=ju [b,min Q 0] sT;have r8:right [b,min Q 0]=true:=F6 λn C=>by
  simp only[mem_cons,not_mem_nil,or_false]at C;rcases C with rfl|rfl
  ·exact O
  ·rw[bf];omega
 rw[(mX r8).1,(mX r8).2,<-Z]at W;have Y:=ju [max Q 0,v,max X 0] sT;have r9:bA X=true->right [max Q 0,v,max X 0]=true:=λhx=>F6 λn C=>by
  simp only[mem_cons,not_mem_nil,or_false]at C;have:=bf.1 hx;rcases C with rfl|rfl|rfl
  ·rw[bf];omega
  ·exact M
  ·rw[bf];omega
 simp only[ints,map_cons,map_nil]at W Y;clear r G L hv q p m A k j i H N c1 c2 c4;refine sc aK t ?_;refine sc aK g ?_;cases k1:vb
 ·rw[k1,dU,dU,aq sT]at f;rw[f];simp only[go_sem,seval,bne]<;>simp[ints]
 simp only[go_sem,seval,bne,if_true];refine sl aK W ?_;cases k2:bA X
 ·rw[k1,k2,Bool.and_false,dU,aq sT]at f;rw[f];simp only[go_sem,seval,bne,k2]<;>simp[ints]
 have hXr:=bf.1 k2;rw[(mX (r9 k2)).1,(mX (r9 k2)).2,<-y]at Y;rw[k1,k2,Bool.and_self,cz]at f;simp only[go_sem,seval,bne,k2,if_true];refine sl aK Y ?_;cases k3:bA F
 ·rw[k3,dU,aq sT]at f;rw[f];simp only[go_sem,seval,bne,k3]<;>simp[ints]
 rw[k3,cz]at f;simp only[go_sem,seval,bne,k3,if_true];refine sc aK T ?_;refine sc aK U ?_;rcases J with k4|k4
 case inr =>
  rw[k4,show((1:Int)==0)=false from rfl,dU,aq sT]at f;rw[f,k4];simp only[go_sem,seval,bne]<;>simp[ints]
 rw[k4,show((0:Int)==0)=true from rfl,cz]at f;rw[k4];refine sm dV ?_;refine sc aK T ?_;refine sc aK V ?_;rcases D with k5|k5
 case inr =>
  rw[k5,show((1:Int)==0)=false from rfl,aq sT]at f;rw[f,k5];simp only[go_sem,seval,bne]<;>simp[ints]
 rw[k5,show((0:Int)==0)=true from rfl,au rfl]at f;have hw:IntKind.wrap .i64 (0-X) = -X:=fU;rw[k5,f,au rfl,au rfl];refine sm dV ?_;refine sc aK u ?_;refine sc aK x ?_;refine sm hw ?_;all_goals simp[ints]
def NU(s:af)(w c a:Int)(f:s.small)(b:s.ak.ms.length<2^27):Sq 41 [] [.agg s.cells,.I w,.I c,.I a] [] (.bD [.I (gm s w c a),.sl 1 (ints (gC s w c a)),.I (lp s w c a)]):=by
 refine Spec.frozen (aa' s w c a f b) [0] rfl ?_;intro r;rcases r with _|r<;>rfl
def VZ(k w:Int)(f:eu):Sq 182 [] [.I k,.I w,.bG f.cells] [] (.agg [.I k,.I w,.I f.cur]):=by
 simp only[eu.cells];refine aX 11 3 [.cell 5 65] mixed func182 ?_;simp only[go_sem,seval];all_goals(with_reducible and_intros)<;>first|exact .dq|omega|skip
def Zg(s:af)(w g:Int)(f:eu)(a b:Int)(X:s.small)(hr:s.right)(hm:s.ak.ms.length<2^27)(hv:bA (sA s w f.cur)=true)(hg:bA g=true)(hl:bA f.bJ=true)
  (ha:gw ⟨2,w,f.cur⟩ s.bp.bs+nD s w f.cur+g+f.bJ=a) (hb:gw ⟨3,w,f.cur⟩ s.bp.bs=b) (h0:0<=f.c0/\f.c0<=a/\a<=4611686018427387904) (h1:0<=f.c1/\f.c1<=b/\b<=4611686018427387904) :
  Sq 90 [] [.agg s.cells,.I w,.I g,.agg f.cells] [] (.bD [.sl 4 ((lq s w f.cur g f a b).1.map aN.cells),.I (lq s w f.cur g f a b).2.1,.I (lq s w f.cur g f a b).2.2]):=by
 obtain⟨c,hc⟩:=aL (f.cur);rw[<-hc]at hv ha hb |-;have l:=λk w=>VZ k w f;simp only[<-hc]at l;have m:=λx y n=>V3 x y n;have h:=Po s w c X hr.ak hr.ps;rw[hv,au rfl]at h;have c5:=Hy s w X;have ac:=wE s w;have c6:=MK s.bp c f.c3 (aY s w) X.bp aj;have c7:=H7 s.ak c f.c4 (aY s w) X.ak aj;have cO:=λa=>zh s.bp a (by have:=X.bp;omega);have o:=cO ⟨2,w,c⟩;have p:=cO ⟨3,w,c⟩;have j:=qD hr.bp ⟨2,w,c⟩;have Y:=FA s w c;obtain⟨x,ad⟩:=aL (a-f.c0);obtain⟨y,ae⟩:=aL (b-f.c1);have H:bA (-f.c0)=true:=by rw[bf];omega
 have J:bA x=true:=by rw[bf];omega
 have W:bA y=true:=by rw[bf];omega
 have S:=ju [gw ⟨2,w,c⟩ s.bp.bs,nD s w c,g,f.bJ,-f.c0] sT;have r8:right [gw ⟨2,w,c⟩ s.bp.bs,nD s w c,g,f.bJ,-f.c0]=true:=by
  simp only[right,all_cons,all_nil,j,Y,hg,hl,H,Bool.and_self]
 have e8:aC [gw ⟨2,w,c⟩ s.bp.bs,nD s w c,g,f.bJ,-f.c0]=x:=by simp only[aC];omega
 rw[(mX r8).1,(mX r8).2,e8,J,au rfl,au rfl]at S;have c9:=ju [x,y] sT;have r9:right [x,y]=true:=by simp only[right,all_cons,all_nil,J,W,Bool.and_self]
 have e9:aC [x,y]=x+y:=by simp[aC]
 rw[(mX r9).1,(mX r9).2,e9]at c9;have w0:IntKind.wrap .i64 (0-f.c0) = -f.c0:=fU;have w1:IntKind.wrap .i64 (b-f.c1)=y:=fU;have ab:=OG s.bp c f.c3 (aY s w);have aa:=G6 s.ak c f.c4 (aY s w);have cJ:=Kk (Dn s w c g f (a-f.c0) (b-f.c1)) (by simp[Dn,MB,cr];omega);obtain⟨R,i⟩:=aL (lq s w c g f a b);rw[<-i];simp only[lq]at i;obtain⟨G,E⟩:=aL (Dn s w c g f (a-f.c0) (b-f.c1));rw[<-E]at cJ i;simp only[Dn,MB]at E;rw[<-ad,<-ae]at E i;rw[hb]at p;obtain⟨ca,T⟩:=aL (gw ⟨2,w,c⟩ s.bp.bs);rw[<-T]at o S;obtain⟨v,Z⟩:=aL (nD s w c);rw[<-Z]at h S E;obtain⟨e1,M⟩:=aL (Bs s.bp c f.c3 (aY s w));obtain⟨e2,N⟩:=aL (qZ s.ak c f.c4 (aY s w));obtain⟨V,hV⟩:=aL (yg s.bp c f.c3 (aY s w));obtain⟨U,hU⟩:=aL (oJ s.ak c f.c4 (aY s w));rw[<-hV]at c6 E ab;rw[<-hU]at c7 E aa;rw[<-M]at c6;rw[<-N]at c7;rw[<-M,<-N]at i;have m1:=m ⟨1,0,c⟩ ⟨2,w,c⟩ v;have m2:=m ⟨5,0,c⟩ ⟨2,w,c⟩ g;have m3:=m ⟨6,0,c⟩ ⟨2,w,c⟩ f.bJ;have m4:=m ⟨2,w,c⟩ ⟨6,0,c⟩ f.c0;have m5:=m ⟨3,w,c⟩ ⟨6,0,c⟩ f.c1;have m6:=m ⟨4,0,c⟩ ⟨6,0,c⟩ f.c2;have m7:=m ⟨2,w,c⟩ ⟨1,0,c⟩ x;have m8:=m ⟨3,w,c⟩ ⟨1,0,c⟩ y;obtain⟨A1,q⟩:∃A,A=cr ⟨1,0,c⟩ ⟨2,w,c⟩ v:=⟨_,rfl⟩
 obtain⟨A2,r⟩:∃A,A=cr ⟨5,0,c⟩ ⟨2,w,c⟩ g:=⟨_,rfl⟩
 obtain⟨A3,t⟩:∃A,A=cr ⟨6,0,c⟩ ⟨2,w,c⟩ f.bJ:=⟨_,rfl⟩
 obtain⟨A4,u⟩:∃A,A=cr ⟨2,w,c⟩ ⟨6,0,c⟩ f.c0:=⟨_,rfl⟩
 obtain⟨A5,z⟩:∃A,A=cr ⟨3,w,c⟩ ⟨6,0,c⟩ f.c1:=⟨_,rfl⟩
 obtain⟨A6,B⟩:∃A,A=cr ⟨4,0,c⟩ ⟨6,0,c⟩ f.c2:=⟨_,rfl⟩
 obtain⟨A7,C⟩:∃A,A=cr ⟨2,w,c⟩ ⟨1,0,c⟩ x:=⟨_,rfl⟩
 obtain⟨A8,D⟩:∃A,A=cr ⟨3,w,c⟩ ⟨1,0,c⟩ y:=⟨_,rfl⟩
 have F:A1.length=2:=by rw[q];rfl
 have z2:A2.length=2:=by rw[r];rfl
 have O:A3.length=2:=by rw[t];rfl
 have Q:A4.length=2:=by rw[u];rfl
 have z5:A5.length=2:=by rw[z];rfl
 have z6:A6.length=2:=by rw[B];rfl
 have z7:A7.length=2:=by rw[C];rfl
 have z8:A8.length=2:=by rw[D];rfl
 rw[<-q,<-r,<-t,<-u,<-z,<-B,<-C,<-D]at E;rw[<-q]at m1;rw[<-r]at m2;rw[<-t]at m3;rw[<-u]at m4;rw[<-z]at m5;rw[<-B]at m6;rw[<-C]at m7;rw[<-D]at m8;have L:G.map aN.cells=A1.map aN.cells++A2.map aN.cells++A3.map aN.cells++A4.map aN.cells++A5.map aN.cells++A6.map aN.cells++V.map aN.cells++U.map aN.cells++A7.map aN.cells++A8.map aN.cells:=by rw[E];simp only[jv]
 rw[L]at cJ;simp only[aI.cells]at m1 m2 m3 m4 m5 m6 m7 m8 o p;simp only[bu.cells]at c6 o p;simp only[ay.cells]at c7;simp only[af.cells]at c5 h |-;simp only[eu.cells]at l |-;rw[<-hc]at l |-;simp only[ints,map_cons,map_nil]at S c9;clear m cO q r t u z B C D hV hU M N E L ac T Z hc ha r8 e8 r9 e9 j Y H;refine aX 188 4 [.tmp 8,.tmp 9,.tmp 10] mixed func90 ?_;simp only[go_sem,seval];refine az.iw [128] [] false sT ?_;simp only[go_sem,seval];refine dL.ij (l 1 0) ?_;refine sc aK (l 2 w) ?_;refine sc aK (l 3 w) ?_;refine az.aP (l 6 0) ?_;refine sc aK h ?_;refine sc aK m1 ?_;refine sc F (l 5 0) ?_;refine sc aK m2 ?_;simp only[go_sem,seval,ct,F,z2];refine sc aK m3 ?_;simp only[go_sem,seval,ct,F,z2,O];refine sc aK m4 ?_;simp only[go_sem,seval,ct,F,z2,O,Q];refine sc aK m5 ?_;simp only[go_sem,seval,ct,F,z2,O,Q,z5];refine sc aK (l 4 0) ?_;refine sc aK m6 ?_;simp only[go_sem,seval,ct,F,z2,O,Q,z5,z6];refine sc aK c5 ?_;refine sc aK c6 ?_;by_cases k1:e1=0
 case neg =>
  have d:(e1==0)=false:=su k1;rw[aq k1]at i;rw[i];exact gH (a2 dV d)
 rw[au k1]at i;rw[k1];refine sc aK c5 ?_;refine sc aK c7 ?_;by_cases k2:e2=0
 case neg =>
  have d:(e2==0)=false:=su k2;rw[aq k2]at i;rw[i];exact gH (a2 dV d)
 rw[au k2]at i;rw[k2];simp only[go_sem,seval,ct,F,z2,O,Q,z5,z6];refine sc w0 o ?_;refine sl aK S ?_;refine sc w1 p ?_;refine sl aK c9 ?_;cases k3:bA (x+y)
 ·rw[k3,aq sT]at i;rw[i];exact gH (a2 dV k3)
 rw[k3,au rfl]at i;simp only[go_sem,seval,bne,k3,if_true];refine sc aK m7 ?_;simp only[go_sem,seval,ct,F,z2,O,Q,z5,z6,z7];refine sc aK m8 ?_;simp only[go_sem,seval,ct,F,z2,O,Q,z5,z6,z7,z8];refine aV ?_;refine az.iw [2880] [] false sT ?_;simp only[go_sem,seval];refine dL.ij cJ ?_;rw[i];simp only[go_sem,seval];all_goals(with_reducible and_intros)<;>first|exact .dq|omega|skip
theorem atB{g:List Int}(h:g.length=5):∃a b c d e,g=[a,b,c,d,e]:=by
 match g,h with
 | [a,b,c,d,e],_=>exact⟨a,b,c,d,e,rfl⟩
def JU(c bJ:Int)(a:List Int)(t:a.length<2^30):Sq 89 [] [.I c,.I bJ,.sl 1 (ints a)] [] (.bD [.agg (lu c bJ a).cells,.I (l7 c bJ a)]):=by
 have c1:=SU bJ a t;obtain⟨E,b⟩:=aL (l7 c bJ a);have h:=b;simp only[lu,<-h];clear h;simp only[l7]at b;refine aX 44 3 [.cell 6 111,.tmp 7] mixed func89 ?_;by_cases k:c<0
 ·have d:decide (c<0)=true:=dw k;have e:E=3:=by rw[b];simp[within,k];omega
  rw[e];simp only[go_sem,seval,d,eu.cells]<;>simp
 have i:decide (c<0)=false:=gB k;by_cases p:3<=c
 ·have d:decide (3<=c)=true:=dw p;have e:E=3:=by rw[b];simp[within];omega
  rw[e];simp only[go_sem,seval,i,d,eu.cells]<;>simp
 have o:decide (3<=c)=false:=gB p;by_cases m:a.length=5
 case neg =>
  have d:(((a.length:Nat):Int)==5)=false:=by simp;omega
  have e:E=3:=by rw[b];simp[m]
  rw[e];simp only[go_sem,seval,i,o,bne,aA,d,eu.cells]<;>simp
 have s:(((a.length:Nat):Int)==5)=true:=by simp;omega
 simp only[go_sem,seval,i,o,bne,aA,s];refine sc aK c1 ?_;by_cases f:j9 bJ a=0
 case neg =>
  have d:(j9 bJ a==0)=false:=su f;have j:j9 bJ a=3:=by
   unfold j9 at f |-
   repeat' split
   all_goals first|rfl|omega|simp_all
  have e:E=3:=by rw[b];simp[d]
  rw[e,j];simp only[go_sem,seval,bne,eu.cells]<;>simp
 obtain⟨⟨g1,g2⟩,-,-⟩:=IM f;have e:E=0:=by
  rw[b,au];simp only[cU,fE,within,bO];refine⟨⟨?_,m⟩,?_,f⟩<;>omega
 rw[e,au f,au f,f,au rfl];obtain⟨q,a2,a3,a4,a5,j⟩:=atB (g:=vm bJ a) (by rw[J5,m]);rw[j];simp only[go_sem,seval,ints,map_cons,map_nil];with_reducible refine fG.Qi (z:=1) (r:=192) (off:=2) (l:=5) (c:=5) (ly:=5) (cs:=[.I c,.I bJ,.I 0,.I 0,.I 0,.I 0,.I 0,.I (ze bJ a)]) (rows:=[[.I q],[.I a2],[.I a3],[.I a4],[.I a5]]) aqs ?_ ?_ ?_ ?_ ?_ ?_
 ·rfl
 ·rfl
 ·exact⟨_,rfl,rfl,by omega,rfl⟩
 ·omega
 ·simp
 refine s0 ?_;all_goals first
  |rfl
  |simp[Dr]
def MZ(l:bu)(id:Int)(g:List aN)(b:l.bs.length<2^28)(a:g.length<2^28):Sq 51 [] [.agg l.cells,.I id,.sl 4 (g.map aN.cells)] [] (.bD [.agg (jO l id g).cells,.I (fM l id g)]):=by
 have h:=EN l id g b a;have e:=post_eq (λ_ h=>oa.2 h) uH (λbs h=>QD.1 h) l id g;rwa[e.1,e.2]at h
def IL(c:Int)(l:List aH):List Int:=pick (λd:aH=>d.cur==c) aH.bT l
def g3(G:Nat->Int)(i:Nat):List D:=[.I (if 0<i then G 0 else 0),.I (if 1<i then G 1 else 0),.I (if 2<i then G 2 else 0)]
def L6(f:Nat->Int):Nat->Nat->Nat
 | 0,i=>i
 |m+1,i=>if f i=0 then L6 f m (i+1)else i
def VN(l:List aH)(hl:l.length<2^29):Sq 88 [] [.sl 3 (l.map aH.cells)] [] (.bD [.agg (g3 (λc=>pY (IL c l)) (L6 (λc=>oF (IL c l)) 3 0)),.I (gI (λc=>oF (IL c l)) 3 0)]):=by
 obtain⟨G,w⟩:∃G:Nat->Int,G=λc:Nat=>pY (IL c l):=⟨_,rfl⟩
 obtain⟨E,t⟩:∃E:Nat->Int,E=λc:Nat=>oF (IL c l):=⟨_,rfl⟩
 rw[<-w,<-t];have A:∀c:Nat,Sq 109 [] [.sl 1 (ints (IL c l))] [] (.bD [.I (G c),.I (E c)]):=λc=>by
  rw[w,t];exact ju (IL c l) (by have:=bR (λd:aH=>d.cur==(c:Int)) aH.bT l;unfold IL;omega)
 obtain⟨Z,D⟩:=aL (L6 E 3 0);obtain⟨R,C⟩:=aL (gI E 3 0);rw[<-D,<-C];clear w t;refine aX 44 1 [.cell 2 181,.tmp 3] mixed func88 ?_;refine s0 ?_;refine aG.wu 3 [0,2,4] [] (λc=>[(11,.I c),(3,.I 0)]) (λc=>[(48,.box (g3 (λ_=>0) 0)),(80,.box (g3 G c))]) (λc=>gI E (3-c) c=R/\L6 E (3-c) c=Z) ⟨C.symm,D.symm⟩ ?_ ?_ ?_
 ·simp only[go_sem,seval,g3]<;>simp
 ·rintro c _ H f z ⟨a,b⟩;have f:decide ((c:Int)<3)=true:=f;obtain⟨m,J⟩:∃m,3-c=m+1:=⟨3-c-1,by omega⟩
  have p:3-(c+1)=m:=aj
  rw[J]at a b;simp only[gI,L6]at a b;have j:=A c;clear A;refine sm f ?_;refine aG.wv l.length [0,2,4,5,11,14,15] [48,80] (λi=>[(3,.I 0),(16,.I i),(6,.ref 464)]) (λi=>[(464,.own 1 (ints (IL c (l.take i))))]) ?_ ?_ ?_
  ·simp only[go_sem,seval,g3]<;>simp[IL,pick,ints]
  ·intro i _ s k r _;have g:=aM (c:=aH.cells) l s;have hli:(i:Int)<(l.length:Int):=aj
   have h:ints (IL c (l.take (i+1)))=ints (IL c (l.take i))++_:=ga (λd:aH=>d.cur==(c:Int)) aH.bT s;have o:(IL c (l.take i)).length<=(l.take i).length:=bR _ _ _;have hlt:(l.take i).length=i:=by simp;omega
   obtain⟨L,B⟩:=aL (IL c (l.take i));obtain⟨x,F⟩:=aL (l[i]);rw[<-F]at g h;rw[<-B]at h o |-;have hLl:(ints L).length<=i:=by rw[aA];omega
   simp only[aH.cells]at g;clear j F B;cases q:x.cur==(c:Int)
   ·simp only[q,iI,if_false,append_nil]at h;refine sm (a4 k g q r) ?_;refine aV ?_;refine ah.v s ?_;simp only[go_sem,seval,h,g3]
   ·simp only[q,if_true]at h;refine sm (a4 k g q r) ?_;refine aV ?_;refine ah.v s ?_;simp only[go_sem,seval,h,g3]
  ·intro _ y _;rw[eU];try refine gK.id ?_
   refine sm y ?_;refine aV ?_;refine az.iw [464] [] false sT ?_;refine s0 ?_;refine dL.ij j ?_;by_cases q:E c=0
   case neg =>
    have d:(E c==0)=false:=su q;rw[aq q]at a b;rw[<-a,<-b];simp only[go_sem,seval,bne,d,g3];all_goals first|rfl|simp[g3]
   rw[au q]at a b;rw[q];obtain rfl|rfl|rfl:c=0\/c=1\/c=2:=aj
   all_goals
    simp only[g3];refine sm (a2 dV z) ?_;refine aV ?_;refine ah.u H ⟨by rw[p];exact a,by rw[p];exact b⟩ ?_;simp only[go_sem,seval,g3];all_goals rfl
 ·rintro _ f ⟨a,b⟩;have a:(0:Int)=R:=a;have b:3=Z:=b;rw[<-a,<-b];simp only[g3];refine s0 ?_;all_goals first|rfl|simp
def Rq(r:ay)(w p:Int)(h:r.jQ)(g:r.okB=true)(l:gp r w=true)(u:within p 1 3=true):Sq 87 [] [.agg r.cells,.I w,.I p] [.own 3 ((jU r w p).ms.map av.cells)] (.bD [.agg [.ref 0,.sl 12 ((jU r w p).ns.map aF.cells),.sl 4 ((jU r w p).xs.map aD.cells)],.I 0]):=by
 obtain⟨x,v,t⟩:=yp.1 l;have c:=(fF.1 g).1.2;have s:fj r w=x:=y9 c v t;obtain⟨k,q,a⟩:=getElem_of_mem v;have b:∀i (h:i<k),(r.ms[i]'aj).no<(x.put p).no:=λi m=>by
  have:=Ay.1 c i k aj q m;rw[a]at this;exact this
 have z:jU r w p=⟨r.ms.set k (x.put p),r.ns,r.xs⟩:=by
  have e:CM r w p=0:=by simp only[CM,g,l,u];rfl
  rw[jU,au e,B0 q (λj hj o he=>by have:=b j o;have:(x.put p).no=x.no:=rfl;omega) (by rw[a];exact t),a]
 rw[z];have c1:=kr r h.small;have c2:=kZ r w h.small;have c3:=iM p 1 3;have c4:=Fo r h;have f:=BE r.ms (x.put p) q b (by rw[a];rfl) h.1;rw[g]at c1;rw[s,l]at c2;rw[u]at c3;obtain⟨M,y⟩:=aL ((r.ms.set k (x.put p)).map av.cells);rw[<-y]at f |-;simp only[if_true]at c1;simp only[ay.cells,av.cells,av.put]at c1 c2 c4 f |-;refine aX 43 3 [.cell 6 29,.tmp 7] mixed func87 ?_;refine sc aK c1 ?_;refine sc aK c2 ?_;refine sc aK c3 ?_;refine so aK c4 ?_;exact sgx [592] aK f
def Ns(r:ay)(w p:Int)(h:r.jQ)(a:r.okB=true)(b:gp r w=true)(c:within p 1 3=true):Sq 87 [] [.agg r.cells,.I w,.I p] [] (.bD [.agg (jU r w p).cells,.I 0]):=by
 refine Spec.frozen (Rq r w p h a b c) [0] rfl ?_;intro r;rcases r with _|r<;>rfl
def NA(w:Int)(x:iu):Sq 187 [] [.agg x.cells,.bG [.I w]] [] (.bool (x.who==w)):=by
 simp only[iu.cells];refine aX 8 2 [.tmp 3] mixed func187 ?_;simp only[go_sem,seval];all_goals(with_reducible and_intros)<;>first|exact .dq|omega|skip
def NB(w:Int)(x:bn):Sq 189 [] [.agg x.cells,.bG [.I w]] [] (.bool (x.who==w||x.src==w)):=by
 simp only[bn.cells];refine aX 15 2 [.tmp 3] mixed func189 ?_;cases q:x.who==w<;>simp only[go_sem,seval,q]<;>simp
theorem JZ{A:Type}(p:A->Bool):∀l:List A,(l.flatMap λx=>if p x then[]else[x])=l.filter λx=>!p x
 | []=>rfl
 |x::r=>by
  rw[flatMap_cons,JZ p r,filter_cons];cases p x<;>rfl
def VW(w:Int)(l:List iu):ur w l=l.filter λx=>!(x.who==w):=JZ (λx:iu=>x.who==w) l
def VV(w:Int)(l:List bn):uq w l=l.filter λx=>!(x.who==w||x.src==w):=JZ (λx:bn=>x.who==w||x.src==w) l
def Et(s:af)(w:Int)(a:s.small)(b:∀x∈s.aR,mC x):Sq 91 [] [.agg s.cells,.I w] [] (.agg (af.cells { s with ps:=ur w s.ps,calls:=dQ s.calls [w],aZ:=uq w s.aZ })):=by
 have c1:=wg s.bp.bs a.bp;have c2:=JE s.ps a.ps;have c:=SE (λx=>x.who==w) 187 w (NA w) s.ps (by have:=a.ps;omega);rw[<-VW]at c;have c3:=FO s.calls [w] a.calls sT;have c4:=yY s.aZ a.aZ;have f:=SC (λx=>x.who==w||x.src==w) 189 w (NB w) s.aZ (by have:=a.aZ;omega);rw[<-VV]at f;have g:=Aa s.aR a.aR b;simp only[af.cells,pl]at c2 |-;simp only[ints,map_cons,map_nil]at c3;refine aX 34 2 [.cell 4 42] mixed func91 ?_;refine sc aK c1 ?_;refine so aK c2 ?_;refine az.iw [64] [224] false sT ?_;refine s0 ?_;refine dL.ij c ?_;refine s0 ?_;refine az.iw [336] [] false sT ?_;refine s0 ?_;refine dL.ij c3 ?_;refine so aK c4 ?_;refine sg [416] aK f ?_;try simp only[go_sem,seval]
 exact lX aK g
