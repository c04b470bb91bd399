/- The sort's instances: dues, legs, bids, what divisions left, and what follows. No theorem of a claim. -/
import Derived.Test.YtccipdjjkcejgaaGreatME
import Derived.Test.YtccipdjjkcejgaaGreatMC
import Derived.Test.YtccipdjjkcejgaaGreatMB
import Derived.Test.YtccipdjjkcejgaaGreatMD
set_option linter.unusedSimpArgs false
set_option linter.unusedVariables false
set_option maxHeartbeats 4000000
set_option maxRecDepth 16000
namespace Go.Proofs.YtccipdjjkcejgaaGreat
open Go.Abs Tryz
open List hiding lt max min
def nT (x:Int × Nat):List D:=[.int .u64 (x.1 / 18446744073709551616),.int .u64 (x.1%18446744073709551616),.I x.2]
theorem ac5:wQ (fun t=>t) (fun k=>k) aE.cells 3 24 where
 r1:=nC func375 func375
 r2:=nC func346 func346
 r3:=nC func301 func301
 r4:=nC func302 func302
 r5:=nC func234 func234
 r6:=nC func121 func121
 t0:=bD
 t3:=bD
 t4:=bD
 t85:=bD
 ne:=bD
 nv:=bD
 sl:=akk
 el:=ai'
 pos:=ah
 len:=fun _=>rfl
 ok:=fun x d a=>by simp only [aE.cells,mem_cons,not_mem_nil,or_false] at a;rcases a with rfl | rfl | rfl<;>simp [go_sem,seval,bG,dZ,D.names]
 nm:=fun _=>rfl
 pl:=fun x=>by simp only [go_sem,seval,aE.cells]
theorem QV (lt:aE->aE->Bool) (g:FuncId) (b:∀ x y:aE,∃ c:Int,Sq g [] [.agg (aE.cells x),.agg (aE.cells y)] [] (.I c)/\decide (c < 0)=lt x y) (l:List (aE)) (a:l.length < 2 ^ 38) :
  Sq 121 [.own 3 (l.map aE.cells)] [.ref 0,.fn g []] [.own 3 ((B0 lt l).map aE.cells)] (.bT []):=vG ac5 lt g [] rfl (eq_true trivial) (fun _ _=>eq_true trivial) b l a
theorem ac6:wQ (fun t=>if t=124 then 202 else if t=44 then 112 else if t=197 then 290 else t) (fun k=>if k=375 then 388 else if k=346 then 376 else if k=301 then 347 else if k=302 then 348 else if k=234 then 304 else if k=121 then 239 else k) aU.cells 4 32 where
 r1:=nC func375 func388
 r2:=nC func346 func376
 r3:=nC func301 func347
 r4:=nC func302 func348
 r5:=nC func234 func304
 r6:=nC func121 func239
 t0:=bD
 t3:=bD
 t4:=bD
 t85:=bD
 ne:=bD
 nv:=bD
 sl:=ap7
 el:=ajb
 pos:=ah
 len:=fun _=>rfl
 ok:=fun x d a=>by simp only [aU.cells,mem_cons,not_mem_nil,or_false] at a;rcases a with rfl | rfl | rfl | rfl<;>simp [go_sem,seval,bG,dZ,D.names]
 nm:=fun _=>rfl
 pl:=fun x=>by simp only [go_sem,seval,aU.cells]
theorem QW (lt:aU->aU->Bool) (g:FuncId) (b:∀ x y:aU,∃ c:Int,Sq g [] [.agg (aU.cells x),.agg (aU.cells y)] [] (.I c)/\decide (c < 0)=lt x y) (l:List (aU)) (a:l.length < 2 ^ 38) :
  Sq 239 [.own 4 (l.map aU.cells)] [.ref 0,.fn g []] [.own 4 ((B0 lt l).map aU.cells)] (.bT []):=vG ac6 lt g [] rfl (eq_true trivial) (fun _ _=>eq_true trivial) b l a
theorem ac4:wQ (fun t=>if t=124 then 152 else if t=44 then 38 else if t=197 then 433 else t) (fun k=>if k=375 then 412 else if k=346 then 410 else if k=301 then 404 else if k=302 then 405 else if k=234 then 400 else if k=121 then 393 else k) bB.cells 5 40 where
 r1:=nC func375 func412
 r2:=nC func346 func410
 r3:=nC func301 func404
 r4:=nC func302 func405
 r5:=nC func234 func400
 r6:=nC func121 func393
 t0:=bD
 t3:=bD
 t4:=bD
 t85:=bD
 ne:=bD
 nv:=bD
 sl:=akj
 el:=aja
 pos:=ah
 len:=fun _=>rfl
 ok:=fun x d a=>by simp only [bB.cells,mem_cons,not_mem_nil,or_false] at a;rcases a with rfl | rfl | rfl | rfl | rfl<;>simp [go_sem,seval,bG,dZ,D.names]
 nm:=fun _=>rfl
 pl:=fun x=>by simp only [go_sem,seval,bB.cells]
theorem QU (lt:bB->bB->Bool) (g:FuncId) (cs:List D) (a:D.bK cs=[]) (b:tZ cs=True) (d:∀ (i:Nat->Option Nat) (h:Nat->Bool),kM i h cs cs=True) (f:∀ x y:bB,∃ c:Int,Sq g [] (.agg (bB.cells x) :: .agg (bB.cells y) :: cs) [] (.I c)/\decide (c < 0)=lt x y) (l:List (bB)) (e:l.length < 2 ^ 38) :
  Sq 393 [.own 5 (l.map bB.cells)] [.ref 0,.fn g cs] [.own 5 ((B0 lt l).map bB.cells)] (.bT []):=vG ac4 lt g cs a b d f l e
theorem ZJ:wQ (fun t=>if t=124 then 441 else if t=44 then 437 else if t=197 then 444 else t) (fun k=>if k=375 then 413 else if k=346 then 411 else if k=301 then 407 else if k=302 then 408 else if k=234 then 402 else if k=121 then 397 else k) nT 3 24 where
 r1:=nC func375 func413
 r2:=nC func346 func411
 r3:=nC func301 func407
 r4:=nC func302 func408
 r5:=nC func234 func402
 r6:=nC func121 func397
 t0:=bD
 t3:=bD
 t4:=bD
 t85:=bD
 ne:=bD
 nv:=bD
 sl:=aqb
 el:=ajc
 pos:=ah
 len:=fun _=>rfl
 ok:=fun x d a=>by simp only [nT,mem_cons,not_mem_nil,or_false] at a;rcases a with rfl | rfl | rfl<;>simp [go_sem,seval,bG,dZ,D.names]
 nm:=fun _=>rfl
 pl:=fun x=>by simp only [go_sem,seval,nT]
theorem Nc (lt:Int × Nat->Int × Nat->Bool) (g:FuncId) (b:∀ x y:Int × Nat,∃ c:Int,Sq g [] [.agg (nT x),.agg (nT y)] [] (.I c)/\decide (c < 0)=lt x y) (l:List (Int × Nat)) (a:l.length < 2 ^ 38) :
  Sq 397 [.own 3 (l.map nT)] [.ref 0,.fn g []] [.own 3 ((B0 lt l).map nT)] (.bT []):=vG ZJ lt g [] rfl (eq_true trivial) (fun _ _=>eq_true trivial) b l a
theorem tQ (n:Int):right [n]=bQ n:=by simp [right]
theorem AA (l:List aU) (hl:l.length < 2 ^ 40):Sq 238 [] [.sl 4 (l.map aU.cells)] [] (.bool (Ag l)):=by
 refine bf 23 1 [.tmp 2] mixed func238 ?_;refine s0 ?_;refine aM.w1 l.length 7 [5,6] [112] (fun i _=>Ag (l.drop i)=Ag l) rfl ?_ ?_
 ·intro i _ g e j a;have h:=aV (c:=aU.cells) l g;obtain ⟨x,n⟩:=aQ (l[i]);have m:=gW x.bz;have d:=bY [x.br] (by simp);rw [tQ] at d;simp only [ints,map_cons,map_nil] at d;have hli:(i:Int) < (l.length:Int):=ah
  rw [fZ g,<- n] at a;rw [<- n] at h;have o:SH x=(aP.right ⟨x.kind,x.who,x.cur⟩&&bQ x.br):=rfl;simp only [Ag,all_cons,o] at a;simp only [aU.cells] at h;simp only [aP.cells,aU.bz] at m;refine sc (a2 e h) m ?_;cases b:aP.right ⟨x.kind,x.who,x.cur⟩
  ·rw [b] at a;simp only [go_sem,seval,Ag,<- a,gV]
  refine sl aJ d ?_;cases k:bQ x.br
  ·rw [b,k] at a;simp only [go_sem,seval,Ag,<- a,gV,Bool.and_false]
  rw [b,k,Bool.and_self,fc] at a;refine sm j ?_;refine av.u g a ?_;exact gU
 ·intro _ f a;rw [nx] at a;simp only [go_sem,seval,f,<- a];rfl
theorem Ss (x y:aU):∃ c:Int,Sq 240 [] [.agg x.cells,.agg y.cells] [] (.I c)/\decide (c < 0)=x.bz.less y.bz:=by
 have a:=tq x.bz y.bz;have d:=tq y.bz x.bz;obtain ⟨e,g⟩:∃ b,b=x.bz.less y.bz:=⟨_,rfl⟩
 obtain ⟨f,e2⟩:∃ b,b=y.bz.less x.bz:=⟨_,rfl⟩
 rw [<- g] at a |-;rw [<- e2] at d;simp only [aP.cells,aU.bz] at a d;simp only [aU.cells];cases e
 ·cases f
  ·refine ⟨0,?_,rfl⟩;refine bf 17 2 [.tmp 4] mixed func240 ?_;refine sc aJ a ?_;exact jW aJ d
  ·refine ⟨1,?_,rfl⟩;refine bf 17 2 [.tmp 4] mixed func240 ?_;refine sc aJ a ?_;exact jW aJ d
 ·refine ⟨-1,?_,rfl⟩;refine bf 17 2 [.tmp 4] mixed func240 ?_;exact jW aJ a
def lU (a:aP) (y:aU):Bool:=y.bz.same a
def QJ (a:aP) (l:List aU):List Int:=(l.takeWhile (lU a)).map aU.br
def DA:Nat->List aU->List aU->List aU × Int
 | 0,_,out=>(out,0)
 | _+1,[],out=>(out,0)
 | n+1,x :: r,out=>if bQ (aG (QJ x.bz (x :: r))) then DA n ((x :: r).dropWhile (lU x.bz)) (out++DI x.bz (aG (QJ x.bz (x :: r)))) else ([],1)
def pV (x y:aU):Bool:=x.bz.less y.bz
def uu (l:List aU):List aU × Int:=if Ag l then DA (B0 pV l).length (B0 pV l) [] else ([],3)
theorem Q8 {A:Type} {p:A->Bool}:∀ {l:List A} {k:Nat},k<=l.length->(∀ m y,m < k->l[m]?=some y->p y=true)->(∀ y,l[k]?=some y->p y=false)->l.takeWhile p=l.take k/\l.dropWhile p=l.drop k
 | [],k,_,_,_=>by simp
 | x :: r,0,_,_,h=>by
  have:=h x rfl;simp [takeWhile,dropWhile,this]
 | x :: r,k+1,hk,h1,h2=>by
  have c:=h1 0 x ah rfl;simp only [length_cons] at hk;obtain ⟨b,e2⟩:=Q8 (l:=r) (k:=k) ah (fun m y hm a=>h1 (m+1) y ah a) (fun y a=>h2 y a);simp [takeWhile,dropWhile,c,b,e2]
theorem R5 (n:Nat) (out:List aU):DA n [] out=(out,0):=by cases n<;>rfl
theorem Kr (l:List aU) (hl:l.length < 2 ^ 29):Sq 130 [] [.sl 4 (l.map aU.cells)] [.own 4 ((uu l).1.map aU.cells)] (.bT [.ref 0,.I (uu l).2]):=by
 have hM:=AA l ah;refine bf 68 1 [.tmp 2,.tmp 3] mixed func130 ?_;refine sc aJ hM ?_;cases Q:Ag l
 ·simp only [go_sem,seval,uu,Q]<;>simp
 have hS:=QW pV 240 Ss l ah;have X:=uN pV l;obtain ⟨S,J⟩:=aQ (B0 pV l);have hj:uu l=DA S.length S []:=by rw [uu,Q,aq rfl,<- J]
 rw [hj];rw [<- J] at hS X;have hSl:S.length=l.length:=X.length_eq;have L:∀ x∈S,bQ x.br=true:=fun x F=>(KS Q x (X.mem_iff.1 F)).2;obtain ⟨N,Z⟩:=aQ (S.length);rw [<- Z];refine sg [272] aJ hS ?_;have g:S.length=N:=Z.symm;refine aM.vh (T:=Nat × Nat × List aU) [4] [272] (fun s=>[(6,.I ((s.2.1:Nat):Int)),(5,.ref 1072)]) (fun s=>[(1072,.own 4 (s.2.2.map aU.cells))]) (fun s=>s.2.1<=N/\N-s.2.1<=s.1/\s.2.2.length<=s.2.1/\DA s.1 (S.drop s.2.1) s.2.2=DA N S []) (fun s=>N-s.2.1) (N,0,[]) ⟨Nat.zero_le _,Nat.sub_le _ _,dU _,rfl⟩ ?_ ?_
 ·simp only [go_sem,seval]<;>simp
 ·rintro ⟨n,i,out⟩ ⟨h1,h2,h3,h4⟩;dsimp only at h1 h2 h3 h4;rcases bZ i N with hi | hi
  ·have R:decide ((i:Int) < (N:Int))=true:=iC;have C:i < S.length:=ah
   obtain ⟨x,F⟩:=iM C;have e:S.drop i=x :: S.drop (i+1):=by
    rw [drop_eq_getElem_cons C];congr 1;rw [fO C] at F;exact Option.some.inj F
   have P:=(iy (c:=aU.cells) F F).1;obtain ⟨j,rfl⟩:∃ j,n=j+1:=⟨n-1,by omega⟩
   simp only [aU.cells] at P;refine sm (a3 g R P) ?_;refine dP ?_;refine aM.vh (T:=Nat) [4,5,8] [144,272,1072] (fun k=>[(6,.I ((i+k:Nat):Int)),(7,.ref 816)]) (fun k=>[(816,.own 1 (ints (((S.drop i).take k).map aU.br)))]) (fun k=>i+k<=N/\∀ m y,m < k->(S.drop i)[m]?=some y->lU x.bz y=true) (fun k=>N-(i+k)) 0 ⟨by omega,by intro m y P;omega⟩ ?_ ?_
   ·simp only [go_sem,seval,Nat.add_zero]<;>simp [ints]
   ·rintro k ⟨k1,k2⟩;have htk:((S.drop i).take k).length<=k:=by rw [dY];omega
    rcases bZ (i+k) N with hik | hik
    ·have O:decide (((i+k:Nat):Int) < (N:Int))=true:=iC;have wk:IntKind.wrap .i64 (((i+k:Nat):Int)+1)=((i+(k+1):Nat):Int):=gN;have K:i+k < S.length:=ah
     obtain ⟨y,r⟩:=iM K;have G:(S.drop i)[k]?=some y:=by rw [getElem?_drop];exact r
     have D:=(iy (c:=aU.cells) r r).1;have q:(y.kind==x.kind&&(y.who==x.who&&y.cur==x.cur))=lU x.bz y:=rfl;simp only [aU.cells] at D;cases H:lU x.bz y
     ·rw [H] at q;have W:0 < k:=by
       rcases Nat.eq_zero_or_pos k with U | U
       ·subst U;rw [Nat.add_zero,F] at r;obtain rfl:=Option.some.inj r;rw [lU,Eb.2 ⟨rfl,rfl,rfl⟩] at H;cases H
       ·exact U
      have M:=Q8 (p:=lU x.bz) (l:=S.drop i) (k:=k) (by rw [fj];omega) k2 (fun z t=>by rw [G] at t;obtain rfl:=Option.some.inj t;exact H);refine sm (a4 g O D q) ?_;refine dP ?_;have w:QJ x.bz (x :: S.drop (i+1))=((S.drop i).take k).map aU.br:=by rw [<- e,QJ,M.1]
      have B:(x :: S.drop (i+1)).dropWhile (lU x.bz)=S.drop (i+k):=by rw [<- e,M.2,drop_drop]
      rw [e,DA,w,B] at h4;have b:∀ a∈((S.drop i).take k).map aU.br,bQ a=true:=by
       intro a V;obtain ⟨y,r,rfl⟩:=mem_map.1 V;exact L y (mem_of_mem_drop (mem_of_mem_take r))
      have v:(((S.drop i).take k).map aU.br).length<=N:=by rw [qn,dY,fj];omega
      obtain ⟨A,u⟩:=aQ (((S.drop i).take k).map aU.br);rw [<- u] at h4 b v |-;have d:=gz A ah;have E:right A=true:=dn.2 b;rw [n9,nW,E,fc,aq rfl] at d;refine dW.id ?_;refine sl aJ d ?_;cases f:bQ (aG A)
      ·rw [f,ak lZ] at h4;rw [<- h4];simp only [go_sem,seval,f]<;>simp
      ·rw [f,aq rfl] at h4;cases o:aG A==0
       ·rw [DI,o,ak lZ] at h4;simp only [go_sem,seval,f,bne,o];refine dP ?_;refine ⟨(j,i+k,out++[⟨x.bz.kind,x.bz.who,x.bz.cur,aG A⟩]),⟨k1,by show N-(i+k)<=j;omega,by show (out++[_]).length<=i+k;rw [cm];simp only [length_cons,length_nil];omega,h4⟩,?_,by show N-(i+k) < N-i;omega⟩;simp only [go_sem,seval,jq]<;>simp [aU.bz]
       ·rw [DI,o,aq rfl,append_nil] at h4;simp only [go_sem,seval,f,bne,o];refine dP ?_;refine ⟨(j,i+k,out),⟨k1,by show N-(i+k)<=j;omega,by show out.length<=i+k;omega,h4⟩,?_,by show N-(i+k) < N-i;omega⟩;simp only [go_sem,seval]<;>simp
     ·rw [H] at q;simp only [go_sem,seval,g,O,D,q,aW,wk];refine dP ?_;have Y:((S.drop i).take (k+1)).map aU.br=((S.drop i).take k).map aU.br++[y.br]:=by rw [take_add_one,G,jq];rfl
      refine ⟨k+1,⟨by omega,?_⟩,?_,by show N-(i+(k+1)) < N-(i+k);omega⟩
      ·intro m z P t;rcases bZ m k with h | h
       ·exact k2 m z h t
       ·obtain rfl:m=k:=ah
        rw [G] at t;obtain rfl:=Option.some.inj t;exact H
      ·simp only [go_sem,seval,Y,ints,jq,map_cons,map_nil]
    ·have O:decide (((i+k:Nat):Int) < (N:Int))=false:=jL;have W:0 < k:=ah
     have M:=Q8 (p:=lU x.bz) (l:=S.drop i) (k:=k) (by rw [fj];omega) k2 (fun z t=>by rw [getElem?_eq_none (by rw [fj];omega)] at t;cases t);refine sm (a2 g O) ?_;refine dP ?_;have w:QJ x.bz (x :: S.drop (i+1))=((S.drop i).take k).map aU.br:=by rw [<- e,QJ,M.1]
     have B:(x :: S.drop (i+1)).dropWhile (lU x.bz)=S.drop (i+k):=by rw [<- e,M.2,drop_drop]
     rw [e,DA,w,B] at h4;have b:∀ a∈((S.drop i).take k).map aU.br,bQ a=true:=by
      intro a V;obtain ⟨y,r,rfl⟩:=mem_map.1 V;exact L y (mem_of_mem_drop (mem_of_mem_take r))
     have v:(((S.drop i).take k).map aU.br).length<=N:=by rw [qn,dY,fj];omega
     obtain ⟨A,u⟩:=aQ (((S.drop i).take k).map aU.br);rw [<- u] at h4 b v |-;have d:=gz A ah;have E:right A=true:=dn.2 b;rw [n9,nW,E,fc,aq rfl] at d;refine dW.id ?_;refine sl aJ d ?_;cases f:bQ (aG A)
     ·rw [f,ak lZ] at h4;rw [<- h4];simp only [go_sem,seval,f]<;>simp
     ·rw [f,aq rfl] at h4;cases o:aG A==0
      ·rw [DI,o,ak lZ] at h4;simp only [go_sem,seval,f,bne,o];refine dP ?_;refine ⟨(j,i+k,out++[⟨x.bz.kind,x.bz.who,x.bz.cur,aG A⟩]),⟨k1,by show N-(i+k)<=j;omega,by show (out++[_]).length<=i+k;rw [cm];simp only [length_cons,length_nil];omega,h4⟩,?_,by show N-(i+k) < N-i;omega⟩;simp only [go_sem,seval,jq]<;>simp [aU.bz]
      ·rw [DI,o,aq rfl,append_nil] at h4;simp only [go_sem,seval,f,bne,o];refine dP ?_;refine ⟨(j,i+k,out),⟨k1,by show N-(i+k)<=j;omega,by show out.length<=i+k;omega,h4⟩,?_,by show N-(i+k) < N-i;omega⟩;simp only [go_sem,seval]<;>simp
  ·have R:decide ((i:Int) < (N:Int))=false:=jL;rw [drop_of_length_le ah,R5] at h4;rw [<- h4];simp only [go_sem,seval,g,R]<;>simp
theorem Yv:Ord pV where
 asy x y h:=by
  unfold pV at *;rw [abZ];rw [Qe] at h;unfold aP.lt at *;omega
 Xm x y z h1 h2:=by
  unfold pV at *;rw [abZ] at *;unfold aP.lt at *;omega
theorem ab3 {A:Type} {p:A->Bool}:∀ {l:List A} {y:A},y∈l.takeWhile p->p y=true
 | [],y,h=>by cases h
 | x :: r,y,h=>by
  rw [takeWhile_cons] at h;split at h
  ·rename_i a;rcases mem_cons.1 h with rfl | h
   ·exact a
   ·exact ab3 h
  ·cases h
theorem pg {a:aP} {y:aU}:lU a y=true ↔ y.bz=a:=by
 unfold lU;rw [Eb];obtain ⟨a1,a2,a3⟩:=a;generalize y.bz=b;obtain ⟨b1,b2,b3⟩:=b;rw [aP.mk.injEq]
theorem yJ (a:aP) (l m:List aU):jC a (l++m)=jC a l++jC a m:=by simp [jC,pick]
theorem ve {a:aP}:∀ {l:List aU},(∀ y∈l,y.bz≠a)->jC a l=[]
 | [],_=>rfl
 | y :: r,h=>by
  have c:y.bz.same a=false:=by
   cases d:y.bz.same a with
   | false=>rfl
   | true=>exact absurd (pg.1 d) (h y (by simp))
  have b:=ve (l:=r) fun z e=>h z (by simp [e]);simp only [jC,pick] at b |-;rw [flatMap_cons,b,ak (by rw [c];exact lZ)];rfl
theorem KJ {a:aP}:∀ {l:List aU},(∀ y∈l,y.bz=a)->jC a l=l.map aU.br
 | [],_=>rfl
 | y :: r,h=>by
  have c:y.bz.same a=true:=pg.2 (h y (by simp));have b:=KJ (l:=r) fun z d=>h z (by simp [d]);simp only [jC,pick] at b |-;rw [flatMap_cons,b,aq c];rfl
theorem BD (l:List aU) (a:aP) (K:List aP):vY l (a :: K)=DI a (aG (jC a l))++vY l K:=by simp [vY]
theorem xK {l m:List aU}:∀ {K:List aP},(∀ b∈K,aG (jC b l)=aG (jC b m))->vY l K=vY m K
 | [],_=>rfl
 | a :: K,h=>by rw [BD,BD,h a (by simp),xK fun b c=>h b (by simp [c])]
theorem u9 {l m:List aU}:∀ {K:List aP},(∀ b∈K,aG (jC b l)=aG (jC b m))->rM l K=rM m K
 | [],_=>rfl
 | a :: K,h=>by
  have c:=u9 (l:=l) (m:=m) (K:=K) fun b d=>h b (by simp [d]);simp only [rM,all_cons] at c |-;rw [h a (by simp),c]
theorem DB:∀ (K:List aP) (n:Nat) (S out:List aU),S.length<=n->K.Pairwise (fun a b=>a.less b=true)->uU pV S->(∀ x∈S,x.bz∈K)->DA n S out=if rM S K then (out++vY S K,0) else ([],1)
 | [],n,S,out,hn,hK,hS,hm=>by
  cases S with
  | nil=>rw [R5];simp [rM,vY]
  | cons x r=>exact absurd (hm x (by simp)) (by simp)
 | a :: K,n,S,out,hn,hK,hS,hm=>by
  rw [iL] at hK;obtain ⟨q,i⟩:=hK;obtain ⟨T,p⟩:=aQ (S.takeWhile (lU a));obtain ⟨R,s⟩:=aQ (S.dropWhile (lU a));have c:S=T++R:=by rw [p,s,takeWhile_append_dropWhile]
  have u:∀ y∈T,y.bz=a:=fun y d=>pg.1 (ab3 (p ▸ d));have o:uU pV R:=by
   have:uU pV (T++R):=c ▸ hS;exact (pairwise_append.1 this).2.1
  have j:∀ y∈R,y.bz∈K:=by
   cases f:R with
   | nil=>intro y d;cases d
   | cons z r =>
    have w:lU a z=false:=by
     have:=head?_dropWhile_not (lU a) S;rw [<- s,f] at this;simpa using this
    have G:z.bz∈K:=by
     rcases mem_cons.1 (hm z (by rw [c,f];simp)) with h | h
     ·rw [pg.2 h] at w;cases w
     ·exact h
    intro y d;rcases mem_cons.1 (hm y (by rw [c,f];simp only [mem_append];exact .inr d)) with h | h
    ·exfalso;rcases mem_cons.1 d with rfl | d
     ·rw [pg.2 h] at w;cases w
     ·have A:=q z.bz G;rw [f] at o;have H:pV y z=false:=(iL.1 o).1 y d;rw [pV,h,A] at H;cases H
    ·exact h
  have v:∀ b∈K,b≠a:=by
   intro b g h;have:=q b g;rw [h,Qe] at this;unfold aP.lt at this;omega
  have B:jC a R=[]:=ve fun y d=>v _ (j y d);have D:jC a T=T.map aU.br:=KJ u;have C:jC a S=T.map aU.br:=by rw [c,yJ,B,D,append_nil]
  have t:∀ b∈K,aG (jC b S)=aG (jC b R):=by
   intro b g;rw [c,yJ,ve (l:=T) fun y d=>by rw [u y d];exact (v b g).symm];rfl
  rw [show rM S (a :: K)=(bQ (aG (jC a S))&&rM S K) from rfl,BD,C,u9 t,xK t];cases S with
  | nil =>
   have k:T=[]:=p;have e:R=[]:=s;have:=DB K n [] out (Nat.zero_le _) i Pairwise.nil (by intro x I;cases I);rw [this,k,e];rfl
  | cons x r =>
   cases g:lU a x with
   | false =>
    have k:T=[]:=by rw [p,takeWhile_cons,g];rfl
    have e:R=x :: r:=by rw [s,dropWhile_cons,g];rfl
    have:=DB K n (x :: r) out hn i hS (by rw [<- e];exact j);rw [this,k,e];rfl
   | true =>
    obtain ⟨n,rfl⟩:∃ m,n=m+1:=⟨n-1,by simp only [length_cons] at hn;omega⟩
    have F:x.bz=a:=pg.1 g;have E:R.length<=n:=by
     have A:T=x :: r.takeWhile (lU a):=by rw [p,takeWhile_cons,g];rfl
     have:=congrArg length c;rw [cm,A,length_cons,length_cons] at this;simp only [length_cons] at hn;omega
    have:=DB K n R (out++DI a (aG (T.map aU.br))) E i o j;rw [DA,F,QJ,<- p,<- s,this];cases bQ (aG (T.map aU.br))<;>simp
theorem ZN {l m:List Int} (h:l.Perm m):aG l=aG m:=by
 induction h with
 | nil=>rfl
 | cons x _ ih=>simp only [aG,ih]
 | swap x y l=>simp only [aG];omega
 | trans _ _ h1 h2=>rw [h1,h2]
theorem Ok (a:aP) {l m:List aU} (h:l.Perm m):aG (jC a l)=aG (jC a m):=ZN (by unfold jC pick;exact h.flatMap_right _)
theorem Kp (f:∀ x:aP,x.right=true->x∈jd) (g:jd.Pairwise fun a b=>a.less b=true) (l:List aU):uu l=(om l,rL l):=by
 unfold uu om rL;cases e:Ag l
 ·rfl
 ·have c:=uN pV l;have d:=KS e;rw [aq rfl,DB jd _ _ [] (dU _) g (Jc Yv l) (fun x h=>f _ (d x (c.mem_iff.1 h)).1)];rw [u9 (m:=l) fun b _=>Ok b c,xK (m:=l) fun b _=>Ok b c];cases rM l jd<;>rfl
theorem MN (l:List aU) (hl:l.length < 2 ^ 30):Sq 142 [] [.sl 4 (l.map aU.cells)] [] (.I (sB l)):=by
 have F:=AA l ah;refine bf 53 1 [.tmp 2] mixed func142 ?_;refine s0 ?_;by_cases b:l.length=0
 ·have d:((l.length:Int)==0)=true:=by simp [b]
  have e:sB l=2:=by simp [sB,b]
  exact fL (a2 d e)
 have r:((l.length:Int)==0)=false:=by simpa using b
 by_cases s:64 < l.length
 ·have d:decide (64 < (l.length:Int))=true:=iC;have e:sB l=5:=by simp only [sB];rw [ak b,aq s]
  exact fL (a3 r d e)
 have D:decide (64 < (l.length:Int))=false:=jL;refine sc (a2 r D) F ?_;cases f:Ag l
 ·have e:sB l=3:=by simp only [sB];rw [ak b,ak s,f];rfl
  exact fL e
 have e:sB l=if G2 l then 0 else 12:=by simp only [sB];rw [ak b,ak s,f];rfl
 have z:=KS f;rw [e];clear e r D F;refine s0 ?_;refine aM.w1 3 21 [0] [] (fun i _=>∀ c < i,(aG (tE (c:Nat) l)==0)=true) (by simp) ?_ ?_
 ·intro c _ g a B t;have a:decide ((c:Int) < 3)=true:=a;have E:=gz (tE c l) (by have:=gx (fun x:aU=>x.cur==(c:Int)) aU.br l;unfold tE;omega);have A:right (tE c l)=true:=dn.2 (xX fun x C=>(z x C).2);rw [n9,nW,A,fc,aq rfl] at E;have b:=as9 (tE c l);rw [addN] at b;refine sm a ?_;refine aM.wv l.length [0,3,21,24,25] [416] (fun i=>[(26,.I i),(4,.ref 640)]) (fun i=>[(640,.own 1 (ints (tE c (l.take i))))]) ?_ ?_ ?_
  ·simp only [go_sem,seval]<;>simp [tE,pick,ints]
  ·intro i _ p w n _;have q:=aV (c:=aU.cells) l p;have m:ints (tE c (l.take (i+1)))=_:=oW (fun x:aU=>x.cur==(c:Int)) aU.br p;have j:=gx (fun x:aU=>x.cur==(c:Int)) aU.br (l.take i);have hlt:(l.take i).length=i:=by simp;omega
   have hli:(i:Int) < (l.length:Int):=ah
   have j:(tE c (l.take i)).length<=i:=by unfold tE;omega
   obtain ⟨x,C⟩:=aQ (l[i]);rw [<- C] at m q;simp only [aU.cells] at q;refine sm (a2 w q) ?_;refine dP ?_;cases G:x.cur==(c:Int)
   ·simp only [G,nJ,if_false,if_true,append_nil] at m;refine sm n ?_;refine av.v p ?_;simp only [go_sem,seval,m]<;>simp [tE]
   ·simp only [G,nJ,if_false,if_true,append_nil] at m;simp only [go_sem,seval,n,aW,q];refine dP ?_;refine av.v p ?_;simp only [go_sem,seval,m]<;>simp [tE]
  ·intro _ y _;simp only [go_sem,seval,y,jr];refine sl aJ E ?_;cases f:bQ (aG (tE c l))
   ·have:G2 l=false:=by
     rw [G2,all_eq_false];exact ⟨c,mem_range.2 g,by rw [f] at b;rw [<- b];simp⟩
    simp only [go_sem,seval,bne,f,this]
   rw [f,fc,aq rfl] at b;cases o:aG (tE c l)==0
   ·have:G2 l=false:=by
     rw [G2,all_eq_false];exact ⟨c,mem_range.2 g,by rw [o];exact lZ⟩
    simp only [go_sem,seval,f,bne,o,this]
   simp only [go_sem,seval,f,bne,o,B];refine av.u g ?_ ?_
   ·intro k hk;rcases bZ k c with h | h
    ·exact t k h
    ·obtain rfl:k=c:=ah
     exact o
   ·exact gU
 ·intro _ a t;have a:decide ((3:Int) < 3)=false:=a;have:G2 l=true:=dn.2 fun c g=>t c (mem_range.1 g);exact fL (a2 a this)
def gI (b:cq):aU:=⟨b.kind,b.who,b.cur,b.sum⟩
def vc (x:aU):cq:=⟨x.kind,x.who,x.cur,x.br⟩
def KO (x:aU):Bool:=decide (x.br < x.bz.floor)
def D0 (l:bE) (g:List aU):List aU × Int:=uu (g++l.bs.map gI)
def j5 (l:bE) (id:Int) (g:List aU):Int:=
 if l.okB then (if within id 1 1099511627776 then (if id<=l.last then 18 else if sB g=0 then (if (D0 l g).2=0 then (if (D0 l g).1.any KO then 13 else 0) else (D0 l g).2) else sB g) else 3) else 14
def nR (l:bE) (id:Int) (g:List aU):bE:=if j5 l id g=0 then ⟨id,(D0 l g).1.map vc⟩ else ⟨0,[]⟩
theorem apR (l:List aU):(B0 pV l).length=l.length:=QY _ _
theorem R4:∀ (n:Nat) (S out:List aU),(DA n S out).1.length<=out.length+S.length
 | 0,_,out=>by simp [DA]
 | _+1,[],out=>by simp [DA]
 | n+1,x :: r,out=>by
  unfold DA;split
  ·have a:=R4 n ((x :: r).dropWhile (lU x.bz)) (out++DI x.bz (aG (QJ x.bz (x :: r))));have h2:=St x.bz (aG (QJ x.bz (x :: r)));have h3:((x :: r).dropWhile (lU x.bz)).length<=r.length:=by
    rw [dropWhile_cons,show lU x.bz x=true from Eb.2 ⟨rfl,rfl,rfl⟩];exact (dropWhile_suffix _).length_le
   rw [cm] at a;rw [length_cons];omega
  ·simp
theorem Og (l:List aU):(uu l).1.length<=l.length:=by
 unfold uu;split
 ·have:=R4 (B0 pV l).length (B0 pV l) [];rw [apR] at this |-;simpa using this
 ·simp
theorem acD (l:bE) (id:Int) (g:List aU) (hl:l.bs.length < 2 ^ 28) (hg:g.length < 2 ^ 28):Sq 57 [] [.agg l.cells,.I id,.sl 4 (g.map aU.cells)] [.own 4 ((nR l id g).bs.map cq.cells)] (.bT [.agg [.I (nR l id g).last,.ref 0],.I (j5 l id g)]):=by
 have R:=mu l ah;have U:=MN g ah;have Q:=Kr (g++l.bs.map gI) (by rw [cm,qn];omega);have q:=Og (g++l.bs.map gI);rw [cm,qn] at q;simp only [bE.cells] at R |-;refine bf 98 3 [.cell 6 35,.tmp 7] mixed func57 ?_;refine sc aJ R ?_;cases y:l.okB
 ·have e:j5 l id g=14:=by simp [j5,y]
  simp only [go_sem,seval,nR,e]<;>simp
 cases n:within id 1 1099511627776
 ·have e:j5 l id g=3:=by simp [j5,y,n]
  simp only [within,Bool.and_eq_false_iff,gM] at n;by_cases h:id < 1
  ·have d:decide (id < 1)=true:=dI h;simp only [go_sem,seval,d,nR,e]<;>simp
  ·have d:decide (id < 1)=false:=eJ h;have z:decide (1099511627776 < id)=true:=iC;simp only [go_sem,seval,d,z,nR,e]<;>simp
 have M:decide (id < 1)=false:=by simp only [within,cU,bL] at n;exact jL
 have z:decide (1099511627776 < id)=false:=by simp only [within,cU,bL] at n;exact jL
 by_cases A:id<=l.last
 ·have H:decide (id<=l.last)=true:=dI A;have e:j5 l id g=18:=by simp [j5,y,n,A]
  simp only [go_sem,seval,M,z,H,nR,e]<;>simp
 have H:decide (id<=l.last)=false:=eJ A;refine sc (a3 M z H) U ?_;cases C:sB g==0
 ·have K:sB g≠0:=by simpa using C
  have e:j5 l id g=sB g:=by simp [j5,y,n,A,K]
  have e2:nR l id g=⟨0,[]⟩:=by simp [nR,e,K]
  simp only [go_sem,seval,bne,C,e,e2]<;>simp
 have K:sB g=0:=by simpa using C
 have e:j5 l id g=if (D0 l g).2=0 then (if (D0 l g).1.any KO then 13 else 0) else (D0 l g).2:=by simp [j5,y,n,A,K]
 simp only [nR];rw [e];clear e R U n M z H;rw [show uu (g++l.bs.map gI)=D0 l g from rfl] at Q q;obtain ⟨J,p⟩:=aQ ((D0 l g).1);obtain ⟨E,B⟩:=aQ ((D0 l g).2);rw [<- p,<- B] at Q;rw [<- p] at q;rw [<- p,<- B];simp only [go_sem,seval,bne,C];refine dP ?_;have e0:g.map aU.cells=(g++(l.bs.take 0).map gI).map aU.cells:=by simp
 rw [e0];refine aM.wv l.bs.length [1,3,6,47,48] [64,112] (fun i=>[(49,.I i),(9,.ref 976)]) (fun i=>[(976,.own 4 ((g++(l.bs.take i).map gI).map aU.cells))]) ?_ ?_ ?_
 ·exact gU
 ·intro i _ m r w _;have t:=aV (c:=cq.cells) l.bs m;have T:(i:Int) < (l.bs.length:Int):=ah
  have a:(g++(l.bs.take (i+1)).map gI)=(g++(l.bs.take i).map gI)++[gI l.bs[i]]:=by rw [l7 m,jq,cQ];rfl
  have k:(g++(l.bs.take i).map gI).length<=g.length+i:=by rw [cm,qn,dY];omega
  obtain ⟨b,V⟩:=aQ (l.bs[i]);rw [<- V] at t a;obtain ⟨W,S⟩:=aQ (g++(l.bs.take i).map gI);rw [<- S] at a k |-;simp only [cq.cells] at t;refine sm (a3 r t w) ?_;refine dP ?_;refine av.v m ?_;simp only [go_sem,seval,a,jq,map_cons,map_nil,gI]
 ·intro _ s _;rw [jr];refine sm s ?_;refine aD.iT [976] [] false (by simp) ?_;refine s0 ?_;refine cY.gB Q ?_;cases D:E==0
  ·have N:E≠0:=by simpa using D
   simp only [go_sem,seval,bne,D,N]<;>simp
  have N:E=0:=by simpa using D
  subst N;simp only [go_sem,seval,bne,D];refine aM.wu J.length [6,13,73,74] [112,1040] (fun i=>[(75,.I i)]) (fun i=>[(224,.box [.I id,.ref 1520]),(1520,.own 4 (((J.take i).map vc).map cq.cells))]) (fun i=>(J.take i).any KO=false) rfl ?_ ?_ ?_
  ·simp only [go_sem,seval]<;>simp
  ·intro i _ m r w L;have t:=aV (c:=aU.cells) J m;have T:(i:Int) < (J.length:Int):=ah
   have a:(J.take (i+1)).map vc=(J.take i).map vc++[vc J[i]]:=by rw [l7 m,jq];rfl
   have f:(J.take (i+1)).any KO=((J.take i).any KO||KO J[i]):=by rw [l7 m,any_append];simp
   have o:KO J[i]=true->J.any KO=true:=fun h=>any_eq_true.2 ⟨J[i],ck m,h⟩;have k:((J.take i).map vc).length<=i:=by rw [qn,dY];omega
   obtain ⟨x,X⟩:=aQ (J[i]);rw [<- X] at t a f o;have O:=wR x.bz;have j:KO x=decide (x.br < x.bz.floor):=rfl;obtain ⟨F,P⟩:=aQ (x.bz.floor);rw [<- P] at O j;obtain ⟨W,S⟩:=aQ ((J.take i).map vc);rw [<- S] at a k |-;simp only [aU.cells] at t;simp only [aP.cells,aU.bz] at O;refine sc (a2 r t) O ?_;cases G:decide (x.br < F)
   ·rw [G] at j;rw [j,Bool.or_false] at f;refine sm (a2 G w) ?_;refine dP ?_;refine av.u m (by rw [f];exact L) ?_;simp only [go_sem,seval,a,jq,map_cons,map_nil,vc]
   ·rw [G] at j;have:=o j;simp only [go_sem,seval,G,this]<;>simp
  ·intro _ s L;rw [jr] at L |-;simp only [go_sem,seval,s,L]<;>simp
theorem OX (a b:List Int):aG (a++b)=aG a+aG b:=by
 induction a with
 | nil=>simp [aG]
 | cons x r ih=>simp only [cons_append,aG,ih];omega
theorem Kk {a:aP} {b:cq}:WB a b=true ↔ b.bz=a:=by
 have:WB a b=lU a (gI b):=rfl;rw [this,pg];rfl
theorem Oz {a:aP}:∀ {bs:List cq},(∀ b∈bs,b.bz≠a)->jo a bs=0
 | [],_=>rfl
 | b :: r,h=>by
  have c:WB a b=false:=by
   cases d:WB a b with
   | false=>rfl
   | true=>exact absurd (Kk.1 d) (h b (by simp))
  rw [jo,c];exact Oz fun z e=>h z (by simp [e])
theorem Su (a:aP):∀ {bs:List cq},bs.Pairwise (fun x y=>x.bz.less y.bz=true)->aG (jC a (bs.map gI))=jo a bs
 | [],_=>rfl
 | b :: r,h=>by
  rw [iL] at h;have j:=Su a h.2;have g:jC a ((b :: r).map gI)=jC a [gI b]++jC a (r.map gI):=yJ a [gI b] (r.map gI);rw [g,OX,j,jo];cases f:WB a b with
  | false =>
   rw [ve (l:=[gI b]) fun y e=>by
    rw [ga.1 e];intro d;have:WB a b=true:=Kk.2 d
    rw [f] at this;cases this]
   simp [aG]
  | true =>
   have c:=Kk.1 f;rw [KJ (l:=[gI b]) fun y e=>by rw [ga.1 e];exact c]
   rw [Oz fun z i=>by
    intro d;have:=h.1 z i;rw [d,c,Qe] at this
    unfold aP.lt at this;omega]
   simp [aG,gI]
theorem floor_le (a:aP):a.floor<=0:=by
 unfold aP.floor;split<;>omega
theorem post_eq (t:∀ x:aP,x.right=true->x∈jd) (u:jd.Pairwise fun a b=>a.less b=true)
  (h:∀ bs:List cq,lE bs=true->(∀ b∈bs,qG b=true)/\bs.Pairwise (fun x y=>x.bz.less y.bz=true))
  (l:bE) (id:Int) (g:List aU):j5 l id g=gf l id g/\nR l id g=kR l id g:=by
 have key:l.okB=true->sB g=0->(D0 l g).2=(if Ho l g jd then 0 else 1)/\(Ho l g jd=true->(D0 l g).1.any KO=Tc l g jd/\(D0 l g).1.map vc=Tb l g jd):=by
  intro e d;have n:lE l.bs=true:=by
   unfold bE.okB at e;simp only [cU] at e;exact e.1.2
  obtain ⟨s,o⟩:=h _ n;have r:=(Rz d).1;have i:Ag (g++l.bs.map gI)=true:=by
   unfold Ag at r |-;rw [all_append,r,fc,dn];intro x v;obtain ⟨b,k,rfl⟩:=mem_map.1 v;have:=s b k;unfold qG at this;simp only [cU] at this;unfold SH;rw [cU];exact ⟨this.1,this.2.1⟩
  have p:∀ a,aG (jC a (g++l.bs.map gI))=tP l g a:=by
   intro a;rw [yJ,OX,Su a o,tP,aG];omega
  have m:rM (g++l.bs.map gI) jd=Ho l g jd:=by
   unfold rM Ho;congr 1;funext a;rw [p]
  unfold D0;rw [Kp t u];unfold om rL;rw [i,aq rfl,m];refine ⟨rfl,fun f=>?_⟩;rw [f,aq rfl,aq rfl];refine ⟨?_,?_⟩
  ·unfold vY Tc;rw [any_flatMap];congr 1;funext a;rw [p];unfold DI;cases w:tP l g a==0
   ·simp [KO,aU.bz];rfl
   ·have:tP l g a=0:=by simpa using w
    have hf:=floor_le a;simp [this];omega
  ·unfold vY Tb;rw [map_flatMap];congr 1;funext a;rw [p];unfold DI EB;split<;>rfl
 have q:j5 l id g=gf l id g:=by
  unfold j5 gf;cases e:l.okB
  ·rfl
  cases h2:within id 1 1099511627776
  ·rfl
  by_cases j:id<=l.last
  ·rw [aq j,aq j]
  rw [ak j,ak j];by_cases d:sB g=0
  ·obtain ⟨k1,k2⟩:=key e d;rw [aq d,aq d,k1];cases f:Ho l g jd
   ·rfl
   ·rw [(k2 f).1];rfl
  ·rw [ak d,ak d]
 refine ⟨q,?_⟩;unfold nR kR;rw [q];by_cases c:gf l id g=0
 ·rw [aq c,aq c];unfold gf at c;split at c
  ·rename_i e;split at c
   ·split at c
    ·cases c
    ·split at c
     ·rename_i d;split at c
      ·rename_i f;rw [((key e d).2 f).2]
      ·cases c
     ·rename_i d;exact absurd c d
   ·cases c
  ·cases c
 ·rw [ak c,ak c]
def uL (a:aE->aE->Bool):aE->List aE->List aE
 | _,[]=>[]
 | p,y :: r=>if a y p then uL a y r else y :: uL a y r
def BV (a:aE->aE->Bool):List aE->List aE
 | []=>[]
 | x :: r=>x :: uL a x r
theorem D9 (a:aE->aE->Bool):∀ (p:aE) (l:List aE),(uL a p l).length<=l.length
 | _,[]=>dU _
 | p,y :: r=>by
  have:=D9 a y r;unfold uL;split<;>simp only [length_cons]<;>omega
theorem LB (a:aE->aE->Bool) (l:List aE):(BV a l).length<=l.length:=by
 cases l with
 | nil=>exact dU _
 | cons x r=>have:=D9 a x r;simp only [BV,length_cons];omega
theorem JO (e:aE->aE->Bool) (g:FuncId) (hg:∀ x y:aE,Sq g [] [.agg x.cells,.agg y.cells] [] (.bool (e x y))) (l:List aE) (hN:l.length < 2 ^ 38) (Y:List D) (d:D)
  (O:(BV e l).length=l.length->Y=[.own 3 (l.map aE.cells)]/\d=.ref 0)
  (Q:(BV e l).length < l.length->Y=[.own 3 ((BV e l).map aE.cells++replicate (l.length-(BV e l).length) [.I 0,.I 0,.I 0])]/\d=.eC 0 3 0 (BV e l).length) :
  Sq 125 [.own 3 (l.map aE.cells)] [.ref 0,.fn g []] Y d:=by
 obtain ⟨N,a⟩:=aQ (l.length);obtain ⟨Z,S⟩:=aQ (BV e l);rw [<- a] at hN O Q;rw [<- S] at O Q;rcases bZ N 2 with h2 | h2
 ·have P:decide ((N:Int) < 2)=true:=iC;have hz:Z=l:=by
   rw [S];cases l with
   | nil=>rfl
   | cons x r =>
    cases r with
    | nil=>rfl
    | cons y r=>simp only [length_cons] at a;omega
  obtain ⟨rfl,rfl⟩:=O (by rw [hz];exact a.symm);refine bf 66 2 [.tmp 4] mixed func125 ?_;simp only [go_sem,seval,<- a,P]
 have P:decide ((N:Int) < 2)=false:=jL;refine bf 66 2 [.tmp 4] mixed func125 ?_;simp only [go_sem,seval,<- a,P];refine aM.vh (T:=Nat) [0,1,4] [0] (fun k=>[(5,.I ((k+1:Nat):Int))]) (fun _=>[]) (fun k=>k+1<=N/\∃ p,l[k]?=some p/\Z=l.take (k+1)++uL e p (l.drop (k+1))) (fun k=>N-k) 0 ?_ ?_ ?_
 ·refine ⟨by omega,?_⟩;cases l with
  | nil=>simp only [length_nil] at a;omega
  | cons x r=>exact ⟨x,rfl,by rw [S];rfl⟩
 ·exact gU
 ·rintro k ⟨hk,p,hp,hr⟩;rcases bZ (k+1) N with hlt | hge
  ·have L:decide (((k+1:Nat):Int) < (N:Int))=true:=iC;have wk:IntKind.wrap .i64 (((k+1:Nat):Int)-1)=((k:Nat):Int):=gN;have wk1:IntKind.wrap .i64 (((k+1:Nat):Int)+1)=((k+1+1:Nat):Int):=gN;have n:k+1 < l.length:=ah
   obtain ⟨y,o⟩:=iM n;have X:l.drop (k+1)=y :: l.drop (k+1+1):=by
    rw [drop_eq_getElem_cons n];congr 1;rw [fO n] at o;exact Option.some.inj o
   have m1:=(iy (c:=aE.cells) hp hp).1;have m2:=(iy (c:=aE.cells) o o).1;have B:=hg y p;rw [X,uL] at hr;simp only [aE.cells] at m1 m2 B;cases hq:e y p with
   | false =>
    rw [hq] at B hr;rw [ak lZ] at hr;simp only [go_sem,seval,<- a,L,wk,m1,m2];refine sc aJ B ?_;simp only [go_sem,seval,wk1];refine ⟨k+1,⟨by omega,y,o,?_⟩,?_,by show N-(k+1) < N-k;omega⟩
    ·have ht:l.take (k+1+1)=l.take (k+1)++[y]:=by rw [take_add_one,o];rfl
     show Z=l.take (k+1+1)++uL e y (l.drop (k+1+1));rw [hr,ht];simp
    ·exact gU
   | true =>
    rw [hq] at B hr;rw [aq rfl] at hr;have A:Z.length < N:=by
     have:=D9 e y (l.drop (k+1+1));rw [hr,cm,dY,<- a];rw [fj,<- a] at this;omega
    obtain ⟨rfl,rfl⟩:=Q A;have wsl:((N:Int)-((k+1:Nat):Int))=((N-(k+1):Nat):Int):=ah
    simp only [go_sem,seval,<- a,L,wk,m1,m2];refine sc aJ B ?_;simp only [go_sem,seval,<- a];refine dP ?_;have hZl2:Z.length < N:=A;refine aM.vh (T:=Nat × Nat × List aE) [0,1,4,6] [] (fun s=>[(5,.I ((s.2.1:Nat):Int)),(7,.I ((s.1:Nat):Int))]) (fun s=>[(0,.own 3 (s.2.2.map aE.cells))]) (fun s=>1<=s.1/\s.1+(k+1)<=N/\k+1<=s.2.1/\s.2.1<=k+s.1/\s.2.2.length=N/\s.2.2.drop (k+s.1)=l.drop (k+s.1)/\∃ p,l[k+s.1]?=some p/\Z=s.2.2.take s.2.1++uL e p (l.drop (k+s.1+1))) (fun s=>N-s.1) (1,k+1,l) ?_ ?_ ?_
    ·exact ⟨dU _,by show 1+(k+1)<=N;omega,dU _,dU _,a.symm,rfl,y,o,hr⟩
    ·exact gU
    ·rintro ⟨k2,j,W⟩ ⟨i1,i2,i3,i4,i5,i6,q,iq,ir⟩;dsimp only at i1 i2 i3 i4 i5 i6 iq ir;have t:∀ i,k+k2<=i->W[i]?=l[i]?:=by
      intro i hi;have:=congrArg (fun z=>z[i-(k+k2)]?) i6;simp only [getElem?_drop] at this;rwa [show k+k2+(i-(k+k2))=i by omega] at this
     rcases bZ (k2+(k+1)) N with hlt2 | hge2
     ·have M:decide ((k2:Int) < ((N-(k+1):Nat):Int))=true:=iC;have J:IntKind.wrap .i64 ((k2:Int)-1)=((k2-1:Nat):Int):=gN;have K:IntKind.wrap .i64 ((k2:Int)+1)=((k2+1:Nat):Int):=gN;have wj:IntKind.wrap .i64 ((j:Int)+1)=((j+1:Nat):Int):=gN;have m:k+k2+1 < l.length:=ah
      obtain ⟨b,h⟩:=iM m;have E:l.drop (k+k2+1)=b :: l.drop (k+k2+1+1):=by
       rw [drop_eq_getElem_cons m];congr 1;rw [fO m] at h;exact Option.some.inj h
      have g1:W[k+1+(k2-1)]?=some q:=by rw [t _ ah,show k+1+(k2-1)=k+k2 by omega];exact iq
      have g2:W[k+1+k2]?=some b:=by rw [t _ ah,show k+1+k2=k+k2+1 by omega];exact h
      have n1:=(iy (c:=aE.cells) g1 g1).1;have n2:=(iy (c:=aE.cells) g2 g2).1;have f:=hg b q;have C:W.drop (k+k2+1)=l.drop (k+k2+1):=by
       have:=congrArg (drop 1) i6;simpa only [drop_drop] using this
      obtain ⟨v,hv⟩:=iM (l:=W) (i:=j) ah;have n3:=(iy (c:=aE.cells) hv hv).1;rw [E,uL] at ir;have H:(W.map aE.cells).set j b.cells=(W.set j b).map aE.cells:=by rw [map_set]
      simp only [aE.cells] at n1 n2 n3 f H;cases G:e b q with
      | true =>
       rw [G] at f ir;rw [aq rfl] at ir;refine sc (a5 i5 M J n1 (a2 n2 K)) f ?_;refine ⟨(k2+1,j,W),⟨by show 1<=k2+1;omega,by show k2+1+(k+1)<=N;omega,i3,by show j<=k+(k2+1);omega,i5,?_,b,h,ir⟩,?_,by show N-(k2+1) < N-k2;omega⟩
       ·show W.drop (k+k2+1)=l.drop (k+k2+1);exact C
       ·exact gU
      | false =>
       rw [G] at f ir;rw [ak lZ] at ir;refine sc (a5 i5 M J n1 (a5 n2 n3 K wj H)) f ?_;refine dP ?_;refine ⟨(k2+1,j+1,W.set j b),⟨by show 1<=k2+1;omega,by show k2+1+(k+1)<=N;omega,by show k+1<=j+1;omega,by show j+1<=k+(k2+1);omega,by show (W.set j b).length=N;rw [length_set];exact i5,?_,b,h,?_⟩,?_,by show N-(k2+1) < N-k2;omega⟩
       ·show (W.set j b).drop (k+k2+1)=l.drop (k+k2+1);rw [drop_set_of_lt ah];exact C
       ·show Z=(W.set j b).take (j+1)++uL e b (l.drop (k+k2+1+1));have ht:(W.set j b).take (j+1)=W.take j++[b]:=by
         rw [take_add_one,take_set_of_le (dU _),getElem?_set_self ah];rfl
        rw [ir,ht];simp
       ·exact gU
     ·have M:decide ((k2:Int) < ((N-(k+1):Nat):Int))=false:=jL;have u:Z=W.take j:=by rw [ir,drop_of_length_le ah];simp [uL]
      have w:Z.length=j:=by rw [u,dY];omega
      refine sm (a2 i5 M) ?_;refine dP ?_;with_reducible refine dH.RA (z:=3) (r:=0) (lo:=j) (l:=N-j) (R:=W.map aE.cells) (zc:=[.I 0,.I 0,.I 0]) akk ?_ ?_ ?_ ?_ ?_ ?_ ?_ ?_
      ·rfl
      ·rfl
      ·exact aqp
      ·rfl
      ·simp [go_sem]
      ·rw [qn];omega
      ·omega
      ·have aa:splice (W.map aE.cells) j (replicate (N-j) [.I 0,.I 0,.I 0])=Z.map aE.cells++replicate (N-Z.length) [.I 0,.I 0,.I 0]:=by
        rw [splice,drop_of_length_le (by rw [qn,length_replicate];omega),w,u,map_take,append_nil]
       have V:(Z.map aE.cells++replicate (N-Z.length) [D.I 0,.I 0,.I 0]).length=N:=by
        rw [cm,qn,length_replicate];omega
       rw [aa];generalize Z.map aE.cells++replicate (N-Z.length) [D.I 0,.I 0,.I 0]=F at *;refine sm (a2 V w) ?_;exact okx
  ·have L:decide (((k+1:Nat):Int) < (N:Int))=false:=jL;have hkN:k+1=N:=ah
   have U:Z=l:=by
    rw [hr,take_of_length_le ah,drop_of_length_le ah];simp [uL]
   obtain ⟨rfl,rfl⟩:=O (by rw [U];exact a.symm);simp only [go_sem,seval,<- a,L]
theorem Mv (p:aE->Bool) (g:FuncId) (r:∀ x:aE,Sq g [] [.agg x.cells] [] (.bool (p x))) (cs:List aE) (f:cs.length < 2 ^ 60):Sq 300 [] [.sl 3 (cs.map aE.cells),.fn g []] [] (.I (jt (fun c:aE=>if p c then 1 else 0) 1 cs)):=by
 refine bf 19 2 [.tmp 4] mixed func300 ?_;refine s0 ?_;refine aM.w1 cs.length 8 [0,1,7] [] (fun i _=>∀ j (a:j < cs.length),j < i->(if p cs[j] then (1:Int) else 0)≠1) (by intros;omega) ?_ ?_
 ·intro i _ m k s b;have o:=aV (c:=aE.cells) cs m;have hli:(i:Int) < (cs.length:Int):=ah
  have f:=r cs[i];simp only [aE.cells] at o f;refine sc (a2 k o) f ?_;cases d:p cs[i]
  ·refine sm (a2 d s) ?_;refine av.u m ?_ ?_
   ·intro j a hji;rcases bZ j i with h | h
    ·exact b j a h
    ·obtain rfl:j=i:=ah
     simp [d]
   ·exact gU
  ·obtain ⟨q,e⟩:=rH (no:=fun c:aE=>if p c then (1:Int) else 0) (n:=1) (z:=(⟨0,0,0⟩:aE)) m b (by simp [d]);rw [e];exact fL d
 ·intro _ l b;obtain ⟨q,e⟩:=oO (no:=fun c:aE=>if p c then (1:Int) else 0) (n:=1) (z:=(⟨0,0,0⟩:aE)) (fun j a=>b j a a);rw [e];exact fL l
theorem EI (p:aE->Bool) (g:FuncId) (d:∀ x:aE,Sq g [] [.agg x.cells] [] (.bool (p x))) (cs:List aE) (b:cs.length < 2 ^ 60):Sq 232 [] [.sl 3 (cs.map aE.cells),.fn g []] [] (.bool (cs.any p)):=by
 have h:=Mv p g d cs b;have e:decide (0<=jt (fun c:aE=>if p c then (1:Int) else 0) 1 cs)=cs.any p:=by
  rw [vu];congr 1;funext c;cases a:p c<;>simp [a]
 refine bf 9 2 [.tmp 4] mixed func232 ?_;exact jW e h
theorem KX (x:aE):Sq 233 [] [.agg x.cells] [] (.bool (!bQ x.br)):=by
 have a:=bY [x.br] (by simp);rw [tQ] at a;simp only [ints,map_cons,map_nil] at a;simp only [aE.cells];refine bf 8 1 [.tmp 2] mixed func233 ?_;exact Xh aJ a
theorem AF (l:List aE) (hl:l.length < 2 ^ 40):Sq 119 [] [.sl 3 (l.map aE.cells)] [] (.bool (oV l)):=by
 have h:=EI (fun x=>!bQ x.br) 233 KX l ah;have e:(!l.any fun x=>!bQ x.br)=oV l:=by rw [oV,not_any_eq_all_not];simp
 refine bf 6 1 [.tmp 2] mixed func119 ?_;exact jW e h
theorem US (w c:Int) (l:List aE) (hl:l.length < 2 ^ 29):Sq 127 [] [.I w,.I c,.sl 3 (l.map aE.cells)] [] (.bT [.I (oP w c l),.I (jg w c l)]):=by
 have t:=AF l ah;refine bf 40 3 [.tmp 6,.tmp 7] mixed func127 ?_;refine sc aJ t ?_;cases n:oV l
 ·have e:jg w c l=3:=by simp [jg,n]
  simp only [go_sem,seval,oP,e]<;>simp
 have e:jg w c l=if bQ (aG (By w c l)) then 0 else 1:=by simp [jg,n]
 have p:∀ x∈l,bQ x.br=true:=fun x k=>dn.1 n x k;have s:=gz (By w c l) (by have:=gx (NR w c) aE.br l;unfold By;omega);have q:right (By w c l)=true:=dn.2 (xX fun x k=>p x k);rw [n9,nW,q,fc,aq rfl] at s;simp only [oP];rw [e];clear e t;refine s0 ?_;refine aM.wv l.length [0,1,14,15] [256] (fun i=>[(16,.I i),(8,.ref 560)]) (fun i=>[(560,.own 1 (ints (By w c (l.take i))))]) ?_ ?_ ?_
 ·simp only [go_sem,seval]<;>simp [By,pick,ints]
 ·intro i _ g b d _;have j:=aV (c:=aE.cells) l g;have a:ints (By w c (l.take (i+1)))=ints (By w c (l.take i))++_:=oW (NR w c) aE.br g;have h:(By w c (l.take i)).length<=(l.take i).length:=gx (NR w c) aE.br (l.take i);have hlt:(l.take i).length=i:=by simp;omega
  have hli:(i:Int) < (l.length:Int):=ah
  obtain ⟨x,k⟩:=aQ (l[i]);obtain ⟨L,u⟩:=aQ (By w c (l.take i));rw [<- u] at a h |-;rw [<- k] at a j;simp only [aE.cells] at j;simp only [NR] at a;cases f:x.who==w
  ·simp only [f,gV,nJ,if_false,append_nil] at a;refine sm (a4 b j f d) ?_;refine dP ?_;refine av.v g ?_;exact fL a
  cases m:x.cur==c
  ·simp only [f,m,Bool.and_false,nJ,if_false,append_nil] at a;refine sm (a5 b j f m d) ?_;refine dP ?_;refine av.v g ?_;exact fL a
  simp only [f,m,Bool.and_self,if_true] at a;simp only [go_sem,seval,b,j,f,m,d,aW];refine dP ?_;refine av.v g ?_;exact fL a
 ·intro _ o _;simp only [go_sem,seval,o,jr];refine sl aJ s ?_;cases r:bQ (aG (By w c l))
  ·simp only [go_sem,seval,r]<;>simp
  ·simp only [go_sem,seval,r]<;>simp
theorem SO (x y:aE):∃ c:Int,Sq 122 [] [.agg x.cells,.agg y.cells] [] (.I c)/\decide (c < 0)=gE x y:=by
 have a:=gJ x.who y.who;have b:=gJ x.cur y.cur;have d:=oH (eM x.who y.who) (eM x.cur y.cur);refine ⟨if eM x.who y.who=0 then eM x.cur y.cur else eM x.who y.who,?_,?_⟩
 ·simp only [aE.cells];refine bf 17 2 [.tmp 4] mixed func122 ?_;refine sc aJ a ?_;refine sc aJ b ?_;exact Xh aJ d
 ·rw [lA,decide_eq_true_iff,iJ];simp only [eM];repeat' split
  all_goals omega
def mm (x y:aE):Bool:=x.who==y.who&&x.cur==y.cur
theorem Vi (x y:aE):Sq 126 [] [.agg x.cells,.agg y.cells] [] (.bool (mm x y)):=by
 simp only [aE.cells];cases q:x.who==y.who;all_goals
  refine bf 17 2 [.tmp 4] mixed func126 ?_;simp only [go_sem,seval,q,mm];try simp
def xT (l:List aE):List aE->List aE->List aE × Int
 | [],out=>(out,0)
 | d :: r,out=>if jg d.who d.cur l=0 then xT l r (out++BH l d) else ([],jg d.who d.cur l)
def KB (l:List aE):List aE:=BV mm (B0 gE l)
def pY (l:List aE):List aE × Int:=if oV l then xT l (KB l) [] else ([],3)
theorem SR (l:List aE) (d:aE):(BH l d).length<=1:=by unfold BH;split<;>simp
theorem GM (l:List aE):(B0 gE l).length=l.length:=QY _ _
theorem abr {A:Type} {xs a:List A} {i:Nat} {z:A} (h:i < xs.length):(xs++a).getD i z=xs.getD i z:=by
 rw [getD,getD,getElem?_append_left h]
theorem WO (l:List aE) (hl:l.length < 2 ^ 28):Sq 54 [] [.sl 3 (l.map aE.cells)] [.own 3 ((pY l).1.map aE.cells)] (.bT [.ref 0,.I (pY l).2]):=by
 have M:=AF l ah;have R:=Co l ah;have P:=QV gE 122 SO l ah;have L:=fun w c=>US w c l ah;refine bf 50 1 [.tmp 2,.tmp 3] mixed func54 ?_;refine sc aJ M ?_;cases K:oV l
 ·simp only [go_sem,seval,pY,K]<;>simp
 have Q:pY l=xT l (KB l) []:=by rw [pY,K,aq rfl]
 rw [Q];clear Q M;have f:=JO mm 126 Vi (B0 gE l) (by rw [GM];omega);have s:=LB mm (B0 gE l);have J:=GM l;unfold KB;obtain ⟨T,U⟩:=aQ (B0 gE l);rw [<- U] at P f s J |-;obtain ⟨Z,C⟩:=aQ (BV mm T);rw [<- C] at f s |-;refine so aJ R ?_;refine sg [240] aJ P ?_;refine aD.iT [] [240] false (by simp) ?_;refine s0 ?_;have z:=SR l;rcases Nat.eq_or_lt_of_le s with hk | hk
 ·have f:=f _ _ (fun _=>⟨rfl,rfl⟩) (fun h=>absurd hk ah);have v:T.map aE.cells=Z.map aE.cells:=by
   rw [C];have k:∀ (p:aE) (r:List aE),(uL mm p r).length=r.length->uL mm p r=r:=by
    intro p r;induction r generalizing p with
    | nil=>intro _;rfl
    | cons y r ih =>
     intro h;unfold uL at h |-;split at h
     ·have:=D9 mm y r;simp only [length_cons] at h;omega
     ·rename_i V;rw [ak V];rw [ih y (by simpa using h)]
   cases T with
   | nil=>rfl
   | cons x r=>rw [BV,k x r (by rw [C] at hk;simpa [BV] using hk)]
  have B:T.length=Z.length:=hk.symm;rw [v] at f;rw [v];refine cY.gB f ?_;refine sm B ?_;refine aM.uB (S:=List aE) Z.length [0,19,20] [240] (fun i _=>[(21,.I i),(5,.ref 768)]) (fun i o=>[(768,.own 3 (o.map aE.cells))]) (fun i o=>o.length<=i/\xT l (Z.drop i) o=xT l Z []) [] ⟨dU _,rfl⟩ ?_ ?_ ?_
  ·simp only [go_sem,seval]<;>simp
  ·intro i o g n e a;obtain ⟨u,a⟩:=a;have t:=aV (c:=aE.cells) Z g;have F:(i:Int) < (Z.length:Int):=ah
   rw [fZ g,xT] at a;obtain ⟨d,E⟩:=aQ (Z[i]);rw [<- E] at t a;have m:=L d.who d.cur;have H:=z d;simp only [aE.cells] at t;refine sc (a2 n t) m ?_;cases b:jg d.who d.cur l==0
   ·have k:jg d.who d.cur l≠0:=by simpa using b
    rw [ak k] at a;rw [<- a];simp only [go_sem,seval,bne,b]<;>simp
   ·have k:jg d.who d.cur l=0:=by simpa using b
    rw [aq k] at a;cases j:oP d.who d.cur l==0
    ·rw [BH,j,ak lZ] at a;simp only [go_sem,seval,bne,b,j,e];refine dP ?_;refine av.kW (o++[⟨d.who,d.cur,oP d.who d.cur l⟩]) g ⟨by rw [cm];simp only [length_cons,length_nil];omega,a⟩ ?_;simp only [go_sem,seval,jq,map_cons,map_nil]
    ·rw [BH,j,aq rfl,append_nil] at a;simp only [go_sem,seval,bne,b,j,e];refine dP ?_;refine av.kW o g ⟨by omega,a⟩ ?_;exact gU
  ·intro o q a;obtain ⟨u,a⟩:=a;rw [nx,xT] at a;rw [<- a];simp only [go_sem,seval,q]<;>simp
 ·have f:=f _ _ (fun h=>absurd hk ah) (fun _=>⟨rfl,rfl⟩);obtain ⟨O,N⟩:∃ O:List (List D),O=replicate (T.length-Z.length) [D.I 0,D.I 0,D.I 0]:=⟨_,rfl⟩
  have A:O.length=T.length-Z.length:=by rw [N,length_replicate]
  rw [<- N] at f;refine cY.gB f ?_;simp only [go_sem,seval,cm];refine aM.uB (S:=List aE) Z.length [0,19,20] [240] (fun i _=>[(21,.I i),(5,.ref 768)]) (fun i o=>[(768,.own 3 (o.map aE.cells))]) (fun i o=>o.length<=i/\xT l (Z.drop i) o=xT l Z []) [] ⟨dU _,rfl⟩ ?_ ?_ ?_
  ·simp only [go_sem,seval]<;>simp
  ·intro i o g n e a;obtain ⟨u,a⟩:=a;have t:=aV (c:=aE.cells) Z g;have F:(i:Int) < (Z.length:Int):=ah
   rw [fZ g,xT] at a;obtain ⟨d,E⟩:=aQ (Z[i]);rw [<- E] at t a;have m:=L d.who d.cur;have H:=z d;simp only [aE.cells] at t;have G:(Z.map aE.cells++O).getD i []=[.I d.who,.I d.cur,.I d.br]:=by rw [abr (by rw [qn];exact g)];exact t
   simp only [go_sem,seval,n,G,cm,A];refine sc aJ m ?_;cases b:jg d.who d.cur l==0
   ·have k:jg d.who d.cur l≠0:=by simpa using b
    rw [ak k] at a;rw [<- a];simp only [go_sem,seval,bne,b]<;>simp
   ·have k:jg d.who d.cur l=0:=by simpa using b
    rw [aq k] at a;cases j:oP d.who d.cur l==0
    ·rw [BH,j,ak lZ] at a;simp only [go_sem,seval,bne,b,j,e];refine dP ?_;refine av.kW (o++[⟨d.who,d.cur,oP d.who d.cur l⟩]) g ⟨by rw [cm];simp only [length_cons,length_nil];omega,a⟩ ?_;simp only [go_sem,seval,jq,map_cons,map_nil]
    ·rw [BH,j,aq rfl,append_nil] at a;simp only [go_sem,seval,bne,b,j,e];refine dP ?_;refine av.kW o g ⟨by omega,a⟩ ?_;exact gU
  ·intro o q a;obtain ⟨u,a⟩:=a;rw [nx,xT] at a;rw [<- a];simp only [go_sem,seval,q]<;>simp
theorem u0 {a b:aE}:gE a b=false ↔ ¬ (a.who < b.who\/(a.who=b.who/\a.cur < b.cur)):=by rw [<- iJ];simp
theorem mV {a b:aE}:mm a b=true ↔ a.who=b.who/\a.cur=b.cur:=by simp [mm]
theorem OP (f:Bool) (last:aE):∀ (l:List aE) (s:Bool × aE),(∀ d∈l,(f||gE last d)=true->(kX f last l s).1=true/\gE d (kX f last l s).2=false)/\(s.1=true->(kX f last l s).1=true/\gE s.2 (kX f last l s).2=false)
 | [],s=>by
  refine ⟨fun d m=>(by cases m),fun h=>⟨h,?_⟩⟩;show gE s.2 s.2=false;rw [u0];omega
 | d :: r,s=>by
  obtain ⟨i,c⟩:=OP f last r (if Oy f last s d then (true,d) else s);rw [kX];cases a:Oy f last s d with
  | true =>
   rw [a,aq rfl] at i c;rw [aq rfl];obtain ⟨j,e⟩:=c rfl;refine ⟨fun x b g=>?_,fun n=>⟨j,?_⟩⟩
   ·rcases mem_cons.1 b with rfl | b
    ·exact ⟨j,e⟩
    ·exact i x b g
   ·simp only [Oy,cU,n,Bool.not_true,Bool.false_or] at a;have k:=a.2;rw [iJ] at k;rw [u0] at e |-;dsimp only at e;omega
  | false =>
   rw [a,ak lZ] at i c;rw [ak lZ];refine ⟨fun x b g=>?_,c⟩;rcases mem_cons.1 b with rfl | b
   ·simp only [Oy,g,fc,Bool.or_eq_false_iff,Bool.not_eq_false'] at a;obtain ⟨j,e⟩:=c a.1;refine ⟨j,?_⟩;have k:=a.2;rw [u0] at k e |-;omega
   ·exact i x b g
theorem ab7 (l:List aE) {a b:aE} (c:a.who=b.who) (d:a.cur=b.cur):BH l a=BH l b:=by unfold BH;rw [c,d]
theorem Ow (l:List aE):∀ (Z:List aE) (n:Nat) (f:Bool) (last:aE) (out:List aE),Z.length < n->Z.Pairwise (fun a b=>gE a b=true)->(∀ z∈Z,(f||gE last z)=true/\z∈l)->(∀ d∈l,(f||gE last d)=true->∃ z∈Z,mm z d=true)->Qh l n f last out=xT l Z out
 | Z,0,_,_,_,h,_,_,_=>by omega
 | [],n+1,f,last,out,_,_,_,hk=>by
  rw [Qh,xT];cases i:(kX f last l (false,.zero)).1 with
  | false=>rfl
  | true =>
   exfalso;rcases GH i with e | ⟨p,h2⟩
   ·rw [e] at i;cases i
   ·obtain ⟨z,o,_⟩:=hk _ p h2;cases o
 | z :: Z,n+1,f,last,out,hn,hp,o,hk=>by
  rw [iL] at hp;obtain ⟨v,w⟩:=o z (by simp);obtain ⟨i,A⟩:=(OP f last l (false,.zero)).1 z w v;have c:(kX f last l (false,.zero)).2∈l/\(f||gE last (kX f last l (false,.zero)).2)=true:=by
   rcases GH i with e | h
   ·rw [e] at i;cases i
   ·exact h
  rw [Qh,xT,i,aq rfl];obtain ⟨s,t⟩:=aQ ((kX f last l (false,.zero)).2);rw [<- t] at c A |-;obtain ⟨z2,u,C⟩:=hk s c.1 c.2;rw [mV] at C;have x:z2.who=z.who/\z2.cur=z.cur\/gE z z2=true:=by
   rcases mem_cons.1 u with rfl | h
   ·exact .inl ⟨rfl,rfl⟩
   ·exact .inr (hp.1 z2 h)
  have g:s.who=z.who/\s.cur=z.cur:=by
   rw [u0] at A;rcases x with h | h
   ·omega
   ·rw [iJ] at h;omega
  rw [ab7 l g.1 g.2,g.1,g.2];by_cases m:jg z.who z.cur l=0
  ·rw [aq m,aq m];refine Ow l Z n false s _ (by simp only [length_cons] at hn;omega) hp.2 (fun y j=>?_) (fun d B q=>?_)
   ·have p:=hp.1 y j;refine ⟨?_,(o y (by simp [j])).2⟩;rw [Bool.false_or,iJ];rw [iJ] at p;omega
   ·rw [Bool.false_or] at q;have r:(f||gE last d)=true:=by
     cases f with
     | true=>rfl
     | false =>
      have:=c.2;rw [Bool.false_or] at this |-;rw [iJ] at this q |-;omega
    obtain ⟨y,j,k⟩:=hk d B r;rcases mem_cons.1 j with rfl | j
    ·rw [mV] at k;rw [iJ] at q;omega
    ·exact ⟨y,j,k⟩
  ·rw [ak m,ak m]
theorem X0:Ord gE where
 asy x y h:=by rw [iJ] at h;rw [u0];omega
 Xm x y z h1 h2:=by rw [u0] at *;omega
theorem vD:∀ (r:List aE) (p:aE),uU gE (p :: r)->(∀ z∈uL mm p r,z∈r/\gE p z=true)/\(∀ d∈r,mm p d=true\/∃ z∈uL mm p r,mm z d=true)/\(uL mm p r).Pairwise (fun a b=>gE a b=true)
 | [],p,_=>⟨fun z c=>(by cases c),fun d e=>(by cases e),Pairwise.nil⟩
 | y :: r,p,h=>by
  have l:=iL.1 h;obtain ⟨i,n,o⟩:=vD r y l.2;have g:=l.1 y (by simp);rw [uL];cases m:mm y p with
  | true =>
   rw [aq rfl];rw [mV] at m;refine ⟨fun z c=>?_,fun d e=>?_,o⟩
   ·obtain ⟨j,k⟩:=i z c;refine ⟨by simp [j],?_⟩;rw [iJ] at k |-;omega
   ·rcases mem_cons.1 e with rfl | e
    ·left;rw [mV];omega
    ·rcases n d e with h | h
     ·left;rw [mV] at h |-;omega
     ·exact .inr h
  | false =>
   rw [ak lZ];have f:gE p y=true:=by
    have:¬ mm y p=true:=by rw [m];exact lZ
    rw [mV] at this;rw [u0] at g;rw [iJ];omega
   refine ⟨fun z c=>?_,fun d e=>.inr ?_,?_⟩
   ·rcases mem_cons.1 c with rfl | c
    ·exact ⟨by simp,f⟩
    ·obtain ⟨j,k⟩:=i z c;refine ⟨by simp [j],?_⟩;rw [iJ] at f k |-;omega
   ·rcases mem_cons.1 e with rfl | e
    ·exact ⟨d,by simp,by rw [mV];exact ⟨rfl,rfl⟩⟩
    ·rcases n d e with h | ⟨z,c,he⟩
     ·exact ⟨y,by simp,h⟩
     ·exact ⟨z,by simp [c],he⟩
   ·exact iL.2 ⟨fun z c=>(i z c).2,o⟩
theorem I2 (l:List aE):pY l=xU l:=by
 unfold pY xU;cases oV l
 ·rfl
 rw [aq rfl,aq rfl];have f:=uN gE l;have e:=Jc X0 l;have hlen:=f.length_eq;unfold KB;have hrl:=LB mm (B0 gE l);refine (Ow l _ _ true .zero [] ah ?_ ?_ ?_).symm
 ·cases c:B0 gE l with
  | nil=>exact Pairwise.nil
  | cons x r =>
   rw [c] at e;obtain ⟨i,_,j⟩:=vD r x e;exact iL.2 ⟨fun z b=>(i z b).2,j⟩
 ·intro z b;refine ⟨rfl,f.mem_iff.1 ?_⟩;cases c:B0 gE l with
  | nil=>rw [c] at b;cases b
  | cons x r =>
   rw [c] at e b;rcases mem_cons.1 b with rfl | b
   ·simp
   ·simp [((vD r x e).1 z b).1]
 ·intro d g _;have a:=f.mem_iff.2 g;cases c:B0 gE l with
  | nil=>rw [c] at a;cases a
  | cons x r =>
   rw [c] at e a;rcases mem_cons.1 a with rfl | a
   ·exact ⟨d,by simp [BV],by rw [mV];exact ⟨rfl,rfl⟩⟩
   ·rcases (vD r x e).2.1 d a with h | ⟨z,b,he⟩
    ·exact ⟨x,by simp [BV],h⟩
    ·exact ⟨z,by simp [BV,b],he⟩
def KI (d:aE):Bool:=aP.right ⟨2,d.who,d.cur⟩&&bQ d.br
def sU (l:List aE):List aU × Int:=if l.all KI then (if (pY l).2=0 then uu (we (pY l).1) else ([],(pY l).2)) else ([],3)
theorem abW (l:List aE) (hl:l.length < 2 ^ 27):Sq 55 [] [.sl 3 (l.map aE.cells)] [.own 4 ((sU l).1.map aU.cells)] (.bT [.ref 0,.I (sU l).2]):=by
 have o:=WO l ah;obtain ⟨k,g⟩:=WN l;rw [<- I2] at k g;have p:=Kr (we (pY l).1) (by have:=Gn (pY l).1;omega);unfold sU;obtain ⟨m,b⟩:=aQ ((pY l).1);obtain ⟨e,t⟩:=aQ ((pY l).2);rw [<- b] at o k g p;rw [<- t] at o;rw [<- b,<- t];clear b t;refine bf 72 1 [.tmp 2,.tmp 3] mixed func55 ?_;refine s0 ?_;refine aM.w1 l.length 13 [0,11,12] [208] (fun i _=>(l.drop i).all KI=l.all KI) rfl ?_ ?_
 ·intro i _ h j n a;have b:=aV (c:=aE.cells) l h;have y:(i:Int) < (l.length:Int):=ah
  obtain ⟨x,r⟩:=aQ (l[i]);have A:=gW ⟨2,x.who,x.cur⟩;have s:=bY [x.br] (by simp);rw [tQ] at s;simp only [ints,map_cons,map_nil] at s;rw [fZ h,<- r,all_cons,KI] at a;rw [<- r] at b;simp only [aE.cells] at b;simp only [aP.cells] at A;clear o p;refine sc (a2 j b) A ?_;cases q:aP.right ⟨2,x.who,x.cur⟩
  ·rw [q,gV,gV] at a;rw [<- a];simp only [go_sem,seval]<;>simp
  refine sl aJ s ?_;cases B:bQ x.br
  ·rw [q,B,Bool.and_false,gV] at a;rw [<- a];simp only [go_sem,seval]<;>simp
  rw [q,B,fc,fc] at a;refine sm n ?_;refine av.u h a ?_;exact gU
 intro _ f a;rw [nx] at a;rw [<- a,show ([]:List aE).all KI=true from rfl,aq rfl];clear a;refine so f o ?_;by_cases q:e=0
 case neg =>
  have d:(e==0)=false:=by simpa using q
  simp only [go_sem,seval,bne,d,ak q];all_goals simp
 subst q;rw [aq rfl];refine s0 ?_;refine dP ?_;clear o f;refine aM.wv m.length [40,41] [560] (fun i=>[(42,.I i),(8,.ref 1072)]) (fun i=>[(1072,.own 4 ((we (m.take i)).map aU.cells))]) ?_ ?_ ?_
 ·simp only [go_sem,seval]<;>simp [we]
 ·intro i _ h j n _;have b:=aV (c:=aE.cells) m h;have y:(i:Int) < (m.length:Int):=ah
  have z:we (m.take (i+1))=we (m.take i)++_:=mI _ h;have g:=Gn (m.take i);have hlt:(m.take i).length=i:=by simp;omega
  have w:=bI.1 (k m[i] (ck h));obtain ⟨L,C⟩:=aQ (we (m.take i));obtain ⟨x,r⟩:=aQ (m[i]);rw [<- C] at z g |-;rw [<- r] at z b w;have D:IntKind.wrap .i64 (0-x.br) = -x.br:=gN;simp only [aE.cells] at b;clear p;simp only [go_sem,seval,cm,length_cons,length_nil,j,b,D,n];refine dP ?_;refine av.v h ?_;simp only [go_sem,seval,z]<;>simp
 ·intro _ f _;simp only [go_sem,seval,f,jr];refine dP ?_;refine aD.iT [1072] [] false (by simp) ?_;refine s0 ?_;refine cY.gB p ?_;exact gU
theorem ab' (h:∀ x:aP,x.right=true->x∈jd) (i:jd.Pairwise fun a b=>a.less b=true) (l:List aE):sU l=(rS l,DO l):=by
 have e:pY l=xU l:=I2 l;unfold sU rS DO;rw [e];have d:l.all KI=(Wm l&&oV l):=by
  unfold Wm oV;induction l with
  | nil=>rfl
  | cons x r ih =>
   have:=ih (I2 r);simp only [all_cons,KI] at this |-;rw [this];cases aP.right ⟨2,x.who,x.cur⟩<;>cases bQ x.br<;>simp
 rw [d];cases h1:Wm l
 ·rfl
 ·cases g:oV l
  ·have c:(xU l).2=3:=by rw [xU,g];rfl
   rw [c];rfl
  ·by_cases c:(xU l).2=0
   ·rw [Bool.and_self,aq rfl,aq c,aq rfl,aq c,Kp h i];by_cases f:rL (we (xU l).1)=0
    ·rw [aq f]
    ·rw [ak f,om,ak f]
   ·rw [Bool.and_self,aq rfl,ak c,aq rfl,ak c,ak c]
theorem xS (x:aC):Sq 228 [] [.agg x.cells] [] (.bT [.I (cG x),.I (if fQ x then 0 else 20)]):=by
 cases a:x.set==0
 ·have c:cG x=x.set:=by rw [cG,a];rfl
  have e2:fQ x=true:=by rw [fQ,a];rfl
  rw [c,e2];simp only [aC.cells];refine bf 16 1 [.tmp 2,.tmp 3] mixed func228 ?_;simp only [go_sem,seval,bne,a]
 ·have c:cG x=x.aH:=by rw [cG,a];rfl
  cases b:x.aH==0
  ·have e2:fQ x=true:=by rw [fQ,a,b];rfl
   rw [c,e2];simp only [aC.cells];refine bf 16 1 [.tmp 2,.tmp 3] mixed func228 ?_;simp only [go_sem,seval,bne,a,b]
  ·have e2:fQ x=false:=by rw [fQ,a,b];rfl
   have d:x.aH=0:=by simpa using b
   rw [c,e2,d];rw [d] at b;simp only [aC.cells];refine bf 16 1 [.tmp 2,.tmp 3] mixed func228 ?_;simp only [go_sem,seval,bne,a,d]
def acE (r:az) (p:aF):Int:=if bJ r p.inst then (if !fQ (bA r p.inst)&&!(p.aZ==0) then 20 else 0) else 10
def acF (r:az) (p:aF):Int:=if bJ r p.inst then cG (bA r p.inst) else 0
theorem Vw (r:az) (p:aF) (h:r.small):Sq 115 [] [.agg r.cells,.agg p.cells] [] (.bT [.agg (bA r p.inst).cells,.I (acF r p),.I (acE r p)]):=by
 have a:=gq r p.inst h;have b:=xS (bA r p.inst);unfold acE acF;obtain ⟨x,e⟩:=aQ (bA r p.inst);rw [<- e] at a b |-;simp only [az.cells,aF.cells,aC.cells] at a b |-;cases d:bJ r p.inst
 ·rw [d] at a;refine bf 38 2 [.cell 4 183,.tmp 5,.tmp 6] mixed func115 ?_;exact jW aJ a
 rw [d] at a;have f:fQ x=false->cG x=0:=by
  intro h;simp only [fQ,Bool.not_eq_false',cU,eH] at h;rw [cG,h.1,h.2];rfl
 cases c:fQ x
 ·rw [c] at b;rw [f c] at b |-;cases g:p.aZ==0;all_goals
   refine bf 38 2 [.cell 4 183,.tmp 5,.tmp 6] mixed func115 ?_;refine sc aJ a ?_;exact jW g b
 ·rw [c] at b;refine bf 38 2 [.cell 4 183,.tmp 5,.tmp 6] mixed func115 ?_;refine sc aJ a ?_;exact jW aJ b
theorem L9 (p:aF) (m c:Int) (hq:-1099511627776<=p.aZ/\p.aZ<=1099511627776) (D:bQ p.cost=true) (hm:1<=m/\m<=1024) (hp:0<=c/\c<=1073741824):Sq 116 [] [.agg p.cells,.I m,.I c] [] (.bT [.I (if bQ (lq p m c) then lq p m c else 0),.I (if bQ (lq p m c) then 0 else 1)]):=by
 have u:=bI.1 D;have s:=bY [p.cost] (by simp);rw [tQ,D] at s;simp only [ints,map_cons,map_nil] at s;have k1:=jV (a:=m) (b:=p.aZ) (A:=1024) (B:=1099511627776) ah ah;have k2:=jV (a:=m*p.aZ) (b:=c) (A:=1125899906842624) (B:=1073741824) ah ah;have k3:=jV (a:=-p.cost) (b:=m) (A:=4611686018427387904) (B:=1024) ah ah;have v:IntKind.wrap .i64 (m*p.aZ)=m*p.aZ:=gA ah ah;have K:IntKind.wrap .i64 (-p.cost) = -p.cost:=gA ah ah;have w:IntKind.wrap .i64 (0-p.cost) = -p.cost:=gN;have e:=lg (m*p.aZ) c ⟨by omega,by omega⟩ ⟨by omega,by omega⟩;have q:=lg (-p.cost) m ⟨by omega,by omega⟩ ⟨by omega,by omega⟩;have H:Oa (m*p.aZ*c)=true:=by simp only [Oa,cU,bL];omega
 have J:Oa (-p.cost*m)=true:=by simp only [Oa,cU,bL];omega
 have d:=vM [m*p.aZ*c,-p.cost*m] (by simp) (by intro n E;simp only [mem_cons,not_mem_nil,or_false] at E;rcases E with rfl | rfl<;>assumption);have o:m*p.aZ*c=p.aZ*(c*m):=by rw [Int.mul_comm m,Int.mul_assoc,Int.mul_comm m c]
 have l:aG [m*p.aZ*c,-p.cost*m]=lq p m c:=by rw [o];simp [aG,lq]
 have G:Oa (lq p m c)=true:=by
  have F:lq p m c=m*p.aZ*c + -p.cost*m:=by rw [o];rfl
  rw [F];clear F l d q e;simp only [Oa,cU,bL];constructor<;>omega
 rw [l,G,aq rfl,aq rfl] at d;have r:=lP (lq p m c);simp only [Pa,wd,map_cons,map_nil] at d r;have j:decide (p.aZ < -1099511627776)=false:=jL;have k:decide (1099511627776 < p.aZ)=false:=jL;have f:decide (m < 1)=false:=jL;have g:decide (1024 < m)=false:=jL;have h:decide (c < 0)=false:=jL;have i:decide (1073741824 < c)=false:=jL;simp only [aF.cells];obtain ⟨Q,t⟩:=aQ (m*p.aZ);rw [<- t] at e d;replace v:=v.trans t.symm;obtain ⟨A,x⟩:=aQ (Q*c);obtain ⟨B,y⟩:=aQ (-p.cost*m);obtain ⟨C,z⟩:=aQ (lq p m c);rw [<- x] at e d;rw [<- y] at q d;rw [<- z] at d r |-;clear x y z k1 k2 k3 H J l G u o t;refine bf 64 3 [.tmp 6,.tmp 7] mixed func116 ?_;refine sl (a5 j k f g (a3 h i v)) s ?_;refine sc (a2 K w) e ?_;refine sc aJ q ?_;refine sl aJ d ?_;exact jW aJ r
theorem afB (r:az) (b:aI) (h:r.small) (K:b.small):Sq 53 [] [.agg r.cells,.agg b.cells] [.own 7 ((D8 r b).ts.map aL.cells),.own 4 ((D8 r b).qs.map aF.cells),.own 3 ((sG r b).map aE.cells)] (.bT [.agg [.I (D8 r b).next,.ref 0,.ref 1],.ref 2,.I (wO r b)]):=by
 have c1:=dN r h;have c2:=gX b K;have c3:=fun p=>Vw r p h;have t:=K.2;have htl:=K.1;simp only [az.cells,aI.cells] at c1 c2 c3 |-;refine bf 104 2 [.cell 4 32,.tmp 5,.tmp 6] mixed func53 ?_;refine sc aJ c1 ?_;cases v:r.okB
 ·have e:wO r b=14:=by simp [wO,v]
  simp only [go_sem,seval,bne,D8,sG,e];all_goals simp
 simp only [go_sem,seval,if_true];refine sc aJ c2 ?_;cases G:b.okB
 ·have e:wO r b=14:=by simp [wO,v,G]
  simp only [go_sem,seval,bne,D8,sG,e];all_goals simp
 have e:wO r b=uJ r b.qs:=by simp [wO,v,G]
 have k:=Rq G;simp only [D8,sG];rw [e];clear e c1 c2;simp only [go_sem,seval,if_true];refine dP ?_;refine aM.wu b.qs.length [2,3,4,28,29] [48,64,80] (fun i=>[(30,.I i),(8,.ref 1264),(9,.ref 1488)]) (fun i=>[(1264,.own 3 (((b.qs.take i).map (Lz r)).map aE.cells)),(1488,.own 4 (((b.qs.take i).flatMap (sv r)).map aF.cells))]) (fun i=>uJ r (b.qs.drop i)=uJ r b.qs) rfl ?_ ?_ ?_
 ·simp only [go_sem,seval]<;>simp
 ·intro i _ l M R a;have O:=aV (c:=aF.cells) b.qs l;have hli:(i:Int) < (b.qs.length:Int):=ah
  have hlt:(b.qs.take i).length=i:=by simp;omega
  have s:=mI (sv r) l;have t:((b.qs.take i).flatMap (sv r)).length<=i:=by
   have:=gw (f:=sv r) (m:=1) (fun p=>by unfold sv;split<;>simp) (b.qs.take i);omega
  have y:(b.qs.take (i+1)).map (Lz r)=(b.qs.take i).map (Lz r)++[Lz r b.qs[i]]:=by rw [l7 l,jq];rfl
  obtain ⟨n1,U,V⟩:=S6 (k b.qs[i] (ck l));obtain ⟨p,q⟩:=aQ (b.qs[i]);obtain ⟨Q,A⟩:=aQ ((b.qs.take i).flatMap (sv r));obtain ⟨L,z⟩:=aQ ((b.qs.take i).map (Lz r));have hLl:L.length=i:=by rw [z];simp;omega
  have g:=c3 p;have d:=fun Z=>Oe (r:=r) (n:=p.inst) v Z;simp only [acE,acF] at g;obtain ⟨x,D⟩:=aQ (bA r p.inst);rw [fZ l,<- q] at a;simp only [uJ,LA,<- D] at a;rw [<- q,<- A] at s;rw [<- q,<- z] at y;rw [<- A] at t;simp only [sv,<- D] at s;simp only [Lz,<- D] at y;rw [<- q] at O n1 U V;rw [<- D] at g d;rw [<- A,<- z];simp only [aF.cells] at O g;simp only [aC.cells] at g;clear c3 A z q k;refine sc (a2 M O) g ?_;cases o:bJ r p.inst
  ·simp only [o,nJ,if_false] at a;have j:uJ r b.qs=10:=a.symm;refine sm (a2 o j) ?_;all_goals simp
  simp only [o,if_true] at a;have d:=d o;have P:=Sf d;have hmu:=(u7 d).1;cases E:(!fQ x&&!(p.aZ==0))
  case true =>
   simp only [E,if_true] at a;have j:uJ r b.qs=20:=a.symm;refine sm (a3 o E j) ?_;all_goals simp
  simp only [E,nJ,if_false] at a;have H:=L9 p x.mult (cG x) ⟨n1,U⟩ V ah P;have T:=lg p.aZ (cG x) ⟨by omega,by omega⟩ ⟨by omega,by omega⟩;have J:=lP (p.aZ*cG x);simp only [wd] at J;obtain ⟨W,B⟩:=aQ (lq p x.mult (cG x));obtain ⟨C,w⟩:=aQ (p.aZ*cG x);rw [<- B] at H;rw [<- w] at T J;rw [<- B,<- w] at a;rw [<- w] at s;rw [<- B] at y;simp only [aF.cells] at H;clear B w;simp only [go_sem,seval,o,E,if_true];refine sc aJ H ?_;cases F:bQ W
  ·simp only [F,gV,nJ,if_false] at a;have j:uJ r b.qs=1:=a.symm;refine sm (a2 F j) ?_;all_goals simp
  simp only [go_sem,seval,if_true];refine sc aJ T ?_;refine sc aJ J ?_;cases S:bQ C
  ·simp only [F,S,Bool.and_false,nJ,if_false] at a;have j:uJ r b.qs=1:=a.symm;refine sm (a2 S j) ?_;all_goals simp
  simp only [F,S,Bool.and_self,if_true] at a
  cases X:p.aZ==0<;>cases Y:C==0<;>(
   simp only [X,Y,Bool.and_self,Bool.and_false,gV,nJ,if_false,if_true,append_nil] at s;simp only [go_sem,seval,bne,X,Y,R];refine dP ?_;try refine av.u l a ?_
   try simp only [go_sem,seval,s,y])
  all_goals simp
 ·intro _ N a;rw [nx] at a;have j:uJ r b.qs=0:=a.symm;simp only [go_sem,seval,N,j,jr];exact okx
theorem tS (r:az) (h:r.lp):Sq 144 [] [.agg r.cells] [.own 12 (r.ns.map aC.cells)] (.agg [.sl 3 (r.ms.map au.cells),.ref 0,.sl 4 (r.xs.map ay.cells)]):=by
 obtain ⟨a,b,c⟩:=h;have c1:=oG r.ms a;have c2:=Au r.ns b;have c3:=qu r.xs c;simp only [az.cells];refine bf 13 1 [.cell 2 28] mixed func144 ?_;refine sc aJ c1 ?_;refine so aJ c2 ?_;exact jW aJ c3
theorem adA (r:az) (h:r.lp):Sq 58 [] [.agg r.cells] [.own 12 (r.ns.map aC.tU |>.map aC.cells)] (.agg [.sl 3 (r.ms.map au.cells),.ref 0,.sl 4 (r.xs.map ay.cells)]):=by
 have c4:=tS r h;have hl:=h.2.1;simp only [az.cells] at c4 |-;refine bf 37 1 [.cell 2 28] mixed func58 ?_;refine so aJ c4 ?_;refine dP ?_;refine aM.wv r.ns.length [1,2,8] [48] (fun i=>[(9,.I i)]) (fun i=>[(32,.box [.sl 3 (r.ms.map au.cells),.ref 336,.sl 4 (r.xs.map ay.cells)]),(336,.own 12 ((pX aC.tU r.ns i).map aC.cells))]) ?_ ?_ ?_
 ·simp only [go_sem,seval,Gk]<;>simp
 ·intro i _ e m j _;have b:=uC aC.tU r.ns i;have hi2:i < (pX aC.tU r.ns i).length:=ah
  have f:=aV (c:=aC.cells) (pX aC.tU r.ns i) hi2;have l:=I1 aC.tU e;have d:=DM aC.tU e;have a:=YJ aC.tU e;have hli:(i:Int) < (r.ns.length:Int):=ah
  obtain ⟨x,p⟩:=aQ (r.ns[i]);rw [l] at f;rw [<- p] at f d a;obtain ⟨M,o⟩:=aQ (pX aC.tU r.ns i);rw [<- o] at f d a b |-;simp only [aC.cells] at f;refine sm (a3 b m f) ?_;refine dP ?_;cases k:x.set==0
  ·have d:M.set i { x with aH:=x.set,set:=0 }=pX aC.tU r.ns (i+1):=by rw [<- d];simp only [aC.tU,k];rfl
   have g:∀ Z,((M.map aC.cells).set i Z).getD i []=Z:=fun Z=>by simp [b,e]
   simp only [go_sem,seval,bne,k,b,f,j,g];(with_reducible and_intros)<;>first|exact .dq|omega|skip
   all_goals first
    | (simp only [length_set,qn];omega)
    | (refine av.v e ?_
       simp only [go_sem,seval,<- d,map_set,set_set,g])
  ·have a:=a (by simp [aC.tU,k]);simp only [go_sem,seval,bne,k,j];refine av.v e ?_;simp only [go_sem,seval,a]
 ·intro _ n _;have b:=uC aC.tU r.ns r.ns.length;simp only [go_sem,seval,b,n,KU]
theorem XA {r:az} {w n:Int} (h:lY r w n=0):(jc r w n).ms=r.ms.take (putAt au.no w r.ms)++[⟨w,1,n⟩]++r.ms.drop (putAt au.no w r.ms)/\(∀ i (a:i < putAt au.no w r.ms),(r.ms[i]'(Nat.lt_of_lt_of_le a (takeWhile_prefix _).length_le)).no < w)/\∀ (b:putAt au.no w r.ms < r.ms.length),w < r.ms[putAt au.no w r.ms].no:=by
 unfold jc;rw [aq h];unfold lY at h;split at h
 case isFalse=>cases h
 rename_i hr;split at h
 case isFalse=>cases h
 rename_i k;split at h
 ·cases h
 rename_i a;rw [cr] at hr;obtain ⟨⟨o1,d⟩,h2,h3⟩:=hr;have c:=nP k;obtain ⟨g,a2,a3⟩:=iQ (n:=w) d;have a4:∀ i (h:i < r.ms.length),putAt au.no w r.ms<=i->w < r.ms[i].no:=fun i h b=>by
  have:=a3 i h b;have:r.ms[i].no≠w:=fun e=>a (q9.2 ⟨_,ck h,e⟩);omega
 refine ⟨(IZ (no:=au.no) (z:=au.zero) (m:=⟨w,1,n⟩) (N:=16) (f:=aaM r ⟨w,1,n⟩) d (fun x l=>by have:=nP (o1 x l);omega) (by dsimp only at c |-;omega) (fun i _=>?_) g (fun i h=>a2 i ah h) a4).symm,fun i h=>a2 i _ h,fun b=>a4 _ b (dU _)⟩;unfold aaM;dsimp only;by_cases e:(i:Int)+1=w
 ·rw [e,ak a];simp
 ·have j:((i:Int)+1==w)=false:=by simpa using e
  rw [j,ak e];simp only [gF,fU,nJ,if_false,append_nil];rfl
theorem M1 (r:az) (w n:Int) (h:r.lp) (a:r.okB=true):Sq 185 [] [.agg r.cells,.I w,.I n] [.own 3 ((jc r w n).ms.map au.cells)] (.bT [.agg [.ref 0,.sl 12 ((jc r w n).ns.map aC.cells),.sl 4 ((jc r w n).xs.map ay.cells)],.I (lY r w n)]):=by
 have e0:lY r w n=if au.ok ⟨w,1,n⟩ then (if gF r w then 11 else 0) else 3:=by rw [lY,a];rfl
 have c1:=dN r h.small;have c2:=cw r w h.small;have c3:=o7 ⟨w,1,n⟩;have c4:=vB r h;rw [a,aq rfl] at c1;simp only [az.cells,au.cells] at c1 c2 c3 c4 |-;refine bf 44 3 [.cell 6 28,.tmp 7] mixed func185 ?_;refine sc a c1 ?_;refine sc a c2 ?_;refine sc a c3 ?_;cases b:au.ok ⟨w,1,n⟩
 ·have e:lY r w n=3:=by rw [e0,b];rfl
  simp only [go_sem,seval,jc,e];all_goals simp [az.none]
 cases d:gF r w
 case true =>
  have e:lY r w n=11:=by rw [e0,b,d];rfl
  simp only [go_sem,seval,jc,e];all_goals simp [az.none]
 have e:lY r w n=0:=by rw [e0,b,d];rfl
 obtain ⟨f,g,i⟩:=XA e;have c:=MV r.ms ⟨w,1,n⟩ (iQ (n:=w) (cr.1 a).1.2).1 g i h.1;rw [f,show (jc r w n).ns=r.ns by rw [jc,aq e],show (jc r w n).xs=r.xs by rw [jc,aq e],e];simp only [au.cells] at c;refine s0 ?_;refine so a c4 ?_;exact Hv [608] a c
theorem Lw (r:az) (w n:Int) (h:r.lp) (a:r.okB=true):Sq 185 [] [.agg r.cells,.I w,.I n] [] (.bT [.agg (jc r w n).cells,.I (lY r w n)]):=by
 refine Spec.frozen (M1 r w n h a) [0] rfl ?_;intro r;rcases r with _ | r<;>rfl
theorem ab0 {r:az} {x:aC} (h:qL r x=0):(mZ r x).ns=r.ns.take (putAt aC.no x.no r.ns)++[x.bare]++r.ns.drop (putAt aC.no x.no r.ns)/\(∀ i (a:i < putAt aC.no x.no r.ns),(r.ns[i]'(Nat.lt_of_lt_of_le a (takeWhile_prefix _).length_le)).no < x.no)/\∀ (b:putAt aC.no x.no r.ns < r.ns.length),x.no < r.ns[putAt aC.no x.no r.ns].no:=by
 unfold mZ;rw [aq h];unfold qL at h;split at h
 case isFalse=>cases h
 rename_i hr;split at h
 case isFalse=>cases h
 rename_i j;split at h
 ·cases h
 rename_i a;rw [cr] at hr;obtain ⟨h1,⟨o1,c⟩,h3⟩:=hr;have hmk:=u6 j;obtain ⟨d,a2,a3⟩:=iQ (n:=x.no) c;have a4:∀ i (h:i < r.ns.length),putAt aC.no x.no r.ns<=i->x.no < r.ns[i].no:=fun i h b=>by
  have:=a3 i h b;have:r.ns[i].no≠x.no:=fun e=>a (oR.2 ⟨_,ck h,e⟩);omega
 refine ⟨(IZ (no:=aC.no) (z:=aC.zero) (m:=x.bare) (N:=8) (f:=YF r x.bare) c (fun x l=>by have:=u6 (o1 x l);omega) ah (fun k _=>?_) d (fun i h=>a2 i ah h) a4).symm,fun i h=>a2 i _ h,fun b=>a4 _ b (dU _)⟩;unfold YF;by_cases e:(k:Int)+1=x.bare.no
 ·have e2:bJ r ((k:Int)+1)=false:=by
   rw [e];have:bJ r x.bare.no=bJ r x.no:=rfl;rw [this];simpa using a
  rw [e2,e];simp
 ·have g:((k:Int)+1==x.bare.no)=false:=by simpa using e
  rw [g,ak e];simp only [bJ,bA,nJ,if_false,append_nil];rfl
theorem QE (r:az) (x:aC) (h:r.lp) (a:r.okB=true):Sq 186 [] [.agg r.cells,.agg x.cells] [.own 12 ((mZ r x).ns.map aC.cells)] (.bT [.agg [.sl 3 ((mZ r x).ms.map au.cells),.ref 0,.sl 4 ((mZ r x).xs.map ay.cells)],.I (qL r x)]):=by
 have e0:qL r x=if x.bare.ok then (if bJ r x.no then 11 else 0) else 3:=by rw [qL,a];rfl
 have c1:=dN r h.small;have c2:=gq r x.no h.small;have c3:=sj x.bare;have c4:=tS r h;rw [a,aq rfl] at c1;simp only [az.cells,aC.cells,aC.bare] at c1 c2 c3 c4 |-;refine bf 41 2 [.cell 4 28,.tmp 5] mixed func186 ?_;refine sc a c1 ?_;refine sc a c2 ?_;refine sc a c3 ?_;rw [show aC.ok ⟨x.no,x.cur,x.mult,x.add,0,0,x.s0,x.s1,x.s2,x.s3,x.s4,x.s5⟩=x.bare.ok from rfl];cases b:x.bare.ok
 ·have e:qL r x=3:=by rw [e0,b];rfl
  simp only [go_sem,seval,mZ,e];all_goals simp [az.none]
 cases d:bJ r x.no
 case true =>
  have e:qL r x=11:=by rw [e0,b,d];rfl
  simp only [go_sem,seval,mZ,e];all_goals simp [az.none]
 have e:qL r x=0:=by rw [e0,b,d];rfl
 obtain ⟨f,g,i⟩:=ab0 e;have c:=Te r.ns x.bare (iQ (n:=x.no) (cr.1 a).2.1.2).1 g i h.2.1;rw [f,show (mZ r x).ms=r.ms by rw [mZ,aq e],show (mZ r x).xs=r.xs by rw [mZ,aq e],e];simp only [aC.cells,aC.bare] at c |-;refine s0 ?_;refine so a c4 ?_;exact Hv [560] a c
theorem M4 (r:az) (x:aC) (h:r.lp) (a:r.okB=true):Sq 186 [] [.agg r.cells,.agg x.cells] [] (.bT [.agg (mZ r x).cells,.I (qL r x)]):=by
 refine Spec.frozen (QE r x h a) [0] rfl ?_;intro r;rcases r with _ | r<;>rfl
theorem abx {r:az} {a:ay} (h:rJ r a=0):(∀ i (c:i < putAt ay.a a.a r.xs),(r.xs[i]'(Nat.lt_of_lt_of_le c (takeWhile_prefix _).length_le)).a < a.a)/\((∃ b:putAt ay.a a.a r.xs < r.xs.length,r.xs[putAt ay.a a.a r.xs].a=a.a/\(mq r a).xs=r.xs.set (putAt ay.a a.a r.xs) a)\/((∀ (b:putAt ay.a a.a r.xs < r.xs.length),a.a < r.xs[putAt ay.a a.a r.xs].a)/\(mq r a).xs=r.xs.take (putAt ay.a a.a r.xs)++[a]++r.xs.drop (putAt ay.a a.a r.xs))):=by
 unfold mq;rw [aq h];unfold rJ at h;split at h
 case isFalse=>cases h
 rename_i hr;split at h
 case isFalse=>cases h
 rename_i d;rw [cU] at d;have d:=d.1;rw [cr] at hr;obtain ⟨h1,h2,⟨o1,f⟩⟩:=hr;have hmk:=wU d;obtain ⟨o,a2,a3⟩:=iQ (n:=a.a) f;have hr:∀ x∈r.xs,1<=x.a/\x.a<=(6:Nat):=fun x q=>by have:=wU (o1 x q);omega
 have m:∀ k:Nat,k < 6->abw r a k=if (k:Int)+1=a.a then [a] else if decide (0<=jt ay.a ((k:Int)+1) r.xs)=true then [iE ay.a ((k:Int)+1) ⟨0,0,0,0⟩ r.xs] else []:=fun k _=>by
  unfold abw;by_cases e:(k:Int)+1=a.a
  ·rw [e];simp
  ·have p:((k:Int)+1==a.a)=false:=by simpa using e
   rw [p,ak e];simp only [mT,nI,nJ,if_false];rfl
 refine ⟨fun i h=>a2 i _ h,?_⟩;by_cases j:∃ b:putAt ay.a a.a r.xs < r.xs.length,r.xs[putAt ay.a a.a r.xs].a=a.a
 ·obtain ⟨b,l⟩:=j;exact .inl ⟨b,l,(Xe f hr ah m b l).symm⟩
 ·have b:∀ (b:putAt ay.a a.a r.xs < r.xs.length),a.a < r.xs[putAt ay.a a.a r.xs].a:=fun b=>by
   have:=a3 _ b (dU _);have:r.xs[putAt ay.a a.a r.xs].a≠a.a:=fun e=>j ⟨b,e⟩;omega
  refine .inr ⟨b,(IZ f hr ah m o (fun i h=>a2 i ah h) fun i c g=>?_).symm⟩;rcases Nat.eq_or_lt_of_le g with e | hlt
  ·subst e;exact b c
  ·have:=b ah;have:=qo.1 f _ i ah c hlt;omega
theorem M8 (r:az) (h:r.lp):Sq 144 [] [.agg r.cells] [.own 4 (r.xs.map ay.cells)] (.agg [.sl 3 (r.ms.map au.cells),.sl 12 (r.ns.map aC.cells),.ref 0]):=by
 obtain ⟨a,b,c⟩:=h;simp only [az.cells];refine bf 13 1 [.cell 2 28] mixed func144 ?_;refine sc (a2 a b) (oG r.ms a) ?_;refine sc (a2 a b) (rD r.ns b) ?_;exact sox (a2 a b) (xk r.xs c)
theorem QD (r:az) (a:ay) (h:r.lp) (c:r.okB=true):Sq 187 [] [.agg r.cells,.agg a.cells] [.own 4 ((mq r a).xs.map ay.cells)] (.bT [.agg [.sl 3 ((mq r a).ms.map au.cells),.sl 12 ((mq r a).ns.map aC.cells),.ref 0],.I (rJ r a)]):=by
 have e0:rJ r a=if a.ok&&!(mT r a.a&&!((nI r a.a).b==a.b)) then 0 else 3:=by rw [rJ,c];rfl
 have c1:=dN r h.small;have c2:=kU r a.a h.small;have c3:=qB a;have c4:=M8 r h;rw [c,aq rfl] at c1;rw [show iE ay.a a.a ⟨0,0,0,0⟩ r.xs=nI r a.a from rfl,show decide (0<=jt ay.a a.a r.xs)=mT r a.a from rfl] at c2;obtain ⟨o,y⟩:=aQ (nI r a.a);rw [<- y] at c2 e0;simp only [az.cells,ay.cells] at c1 c2 c3 c4 |-;refine bf 46 2 [.cell 4 28,.tmp 5] mixed func187 ?_;refine sc c c1 ?_;refine sc c c2 ?_;refine sc c c3 ?_;by_cases e:rJ r a=0
 case neg =>
  have w:rJ r a=3:=by rw [e0] at e |-;split at e<;>simp_all
  rw [w] at e0;simp only [go_sem,seval,mq,e,if_false,w];cases k:a.ok
  ·simp only [go_sem,seval]<;>simp [az.none]
  cases g:mT r a.a
  ·rw [k,g] at e0;simp at e0
  cases l:o.b==a.b
  ·simp only [go_sem,seval,bne,l];all_goals simp [az.none]
  ·rw [k,g,l] at e0;simp at e0
 have k:a.ok=true:=by rw [e] at e0;cases q:a.ok<;>rw [q] at e0<;>simp_all
 have g:mT r a.a=true->(o.b==a.b)=true:=fun g=>by rw [e,k,g] at e0;cases q:o.b==a.b<;>rw [q] at e0<;>simp_all
 have i:(mq r a).ms=r.ms:=by rw [mq,aq e]
 have j:(mq r a).ns=r.ns:=by rw [mq,aq e]
 obtain ⟨v,t⟩:=abx e;obtain ⟨X,p⟩:=aQ ((mq r a).xs);rw [i,j,e,<- p];rw [<- p] at t;have key:∃ (f:List D) (d:D),(f=[.own 4 (X.map ay.cells)]/\d=.ref 0\/f=[.undef,.own 4 (X.map ay.cells)]/\d=.ref 1)/\Sq 276 [.own 4 (r.xs.map ay.cells)] [.ref 0,.fn 221 [],.agg a.cells] f d:=by
  rcases t with ⟨s,z,u⟩ | ⟨s,u⟩
  ·exact ⟨_,_,.inl ⟨rfl,rfl⟩,by rw [u];exact Qz r.xs a s v z h.2.2⟩
  ·exact ⟨_,_,.inr ⟨rfl,rfl⟩,by rw [u];exact Qy r.xs a (iQ (n:=a.a) (cr.1 c).2.2.2).1 v s h.2.2⟩
 obtain ⟨f,d,x,m⟩:=key;simp only [ay.cells] at m;clear p t y e0 i j e v;rw [k];cases q:mT r a.a
 ·refine so c c4 ?_;rcases x with ⟨rfl,rfl⟩ | ⟨rfl,rfl⟩<;>exact Hv [640] c m
 ·have l:=g q;refine so (a2 c (show (o.b != a.b)=false by simp [bne,l])) c4 ?_;rcases x with ⟨rfl,rfl⟩ | ⟨rfl,rfl⟩<;>exact Hv [640] c m
theorem M3 (r:az) (a:ay) (h:r.lp) (b:r.okB=true):Sq 187 [] [.agg r.cells,.agg a.cells] [] (.bT [.agg (mq r a).cells,.I (rJ r a)]):=by
 refine Spec.frozen (QD r a h b) [0] rfl ?_;intro r;rcases r with _ | r<;>rfl
theorem QH (r:az) (n p:Int) (h:r.lp) (b:r.okB=true):Sq 286 [] [.agg r.cells,.I n,.I p] [.own 12 ((oB r n p).ns.map aC.cells)] (.bT [.agg [.sl 3 ((oB r n p).ms.map au.cells),.ref 0,.sl 4 ((oB r n p).xs.map ay.cells)],.I (wD r n p)]):=by
 have e0:wD r n p=if bJ r n then (if within p 1 1073741824 then 0 else 3) else 10:=by rw [wD,b];rfl
 have c1:=dN r h.small;have c2:=gq r n h.small;have c3:=fE p 1 1073741824;have c4:=tS r h;rw [b,aq rfl] at c1;obtain ⟨o,y⟩:=aQ (bA r n);rw [<- y] at c2;simp only [az.cells,aC.cells] at c1 c2 c4 |-;refine bf 43 3 [.cell 6 28,.tmp 7] mixed func286 ?_;refine sc b c1 ?_;refine sc b c2 ?_;cases f:bJ r n
 ·have e:wD r n p=10:=by rw [e0,f];rfl
  simp only [go_sem,seval,oB,e];all_goals simp [az.none]
 refine sc b c3 ?_;cases t:within p 1 1073741824
 ·have e:wD r n p=3:=by rw [e0,f,t];rfl
  simp only [go_sem,seval,oB,e];all_goals simp [az.none]
 have e:wD r n p=0:=by rw [e0,f,t];rfl
 obtain ⟨x,z,w⟩:=oR.1 f;have d:=(cr.1 b).2.1.2;have m:o=x:=y.trans (sP d z w);obtain ⟨k,s,a⟩:=getElem_of_mem z;have c:∀ i (h:i < k),(r.ns[i]'ah).no < (x.told p).no:=fun i l=>by
  have:=qo.1 d i k ah s l;rw [a] at this;exact this
 have v:(oB r n p).ns=r.ns.set k (x.told p):=by
  rw [oB,aq e,En s (fun j hj q he=>by have:=c j q;have:(x.told p).no=x.no:=rfl;omega) (by rw [a];exact w),a]
 have g:=Th r.ns (x.told p) s c (by rw [a];rfl) h.2.1;rw [v,show (oB r n p).ms=r.ms by rw [oB,aq e],show (oB r n p).xs=r.xs by rw [oB,aq e],e];obtain ⟨O,u⟩:=aQ ((r.ns.set k (x.told p)).map aC.cells);rw [<- u] at g |-;rw [m];simp only [aC.cells,aC.told] at g;clear u v c a e e0 t f;refine s0 ?_;refine so b c4 ?_;exact Hv [592] b g
theorem M6 (r:az) (n p:Int) (h:r.lp) (a:r.okB=true):Sq 286 [] [.agg r.cells,.I n,.I p] [] (.bT [.agg (oB r n p).cells,.I (wD r n p)]):=by
 refine Spec.frozen (QH r n p h a) [0] rfl ?_;intro r;rcases r with _ | r<;>rfl
theorem wF (t:aL):Sq 323 [] [.agg t.cells] [] (.bool (sizedB t)):=by
 simp only [aL.cells];refine bf 21 1 [.tmp 2] mixed func323 ?_;refine s0 ?_;repeat' with_reducible first|apply And.intro|exact .dq|refine aD.bp (by assumption) ?_|refine pq (fun h=>?_) fun h=>?_|refine .id ?_|refine av.eS ah ?_ ?_|exact aJ|simp only [*,go_sem,seval]
 all_goals (simp_all [sizedB,within];try omega)
theorem IC (r:az) (t:aL) (h:r.lp):Sq 284 [] [.agg r.cells,.agg t.cells] [] (.I (vL r t)):=by
 have c1:=dN r h.small;have c2:=wF t;have c3:=gq r t.inst h.small;have c4:=cw r t.jK h.small;have c:=cw r t.gK h.small;obtain ⟨gi,d⟩:∃ g,g=bA r t.inst:=⟨_,rfl⟩
 obtain ⟨i,a⟩:∃ g,g=fU r t.jK:=⟨_,rfl⟩
 obtain ⟨gs,b⟩:∃ g,g=fU r t.gK:=⟨_,rfl⟩
 have k1:bM r t.jK=i.state:=by rw [a];rfl
 have k2:bM r t.gK=gs.state:=by rw [b];rfl
 simp only [vL,k1,k2];rw [<- d] at c3;rw [<- a] at c4;rw [<- b] at c;simp only [az.cells,aL.cells,au.cells,aC.cells] at c1 c2 c3 c4 c |-;refine bf 69 2 [.tmp 4] mixed func284 ?_;refine sc aJ c1 ?_;refine sc aJ c3 ?_;refine sc aJ c4 ?_;refine sc aJ c ?_;cases f:r.okB
 ·exact fL f
 refine sc f c2 ?_;cases j:sizedB t
 ·exact fL j
 refine sm j ?_;cases e:bJ r t.inst<;>simp only [go_sem,seval,e,gV,fc]<;>(with_reducible and_intros)<;>first|exact .dq|omega|skip
 cases k:gF r t.jK<;>simp only [go_sem,seval,e,k,gV,fc]<;>(with_reducible and_intros)<;>first|exact .dq|omega|skip
 cases l:gF r t.gK<;>simp only [go_sem,seval,e,k,l]<;>(with_reducible and_intros)<;>first|exact .dq|omega|skip
 cases m:t.jK==t.gK<;>simp only [go_sem,seval,m]<;>(with_reducible and_intros)<;>first|exact .dq|omega|skip
 cases n:i.state==1<;>simp only [go_sem,seval,bne,n,gV,fc]<;>(with_reducible and_intros)<;>first|exact .dq|omega|skip
 cases o:gs.state==1<;>simp only [go_sem,seval,bne,o]<;>(with_reducible and_intros)<;>first|exact .dq|omega|skip
theorem AM (t:aL):Sq 325 [] [.agg t.cells] [.own 4 ((fT t false).map aF.cells)] (.ref 0):=by
 have c2:=wF t;simp only [aL.cells] at *;refine bf 33 1 [.tmp 2] mixed func325 ?_;cases c:sizedB t
 ·rw [c] at c2;refine sc c c2 ?_;simp only [go_sem,seval,fT,c]<;>simp
 rw [c] at c2;have d:=c;simp only [sizedB,within,cU,bL] at d;obtain ⟨⟨a1,a2⟩,a3,a4⟩:=d;have m1:=jV (a:=t.aZ) (b:=t.aH) (A:=1048576) (B:=1073741824) ah ah;have w1:IntKind.wrap .i64 (0-t.aZ) = -t.aZ:=gN;have e:IntKind.wrap .i64 (t.aZ*t.aH)=t.aZ*t.aH:=gA ah ah;have f:IntKind.wrap .i64 (0-t.aZ*t.aH) = -t.aZ*t.aH:=by rw [gA ah ah,Int.neg_mul];omega
 refine sc c c2 ?_;simp only [go_sem,seval,w1,e,f,fT,c,V0]<;>simp
theorem LY (t:aL):Sq 325 [] [.agg t.cells] [] (.sl 4 ((fT t false).map aF.cells)):=by
 refine Spec.frozen (AM t) [0] rfl ?_;intro r;rcases r with _ | r<;>rfl
def MP (p:aF):aF:=⟨p.who,p.inst,-p.aZ,-p.cost⟩
theorem Yx (t:aL):(fT t false).map MP=fT t true:=by
 unfold fT;split
 ·simp [MP,V0,Int.neg_mul]
 ·rfl
theorem Yy (t:aL) (k:Bool):∀ p∈fT t k,(-1048576<=p.aZ/\p.aZ<=1048576)/\(-1125899906842624<=p.cost/\p.cost<=1125899906842624):=by
 intro p c;unfold fT at c;split at c
 ·rename_i d;simp only [sizedB,within,cU,bL] at d;obtain ⟨⟨a1,a2⟩,a3,a4⟩:=d;have e:=jV (a:=t.aZ) (b:=t.aH) (A:=1048576) (B:=1073741824) ah ah;have f:=jV (a:=-t.aZ) (b:=t.aH) (A:=1048576) (B:=1073741824) ah ah;simp only [mem_cons,not_mem_nil,or_false] at c;cases k<;>rcases c with rfl | rfl<;>simp [V0] at e f |-<;>omega
 ·cases c
theorem Nh (t:aL):Sq 361 [] [.agg t.cells] [.own 4 ((fT t true).map aF.cells)] (.ref 0):=by
 have c1:=AM t;have hr:=Yy t false;have o:=Yx t;have q:(fT t false).length<=2:=by unfold fT;split<;>simp
 rw [<- o];clear o;obtain ⟨l,n⟩:=aQ (fT t false);rw [<- n] at c1 hr q |-;clear n;simp only [aL.cells] at c1 |-;refine bf 34 1 [.tmp 2] mixed func361 ?_;refine so aJ c1 ?_;refine aM.wv l.length [8] [] (fun i=>[(9,.I i),(3,.ref 64)]) (fun i=>[(64,.own 4 ((pX MP l i).map aF.cells))]) ?_ ?_ ?_
 ·simp only [go_sem,seval,Gk]<;>simp
 ·intro i _ b f k _;have h:i < (pX MP l i).length:=by rw [uC];exact b
  have d:=aV (c:=aF.cells) (pX MP l i) h;rw [I1 MP b] at d;have j:=DM MP b;have r:=hr l[i] (ck _);have a:=uC MP l i;obtain ⟨x,m⟩:=aQ (l[i]);rw [<- m] at d j r;have w1:IntKind.wrap .i64 (0-x.aZ) = -x.aZ:=gN;have s:IntKind.wrap .i64 (0-x.cost) = -x.cost:=gN;simp only [aF.cells] at d;obtain ⟨M,p⟩:=aQ (pX MP l i);rw [<- p] at d j a |-;have e:∀ Z,((M.map aF.cells).set i Z).getD i []=Z:=fun Z=>by simp [a,b]
  refine sm (a5 f d w1 s (a3 k a e)) ?_;(with_reducible and_intros)<;>first|exact .dq|omega|skip
  all_goals first
   | (simp only [length_set,qn];omega)
   | (refine av.v b ?_
      simp only [go_sem,seval,<- j,map_set,set_set,e,MP])
 ·intro _ g _;simp only [go_sem,seval,g,KU]
def Jg (l:List aF):Int:=if right (l.map aF.aZ)&&right (l.map aF.cost) then (if bQ (aG (l.map aF.aZ))&&bQ (aG (l.map aF.cost)) then 0 else 1) else 3
def tsQ (l:List aF):Int:=if Jg l=0 then aG (l.map aF.aZ) else 0
def tsC (l:List aF):Int:=if Jg l=0 then aG (l.map aF.cost) else 0
theorem Of {A:Type} (f:A->Int) {xs:List A} {i:Nat} (h:i < xs.length):ints ((xs.take (i+1)).map f)=ints ((xs.take i).map f)++[[.I (f xs[i])]]:=by
 rw [l7 h,jq];simp only [ints,jq];rfl
theorem Ng (l:List aF) (hl:l.length < 2 ^ 30):Sq 383 [] [.sl 4 (l.map aF.cells)] [] (.bT [.I (tsQ l),.I (tsC l),.I (Jg l)]):=by
 have r1:=bY (l.map aF.aZ) (by simp;omega);have r2:=bY (l.map aF.cost) (by simp;omega);have s1:=gz (l.map aF.aZ) (by simp;omega);have s2:=gz (l.map aF.cost) (by simp;omega);obtain ⟨q,k⟩:=aQ (tsQ l);obtain ⟨c,h⟩:=aQ (tsC l);obtain ⟨e,j⟩:=aQ (Jg l);rw [<- k,<- h,<- j];refine bf 52 1 [.tmp 2,.tmp 3,.tmp 4] mixed func383 ?_;refine s0 ?_;refine aM.wv l.length [9,10] [176] (fun i=>[(11,.I i),(5,.ref 320),(6,.ref 400)]) (fun i=>[(320,.own 1 (ints ((l.take i).map aF.aZ))),(400,.own 1 (ints ((l.take i).map aF.cost)))]) ?_ ?_ ?_
 ·simp only [go_sem,seval]<;>simp [ints]
 ·intro i _ m n s _;have r:=aV (c:=aF.cells) l m;have s1:=Of aF.aZ m;have s2:=Of aF.cost m;have p:(l.take i).length=i:=by simp;omega
  obtain ⟨x,t⟩:=aQ (l[i]);rw [<- t] at r s1 s2;simp only [aF.cells] at r;simp only [go_sem,seval,n,r,s,aW,p];refine dP ?_;refine av.v m ?_;exact fL (a2 s1 s2)
 ·intro _ o _;rw [n9,nW] at s1 s2;obtain ⟨R,a⟩:∃ b,b=right (l.map aF.aZ):=⟨_,rfl⟩
  obtain ⟨T,d⟩:∃ b,b=right (l.map aF.cost):=⟨_,rfl⟩
  obtain ⟨I,f⟩:∃ b,b=bQ (aG (l.map aF.aZ)):=⟨_,rfl⟩
  obtain ⟨J,g⟩:∃ b,b=bQ (aG (l.map aF.cost)):=⟨_,rfl⟩
  rw [<- a] at r1 s1;rw [<- d] at r2 s2;rw [<- f] at s1;rw [<- g] at s2;simp only [go_sem,seval,o,jr];cases R
  ·rw [show q=0 by rw [k,tsQ,Jg,<- a];rfl,show c=0 by rw [h,tsC,Jg,<- a];rfl,show e=3 by rw [j,Jg,<- a];rfl];refine Xh aJ r1
  refine sl aJ r1 ?_;cases T
  ·rw [show q=0 by rw [k,tsQ,Jg,<- a,<- d];rfl,show c=0 by rw [h,tsC,Jg,<- a,<- d];rfl,show e=3 by rw [j,Jg,<- a,<- d];rfl];refine Xh aJ r2
  refine sl aJ r2 ?_;cases I
  ·rw [show q=0 by rw [k,tsQ,Jg,<- a,<- d,<- f];rfl,show c=0 by rw [h,tsC,Jg,<- a,<- d,<- f];rfl,show e=1 by rw [j,Jg,<- a,<- d,<- f];rfl];refine Xh aJ s1
  refine sl aJ s1 ?_;cases J
  ·rw [show q=0 by rw [k,tsQ,Jg,<- a,<- d,<- f,<- g];rfl,show c=0 by rw [h,tsC,Jg,<- a,<- d,<- f,<- g];rfl,show e=1 by rw [j,Jg,<- a,<- d,<- f,<- g];rfl];refine Xh aJ s2
  rw [show q=aG (l.map aF.aZ) by rw [k,tsQ,Jg,<- a,<- d,<- f,<- g];rfl,show c=aG (l.map aF.cost) by rw [h,tsC,Jg,<- a,<- d,<- f,<- g];rfl,show e=0 by rw [j,Jg,<- a,<- d,<- f,<- g];rfl];exact Xh aJ s2
def iu (w c:Int) (xs:List aB):Int:=if eO w c xs < 0 then 0 else (qq w c xs).br
theorem GV (w c:Int) (xs:List aB) (hl:xs.length < 2 ^ 40):Sq 317 [] [.I w,.I c,.sl 4 (xs.map aB.cells)] [] (.I (iu w c xs)):=by
 refine bf 31 3 [.tmp 6] mixed func317 ?_;refine s0 ?_;refine aM.w1 xs.length 11 [0,1,9,10] [176] (fun i _=>∀ j (e:j < xs.length),j < i->l8 w c xs[j]=false) (by intros;omega) ?_ ?_
 ·intro i _ g d l n;have k:=aV (c:=aB.cells) xs g;have hli:(i:Int) < (xs.length:Int):=ah
  have f:=GW g n;have a:l8 w c xs[i]=false->∀ j (e:j < xs.length),j < i+1->l8 w c xs[j]=false:=fun q j e hji=>by
   rcases bZ j i with h | h
   ·exact n j e h
   ·obtain rfl:j=i:=ah
    exact q
  have b:l8 w c xs[i]=true->iu w c xs=xs[i].br:=fun h=>by
   have:=f h;rw [iu,ak ah,qq,this];simp [g]
  obtain ⟨x,r⟩:=aQ (xs[i]);rw [<- r] at k a b;simp only [l8] at a b;simp only [aB.cells] at k;cases m:x.who==w
  ·refine sm (a4 d k m l) ?_;refine dP ?_;refine av.u g (a (by simp [m])) ?_;exact gU
  cases o:x.cur==c
  ·refine sm (a5 d k m o l) ?_;refine dP ?_;refine av.u g (a (by simp [o])) ?_;exact gU
  simp only [go_sem,seval,d,k,m,o,b (by simp [m,o])];exact okx
 ·intro _ p n;have:iu w c xs=0:=by rw [iu,Cl (fun j e=>n j e e)];rfl
  exact fL (a2 p this)
theorem xe (xs:List aB) (d:aE) (a:Int) (l:xs.length < 2 ^ 30):Sq 160 [] [.sl 4 (xs.map aB.cells),.agg d.cells,.I a] [] (.I (AS xs d a)):=by
 have c1:=w9 xs l;have c2:=xd d.who d.cur;have c3:=bY [d.br] (by simp);rw [tQ] at c3;simp only [ints,map_cons,map_nil] at c3;simp only [aE.cells];obtain ⟨E,b⟩:=aQ (AS xs d a);rw [<- b];unfold AS at b;obtain ⟨A,k⟩:=aQ (qt cj bO xs);rw [<- k] at c1 b;refine bf 41 3 [.tmp 6] mixed func160 ?_;cases A
 ·refine sc aJ c1 ?_;rw [b];simp only [go_sem,seval]<;>simp
 simp only [if_true] at b c1;obtain ⟨B,i⟩:=aQ ((within d.who 1 16&&within d.cur 0 2));obtain ⟨C,j⟩:=aQ (bQ d.br);have e:Cv d=(B&&(C&&!decide (d.br < 0))):=by
  rw [i,j,lA,AZ];simp [bQ,within];omega
 rw [<- i] at c2;rw [<- j] at c3;refine sc aJ c1 ?_;cases B
 ·refine sc aJ c2 ?_;rw [b,e];simp only [go_sem,seval]<;>simp
 refine sc aJ c2 ?_;cases C
 ·refine sl aJ c3 ?_;rw [b,e];simp only [go_sem,seval]<;>simp
 refine sl aJ c3 ?_;cases c:decide (d.br < 0)
 case true =>
  rw [b,e,c];simp only [go_sem,seval,c]<;>simp
 cases g:decide (a < 0)
 case true =>
  have f:within a 0 1099511627776=false:=by simp only [bL] at g;simp [within];omega
  rw [b,e,c,f];simp only [go_sem,seval,c,g]<;>simp
 cases h:decide (1099511627776 < a)
 case true =>
  have f:within a 0 1099511627776=false:=by simp only [bL] at h;simp [within];omega
  rw [b,e,c,f];simp only [go_sem,seval,c,g,h]<;>simp
 have f:within a 0 1099511627776=true:=by simp only [gM] at g h;simp [within];omega
 rw [b,e,c,f];simp only [go_sem,seval,c,g,h]<;>simp
theorem JD (x:aB) (z w c a:Int):Sq 258 [] [.agg x.cells,.I z,.bq [.I w,.I c,.I a]] [] (.I (w7 x w c)):=by
 have h:=uj x w c;simp only [aB.cells] at h |-;refine bf 12 3 [.tmp 5] mixed func258 ?_;exact jW aJ h
theorem NH {x:aB} {w c:Int} (hx:0<=x.cur/\x.cur<=2) (hc:0<=c/\c<=2):(w7 x w c < 0 ↔ eK x < w*4+c)/\(w7 x w c=0 ↔ eK x=w*4+c):=by
 unfold w7 eK eM;constructor<;>repeat' split
 all_goals omega
def isC (K:Int) (xs:List aB):Bool:=xs.any fun y=>eK y==K
theorem Vz {xs:List aB} {K:Int} (e:xs.Pairwise fun a b=>eK a < eK b) {i:Nat} (hi:i<=xs.length) (c:∀ k (h:k < xs.length),k < i->eK xs[k] < K) (d:∀ k (h:k < xs.length),i<=k->K<=eK xs[k]):i=putAt eK K xs:=by
 obtain ⟨p1,f,g⟩:=iQ (n:=K) e;rcases Nat.lt_trichotomy i (putAt eK K xs) with h | h | h
 ·have:=f i ah h;have:=d i ah (dU _);omega
 ·exact h
 ·have:=g _ ah (dU (putAt eK K xs));have:=c _ ah h;omega
theorem abJ {xs:List aB} {K:Int} (i:xs.Pairwise fun a b=>eK a < eK b):(∀ (h:putAt eK K xs < xs.length),isC K xs=(eK xs[putAt eK K xs]==K))/\(xs.length<=putAt eK K xs->isC K xs=false):=by
 obtain ⟨p1,k,l⟩:=iQ (n:=K) i;have f:=qo.1 i;refine ⟨fun h=>?_,fun h=>?_⟩
 ·rw [lA,eH,isC,any_eq_true];constructor
  ·rintro ⟨y,g,d⟩;rw [eH] at d;obtain ⟨j,e,rfl⟩:=getElem_of_mem g;have h3:=l _ h (dU _);rcases Nat.lt_trichotomy j (putAt eK K xs) with c | c | c
   ·have:=k j e c;omega
   ·subst c;exact d
   ·have:=f _ j h e c;omega
  ·intro d;exact ⟨_,ck h,by simpa using d⟩
 ·rw [isC,any_eq_false];intro y g;obtain ⟨j,e,rfl⟩:=getElem_of_mem g;have:=k j e ah;simp only [eH];omega
theorem HF (xs:List aB) (w c a:Int) (hl:xs.length < 2 ^ 62) (A:xs.Pairwise fun a b=>eK a < eK b) (E:∀ x∈xs,0<=x.cur/\x.cur<=2) (C:0<=c/\c<=2) :
  Sq 257 [] [.sl 4 (xs.map aB.cells),.I 0,.fn 258 [.bq [.I w,.I c,.I a]]] [] (.bT [.I (putAt eK (w*4+c) xs),.bool (isC (w*4+c) xs)]):=by
 refine bf 49 3 [.tmp 6,.tmp 7] mixed func257 ?_;refine s0 ?_;refine aM.vh (T:=Nat × Nat) [0,1,2,8] [224] (fun s=>[(9,.I s.1),(10,.I s.2)]) (fun s=>[])
  (fun s=>s.1<=s.2/\s.2<=xs.length/\(∀ k (h:k < xs.length),k < s.1->eK xs[k] < w*4+c)/\∀ k (h:k < xs.length),s.2<=k->w*4+c<=eK xs[k]) (fun s=>s.2-s.1) (0,xs.length) ?_ ?_ ?_
 ·exact ⟨by omega,by omega,by omega,by omega⟩
 ·simp only [go_sem,seval]<;>simp
 ·rintro ⟨i,j⟩ ⟨B,p,h3,h4⟩;refine s0 ?_;refine bF.fM (fun h=>?_) (fun h=>?_)
  ·have z:i < j:=ah
   have p:j<=xs.length:=p;obtain ⟨m,u⟩:=aQ ((i+j) / 2);have g:m < xs.length:=ah
   have r:=half (i:=i) (j:=j) ah;rw [<- u] at r;have d:=JD xs[m] 0 w c a;have D:IntKind.wrap .i64 ((m:Int)+1)=((m+1:Nat):Int):=gN;have q:=(NH (w:=w) (E _ (ck g)) C).1;have t:=qo.1 A;have f:=aV (c:=aB.cells) xs g;simp only [aB.cells] at d f;refine sm (a2 r f) ?_;refine ⟨by omega,aD.bp d ?_⟩;refine s0 ?_;refine bF.fM (fun n=>?_) (fun n=>?_)
   ·refine sm D ?_;refine ⟨(m+1,j),⟨by show m+1<=j;omega,p,?_,h4⟩,?_,by show j-(m+1) < j-i;omega⟩
    ·intro k o e;have e:k < m+1:=e;have n:=q.1 n;rcases bZ k m with h | h
     ·have:=t k m o g h;omega
     ·obtain rfl:k=m:=ah
      exact n
    ·simp only [go_sem,seval]<;>simp
   ·refine sm D ?_;refine ⟨(i,m),⟨by show i<=m;omega,by show m<=_;omega,h3,?_⟩,?_,by show m-i < j-i;omega⟩
    ·intro k o e;have e:m<=k:=e;have n:w*4+c<=eK xs[m]:=by
      rcases Int.lt_or_le (eK xs[m]) (w*4+c) with h | h
      ·exact (n (q.2 h)).elim
      ·exact h
     rcases bZ m k with h | h
     ·have:=t m k g o h;omega
     ·obtain rfl:k=m:=ah
      exact n
    ·simp only [go_sem,seval]<;>simp
  ·have z:j<=i:=ah
   have B:i<=j:=B;obtain rfl:i=j:=ah
   have p:i<=xs.length:=p;have l:=Vz A p (fun k o h=>h3 k o h) (fun k o h=>h4 k o h);obtain ⟨F,a2⟩:=abJ (K:=w*4+c) A;rw [<- l] at a2 |-;refine s0 ?_;refine dW.id ?_;rcases bZ i xs.length with hil | hge
   ·have v:decide ((i:Int) < (xs.length:Int))=true:=by simp;omega
    have f:isC (w*4+c) xs=(eK xs[i]==w*4+c):=by
     have:=F ah;rw [this];congr 2;congr 1;exact l.symm
    have d:=JD xs[i] 0 w c a;have y:=(NH (w:=w) (E _ (ck hil)) C).2;have u:=aV (c:=aB.cells) xs hil;simp only [aB.cells] at d u;simp only [go_sem,seval,v,u];refine ⟨by omega,aD.bp d ?_⟩;refine s0 ?_;rw [f,lA];simp [y]
   ·have v:decide ((i:Int) < (xs.length:Int))=false:=by simp;omega
    simp only [go_sem,seval,v,a2 hge]
def Si (K:Int) (xs:List aO):Bool:=xs.any fun y=>y.client==K
theorem Td {xs:List aO} {K:Int} (e:xs.Pairwise fun a b=>a.client < b.client) {i:Nat} (hi:i<=xs.length) (c:∀ k (h:k < xs.length),k < i->xs[k].client < K) (d:∀ k (h:k < xs.length),i<=k->K<=xs[k].client):i=putAt aO.client K xs:=by
 obtain ⟨p1,f,g⟩:=iQ (n:=K) e;rcases Nat.lt_trichotomy i (putAt aO.client K xs) with h | h | h
 ·have:=f i ah h;have:=d i ah (dU _);omega
 ·exact h
 ·have:=g _ ah (dU (putAt aO.client K xs));have:=c _ ah h;omega
theorem abK {xs:List aO} {K:Int} (i:xs.Pairwise fun a b=>a.client < b.client):(∀ (h:putAt aO.client K xs < xs.length),Si K xs=(xs[putAt aO.client K xs].client==K))/\(xs.length<=putAt aO.client K xs->Si K xs=false):=by
 obtain ⟨p1,k,l⟩:=iQ (n:=K) i;have f:=qo.1 i;refine ⟨fun h=>?_,fun h=>?_⟩
 ·rw [lA,eH,Si,any_eq_true];constructor
  ·rintro ⟨y,g,d⟩;rw [eH] at d;obtain ⟨j,e,rfl⟩:=getElem_of_mem g;have h3:=l _ h (dU _);rcases Nat.lt_trichotomy j (putAt aO.client K xs) with c | c | c
   ·have:=k j e c;omega
   ·subst c;exact d
   ·have:=f _ j h e c;omega
  ·intro d;exact ⟨_,ck h,by simpa using d⟩
 ·rw [Si,any_eq_false];intro y g;obtain ⟨j,e,rfl⟩:=getElem_of_mem g;have:=k j e ah;simp only [eH];omega
theorem LF (x:aO) (w:Int) (hx:1<=x.client/\x.client<=8) (hw:1<=w/\w<=8):Sq 197 [] [.agg x.cells,.I w] [] (.I (x.client-w)):=by
 have h:IntKind.wrap .i64 (x.client-w)=x.client-w:=gA ah ah;simp only [aO.cells];refine bf 9 2 [.tmp 4] mixed func197 ?_;exact fL h
theorem Iz (xs:List aO) (w:Int) (hl:xs.length < 2 ^ 62) (A:xs.Pairwise fun a b=>a.client < b.client) (E:∀ x∈xs,1<=x.client/\x.client<=8) (C:1<=w/\w<=8) :
  Sq 196 [] [.sl 7 (xs.map aO.cells),.I w,.fn 197 []] [] (.bT [.I (putAt aO.client w xs),.bool (Si w xs)]):=by
 refine bf 49 3 [.tmp 6,.tmp 7] mixed func196 ?_;refine s0 ?_;refine aM.vh (T:=Nat × Nat) [0,1,2,8] [224] (fun s=>[(9,.I s.1),(10,.I s.2)]) (fun s=>[])
  (fun s=>s.1<=s.2/\s.2<=xs.length/\(∀ k (h:k < xs.length),k < s.1->xs[k].client < w)/\∀ k (h:k < xs.length),s.2<=k->w<=xs[k].client) (fun s=>s.2-s.1) (0,xs.length) ?_ ?_ ?_
 ·exact ⟨by omega,by omega,by omega,by omega⟩
 ·simp only [go_sem,seval]<;>simp
 ·rintro ⟨i,j⟩ ⟨B,p,h3,h4⟩;refine s0 ?_;refine bF.fM (fun h=>?_) (fun h=>?_)
  ·have z:i < j:=ah
   have p:j<=xs.length:=p;obtain ⟨m,u⟩:=aQ ((i+j) / 2);have g:m < xs.length:=ah
   have r:=half (i:=i) (j:=j) ah;rw [<- u] at r;have d:=LF xs[m] w (E _ (ck g)) C;have D:IntKind.wrap .i64 ((m:Int)+1)=((m+1:Nat):Int):=gN;have q:xs[m].client-w < 0 ↔ xs[m].client < w:=ah
   have t:=qo.1 A;have f:=aV (c:=aO.cells) xs g;simp only [aO.cells] at d f;refine sm (a2 r f) ?_;refine ⟨by omega,aD.bp d ?_⟩;refine s0 ?_;refine bF.fM (fun n=>?_) (fun n=>?_)
   ·refine sm D ?_;refine ⟨(m+1,j),⟨by show m+1<=j;omega,p,?_,h4⟩,?_,by show j-(m+1) < j-i;omega⟩
    ·intro k o e;have e:k < m+1:=e;have n:=q.1 n;rcases bZ k m with h | h
     ·have:=t k m o g h;omega
     ·obtain rfl:k=m:=ah
      exact n
    ·simp only [go_sem,seval]<;>simp
   ·refine sm D ?_;refine ⟨(i,m),⟨by show i<=m;omega,by show m<=_;omega,h3,?_⟩,?_,by show m-i < j-i;omega⟩
    ·intro k o e;have e:m<=k:=e;have n:w<=xs[m].client:=by
      rcases Int.lt_or_le xs[m].client w with h | h
      ·exact (n (q.2 h)).elim
      ·exact h
     rcases bZ m k with h | h
     ·have:=t m k g o h;omega
     ·obtain rfl:k=m:=ah
      exact n
    ·simp only [go_sem,seval]<;>simp
  ·have z:j<=i:=ah
   have B:i<=j:=B;obtain rfl:i=j:=ah
   have p:i<=xs.length:=p;have l:=Td A p (fun k o h=>h3 k o h) (fun k o h=>h4 k o h);obtain ⟨F,a2⟩:=abK (K:=w) A;rw [<- l] at a2 |-;refine s0 ?_;refine dW.id ?_;rcases bZ i xs.length with hil | hge
   ·have v:decide ((i:Int) < (xs.length:Int))=true:=by simp;omega
    have f:Si w xs=(xs[i].client==w):=by
     have:=F ah;rw [this];congr 2;congr 1;exact l.symm
    have d:=LF xs[i] w (E _ (ck hil)) C;have y:xs[i].client-w=0 ↔ xs[i].client=w:=ah
    have u:=aV (c:=aO.cells) xs hil;simp only [aO.cells] at d u;simp only [go_sem,seval,v,u];refine ⟨by omega,aD.bp d ?_⟩;refine s0 ?_;rw [f,lA];simp [y]
   ·have v:decide ((i:Int) < (xs.length:Int))=false:=by simp;omega
    simp only [go_sem,seval,v,a2 hge]
theorem vF {xs:List aO} {w:Int} (q:xs.Pairwise fun a b=>a.client < b.client):(Si w xs=true->∃ h:putAt aO.client w xs < xs.length,(xs[putAt aO.client w xs]).client=w/\ku w xs 0=putAt aO.client w xs)/\(Si w xs=false->ku w xs 0 < 0/\∀ x∈xs,x.client≠w):=by
 have v:∀ (l:List aO) (k:Int),0<=k->(∀ x∈l,x.client≠w)->ku w l k < 0:=fun l=>by
  induction l with
  | nil=>intro k _ _;simp [ku]
  | cons x r ih =>
   intro k d h;have m:=h x (by simp);simp only [ku];rw [ak (by simpa using m)];exact ih (k+1) ah fun y A=>h y (mem_cons_of_mem _ A)
 have u:∀ (l:List aO) (j:Nat) (k:Int) (h:j < l.length),(∀ i (g:i < l.length),i < j->l[i].client≠w)->l[j].client=w->ku w l k=k+j:=fun l=>by
  induction l with
  | nil=>intro j k h;simp at h
  | cons x r ih =>
   intro j k h o f;simp only [ku];cases j with
   | zero =>
    have f:x.client=w:=f;rw [aq (by simpa using f)];simp
   | succ j =>
    have t:x.client≠w:=o 0 (by simp) ah;rw [ak (by simpa using t),ih j (k+1) (by simpa using h) (fun i g e=>o (i+1) (by simpa using g) ah) f];push_cast;omega
 obtain ⟨s,a2⟩:=abK (K:=w) q;obtain ⟨p1,B,p3⟩:=iQ (n:=w) q;refine ⟨fun h=>?_,fun h=>?_⟩
 ·have c:putAt aO.client w xs < xs.length:=by
   rcases bZ (putAt aO.client w xs) xs.length with hh | hh
   ·exact hh
   ·rw [a2 hh] at h;cases h
  have d:=s c;rw [h] at d;have d:(xs[putAt aO.client w xs]).client=w:=by simpa using d.symm
  refine ⟨c,d,?_⟩;rw [u xs (putAt aO.client w xs) 0 c (fun i g e=>by have:=B i g e;omega) d];simp
 ·have p:∀ x∈xs,x.client≠w:=fun x m z=>by
   rw [Si,any_eq_false] at h;exact h x m (by simpa using z)
  exact ⟨v xs 0 ah p,p⟩
theorem ia {s:af} (h:s.right):s.aA.Pairwise (fun a b=>a.client < b.client)/\∀ x∈s.aA,1<=x.client/\x.client<=8:=by
 have c:=(jA (lt:=fW) jX).1 h.aA;refine ⟨c.2.imp fun h=>by simpa [fW] using h,fun x d=>?_⟩;have:=c.1 x d;simp only [mg,within,cU,bL] at this;omega
theorem Cy (s:af) (w:Int) (c:s.aA.Pairwise fun a b=>a.client < b.client) (d:∀ x∈s.aA,1<=x.client/\x.client<=8) (e:1<=w/\w<=8) (hl:s.aA.length < 2 ^ 60):Sq 92 [.box s.cells] [.addr 0 0,.I w] [.box s.cells] (.bT [.I (putAt aO.client w s.aA),.bool (Si w s.aA)]):=by

 have c1:=Iz s.aA w ah c d e;simp only [af.cells];refine bf 15 2 [.tmp 4,.tmp 5] mixed func92 ?_;exact jW aJ c1
theorem TW (r:aT) (h:r.xy.length < 2 ^ 30/\r.falls.length < 2 ^ 30):Sq 95 [] [.agg r.cells] [] (.agg r.cells):=by
 have c1:=At r.xy h.1;have c2:=xm r.falls h.2;simp only [aT.cells];refine bf 12 1 [.cell 2 62] mixed func95 ?_;refine sc aJ c1 ?_;refine sc aJ c2 ?_;exact ⟨vO.mk (by kernel_rfl),vO.mk (by kernel_rfl)⟩
def xI (c:aN):aC:=⟨c.inst,c.cur,c.aZ,c.br,0,0,c.s0,c.s1,c.s2,c.s3,c.s4,c.s5⟩
def dw (s:af) (c:aN):af × Int × Int × Int × List aE × List dQ:=
 if c.kind=1 then ({ s with aj:=jc s.aj c.who c.br },lY s.aj c.who c.br,0,0,[],[])
 else if c.kind=2 then ({ s with aj:=mZ s.aj (xI c) },qL s.aj (xI c),0,0,[],[])
 else if c.kind=3 then ({ s with aj:=mq s.aj ⟨c.no,c.cur,c.aH,c.br⟩ },rJ s.aj ⟨c.no,c.cur,c.aH,c.br⟩,0,0,[],[])
 else if c.kind=4\/c.kind=5\/c.kind=8 then ((wM s c).1,(wM s c).2,0,0,[],[])
 else if c.kind=6\/c.kind=7 then ((oq s c (ng c)).1,(oq s c (ng c)).2,0,0,[],[])
 else if c.kind=9 then (if within c.cur 0 2&&within c.br 1 4611686018427387904 then (sF s (cg ⟨1,0,c.cur⟩ ⟨4,0,c.cur⟩ c.br),qz s (cg ⟨1,0,c.cur⟩ ⟨4,0,c.cur⟩ c.br),0,0,[],[]) else (s,3,0,0,[],[]))
 else if c.kind=10\/c.kind=11\/c.kind=12\/c.kind=13 then (if s.phase=0 then ((nD s c).1,(nD s c).2.2,(nD s c).2.1,0,[],[]) else (s,15,0,0,[],[]))
 else if c.kind=14 then (lJ s,jF s,0,0,qW s,[])
 else if c.kind=15 then (kj s,lG s,0,0,pK s,[])
 else if c.kind=16 then (uE s,xV s,0,0,[],[])
 else if c.kind=17 then (mD s c.br,qk s c.br,0,0,qj s c.br,[])
 else if c.kind=18 then ((uW s c).1,(uW s c).2,0,0,[],[])
 else if c.kind=19 then (DQ s c.who,BL s c.who,0,0,MR s c.who,MS s c.who)
 else if c.kind=20 then ((nB 3 0 s []).1,(nB 3 0 s []).2.2,0,0,(nB 3 0 s []).2.1,[])
 else if c.kind=21 then (if aP.right ⟨c.no,c.who,c.cur⟩ then (s,0,0,jo ⟨c.no,c.who,c.cur⟩ s.bu.bs,[],[]) else (s,3,0,0,[],[]))
 else if c.kind=22 then (if rN c.who c.inst then (s,0,0,(posOf c.who c.inst s.book.qs).aZ,[],[]) else (s,3,0,0,[],[]))
 else (s,0,0,0,[],[])
def xw (s:af) (m:af × Int × Int × Int × List aE × List dQ):af × aT:=if m.2.1=0 then (m.1,⟨0,m.2.2.1,m.2.2.2.1,m.2.2.2.2.1,m.2.2.2.2.2⟩) else (s,.err m.2.1)
def gY (s:af) (c:aN):af × aT:=xw s (dw s c)
def rA (c:aN):aN:=
 if c.kind=1 then ⟨c.client,c.seq,c.kind,0,c.other,c.no,c.inst,c.cur,c.aZ,c.aH,0,c.s0,c.s1,c.s2,c.s3,c.s4,c.s5⟩
 else if c.kind=2 then ⟨c.client,c.seq,c.kind,c.who,c.other,c.no,0,0,0,c.aH,0,0,0,0,0,0,0⟩
 else if c.kind=3 then ⟨c.client,c.seq,c.kind,c.who,c.other,0,c.inst,0,c.aZ,0,0,c.s0,c.s1,c.s2,c.s3,c.s4,c.s5⟩
 else if c.kind=4 then ⟨c.client,c.seq,c.kind,0,c.other,c.no,c.inst,0,c.aZ,c.aH,0,c.s0,c.s1,c.s2,c.s3,c.s4,c.s5⟩
 else if c.kind=5 then ⟨c.client,c.seq,c.kind,0,c.other,c.no,c.inst,0,c.aZ,c.aH,0,c.s0,c.s1,c.s2,c.s3,c.s4,c.s5⟩
 else if c.kind=6 then ⟨c.client,c.seq,c.kind,0,c.other,0,c.inst,c.cur,0,c.aH,c.br,c.s0,c.s1,c.s2,c.s3,c.s4,c.s5⟩
 else if c.kind=7 then ⟨c.client,c.seq,c.kind,0,c.other,0,c.inst,c.cur,0,c.aH,c.br,c.s0,c.s1,c.s2,c.s3,c.s4,c.s5⟩
 else if c.kind=8 then ⟨c.client,c.seq,c.kind,0,c.other,c.no,c.inst,0,c.aZ,c.aH,0,c.s0,c.s1,c.s2,c.s3,c.s4,c.s5⟩
 else if c.kind=9 then ⟨c.client,c.seq,c.kind,c.who,c.other,c.no,c.inst,0,c.aZ,c.aH,0,c.s0,c.s1,c.s2,c.s3,c.s4,c.s5⟩
 else if c.kind=10 then ⟨c.client,c.seq,c.kind,0,0,c.no,0,c.cur,0,0,c.br,c.s0,c.s1,c.s2,c.s3,c.s4,c.s5⟩
 else if c.kind=11 then ⟨c.client,c.seq,c.kind,c.who,c.other,0,c.inst,c.cur,c.aZ,c.aH,c.br,c.s0,c.s1,c.s2,c.s3,c.s4,c.s5⟩
 else if c.kind=12 then ⟨c.client,c.seq,c.kind,c.who,c.other,0,c.inst,c.cur,0,0,c.br,c.s0,c.s1,c.s2,c.s3,c.s4,c.s5⟩
 else if c.kind=13 then ⟨c.client,c.seq,c.kind,c.who,c.other,c.no,0,c.cur,c.aZ,0,c.br,c.s0,c.s1,c.s2,c.s3,c.s4,c.s5⟩
 else if c.kind=14 then ⟨c.client,c.seq,c.kind,c.who,c.other,c.no,c.inst,c.cur,c.aZ,c.aH,c.br,c.s0,c.s1,c.s2,c.s3,c.s4,c.s5⟩
 else if c.kind=15 then ⟨c.client,c.seq,c.kind,c.who,c.other,c.no,c.inst,c.cur,c.aZ,c.aH,c.br,c.s0,c.s1,c.s2,c.s3,c.s4,c.s5⟩
 else if c.kind=16 then ⟨c.client,c.seq,c.kind,c.who,c.other,c.no,c.inst,c.cur,c.aZ,c.aH,c.br,c.s0,c.s1,c.s2,c.s3,c.s4,c.s5⟩
 else if c.kind=17 then ⟨c.client,c.seq,c.kind,c.who,c.other,c.no,c.inst,c.cur,c.aZ,c.aH,0,c.s0,c.s1,c.s2,c.s3,c.s4,c.s5⟩
 else if c.kind=18 then ⟨c.client,c.seq,c.kind,0,0,c.no,0,c.cur,0,0,c.br,c.s0,c.s1,c.s2,c.s3,c.s4,c.s5⟩
 else if c.kind=19 then ⟨c.client,c.seq,c.kind,0,c.other,c.no,c.inst,c.cur,c.aZ,c.aH,c.br,c.s0,c.s1,c.s2,c.s3,c.s4,c.s5⟩
 else if c.kind=20 then ⟨c.client,c.seq,c.kind,c.who,c.other,c.no,c.inst,c.cur,c.aZ,c.aH,c.br,c.s0,c.s1,c.s2,c.s3,c.s4,c.s5⟩
 else if c.kind=21 then ⟨c.client,c.seq,c.kind,0,c.other,0,c.inst,0,c.aZ,c.aH,c.br,c.s0,c.s1,c.s2,c.s3,c.s4,c.s5⟩
 else if c.kind=22 then ⟨c.client,c.seq,c.kind,0,c.other,c.no,0,c.cur,c.aZ,c.aH,c.br,c.s0,c.s1,c.s2,c.s3,c.s4,c.s5⟩
 else c
def AJ (b:aN):Bool:=decide (b.who=0/\b.other=0/\b.no=0/\b.inst=0/\b.cur=0/\b.aZ=0/\b.aH=0/\b.br=0/\b.s0=0/\b.s1=0/\b.s2=0/\b.s3=0/\b.s4=0/\b.s5=0)
theorem kinds {k:Int} (h:1<=k/\k<=22):k=1\/k=2\/k=3\/k=4\/k=5\/k=6\/k=7\/k=8\/k=9\/k=10\/k=11\/k=12\/k=13\/k=14\/k=15\/k=16\/k=17\/k=18\/k=19\/k=20\/k=21\/k=22:=ah
theorem XI (c:aN) (b:1<=c.kind/\c.kind<=22):Sq 184 [] [.agg c.cells] [] (.bT [.agg (rA c).cells,.bool true]):=by
 have a:=kinds b;obtain ⟨cli,sq,kind,who,oth,no,inst,cur,aZ,aH,br,s0,s1,s2,s3,s4,s5⟩:=c;dsimp only at a;clear b;rcases a with a | a | a | a | a | a | a | a | a | a | a | a | a | a | a | a | a | a | a | a | a | a;all_goals
  subst a;simp only [rA,Int.reduceEq,if_true,if_false,aN.cells];refine bf 83 1 [.cell 2 66,.tmp 3] mixed func184 ?_;simp -implicitDefEqProofs only [go_sem,seval];all_goals simp
theorem XH (c:aN) (a:¬ (1<=c.kind/\c.kind<=22)):∃ b:aN,Sq 184 [] [.agg c.cells] [] (.bT [.agg b.cells,.bool false]):=by
 refine ⟨c,?_⟩;have e:∀ j:Int,1<=j->j<=22->(c.kind==j)=false:=fun j h1 h2=>by simp;omega
 obtain ⟨cli,sq,kind,who,oth,no,inst,cur,aZ,aH,br,s0,s1,s2,s3,s4,s5⟩:=c;dsimp only at *;simp only [aN.cells];clear a;refine bf 83 1 [.cell 2 66,.tmp 3] mixed func184 ?_;simp -implicitDefEqProofs only [go_sem,seval,e];all_goals simp
theorem X6 (c:aN):oM c 119=c.who/\oM c 111=c.other/\oM c 110=c.no/\oM c 105=c.inst/\oM c 99=c.cur/\oM c 113=c.aZ/\oM c 112=c.aH/\oM c 97=c.br:=by simp [oM]
theorem aem:eU pP 0=119/\eU pP 1=111/\eU pP 2=110/\eU pP 3=105/\eU pP 4=99/\eU pP 5=113/\eU pP 6=112/\eU pP 7=97:=by refine ⟨rfl,rfl,rfl,rfl,rfl,rfl,rfl,rfl⟩
theorem bo {b:Bool} {x:Int} (h:b=false->x=0):b=true\/x=0:=by cases b<;>simp_all
theorem abn (c:aN) (l:ByteArray):sO c l pP 8 0=0 ↔ (hasB l 119=true\/c.who=0)/\(hasB l 111=true\/c.other=0)/\(hasB l 110=true\/c.no=0)/\(hasB l 105=true\/c.inst=0)/\(hasB l 99=true\/c.cur=0)/\(hasB l 113=true\/c.aZ=0)/\(hasB l 112=true\/c.aH=0)/\(hasB l 97=true\/c.br=0):=by
 obtain ⟨a,b,a2,a3,a4,a5,d,e⟩:=aem;obtain ⟨f,g,h,i,j,k,m,n⟩:=X6 c;simp only [sO,Nat.zero_add,Nat.reduceAdd,a,b,a2,a3,a4,a5,d,e,f,g,h,i,j,k,m,n];(repeat' split)<;>simp_all
 all_goals exact ⟨bo (by assumption),bo (by assumption),bo (by assumption),bo (by assumption),bo (by assumption),bo (by assumption),bo (by assumption),bo (by assumption)⟩
theorem aiM (c:aN) (l:ByteArray):xD c l 6 0=0 ↔ (hasB l 115=true\/(c.s0=0/\c.s1=0/\c.s2=0/\c.s3=0/\c.s4=0/\c.s5=0)):=by
 simp only [xD,Nat.zero_add,Nat.reduceAdd,tT];cases hasB l 115
 ·(repeat' split)<;>simp_all
 ·simp
def aoi (c:aN) (k:ByteArray):aN:=⟨c.client,c.seq,c.kind,if hasB k 119 then 0 else c.who,if hasB k 111 then 0 else c.other,if hasB k 110 then 0 else c.no,if hasB k 105 then 0 else c.inst,if hasB k 99 then 0 else c.cur,if hasB k 113 then 0 else c.aZ,if hasB k 112 then 0 else c.aH,if hasB k 97 then 0 else c.br,
 if hasB k 115 then 0 else c.s0,if hasB k 115 then 0 else c.s1,if hasB k 115 then 0 else c.s2,if hasB k 115 then 0 else c.s3,if hasB k 115 then 0 else c.s4,if hasB k 115 then 0 else c.s5⟩
theorem XG (c:aN) (h:1<=c.kind/\c.kind<=22):rA c=aoi c (dJ c.kind):=by
 have a:=kinds h;obtain ⟨cli,sq,kind,who,oth,no,inst,cur,aZ,aH,br,s0,s1,s2,s3,s4,s5⟩:=c;dsimp only at a;clear h;rcases a with a | a | a | a | a | a | a | a | a | a | a | a | a | a | a | a | a | a | a | a | a | a;all_goals
  subst a;rfl
theorem zi {b:Bool} {x:Int}:(if b=true then 0 else x)=0 ↔ (b=true\/x=0):=by cases b<;>simp
theorem aeC (c:aN) (h:1<=c.kind/\c.kind<=22):fC c=if AJ (rA c)&&within c.client 1 8 then 0 else 6:=by
 have key:(sO c (dJ c.kind) pP 8 0=0/\xD c (dJ c.kind) 6 0=0) ↔ AJ (rA c)=true:=by
  rw [abn,aiM,XG c h];simp only [AJ,aoi,zi,bL];cases hasB (dJ c.kind) 115<;>simp [and_assoc]
 unfold fC;rw [aq (show within c.kind 1 22=true by simp [within];omega)];cases d:AJ (rA c)
 ·rw [gV,ak lZ];rw [d] at key;rcases J8 c (dJ c.kind) pP 8 0 with a | a
  ·rw [aq a,ak (fun b=>by have:=key.1 ⟨a,b⟩;cases this)]
  ·rw [ak (by rw [a];decide)]
 ·obtain ⟨a,b⟩:=key.2 d;rw [aq a,aq b];cases within c.client 1 8<;>rfl
theorem form_eq (c:aN):fC c=if within c.kind 1 22 then (if AJ (rA c)&&within c.client 1 8 then 0 else 6) else 21:=by
 by_cases a:1<=c.kind/\c.kind<=22
 ·rw [aq (by simp [within];omega)];exact aeC c a
 ·have e:within c.kind 1 22=false:=by simp [within];omega
  unfold fC;rw [e];rfl
theorem TQ:∀ {ps:List Int} {j:Nat},j < ps.length->aG (ps.set j (ps.getD j 0+1))=aG ps+1
 | [],j,h=>by simp at h
 | x :: r,0,_=>by simp [aG];omega
 | x :: r,j+1,h=>by
  have:=TQ (ps:=r) (j:=j) (by simpa using h);simp only [set_cons_succ,getD_cons_succ,aG,this];omega
theorem N8 (rs:List Int):∀ (n:Nat) (gs:List Bool) (ps:List Int),gs.length=rs.length->ps.length=rs.length->gs.count true+n<=gs.length->aG (sQ rs n gs ps)=aG ps+n
 | 0,_,_,_,_,_=>by simp [sQ]
 | n+1,gs,ps,h1,h2,h3=>by
  have a:=Ws (gs:=gs) ah;rw [h1] at a;have c:=Wk rs gs rs.length a;have hr:=yD rs gs rs.length;have b:=JC rs gs rs.length c;simp only [sQ];rw [N8 rs n _ _ (by simp [h1]) (by simp [h2]) (by rw [count_set b,length_set];omega),TQ ah];omega
theorem Dy (rs:List Int):∀ (n:Nat) (gs:List Bool) (ps:List Int),(∀ x∈ps,0<=x)->∀ x∈sQ rs n gs ps,0<=x
 | 0,_,_,h=>h
 | n+1,gs,ps,h=>by
  simp only [sQ];refine Dy rs n _ _ fun x a=>?_;rcases mem_or_eq_of_mem_set a with a | rfl
  ·exact h x a
  ·have:0<=ps.getD (nA rs gs rs.length).toNat 0:=by
    rw [getD_eq_getElem?_getD];cases b:ps[(nA rs gs rs.length).toNat]? with
    | none=>simp
    | some y=>exact h y (dX b)
   omega
theorem ZL {t:Int} {ws:List Int} (h:pz t ws=0):0<=t/\(∀ x∈ws,0<=x):=by
 unfold pz at h;split at h
 case isFalse=>cases h
 rename_i a;split at h
 case isFalse=>cases h
 rename_i b;simp only [cU,iK,gM] at a;refine ⟨by omega,fun x c=>?_⟩;have:=dn.1 b x c;simp only [iK,gM] at this;omega
theorem VQ {t:Int} {ws:List Int} (h:pz t ws=0) (f:aG ws≠0):aG (iH t ws)=t/\(∀ x∈iH t ws,0<=x):=by
 obtain ⟨d,a⟩:=ZL h;have hn:=sx a;have hl:=BF d rfl (show 1<=aG ws by omega) a;unfold iH;rw [aq h,ak f];have b:(uT t (aG ws) ws).length=(wA t (aG ws) ws).length:=by simp [uT,wA]
 have c:(wA t (aG ws) ws).length=ws.length:=by simp [wA]
 refine ⟨?_,Dy _ _ _ _ fun x g=>?_⟩
 ·rw [N8 _ _ _ _ (by simp [c]) b (by simp [count_replicate];omega)];omega
 ·obtain ⟨w,e,rfl⟩:=mem_map.1 g;exact (K9 d ah (a w e) (Je a w e)).1
def Ad (f:List eN):Int:=aG (f.map eN.aZ)
theorem NW:∀ (l:List bB) (k:Int),Ad (mW k l).1+(mW k l).2=k
 | [],k=>by simp [mW,Ad,aG]
 | b :: r,k=>by
  simp only [mW];split
  ·have:=NW r (k-min k b.aZ);simp only [Ad,map_cons,aG] at this |-;omega
  ·simp [Ad,aG]
theorem NV:∀ (l:List bB) (k:Int) {f:eN},f∈(mW k l).1->∃ b∈l,f.src=b.src
 | [],k,f,h=>by simp [mW] at h
 | b :: r,k,f,h=>by
  simp only [mW] at h;split at h
  ·rcases mem_cons.1 h with rfl | h
   ·exact ⟨b,by simp,rfl⟩
   ·obtain ⟨x,a,e⟩:=NV r _ h;exact ⟨x,by simp [a],e⟩
  ·cases h
theorem SW (long:Bool) {y:bB}:∀ (l out:List bB),y∈MQ long out l->y∈out\/y∈l
 | [],out,h=>.inl h
 | x :: r,out,h=>by
  simp only [MQ] at h;rcases SW long r _ h with h | h
  ·unfold U0 at h;rcases mem_append.1 h with h | h
   ·exact .inl (mem_of_mem_take h)
   ·rcases mem_cons.1 h with rfl | h
    ·exact .inr (by simp)
    ·exact .inl (mem_of_mem_drop h)
  ·exact .inr (by simp [h])
theorem abi {q:Int} {l:List bB} (h:qJ q l=0):Ad (ke q l).1+(ke q l).2=max q (-q)/\∀ f∈(ke q l).1,∃ b∈l,f.src=b.src:=by
 unfold ke;rw [aq h];refine ⟨NW _ _,fun f c=>?_⟩;obtain ⟨b,a,e⟩:=NV _ _ c;rcases SW _ _ _ a with a | a
 ·cases a
 ·exact ⟨b,a,e⟩
theorem abk {w n m:Int} {long:Bool}:∀ {f:List eN},(∀ x∈f,x.src≠w)->aG (pick (cE w m) aF.aZ (f.flatMap (F6 w n long)))=if m=n then -OR long (Ad f) else 0
 | [],_=>by simp [pick,aG,Ad,OR]
 | x :: r,h=>by
  have d:=abk (w:=w) (n:=n) (m:=m) (long:=long) (f:=r) fun y c=>h y (by simp [c]);have b:=h x (by simp);rw [flatMap_cons,show F6 w n long x=[⟨x.src,n,OR long x.aZ,OR long (x.aZ*x.aH)⟩,⟨w,n,-OR long x.aZ,-OR long (x.aZ*x.aH)⟩] from rfl];rw [cons_append,cons_append,nil_append,yM,yM,d];rw [ak (fun h=>b (ji.1 h).1)];by_cases a:m=n
  ·rw [aq (show cE w m ⟨w,n,-OR long x.aZ,-OR long (x.aZ*x.aH)⟩=true from ji.2 ⟨rfl,a.symm⟩),aq a,aq a];simp only [Ad,map_cons,aG,OR];split<;>omega
  ·rw [ak (fun h=>a (ji.1 h).2.symm),ak a,ak a];rfl
theorem OF {b:aI} {g:List aF} {w n:Int} (hw:1<=w/\w<=16) (hn:1<=n/\n<=8):(posOf w n (Ce b g 16)).aZ=IN b g w n:=by
 by_cases h:IN b g w n=0/\Uo b g w n=0
 ·rw [iX,h.1];intro p d c;obtain ⟨k,m,_,_,d⟩:=sH d;obtain ⟨rfl,a⟩:=pF d;dsimp only at c;rw [c.1,c.2] at a;exact a h
 ·have e:(⟨w,n,IN b g w n,Uo b g w n⟩:aF)∈Ce b g 16:=by
   refine mem_flatMap.2 ⟨(w-1).toNat,mem_range.2 ah,mem_flatMap.2 ⟨(n-1).toNat,mem_range.2 ah,?_⟩⟩;rw [show (((w-1).toNat:Nat):Int)+1=w by omega,show (((n-1).toNat:Nat):Int)+1=n by omega];unfold Nr;rw [ak (by simp only [cU,eH];exact h)];simp
  rw [qe (Jq b g) e ⟨rfl,rfl⟩]
structure KT (r:az) (w:Int) (b:aI) (ts:List aL) (ps:List fG) (cs:List aB):Prop where
 ok:b.okB=true
 known:kL r b.qs ts ps cs
 ts:b.ts=ts
theorem LG {r:az} {w n:Int} {b:aI} {ts ps cs} {long:Bool} {f:List eN} (q:1<=w/\w<=16) (t:1<=n/\n<=8) (i:KT r w b ts ps cs) (v:bM r w=2) (l:bJ r n=true) (k:∀ x∈f,x.src≠w/\(bM r x.src=1\/bM r x.src=2)) (h:(mC b w n long f).2=0) :
  KT r w (mC b w n long f).1 ts ps cs/\(posOf w n (mC b w n long f).1.qs).aZ=(posOf w n b.qs).aZ-OR long (Ad f)/\∀ m,1<=m/\m<=8->m≠n->(posOf w m (mC b w n long f).1.qs).aZ=(posOf w m b.qs).aZ:=by
 unfold mC at h |-;split
 case isFalse a=>rw [ak a] at h;exact absurd h a
 rename_i j;rw [aq j] at h;dsimp only at h |-;have o:rF w n long f=f.flatMap (F6 w n long):=by unfold rF;rw [aq j]
 have u:=fun m=>abk (w:=w) (n:=n) (m:=m) (long:=long) (f:=f) fun x e=>(k x e).1;have c:∀ m,IN b (rF w n long f) w m=(posOf w m b.qs).aZ+if m=n then -OR long (Ad f) else 0:=fun m=>by
  unfold IN;rw [aG,o,u]
 refine ⟨⟨Wd h,?_,?_⟩,?_,fun m s a=>?_⟩
 ·rw [(qQ h).2];refine Gg i.known fun p d=>?_;rw [o] at d;obtain ⟨x,e,d⟩:=mem_flatMap.1 d;have g:=k x e;unfold F6 at d;simp only [mem_cons,not_mem_nil,or_false] at d;rcases d with rfl | rfl
  ·exact ⟨g.2,l⟩
  ·exact ⟨.inr v,l⟩
 ·rw [(qQ h).2];exact i.ts
 ·rw [(qQ h).2];show (posOf w n (Ce b _ 16)).aZ=_;rw [OF q t,c,aq rfl];omega
 ·rw [(qQ h).2];show (posOf w m (Ce b _ 16)).aZ=_;rw [OF q s,c,ak a];omega
theorem TT {ws ps:List Int} (h:∀ x∈ps,0<=x):∀ k,k<=ps.length->Ad (rG (uP ws ps) k)=aG (ps.take k)
 | 0,_=>rfl
 | k+1,hk=>by
  have b:=TT (ws:=ws) h k ah;have a:k < ps.length:=ah
  rw [Ds,l7 a,gy];unfold Ad at b |-;rw [jq,gy,b];congr 1;have c:ps.getD k 0=ps[k]:=by rw [getD_eq_getElem?_getD,fO a];rfl
  have h0:=h ps[k] (ck a);unfold uP;rw [c];split
  ·rfl
  ·have:ps[k]=0:=ah
   rw [this];rfl
theorem adk {ws ps:List Int} (hl:ps.length<=ws.length) {f:eN} (h:f∈O0 ws ps):f.src∈ws:=by
 obtain ⟨i,hi,h⟩:=fR.1 h;unfold uP at h;split at h
 ·obtain rfl:=ga.1 h;dsimp only;rw [getD_eq_getElem?_getD,fO ah];exact ck _
 ·cases h
theorem adi {b:aI} {w n k:Int} (h:nj b w n k=0):b.okB=true/\(0<=k/\k<=1099511627776)/\k<=aG (mP (posOf w n b.qs).aZ n b.qs):=by
 unfold nj at h;split at h
 case isFalse=>cases h
 rename_i c;split at h
 case isFalse=>cases h
 rename_i a;split at h
 ·cases h
 rename_i h3;simp only [within,cU,bL] at a;exact ⟨c,a,by omega⟩
theorem SX {q n:Int} {p:aF}:tN q n p=true ↔ p.inst=n/\((0 < q/\p.aZ < 0)\/(q < 0/\0 < p.aZ)):=by
 simp only [tN,cU,Bool.or_eq_true,eH,bL]
theorem rX {A:Type} {q:A->Bool} {f:A->Int} {xs:List A} {v:Int} (h:v∈pick q f xs):∃ x∈xs,q x=true/\v=f x:=by
 obtain ⟨x,b,h⟩:=mem_flatMap.1 h;split at h
 ·rename_i a;exact ⟨x,b,a,ga.1 h⟩
 ·cases h
theorem AT {b:aI} (h:b.okB=true):b.qs.length<=128:=by
 have f:=cy.1 h;have j:(b.qs.map fun p=>p.who*8+p.inst).Pairwise (fun a c=>a < c):=by
  rw [pairwise_map];refine (Pairwise.imp_of_mem (fun {p q} d hq hpq=>?_) f.pw);have k1:=iG.1 (f.ok p d);have k2:=iG.1 (f.ok q hq);simp only [lT,Sm,Bool.or_eq_true,cU,bL,eH] at hpq;omega
 have key:∀ (l:List Int) (lo e:Int),l.Pairwise (fun a c=>a < c)->(∀ x∈l,lo<=x/\x < e)->lo<=e->(l.length:Int)<=e-lo:=by
  intro l;induction l with
  | nil=>intro lo e _ _ h;simp;omega
  | cons x r ih =>
   intro lo e d g hlh;rw [iL] at d;have hx0:=g x (by simp);have:=ih (x+1) e d.2 (fun y i=>by have:=d.1 y i;have:=g y (by simp [i]);omega) ah;simp only [length_cons];omega
 have:=key _ 9 137 j (fun x g=>by
  obtain ⟨p,d,rfl⟩:=mem_map.1 g;have:=iG.1 (f.ok p d)
  omega) ah
 simp only [qn] at this;omega
theorem acT {r:az} {w n p rest:Int} {b:aI} {ts ps cs} {long:Bool} (I:1<=w/\w<=16) (F:1<=n/\n<=8) (B:KT r w b ts ps cs) (H:bM r w=2) (E:bJ r n=true) (G:(posOf w n b.qs).aZ=OR long rest) (hr:rest≠0) (h:(Ec b w n p long rest).2=0) :
  KT r w (Ec b w n p long rest).1 ts ps cs/\(posOf w n (Ec b w n p long rest).1.qs).aZ=0/\∀ m,1<=m/\m<=8->m≠n->(posOf w m (Ec b w n p long rest).1.qs).aZ=(posOf w m b.qs).aZ:=by
 unfold Ec at h |-;split
 case isFalse hne=>rw [ak hne] at h;exact absurd h hne
 rename_i o;rw [aq o] at h;obtain ⟨D,t2,t3⟩:=adi o;have j:=cy.1 D;obtain ⟨ws,g⟩:∃ l,l=It (posOf w n b.qs).aZ n b.qs:=⟨_,rfl⟩
 obtain ⟨ns,a⟩:∃ l,l=mP (posOf w n b.qs).aZ n b.qs:=⟨_,rfl⟩
 have hlen:ns.length=ws.length:=by rw [g,a];exact Gt _ _ _ _
 have c:∀ x∈ns,0 < x/\x<=1099511627776:=fun x d=>by
  rw [a] at d;obtain ⟨y,i,t,rfl⟩:=rX d;have k:=SX.1 t;have h2:=iG.1 (j.ok y i);omega
 rw [<- a] at t3;have hnl:ns.length<=128:=by
  rw [a];exact Nat.le_trans (gx _ _ _) (AT D)
 have s:pz rest ns=0:=by
  unfold pz;rw [aq,aq,ak ah,ak ah]
  ·exact dn.2 fun x d=>by have:=c x d;simp only [iK,gM];omega
  ·simp only [cU,iK,gM];refine ⟨⟨by omega,by rw [bI];omega⟩,dn.2 fun x d=>by have:=c x d;rw [bI];omega⟩
 obtain ⟨s1,s2⟩:=VQ s ah;have hsl:=vI rest ns;have A:oA b w n rest=O0 ws (iH rest ns):=by unfold oA;rw [aq o,<- g,<- a]
 have q:Ad ((oA b w n rest).map (jz p))=rest:=by
  have:Ad ((oA b w n rest).map (jz p))=Ad (oA b w n rest):=by
   unfold Ad;rw [map_map];rfl
  rw [this,A];have:=TT (ws:=ws) s2 _ (dU _);rw [jr,s1] at this;exact this
 obtain ⟨J,K,L⟩:=LG (long:=long) (f:=(oA b w n rest).map (jz p)) I F B H E (fun x d=>by
  obtain ⟨y,i,rfl⟩:=mem_map.1 d;rw [A] at i;have i:=adk ah i;rw [g] at i;obtain ⟨z,C,u,e⟩:=rX i;show y.src≠w/\_;rw [show (jz p y).src=y.src from rfl,e];refine ⟨fun v=>?_,(B.known.qs z C).1⟩;have k:=SX.1 u;rw [qe j.pw C ⟨v,k.1⟩] at k
  omega) h
 refine ⟨J,?_,L⟩;rw [K,q,G];omega
theorem TD {s:af} {w n:Int} {b:aI} (h:s.right) (D:1<=w/\w<=16) (B:1<=n/\n<=8) (v:KT s.aj w b s.book.ts s.ps s.calls) (r:bM s.aj w=2) (C:(posOf w n b.qs).aZ≠0) (c:(ot s b w n (posOf w n b.qs).aZ).2=0) :
  KT s.aj w (ot s b w n (posOf w n b.qs).aZ).1 s.book.ts s.ps s.calls/\(posOf w n (ot s b w n (posOf w n b.qs).aZ).1.qs).aZ=0/\∀ m,1<=m/\m<=8->m≠n->(posOf w m (ot s b w n (posOf w n b.qs).aZ).1.qs).aZ=(posOf w m b.qs).aZ:=by
 have A:bJ s.aj n=true:=by
  by_cases t:∃ p∈b.qs,p.who=w/\p.inst=n
  ·obtain ⟨p,l,_,e⟩:=t;rw [<- e];exact (v.known.qs p l).2
  ·rw [iX fun p l O=>t ⟨p,l,O⟩] at C;exact absurd rfl C
 obtain ⟨q,f⟩:=aQ ((posOf w n b.qs).aZ);rw [<- f] at C c |-;unfold ot at c |-;split
 case isFalse a=>rw [ak a] at c;cases c
 rename_i l;rw [aq l] at c;split
 case isFalse a=>rw [ak a] at c;exact absurd c a
 rename_i G;rw [aq G] at c;obtain ⟨L,E⟩:=abi G;obtain ⟨F,N⟩:=aQ (ke q (iD s w n s.bH));rw [<- N] at L E c |-
 have g:∀ k:Int,OR (decide (0 < q)) k=if 0 < q then k else -k:=fun k=>by
  unfold OR;by_cases M:0 < q<;>simp [M]
 have d:∀ x∈F.1,x.src≠w/\(bM s.aj x.src=1\/bM s.aj x.src=2):=fun x t=>by
  obtain ⟨y,o,e⟩:=E x t;obtain ⟨z,_,o⟩:=mem_flatMap.1 o;split at o
  ·rename_i i;obtain rfl:=ga.1 o;simp only [Pp,cU,eH] at i;rw [e];refine ⟨fun h=>?_,.inl i.2⟩;rw [h,r] at i;omega
  ·cases o
 split
 ·rename_i j;rw [aq j] at c;obtain ⟨u,a2,a3⟩:=LG (long:=decide (0 < q)) D B v r A d j.1
  obtain ⟨I,J,K⟩:=acT (p:=cG (bA s.aj n)) (long:=decide (0 < q)) (rest:=F.2) D B u r A (by
   rw [a2,<- f,g,g]
   split<;>omega) j.2 c
  exact ⟨I,J,fun m H a=>by rw [K m H a,a3 m H a]⟩
 ·rename_i j;rw [ak j] at c;obtain ⟨u,a2,a3⟩:=LG (long:=decide (0 < q)) D B v r A d c;have i:F.2=0:=by
   by_cases i:F.2=0
   ·exact i
   ·exact absurd ⟨c,i⟩ j
  refine ⟨u,?_,a3⟩;rw [a2,<- f,g];split<;>omega
theorem Vt {s:af} {w n:Int} {b:aI} (h:s.right) (g:1<=w/\w<=16) (e:1<=n/\n<=8) (d:KT s.aj w b s.book.ts s.ps s.calls) (f:bM s.aj w=2) (c:(jD s w b n).2=0) :
  KT s.aj w (jD s w b n).1 s.book.ts s.ps s.calls/\(posOf w n (jD s w b n).1.qs).aZ=0/\∀ m,1<=m/\m<=8->m≠n->(posOf w m (jD s w b n).1.qs).aZ=(posOf w m b.qs).aZ:=by
 unfold jD at c |-;split
 ·rename_i a;exact ⟨d,by simpa using a,fun _ _ _=>rfl⟩
 ·rename_i a;rw [ak a] at c;exact TD h g e d f (by simpa using a) c
theorem Qv {s:af} {w:Int} (h:s.right) (d:1<=w/\w<=16) (c:bM s.aj w=2):∀ (m i:Nat) {b:aI},i+m=8->KT s.aj w b s.book.ts s.ps s.calls->(∀ k:Nat,k < i->(posOf w ((k:Int)+1) b.qs).aZ=0)->(mB s w m i b).2=0 ->
  KT s.aj w (mB s w m i b).1 s.book.ts s.ps s.calls/\∀ k:Nat,k < 8->(posOf w ((k:Int)+1) (mB s w m i b).1.qs).aZ=0
 | 0,i,b,hi,hb,hz,_=>⟨hb,fun k f=>hz k ah⟩
 | m+1,i,b,hi,hb,hz,he=>by
  simp only [mB] at he |-;split
  ·rename_i a;rw [aq a] at he;obtain ⟨e,a2,a3⟩:=Vt h d (n:=(i:Int)+1) ah hb c a;refine Qv h d c m (i+1) ah e (fun k f=>?_) he;rcases bZ k i with hki | hki
   ·rw [a3 _ ah ah];exact hz k hki
   ·obtain rfl:k=i:=ah
    exact a2
  ·rename_i a;rw [ak a] at he;exact absurd he a
theorem Gf {w:Int} {l:List aF} {p:aF}:p∈qK w l ↔ p∈l/\p.who≠w:=by
 unfold qK;rw [mem_flatMap];constructor
 ·rintro ⟨x,d,h⟩;split at h
  ·cases h
  ·rename_i c;obtain rfl:=ga.1 h;exact ⟨d,by simpa using c⟩
 ·rintro ⟨a,b⟩;exact ⟨p,a,by rw [ak (by simpa using b)];simp⟩
theorem xY {s:af} {w:Int} (h:qh s w=0):YI s w=0/\(mB s w 8 0 s.book).2=0:=by
 unfold qh at h;split at h
 case isFalse hne=>exact absurd h hne
 rename_i a;split at h
 case isFalse hne=>exact absurd h hne
 rename_i b;exact ⟨a,b⟩
theorem acC {s:af} {w:Int} (h:qh s w=0):(qg s w).okB=true/\kL s.aj (qg s w).qs (qg s w).ts s.ps s.calls/\∀ p∈(qg s w).qs,p.who≠w:=by
 obtain ⟨m,o⟩:=xY h;obtain ⟨hr,u⟩:=I0 m;have hr:=eW.1 hr;have v:=(QZ hr.aj (w:=w) ah).2;obtain ⟨e,a2⟩:=Qv hr v u 8 0 rfl (b:=s.book) ⟨hr.book,hr.known,rfl⟩ (fun k hk=>by omega) o;have a:=cy.1 e.ok;unfold qg;rw [aq h];refine ⟨cy.2 ⟨fun p c=>a.ok p (Gf.1 c).1,VV a.pw,fun n f g=>?_,a.tok,a.tpw,a.tl,a.n0,a.n1⟩,⟨fun p c=>e.known.qs p (Gf.1 c).1,fun t i=>?_,e.known.ps,e.known.cs⟩,fun p c=>(Gf.1 c).2⟩
 ·dsimp only;rw [<- a.level n f g];have key:∀ l:List aF,(∀ p∈l,p.who=w->p.aZ=0)->aG (fu n (qK w l))=aG (fu n l):=fun l=>by
   induction l with
   | nil=>intro _;rfl
   | cons p t ih =>
    intro j;rw [oZ,<- ih fun q r=>j q (by simp [r])];unfold qK;rw [flatMap_cons,OK,gy];congr 1;split
    ·rename_i d;rw [j p (by simp) (by simpa using d)];split<;>rfl
    ·rw [oZ];simp [fu,aG]
  refine key _ fun p c d=>?_;have hpi:=(iG.1 (a.ok p c)).2.1;have:=a2 (p.inst-1).toNat ah;rw [show (((p.inst-1).toNat:Nat):Int)+1=p.inst by omega,qe a.pw c ⟨d,rfl⟩] at this;exact this
 ·dsimp only at i;rw [e.ts] at i;exact e.known.ts t i
end Go.Proofs.YtccipdjjkcejgaaGreat
