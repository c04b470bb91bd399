/- Parts. -/
import Derived.Test.YtfhdodehnpbeoaaGreatTA
set_option linter.all false
set_option maxHeartbeats 4000000
set_option maxRecDepth 16000
namespace Go.Proofs.YtfhdodehnpbeoaaGreat
open Go.Abs Tryz
theorem Ux(r:ay):∀l,lG r l≠15
 | []=>by rw[lG];decide
 |p::t=>by
  rw[lG];split
  ·exact Ux r t
  ·unfold yJ;(repeat' split)<;>decide
def afJ(r:ay)(b:aJ):oW r b≠15:=by
 unfold oW;split
 ·exact Ux _ _
 ·decide
def Y0(w c:Int)(l:List aH):gR w c l≠15:=by unfold gR;(repeat' split)<;>decide
theorem XG(l:List aH):∀n f last out,(zq l n f last out).2≠15
 | 0,_,_,_=>by show(0:Int)≠15;decide
 |n+1,f,last,out=>by
  rw[zq];split
  ·split
   ·exact XG l n _ _ _
   ·exact Y0 _ _ _
  ·show(0:Int)≠15;decide
def XI(l:List aH):(lA l).2≠15:=by
 unfold lA;split
 ·exact XG l _ _ _ _
 ·show(3:Int)≠15;decide
def aer(g:List aN):nL g≠15:=by unfold nL;(repeat' split)<;>decide
def acK(l:bu)(id:Int)(g:List aN):fM l id g≠15:=by unfold fM;(repeat' split)<;>first|decide|exact aer g
def aci(l:List aH):ou l≠15:=by unfold ou nq;(repeat' split)<;>first|decide|exact XI l
def afP(s:af):(oX s).2≠15:=by rw[ac1];(repeat' split)<;>first|decide|exact acK _ _ _|exact aci _
def Z8{s:af}(hr:s.right):cu s=15↔s.phase≠0:=by
 unfold cu;rw[au (bU.2 hr)];by_cases h:s.phase=0
 ·rw[au h];refine⟨λe=>?_,λe=>absurd h e⟩;split at e
  ·split at e
   ·exact absurd e (afP s)
   ·exact absurd e (XI _)
  ·exact absurd e (afJ _ _)
 ·rw[aq h];exact⟨λ_=>h,λ_=>rfl⟩
def af0(l:List Int):oF l≠15:=by unfold oF;(repeat' split)<;>decide
def aei(a:aD)(n:Int):a.E n≠15:=by unfold aD.E Ld;(repeat' split)<;>decide
theorem Og(r:ay)(w c:Int):∀l,iV r w c l≠15
 | []=>by rw[iV];decide
 |x::l=>by
  rw[iV];split
  ·exact aei _ _
  ·exact Og r w c l
def aj3(l:bu)(r:ay)(ps:List iu)(w c:Int):CK l r ps w c≠15:=by
 unfold CK uN;(repeat' split)<;>first|decide|exact Og _ _ _ _|exact af0 _
def ae9(r:ay)(w c:Int)(qs:List aE):xq r w c qs≠15:=by unfold xq uu IW;(repeat' split)<;>decide
def akq(s:af)(w c:Int):Mt s w c≠15:=by
 unfold Mt Bq;(repeat' split)<;>first|decide|exact ae9 _ _ _ _|exact aj3 _ _ _ _ _
theorem TA(s:af)(w:Int):∀m c x,(lz s w m c x).2≠15
 | 0,_,_=>by show(0:Int)≠15;decide
 |m+1,c,x=>by
  rw[lz];split
  ·exact TA s w m _ _
  ·exact akq s w c
theorem OI(s:af):∀ws x,(lO s ws x).2≠15
 | [],_=>by show(0:Int)≠15;decide
 |w::r,x=>by
  rw[lO];split
  ·exact OI s r _
  ·exact TA s w _ _ _
def Zk{s:af}(hr:s.right):fH s=15↔s.phase≠1:=by
 unfold fH;rw[au (bU.2 hr)];by_cases h:s.phase=1
 ·rw[au h];exact⟨λe=>absurd e (OI _ _ _),λe=>absurd h e⟩
 ·rw[aq h];exact⟨λ_=>h,λ_=>rfl⟩
def afm{s:af}(hr:s.right):mI s=15↔s.phase≠2:=by
 unfold mI;rw[au (bU.2 hr)];by_cases h:s.phase=2
 ·rw[au h];refine⟨λe=>?_,λe=>absurd h e⟩;split at e<;>exact absurd e (by decide)
 ·rw[aq h];exact⟨λ_=>h,λ_=>rfl⟩
def MX(l:List bB):Sq 5 [] [.sl 17 (l.map bB.cells)] [] (.bool true):=by
 rcases dN 1000 l.length with hlen|hlen
 ·have d:decide ((1000:Int)<(l.length:Int))=true:=jw;refine aX 115 1 [.tmp 2] mixed func5 ?_;exact eo d
 have d:decide ((1000:Int)<(l.length:Int))=false:=lJ;have m:=wR;have i:=qp l hlen;have R:=vL l;obtain⟨s,C⟩:=aL (Af l);rw[<-C]at i R;clear C;have hr:=R.right;have c1:=nG s R.small hr R.sm;have c2:=vi s R.small hr R.sm;have c3:=AX s R.small hr R.sm;have k1:=Z8 hr;have k2:=Zk hr;have k3:=afm hr;have hk:=hr.HT;have r:cu s=0->(bz s).phase=1:=λh=>by unfold bz;rw[au h]
 have t:fH s=0->(bW s).phase=2:=λh=>by unfold bW;rw[au h]
 have u:mI s=0->oz s={ s with day:=s.day+1,phase:=0,book:=⟨s.book.next,[],s.book.qs⟩ }:=λh=>by unfold oz;rw[au h]
 have w1:IntKind.wrap .i64 (s.day+1)=s.day+1:=gx aj aj;have v:=xj s.book.qs s.book.qs (by have:=hr.lens.qs;omega);rw[dw rfl]at v;obtain⟨e,z⟩:=aL (cu s);obtain⟨f,A⟩:=aL (fH s);obtain⟨g,B⟩:=aL (mI s);rw[<-z]at c1 r k1;rw[<-A]at c2 t k2;rw[<-B]at c3 u k3;obtain⟨a,w⟩:=aL (bz s);obtain⟨b,x⟩:=aL (bW s);obtain⟨c,y⟩:=aL (oz s);rw[<-w]at c1 r;rw[<-x]at c2 t;rw[<-y]at c3 u;clear w x y z A B hr R;rcases(by omega:s.phase=0\/s.phase=1\/s.phase=2)with hph|hph|hph
 ·have n:(e==15)=false:=su λh=>k1.1 h hph;have o:f=15:=k2.2 aj;have p:g=15:=k3.2 aj;subst o;subst p;by_cases k:e=0
  ·have j:(e==0)=true:=su k;have q:(a.phase==1)=true:=by simpa using r k
   simp only[af.cells]at i c1 c2 c3 |-;refine aX 115 1 [.tmp 2] mixed func5 ?_;refine sc d i ?_;refine sc aK c1 ?_;refine sc aK c2 ?_;refine sc aK c3 ?_;refine sm (a5 dV n hph j q) ?_;try refine aV ?_
   exact lX aK m
  ·have j:(e==0)=false:=su k;simp only[af.cells]at i c1 c2 c3 |-;refine aX 115 1 [.tmp 2] mixed func5 ?_;refine sc d i ?_;refine sc aK c1 ?_;refine sc aK c2 ?_;refine sc aK c3 ?_;refine sm (a4 dV n hph j) ?_;try refine aV ?_
   exact lX aK m
 ·have n:e=15:=k1.2 aj;have o:(f==15)=false:=su λh=>k2.1 h hph;have p:g=15:=k3.2 aj;subst n;subst p;by_cases k:f=0
  ·have j:(f==0)=true:=su k;have q:(b.phase==2)=true:=by simpa using t k
   simp only[af.cells]at i c1 c2 c3 |-;refine aX 115 1 [.tmp 2] mixed func5 ?_;refine sc d i ?_;refine sc aK c1 ?_;refine sc aK c2 ?_;refine sc aK c3 ?_;refine sm (a5 dV o hph j q) ?_;try refine aV ?_
   exact lX aK m
  ·have j:(f==0)=false:=su k;simp only[af.cells]at i c1 c2 c3 |-;refine aX 115 1 [.tmp 2] mixed func5 ?_;refine sc d i ?_;refine sc aK c1 ?_;refine sc aK c2 ?_;refine sc aK c3 ?_;refine sm (a4 dV o hph j) ?_;try refine aV ?_
   exact lX aK m
 ·have n:e=15:=k1.2 aj;have o:f=15:=k2.2 aj;have p:(g==15)=false:=su λh=>k3.1 h hph;subst n;subst o;by_cases k:g=0
  ·have j:(g==0)=true:=su k;rw[u k]at c3;have q:(s.day+1==s.day+1)=true:=by simp
   simp only[af.cells,aJ.cells]at i c1 c2 c3 |-;refine aX 115 1 [.tmp 2] mixed func5 ?_;refine sc d i ?_;refine sc aK c1 ?_;refine sc aK c2 ?_;refine sc aK c3 ?_;simp only[go_sem,seval,bne,p,hph,j,w1,q,List.map_nil,List.length_nil];try refine aV ?_
   refine sc aK v ?_;try refine aV ?_
   exact lX aK m
  ·have j:(g==0)=false:=su k;simp only[af.cells]at i c1 c2 c3 |-;refine aX 115 1 [.tmp 2] mixed func5 ?_;refine sc d i ?_;refine sc aK c1 ?_;refine sc aK c2 ?_;refine sc aK c3 ?_;refine sm (a4 dV p hph j) ?_;try refine aV ?_
   exact lX aK m
