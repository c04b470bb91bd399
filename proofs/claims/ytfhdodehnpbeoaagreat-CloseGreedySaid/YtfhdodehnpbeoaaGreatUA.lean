/- Parts. -/
import Derived.Test.YtfhdodehnpbeoaaGreatQA
import Derived.Test.YtfhdodehnpbeoaaGreatSB
set_option linter.all false
set_option maxHeartbeats 4000000
set_option maxRecDepth 16000
namespace Go.Proofs.YtfhdodehnpbeoaaGreat
open Go.Abs Tryz
def ke{a x y:aI}{n:Int}(b:bA n=true):aC (dM a (cr x y n))=(if x=a then -n else 0)+(if y=a then n else 0):=by
 unfold cr;rw[b,au rfl,mj,mj];show(if x=a then -n else 0)+((if y=a then n else 0)+0)=_;omega
def XR{s:af}{w:Int}(h:M3 s)(a:n7 s w=0):M3 (iG s w):=by
 have e:(iG s w).aR=s.aR:=by unfold iG;rw[au a]
 exact⟨⟨OT a,acB h.fY.last a,by rw[e];exact h.fY.fit⟩,by rw[e];exact h.sm⟩
def dR{a x y:aI}{n:Int}(b:x≠a)(c:y≠a):aC (dM a (cr x y n))=0:=by
 by_cases h:bA n=true
 ·rw[ke h,aq b,aq c];rfl
 ·unfold cr;rw[aq h,mj,mj];show(if x=a then -0 else 0)+((if y=a then 0 else 0)+0)=(0:Int);rw[aq b,aq c];rfl
def GD{s:af}{w v:Int}(h:v∈aY s w):v≠w:=by
 obtain⟨x,_,a,rfl⟩:=pV h;simpa using a
theorem Bb{f:Nat->Int}:∀{m i:Nat},gI f m i=0->∀j,i<=j->j<i+m->f j=0
 | 0,_,_,_,_,_=>by omega
 |m+1,i,h,j,h1,h2=>by
  simp only[gI]at h;split at h
  ·rename_i a;rcases dN i j with q|q
   ·exact Bb h j aj aj
   ·obtain rfl:j=i:=aj
    exact a
  ·rename_i a;exact absurd h a
def KQ{s:af}{w:Int}{i:Nat}(h:rD s w i=0):lp s w i (aW s w i)=0/\l7 i (gm s w i (aW s w i)) (gC s w i (aW s w i))=0:=by
 unfold rD at h;split at h
 ·rename_i a;exact⟨a,h⟩
 ·rename_i a;exact absurd h a
theorem GF{s:af}{w c X:Int}{a:aI}(e:a∈gf)(d:∀i:Nat,i<3->(fK s w i).2.2=0->aC (dM a (fK s w i).1)=if(i:Int)=c then X else 0):∀(m i:Nat)(l:bu)(p:List aH),i+m<=3->(qQ s w m i l p).2.2=0->gw a (qQ s w m i l p).1.bs=gw a l.bs+if(i:Int)<=c/\c<(i:Int)+m then X else 0
 | 0,i,l,p,_,_=>by simp only[qQ];rw[aq aj];omega
 |m+1,i,l,p,hm,h=>by
  simp only[qQ]at h |-;split
  ·rename_i b;rw[au b]at h;obtain⟨g,j⟩:=O7 e b;rw[GF e d m (i+1) _ _ aj h,j,d i aj g];by_cases f:(i:Int)=c
   ·rw[au f,aq aj,au aj];omega
   ·rw[aq f];by_cases hj:(i:Int)<c/\c<(i:Int)+(m+1:Nat)
    ·rw[au aj,au aj];omega
    ·rw[aq aj,aq aj];omega
  ·rename_i b;rw[aq b]at h;exact absurd h b
