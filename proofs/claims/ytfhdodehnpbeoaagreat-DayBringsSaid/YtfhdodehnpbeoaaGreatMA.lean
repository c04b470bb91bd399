/- Parts. -/
import Derived.Test.YtfhdodehnpbeoaaGreatKP
set_option linter.all false
set_option maxHeartbeats 4000000
set_option maxRecDepth 16000
namespace Go.Proofs.YtfhdodehnpbeoaaGreat
open Go.Abs Tryz
def zh(l:bu)(a:aI)(hl:l.bs.length<2^60):Sq 107 [] [.agg l.cells,.agg a.cells] [] (.I (gw a l.bs)):=by
 simp only[bu.cells,aI.cells];refine aX 21 2 [.tmp 4] mixed func107 ?_;refine s0 ?_;refine aG.count l.bs.length [3,8,9] [48,64,160] (λi=>[(10,.I i)]) (λi=>[]) (λi=>gw a (l.bs.drop i)=gw a l.bs) sT ?_ ?_
 ·exact jh
 ·intro i hi b;refine s0 ?_;refine bK.fP (λh=>?_) (λh=>?_)
  ·have d:i<l.bs.length:=aj
   have g:IntKind.wrap .i64 ((i:Int)+1)=((i+1:Nat):Int):=fU;have hm:=aM (c:=bY.cells) l.bs d;rw[List.drop_eq_getElem_cons d]at b;simp only[gw]at b;simp only[bY.cells]at hm;refine sm hm ?_;refine⟨by omega,?_⟩;refine bK.split (λe=>?_) (λe=>?_)
   ·rw[au (show VU a l.bs[i]=true from e)]at b;exact eo b
   ·rw[show VU a l.bs[i]=false from e]at b;simp only[iI,if_false]at b;refine sm g ?_;refine ah.eI d b ?_
    exact iB
  ·obtain rfl:i=l.bs.length:=aj
   simp only[jJ,gw]at b;exact eo b
def Lb{A:Type}{no:A->Int}{l m:List A}(c:l.Pairwise λa b=>no a<no b)(d:m.Pairwise λa b=>no a<no b)(h:∀x,x∈l↔x∈m):l=m:=by
 have g:∀{l:List A},l.Pairwise (λa b=>no a<no b)->l.Nodup:=λh=>h.imp λ{a b} hab e=>by subst e;omega
 exact List.Perm.eq_of_pairwise (le:=λa b=>no a<no b) (λa b _ _ x y=>by omega) c d ((List.perm_ext_iff_of_nodup (g c) (g d)).2 h)
section
variable{A:Type}{no:A->Int}{z m:A}{xs:List A}{N:Nat}{f:Nat->List A}(hp:xs.Pairwise λa b=>no a<no b)(hx:∀x∈xs,1<=no x/\no x<=N)(hm:1<=no m/\no m<=N)
 (hf:∀i:Nat,i<N->f i=if(i:Int)+1=no m then[m]else if decide (0<=lT no ((i:Int)+1) xs)=true then[jS no ((i:Int)+1) z xs]else[]) {k:Nat}
include hp hx hm hf
end
def Py(r:ay)(b:List Int)(h:r.jQ)(hs:b.length<2^30):Sq 69 [] [.agg r.cells,.sl 1 (ints b)] [.own 1 (ints (iP r b))] (.ref 0):=by
 have hl:=h.1;simp only[ay.cells];refine aX 26 2 [.tmp 4] mixed func69 ?_;refine s0 ?_;refine aV ?_;refine aG.wv r.ms.length [1,9,10] [48,176] (λi=>[(11,.I i),(5,.ref 384)]) (λi=>[(384,.own 1 (ints (pick (λm:av=>tO b m.state) av.no (r.ms.take i))))]) ?_ ?_ ?_
 ·simp only[go_sem,seval]<;>simp[pick,ints]
 ·intro i _ j k g _;have hm:=aM (c:=av.cells) r.ms j;have a:=Cm (λm:av=>tO b m.state) av.no j;have d:=bR (λm:av=>tO b m.state) av.no (r.ms.take i);rw[gh]at d;have hli:(i:Int)<(r.ms.length:Int):=aj
  obtain⟨x,hx⟩:=aL (r.ms[i]);rw[<-hx]at hm a;obtain⟨O,n⟩:=aL (pick (λm:av=>tO b m.state) av.no (r.ms.take i));rw[<-n]at a d |-;have o:=w7 b x.state aj;have hil:(ints O).length<=2147483648:=by rw[aA];omega
  simp only[av.cells]at hm;clear hx n;refine sc (a2 k hm) o ?_;cases q:tO b x.state
  ·rw[q]at a;simp only[iI,if_false,List.append_nil]at a;refine sm g ?_;refine aV ?_;refine ah.v j ?_;exact eo a
  ·rw[q]at a;simp only[if_true]at a;have e:ints O++[[.I x.no]]=ints (pick (λm:av=>tO b m.state) av.no (r.ms.take (i+1))):=by rw[a];simp[ints]
   refine sm g ?_;refine aV ?_;refine ah.v j ?_;exact eo e
 ·intro _ l _;simp only[go_sem,seval,l,eU,iP]
def Mb(r:ay)(a:List Int)(h:r.jQ)(b:a.length<2^30):Sq 69 [] [.agg r.cells,.sl 1 (ints a)] [] (.sl 1 (ints (iP r a))):=by
 refine Spec.frozen (Py r a h b) [0] rfl ?_;intro r;rcases r with _|r<;>rfl
def Ou{r:ay}(h:r.okB=true)(w:Int):tO (iP r [1]) w=(bF r w==1):=by
 rw[lZ,fE];constructor
 ·intro c;obtain⟨x,hx,e⟩:=List.any_eq_true.1 c;obtain rfl:=fE.1 e;exact Mc h hx
 ·intro d;have hm:=(tc h (w:=w)).1 aj;obtain⟨a,b⟩:=GA hm;refine List.any_eq_true.2 ⟨w,?_,by simp⟩;refine List.mem_flatMap.2 ⟨fj r w,a,?_⟩;have e:tO [1] (fj r w).state=true:=by
   have:(fj r w).state=1:=d;simp[tO,this]
  simp[e,b]
