/- Parts. -/
import Derived.Test.YtfhdodehnpbeoaaGreatRA
set_option linter.all false
set_option maxHeartbeats 4000000
set_option maxRecDepth 16000
namespace Go.Proofs.YtfhdodehnpbeoaaGreat
open Go.Abs Tryz
def abk{A:Type}{xs a:List A}(d:xs.length=a.length)(h:∀j (b:j<xs.length) (c:j<a.length),j<xs.length->xs[j]=a[j]):xs=a:=List.ext_getElem d λj b c=>h j b c b
def aeJ{A:Type}{xs c:List A}{i:Nat}(f:∀j (d:j<xs.length) (e:j<c.length),j<i->xs[j]=c[j])(d:i<xs.length)(e:i<c.length)(g:xs[i]=c[i]):∀j (d:j<xs.length) (e:j<c.length),j<i+1->xs[j]=c[j]:=by
 intro j a b hj;rcases dN j i with h|h
 ·exact f j a b h
 ·obtain rfl:j=i:=aj
  exact g
def kpW{A:Type}{W E:Prop}{C:A->A->Prop}{ms:List A}(t o:List Nat)(k:Nat)(c:A->List D)(e:E)(g:∀x,x∈ms->∀y,C x y)
  (h:Tg t o k->E->(∀x,x∈ms->∀y,C x y)->(∀(l:List A)(i:Nat)(h:i<l.length),(l.map c).getD i []=c l[i])->W:=by
 intro z w g r;try simp only[go_sem,seval]
 by_cases a:xs.length=ys.length
 case neg =>
  have b:((xs.length:Int)==(ys.length:Int))=false:=by rw[beq_eq_false_iff_ne];omega
  have e:decide (xs=ys)=false:=gB λh=>a (by rw[h]);exact eo (a3 dV b e)
 have b:((xs.length:Int)==(ys.length:Int))=true:=by rw[fE];omega
 refine sm (a2 dV b) ?_;refine aG.wt z xs.length (λi _=>∀j (h1:j<xs.length) (h2:j<ys.length),j<i->xs[j]=ys[j]) (by intros;omega) ?_ ?_
 ·intro i _ m p hw n;have hi2:i<ys.length:=aj
  have d:=r xs i m;have f:=r ys i hi2;have e0:=aeJ n m hi2;have e1:xs[i]≠ys[i]->decide (xs=ys)=false:=λh=>gB λe=>h (by subst e;rfl);have hl1:(i:Int)<(xs.length:Int):=aj
  have hl2:(i:Int)<(ys.length:Int):=aj
  have g:=g xs[i] (dH m) ys[i];obtain⟨x,s⟩:=aL xs[i];obtain⟨y,v⟩:=aL ys[i];rw[<-s]at d e0 e1;rw[<-v]at f e0 e1;try rw[<-s,<-v]at g
  simp only[w]at d f g;clear s v n a r w;refine sm (a3 p d f) ?_;repeat' with_reducible first|apply And.intro|exact .dq|refine az.aP (by assumption) ?_|refine az.aP (g) ?_|refine mW (λh=>?_) λh=>?_|refine .id ?_|refine ah.eI aj ?_ ?_|exact aK|simp only[*,go_sem,seval,d,f]
  all_goals first
   |omega
   | (refine ah.u m (e0 ?_) ?_
      ·clear e0 e1;cases x;cases y;simp_all;done
      ·simp only[go_sem,seval])
   | (rw[e1 ?_];clear e0 e1;cases x;cases y;simp_all;done)
   | (obtain ⟨x1,x2,⟨x3,x4,x5,x6,x7⟩⟩:=x
      obtain⟨y1,y2,⟨y3,y4,y5,y6,y7⟩⟩:=y;first
      | (refine ah.u m (e0 ?_) ?_
         ·clear e0 e1;simp_all;done
         ·simp only[go_sem,seval])
      | (rw[e1 ?_];clear e0 e1;simp_all;done))
 ·intro _ q n;have e:decide (xs=ys)=true:=dw (abk a n)
  simp only[go_sem,seval,q,e]):W:=h ⟨⟩ e g λ_ _ h=>aM _ h
def EK(a b c d:Int):Sq 77 [] [.agg [.I a,.I b],.agg [.I c,.I d]] [] (.bool (decide (a=c/\b=d))):=by
 refine aX 17 2 [.tmp 4] mixed func77 ?_;refine s0 ?_;repeat' with_reducible first|apply And.intro|exact .dq|refine az.aP (by assumption) ?_|refine mW (λh=>?_) λh=>?_|refine .id ?_|refine ah.eI aj ?_ ?_|exact aK|simp only[*,go_sem,seval]
 all_goals(rw[lZ];simp_all)
def Qw(a b:aE):Sq 76 [] [.agg a.cells,.agg b.cells] [] (.bool (decide (a=b))):=by
 have h:=EK a.who a.inst b.who b.inst;simp only[aE.cells];refine aX 24 2 [.tmp 4] mixed func76 ?_;refine s0 ?_;repeat' with_reducible first|apply And.intro|exact .dq|refine az.aP (by assumption) ?_|refine az.aP (h) ?_|refine mW (λh=>?_) λh=>?_|refine .id ?_|refine ah.eI aj ?_ ?_|exact aK|simp only[*,go_sem,seval]
 all_goals(rw[lZ];cases a;cases b;simp_all)
def xj(xs ys:List aE)(hl:xs.length<4611686018427387904):Sq 26 [] [.sl 4 (xs.map aE.cells),.sl 4 (ys.map aE.cells)] [] (.bool (decide (xs=ys))):=by
 refine aX 27 2 [.tmp 4] mixed func26 ?_;exact kpW (ms:=xs) [0,1] [] 5 aE.cells aE.cells.eq_1 (λx _ y=>Qw x y)
