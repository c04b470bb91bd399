/- Parts. -/
import Derived.Test.YtfhdodehnpbeoaaGreatKP
set_option linter.all false
set_option maxHeartbeats 4000000
set_option maxRecDepth 16000
namespace Go.Proofs.YtfhdodehnpbeoaaGreat
open Go.Abs Tryz
open List
def Vx{a x:aI}{n:Int}(h:x≠a)(r:List bY):gw a (wW x n++r)=gw a r:=by
 unfold wW;split
 ·rfl
 ·simp only[cons_append,nil_append,gw];rw[aq];intro b;exact h (Cd.1 b)
theorem XL{a:aI}(S:aI->Int):∀{L:List aI},L.Pairwise (λx y=>x.less y=true)->a∈L->gw a (L.flatMap λx=>wW x (S x))=S a
 | [],_,h=>by cases h
 |x::r,hp,h=>by
  rw[jR]at hp;rw[flatMap_cons];by_cases e:x=a
  ·subst e;unfold wW;split
   ·rename_i f;have f:S x=0:=su f;rw[f,nil_append,KL];intro b c d;obtain⟨y,i,c⟩:=mem_flatMap.1 c;split at c
    ·cases c
    ·obtain rfl:=iD.1 c;have:y=x:=d;have g:=hp.1 y i;rw[this]at g;exact Br g
   ·simp only[cons_append,nil_append,gw];rw[au (show VU x ⟨x.kind,x.who,x.cur,S x⟩=true from Cd.2 rfl)]
  ·rw[Vx e];rcases mem_cons.1 h with h|h
   ·exact absurd h.symm e
   ·exact XL S hp.2 h
def afx{l:bu}{id:Int}{g:List aN}{a:aI}(h:fM l id g=0)(b:a∈gf):gw a (jO l id g).bs=gw a l.bs+aC (dM a g):=by
 unfold jO;rw[au h];exact XL (rG l g) uH b
def tR(a:aI)(g k:List aN):aC (dM a (g++k))=aC (dM a g)+aC (dM a k):=by
 simp only[dM,pick,flatMap_append,gO]
theorem Cf{a:aI}:∀{g:List aN},(∀x∈g,x.br≠a)->aC (dM a g)=0
 | [],_=>rfl
 |x::r,h=>by
  rw[mj,aq (h x sT),Cf λy b=>h y (by simp[b])];rfl
def qE{a:aI}{g:List aN}(j:a∈gf)(h:nq g=0):aC (dM a (kj g))=aC (dM a g):=by
 unfold kj;rw[au h];unfold sn;have key:∀{L:List aI},L.Pairwise (λx y=>x.less y=true)->a∈L->aC (dM a (L.flatMap λx=>xp x (aC (dM x g))))=aC (dM a g):=by
  intro L;induction L with
  |nil=>intro _ h;cases h
  |cons x r ih =>
   intro d k;rw[jR]at d;rw[flatMap_cons,tR];have f:∀y:aI,∀z∈xp y (aC (dM y g)),z.br=y:=λy z b=>by
    unfold xp at b;split at b
    ·cases b
    ·obtain rfl:=iD.1 b;rfl
   by_cases e:x=a
   ·subst e
    rw[Cf (g:=r.flatMap _) (λz b c=>by
     obtain⟨y,l,b⟩:=mem_flatMap.1 b;have:=f y z b;have i:=d.1 y l;rw[<-this,c]at i
     exact Br i)]
    unfold xp;split
    ·rename_i b;have b:aC (dM x g)=0:=su b;rw[b];rfl
    ·rw[mj,au (show aN.br ⟨x.kind,x.who,x.cur,aC (dM x g)⟩=x from rfl)];simp[dM,pick,aC]
   ·rw[Cf (g:=xp x _) (λz b c=>e (by rw[<-f x z b];exact c))];rcases mem_cons.1 k with h|h
    ·exact absurd h.symm e
    ·rw[ih d.2 h];omega
 exact key uH j
def Mm(a b:Int):IntKind.wrap .i64 (IntKind.wrap .i64 a+b)=IntKind.wrap .i64 (a+b):=by
 rw[IntKind.wrap_i64,IntKind.wrap_i64,IntKind.wrap_i64];(repeat' split)<;>omega
def O7{l:bu}{g:List aN}{e:Int}{a:aI}(f:a∈gf)(b:(gD l g e).2=0):e=0/\gw a (gD l g e).1.bs=gw a l.bs+aC (dM a g):=by
 unfold gD at b |-;split
 ·rename_i c;rw[au c]at b;exact⟨c.1,afx b f⟩
 ·rename_i c;rw[aq c]at b;have b:e=0:=b;have d:g=[]:=by
   by_cases d:g=[]
   ·exact d
   ·exact absurd ⟨b,d⟩ c
  rw[d];exact⟨b,by simp[dM,pick,aC]⟩
