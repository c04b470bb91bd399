/- What is known of slots and objects may be forgotten, and objects may be named anew. No theorem of a claim. -/
import Derived.Test.YtacacccbcndjoaaGreatAbcFrz
set_option linter.unusedSimpArgs false
set_option linter.unusedVariables false
namespace Go.Abs
mutual
/-- what is known by d (with the elder names) is known by d' (with the new ones): rho tells the elder name of a new one, none: of an empty slice that was nil; lv: is the new name alive? -/
def jh (iH:Nat->Option Nat) (lv:Nat->Bool):D->D->Prop
 | _,.undef=>True
 | .ref r,.ref s=>iH s=some r/\lv s=true
 | .nil,.ref s=>iH s=none/\lv s=true
 | .addr r o,.addr s o'=>iH s=some r/\lv s=true/\o=o'
 | .bQ r z i k,.bQ s z' i' k'=>iH s=some r/\lv s=true/\z=z'/\i=i'/\k=k'
 | .fj r z l m,.fj s z' l' m'=>iH s=some r/\lv s=true/\z=z'/\l=l'/\m=m'
 | .eI r o z m c,.eI s o' z' m' c'=>iH s=some r/\lv s=true/\o=o'/\z=z'/\m=m'/\c=c'
 | .agg a,.agg b=>lG iH lv a b
 | .bD a,.bD b=>lG iH lv a b
 | .fn f a,.fn g b=>f=g/\lG iH lv a b
 | .nil,.sl _ rows=>rows=[]
 | .nil,.emp=>True
 | .nil,.nil=>True
 | .emp,.emp=>True
 | .iP,.iP=>True
 | .eM,.eM=>True
 | .fu,.fu=>True
 | .j4,.j4=>True
 | .bool a,.bool b=>a=b
 | .int k a,.int k' b=>k=k'/\a=b
 | .str a,.str b=>a=b
 | .sl z a,.sl z' b=>z=z'/\a=b
 | .bI a,.bI b=>a=b
 | _,_=>False
def lG (iH:Nat->Option Nat) (lv:Nat->Bool):List D->List D->Prop
 | [],[]=>True
 | a :: x,b :: y=>jh iH lv a b/\lG iH lv x y
 | _,_=>False
end
theorem wF {iH:Nat->Option Nat} {lv:Nat->Bool}:∀ {a b:List D},lG iH lv a b->a.length=b.length/\∀ (i:Nat) x y,a[i]?=some x->b[i]?=some y->jh iH lv x y
 | [],[],_=>⟨rfl,fun i x y h=>by simp at h⟩
 | [],_ :: _,h=>by simp [lG] at h
 | _ :: _,[],h=>by simp [lG] at h
 | a :: x,b :: y,h=>by
  simp only [lG] at h;obtain ⟨h1,h2⟩:=wF h.2;refine ⟨by simp [h1],?_⟩;intro i u v hu hv;cases i with
  | zero=>simp at hu hv;subst hu;subst hv;exact h.1
  | succ i=>simp at hu hv;exact h2 i u v hu hv
def Pf (iH:Nat->Option Nat) (lv:Nat->Bool):D->D->Prop
 | .box a,.box b=>lG iH lv a b
 | .own z a,.own z' b=>z=z'/\a=b
 | _,_=>False
theorem jh.rep {C C':Cx} {iH:Nat->Option Nat} {lv:Nat->Bool} (hV:∀ a v,C.V a=some v->C'.V a=some v) (hS:∀ s r,iH s=some r->lv s=true->∀ u,C.S r=some u->C'.S s=some u) (hN:∀ s,iH s=none->lv s=true->C'.S s=some (.slice none 0 0))
  {v:Value} {d:D} (r:aE C v d):∀ {d':D},jh iH lv d d'->aE C' v d':=by
 have lst:∀ (vs:Array Value) (ds:List D) (ds':List D),vs.size=ds.length->(∀ (i:Nat) v d,vs[i]?=some v->ds[i]?=some d->∀ {d':D},jh iH lv d d'->aE C' v d')->lG iH lv ds ds' ->
   vs.size=ds'.length/\∀ (i:Nat) v d,vs[i]?=some v->ds'[i]?=some d->aE C' v d:=by
  intro vs ds ds' hl ih hle;obtain ⟨h1,h2⟩:=wF hle;refine ⟨hl.trans h1,?_⟩;intro i v d hi hd;have hlt:i < ds.length:=by rw [h1];exact (List.getElem?_eq_some_iff.1 hd).1
  exact ih i v _ hi (List.getElem?_eq_getElem hlt) (h2 i _ d (List.getElem?_eq_getElem hlt) hd)
 induction r with
 | fn f vs ds hl h ih=>intro d' hd;cases d'<;>simp only [jh] at hd<;>first | exact .undef _ | exact hd.elim | skip;(obtain ⟨rfl,hd⟩:=hd;obtain ⟨h1,h2⟩:=lst vs ds _ hl ih hd;exact .fn f vs _ h1 h2)
 | agg vs ds hl h ih=>intro d' hd;cases d'<;>simp only [jh] at hd<;>first | exact .undef _ | exact hd.elim | skip;(obtain ⟨h1,h2⟩:=lst vs ds _ hl ih hd;exact .agg vs _ h1 h2)
 | bD vs ds hl h ih=>intro d' hd;cases d'<;>simp only [jh] at hd<;>first | exact .undef _ | exact hd.elim | skip;(obtain ⟨h1,h2⟩:=lst vs ds _ hl ih hd;exact .bD vs _ h1 h2)
 | undef v=>intro d' hd;cases d'<;>simp only [jh] at hd<;>first | exact .undef _ | exact hd.elim
 | bool b=>intro d' hd;cases d'<;>simp only [jh] at hd<;>first | exact .undef _ | exact hd.elim | (subst hd;exact .bool _)
 | int k n=>intro d' hd;cases d'<;>simp only [jh] at hd<;>first | exact .undef _ | exact hd.elim | (obtain ⟨rfl,rfl⟩:=hd;exact .int _ _)
 | str s=>intro d' hd;cases d'<;>simp only [jh] at hd<;>first | exact .undef _ | exact hd.elim | (subst hd;exact .str _)
 | nil =>
  intro d' hd;cases d'<;>simp only [jh] at hd<;>first | exact .undef _ | exact hd.elim | exact .nil | exact .emp _ | skip
  ·subst hd;exact .slnil _
  ·exact .ref _ none 0 0 (hN _ hd.1 hd.2)
 | emp a=>intro d' hd;cases d'<;>simp only [jh] at hd<;>first | exact .undef _ | exact hd.elim | exact .emp _
 | iP=>intro d' hd;cases d'<;>simp only [jh] at hd<;>first | exact .undef _ | exact hd.elim | exact .iP
 | eM=>intro d' hd;cases d'<;>simp only [jh] at hd<;>first | exact .undef _ | exact hd.elim | exact .eM
 | fu t v=>intro d' hd;cases d'<;>simp only [jh] at hd<;>first | exact .undef _ | exact hd.elim | exact .fu _ _
 | j4=>intro d' hd;cases d'<;>simp only [jh] at hd<;>first | exact .undef _ | exact hd.elim | exact .j4
 | slnil z=>intro d' hd;cases d'<;>simp only [jh] at hd<;>first | exact .undef _ | exact hd.elim | (obtain ⟨rfl,rfl⟩:=hd;exact .slnil _)
 | sl z a cap rows f hl hz hk hc h1 _ =>
  intro d' hd;cases d'<;>simp only [jh] at hd<;>first | exact .undef _ | exact hd.elim | skip
  obtain ⟨rfl,rfl⟩:=hd;exact aE.keep (d:=.sl z rows) hV (.sl z a cap rows f hl hz hk hc h1) (fun s hs=>by simp [D.names] at hs)
 | bI a cs f hn hc h1 _ =>
  intro d' hd;cases d'<;>simp only [jh] at hd<;>first | exact .undef _ | exact hd.elim | skip
  subst hd;exact aE.keep (d:=.bI cs) hV (.bI a cs f hn hc h1) (fun s hs=>by simp [D.names] at hs)
 | ref r a len cap h=>intro d' hd;cases d'<;>simp only [jh] at hd<;>first | exact .undef _ | exact hd.elim | exact .ref _ a len cap (hS _ _ hd.1 hd.2 _ h)
 | addr r off a h=>intro d' hd;cases d'<;>simp only [jh] at hd<;>first | exact .undef _ | exact hd.elim | (obtain ⟨h1,h2,rfl⟩:=hd;exact .addr _ _ a (hS _ _ h1 h2 _ h))
 | bQ r z i k a len cap h=>intro d' hd;cases d'<;>simp only [jh] at hd<;>first | exact .undef _ | exact hd.elim | (obtain ⟨h1,h2,rfl,rfl,rfl⟩:=hd;exact .bQ _ _ _ _ a len cap (hS _ _ h1 h2 _ h))
 | fj r z lo len a a' L cap cap' h q1 q2 q3=>intro d' hd;cases d'<;>simp only [jh] at hd<;>first | exact .undef _ | exact hd.elim | (obtain ⟨h1,h2,rfl,rfl,rfl⟩:=hd;exact .fj _ _ _ _ a a' L cap cap' (hS _ _ h1 h2 _ h) q1 q2 q3)
 | eI r off z len cap a a' h q1 q2=>intro d' hd;cases d'<;>simp only [jh] at hd<;>first | exact .undef _ | exact hd.elim | (obtain ⟨h1,h2,rfl,rfl,rfl,rfl⟩:=hd;exact .eI _ _ _ _ _ a a' (hS _ _ h1 h2 _ h) q1 q2)
structure LeE (m:Nat) (iH:Nat->Option Nat) (e E:Env):Prop where
 kX:∀ j,jh iH (fun s=>!cU (E.o s)) (e.t j) (E.t j)
 objs:∀ s,E.o s≠.undef->match iH s with
  | some r=>Pf iH (fun s=>!cU (E.o s)) (e.o r) (E.o s)
  | none=>∃ z,E.o s=.own z []
 inj:∀ s s' r,E.o s≠.undef->E.o s'≠.undef->iH s=some r->iH s'=some r->s=s'
 K7:∀ s,s < m->E.o s≠.undef->iH s=some s
theorem sw {d:D}:cU d=true ↔ d=.undef:=by cases d<;>simp [cU]
section
variable {P:Program} {w0 w w':World} {l0:Nat->Option Nat} {G:Nat->Option (Nat × Nat)} {S0:Nat->Option Value} {lev lev' own own':Nat->Option Nat} {S S':Nat->Option Value} {env env':Env} {tm tm':Nat->Value}
theorem Inv.ab3 {m:Nat} (hm:m<=16) {iH:Nat->Option Nat} {E:Env} (h:Inv w0 l0 G S0 w lev own S env tm) (hl:LeE m iH env E):∃ own' S',(∀ i,i < m->E.o i≠.undef->S' i=S0 i)/\(∀ s,aE (cx w lev S') (tm s) (E.t s))/\∀ r,jZ w0.heap.size G w lev own' S' r (E.o r):=by
 let S':Nat->Option Value:=fun s=>if cU (E.o s) then none else match iH s with
  | some r=>S r
  | none=>some (.slice none 0 0)
 let own':Nat->Option Nat:=fun b=>(own b).bind fun r=>open Classical in if h:∃ s,E.o s≠.undef/\iH s=some r then some (Classical.choose h) else none
 have hS:∀ s r,iH s=some r->(!cU (E.o s))=true->∀ u,S r=some u->S' s=some u:=by
  intro s r hr hlv u hu;simp only [Bool.not_eq_true'] at hlv;simp only [S',hlv,hr,Bool.false_eq_true,if_false];exact hu
 have hN:∀ s,iH s=none->(!cU (E.o s))=true->S' s=some (.slice none 0 0):=by
  intro s hr hlv;simp only [Bool.not_eq_true'] at hlv;simp only [S',hlv,hr,Bool.false_eq_true,if_false]
 have hrep:∀ {v:Value} {d d':D},aE (cx w lev S) v d->jh iH (fun s=>!cU (E.o s)) d d'->aE (cx w lev S') v d':=fun hr hd=>jh.rep (C:=cx w lev S) (C':=cx w lev S') (fun _ _ h=>h) hS hN hr hd
 refine ⟨own',S',?_,?_,?_⟩
 ·intro i hi he;have hr:=hl.K7 i hi he;have ho:=hl.objs i he;rw [hr] at ho
  have hne:env.o i≠.undef:=by
   intro e;simp only [e] at ho;cases hx:E.o i<;>rw [hx] at ho<;>exact ho.elim
  have hlv:cU (E.o i)=false:=by
   cases hx:cU (E.o i) with
   | false=>rfl
   | true=>exact (he (sw.1 hx)).elim
  simp only [S',hlv,hr,Bool.false_eq_true,if_false];exact h.K7 i (by omega) hne
 ·intro s;exact hrep (h.kX s) (hl.kX s)
 ·intro s
  by_cases hu:E.o s=.undef
  ·rw [hu]
   show S' s=none
   simp [S',hu,cU]
  have hlv:(!cU (E.o s))=true:=by
   cases hx:cU (E.o s) with
   | false=>rfl
   | true=>exact (hu (sw.1 hx)).elim
  have ho:=hl.objs s hu;cases hr:iH s with
  | none =>
   rw [hr] at ho;obtain ⟨z,hz⟩:=ho;have hn:=hN s hr hlv;rw [hz];exact .inl ⟨none,hn,rfl⟩
  | some r =>
   rw [hr] at ho;simp only at ho;have hob:=h.objs r
   have hown:∀ b,own b=some r->own' b=some s:=by
    intro b hb;simp only [own',hb,Option.bind_some];have hex:∃ s,E.o s≠.undef/\iH s=some r:=⟨s,hu,hr⟩
    rw [dif_pos hex];have hc:=Classical.choose_spec hex;rw [hl.inj _ _ r hc.1 hu hc.2 hr]
   cases hE:E.o s<;>rw [hE] at ho<;>cases he:env.o r<;>rw [he] at ho hob<;>simp only [Pf] at ho
   ·obtain ⟨rfl,rfl⟩:=ho;rename_i z rows;rcases hob with ⟨a,h1,h2⟩ | ⟨b,c,EE,cap,h1,h2,h3,h4,h5,h6,h7,h8,h9,h10⟩
    ·exact .inl ⟨a,hS s r hr hlv _ h1,h2⟩
    ·refine .inr ⟨b,c,EE,cap,hS s r hr hlv _ h1,h2,h3,h4,h5,h6,h7,hown b h8,h9,?_⟩;intro i j row d hi hj;obtain ⟨u,hu',hru⟩:=h10 i j row d hi hj;exact ⟨u,hu',hru.fC (.refl _ _) (by rw [(h6 row (List.mem_of_getElem? hi) d (List.mem_of_getElem? hj)).2];simp)⟩
   ·rename_i a b';obtain ⟨hlen,hget⟩:=wF ho;obtain ⟨b,o,c,EE,h1,h2,h3,h4,h5,h6,h7⟩:=hob;refine ⟨b,o,c,EE,hS s r hr hlv _ h1,h2,by omega,h4,hown b h5,by rw [<- hlen];exact h6,?_⟩;intro j u x hu' hx;have hlt:j < b'.length:=by rw [hlen];exact (List.getElem?_eq_some_iff.1 hx).1
    exact hrep (h7 j u _ hu' (List.getElem?_eq_getElem hlt)) (hget j _ x (List.getElem?_eq_getElem hlt) hx)
theorem Inv.le {iH:Nat->Option Nat} {E:Env} (h:Inv w0 l0 G S0 w lev own S env tm) (hl:LeE 16 iH env E):∃ own' S',Inv w0 l0 G S0 w lev own' S' E tm:=by
 obtain ⟨own',S',h1,h2,h3⟩:=h.ab3 (Nat.le_refl _) hl;exact ⟨own',S',h.os,h.tape,h.output,h.size,h.old,h.part,h.priv,h.iy,h1,h2,h3⟩
end
def look:List (Nat × D)->Nat->D
 | [],_=>.undef
 | x :: r,j=>if j=x.1 then x.2 else look r j
def td (ts os:List (Nat × D)):Env:=⟨look ts,look os⟩
mutual
def tQ:D->D->List (Nat × Option Nat)
 | .ref s,.ref r=>[(s,some r)]
 | .ref s,.nil=>[(s,none)]
 | .addr s _,.addr r _=>[(s,some r)]
 | .bQ s _ _ _,.bQ r _ _ _=>[(s,some r)]
 | .fj s _ _ _,.fj r _ _ _=>[(s,some r)]
 | .eI s _ _ _ _,.eI r _ _ _ _=>[(s,some r)]
 | .agg a,.agg b=>xq a b
 | .bD a,.bD b=>xq a b
 | .fn _ a,.fn _ b=>xq a b
 | .box a,.box b=>xq a b
 | _,_=>[]
def xq:List D->List D->List (Nat × Option Nat)
 | a :: x,b :: y=>tQ a b++xq x y
 | _,_=>[]
end
def iH (l:List (Nat × Option Nat)) (s:Nat):Option Nat:=
 match l with
 | []=>some s
 | x :: r=>if s=x.1 then x.2 else iH r s
def Lo (e:Env):List (Nat × D)->List (Nat × Option Nat)
 | []=>[]
 | x :: r=>tQ x.2 (e.t x.1)++Lo e r
def X7 (e:Env):Option Nat->D
 | some r=>e.o r
 | none=>.undef
def OS (e:Env) (l:List (Nat × Option Nat)):List (Nat × D)->List (Nat × Option Nat)
 | []=>[]
 | x :: r=>tQ x.2 (X7 e (iH l x.1))++OS e l r
def KZ (os:List (Nat × D)) (s:Nat):Bool:=
 match os with
 | []=>false
 | x :: r=>if s=x.1 then true else KZ r s
def OL (e:Env) (rh:Nat->Option Nat) (os:List (Nat × D)):List (Nat × D)->Prop
 | []=>True
 | x :: r=>jh rh (KZ os) (e.t x.1) x.2/\OL e rh os r
def AL:D->Prop
 | .own _ rows=>rows=[]
 | _=>False
def HJ (e:Env) (rh:Nat->Option Nat) (os:List (Nat × D)) (d:D):Option Nat->Prop
 | some r=>Pf rh (KZ os) (e.o r) d
 | none=>AL d
def gY (o:Option Nat) (rh:Nat->Option Nat):List (Nat × D)->Prop
 | []=>True
 | x :: r=>(match o with
  | some a=>rh x.1≠some a
  | none=>True)/\gY o rh r
def EX (m s:Nat) (o:Option Nat):Prop:=m<=s\/o=some s
def EI (m:Nat) (e:Env) (rh:Nat->Option Nat) (os:List (Nat × D)):List (Nat × D)->Prop
 | []=>True
 | x :: r=>KZ r x.1=false/\HJ e rh os x.2 (rh x.1)/\gY (rh x.1) rh r/\EX m x.1 (rh x.1)/\EI m e rh os r
def Yp (m:Nat) (e:Env) (ts os:List (Nat × D)) (l:List (Nat × Option Nat)):Prop:=OL e (iH l) os ts/\EI m e (iH l) os os
def VW (m:Nat) (e:Env) (ts os:List (Nat × D)) (l:List (Nat × Option Nat)):Prop:=Yp m e ts os (l++OS e l os)
def Q3 (m:Nat) (e:Env) (ts os:List (Nat × D)):Prop:=VW m e ts os (Lo e ts)
def MW (e:Env) (ts os:List (Nat × D)):Prop:=Q3 16 e ts os
theorem P8 {os:List (Nat × D)} {e:Env} {rh:Nat->Option Nat} {os0:List (Nat × D)} {m:Nat} (h:EI m e rh os0 os) (s:Nat):KZ os s = !cU (look os s):=by
 induction os with
 | nil=>rfl
 | cons x r ih =>
  obtain ⟨h1,h2,h3,h4,h5⟩:=h;simp only [KZ,look]
  by_cases e':s=x.1
  ·subst e';simp only [if_true];cases hr:rh x.1 with
   | none=>rw [hr] at h2;cases hx:x.2<;>rw [hx] at h2<;>simp [HJ,AL] at h2<;>rfl
   | some r=>rw [hr] at h2;cases hx:x.2<;>rw [hx] at h2<;>cases hy:e.o r<;>simp only [HJ,hy,Pf] at h2<;>rfl
  ·simp only [if_neg e'];exact ih h5
theorem D6 {rh:Nat->Option Nat} {lv:Nat->Bool} (d:D):jh rh lv d .undef:=by cases d<;>simp [jh]
theorem Q3.le {m:Nat} {e:Env} {ts os:List (Nat × D)} (h:Q3 m e ts os):∃ rh,LeE m rh e (td ts os):=by
 unfold Q3 VW Yp at h;generalize iH _=rh at h;obtain ⟨h1,h2⟩:=h;have hlv:KZ os=fun s=>!cU ((td ts os).o s):=by funext s;exact P8 h2 s
 refine ⟨rh,?_,?_,?_,?_⟩
 ·intro j;rw [<- hlv]
  show jh rh (KZ os) (e.t j) (look ts j)
  clear hlv h2
  induction ts with
  | nil=>exact D6 _
  | cons x r ih =>
   simp only [look]
   by_cases e':j=x.1
   ·subst e';simp only [if_true];exact h1.1
   ·simp only [if_neg e'];exact ih h1.2
 ·intro s hs;rw [<- hlv]
  show match rh s with | some r=>Pf rh (KZ os) (e.o r) (look os s) | none=>∃ z,look os s=.own z []
  have hs':look os s≠.undef:=hs;clear hlv h1 hs
  suffices hh:∀ os':List (Nat × D),EI m e rh os os'->look os' s≠.undef->match rh s with | some r=>Pf rh (KZ os) (e.o r) (look os' s) | none=>∃ z,look os' s=.own z [] from hh os h2 hs'
  intro os'
  induction os' with
  | nil=>intro _ h;exact (h rfl).elim
  | cons x r ih =>
   intro h2 hs';obtain ⟨g1,g2,g3,g4,g5⟩:=h2;simp only [look] at hs' |-
   by_cases e':s=x.1
   ·subst e';simp only [if_true];cases hr:rh x.1 with
    | none =>
     rw [hr] at g2;cases hx:x.2<;>rw [hx] at g2<;>simp only [HJ,AL] at g2;subst g2;exact ⟨_,rfl⟩
    | some r'=>rw [hr] at g2;exact g2
   ·simp only [if_neg e'] at hs' |-;exact ih g5 hs'
 ·intro s s' r hs hs' hr hr';have hs:look os s≠.undef:=hs;have hs':look os s'≠.undef:=hs'
  suffices hh:∀ os':List (Nat × D),EI m e rh os os'->look os' s≠.undef->look os' s'≠.undef->s=s' from hh os h2 hs hs'
  have hin:∀ (os':List (Nat × D)) (t:Nat),look os' t≠.undef->rh t=some r -> ¬ gY (some r) rh os':=by
   intro os' t
   induction os' with
   | nil=>intro h;exact (h rfl).elim
   | cons x q ih =>
    intro ht hrt hn;simp only [look] at ht
    by_cases e':t=x.1
    ·subst e';exact hn.1 hrt
    ·simp only [if_neg e'] at ht;exact ih ht hrt hn.2
  intro os'
  induction os' with
  | nil=>intro _ h;exact (h rfl).elim
  | cons x q ih =>
   intro h2 hs hs';obtain ⟨g1,g2,g3,g4,g5⟩:=h2;simp only [look] at hs hs'
   by_cases e1:s=x.1
   ·by_cases e2:s'=x.1
    ·exact e1.trans e2.symm
    ·simp only [if_neg e2] at hs';subst e1;rw [hr] at g3;exact (hin q s' hs' hr' g3).elim
   ·by_cases e2:s'=x.1
    ·simp only [if_neg e1] at hs;subst e2;rw [hr'] at g3;exact (hin q s hs hr g3).elim
    ·simp only [if_neg e1] at hs;simp only [if_neg e2] at hs';exact ih g5 hs hs'
 ·intro s hlt hs;have hs:look os s≠.undef:=hs
  suffices hh:∀ os':List (Nat × D),EI m e rh os os'->look os' s≠.undef->rh s=some s from hh os h2 hs
  intro os'
  induction os' with
  | nil=>intro _ h;exact (h rfl).elim
  | cons x q ih =>
   intro h2 hs;obtain ⟨g1,g2,g3,g4,g5⟩:=h2;simp only [look] at hs
   by_cases e1:s=x.1
   ·subst e1;rcases g4 with g4 | g4
    ·omega
    ·exact g4
   ·simp only [if_neg e1] at hs;exact ih g5 hs
theorem MW.le {e:Env} {ts os:List (Nat × D)} (h:MW e ts os):∃ rh,LeE 16 rh e (td ts os):=Q3.le h
end Go.Abs
