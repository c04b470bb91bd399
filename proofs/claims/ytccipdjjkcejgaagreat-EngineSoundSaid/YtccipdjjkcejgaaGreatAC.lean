/- The evaluator, part 3; no theorem of a claim. -/
import Derived.Test.YtccipdjjkcejgaaGreatAB
set_option linter.unusedSimpArgs false
set_option linter.unusedVariables false
namespace Go.Abs
open List
variable {z:Nat} {rows R:List (List D)} {ds:List D}
section
variable {P:Program}
def dR (rows:List (List D)) (cap z:Nat):List D:=rows.flatten++replicate ((cap-rows.length)*z) .undef
theorem lB {cap:Nat} (h:∀ r∈rows,r.length=z) (hl:rows.length<=cap):(dR rows cap z).length=cap*z:=by
 simp only [dR,cm,jS h,length_replicate];rw [<- Nat.add_mul];congr 1;omega
def dyn (k:Nat) (X:D):List D:=.undef :: (replicate k .undef++[X])
theorem PK (k:Nat) (X:D) (r:Nat):(dyn k X).getD r .undef=if r=k+1 then X else .undef:=by
 unfold dyn;cases r with
 | zero=>simp
 | succ r =>
  simp only [getD_eq_getElem?_getD,getElem?_cons_succ];by_cases h:r < k
  ·rw [getElem?_append_left (by simpa using h),ak (by omega)];simp [h]
  ·rw [getElem?_append_right (by simpa using h)];simp only [length_replicate];by_cases c:r=k
   ·subst c;simp
   ·rw [ak (by omega)];have:r-k=(r-k-1)+1:=by omega
    rw [this];simp
theorem Qm (k:Nat) (X:D) (r:Nat):(X :: replicate k .undef).getD r .undef=if r=0 then X else .undef:=by
 cases r with
 | zero=>simp
 | succ r =>
  simp only [getD_eq_getElem?_getD,getElem?_cons_succ,getElem?_replicate];split<;>simp
theorem Spec.Ql {f:FuncId} {hr:List D} (ag:rows≠[]) (M:∀ r∈R,r.length=z) (aa:∀ r∈R,∀ d∈r,bG d) (ap:∀ d∈ds,0 ∉ d.names) (as:∀ h∈hr,∃ z' C,h=.own z' C)
  (h:∀ cap,rows.length<=cap->(∃ cs,R.length<=cap/\cs.length=cap*z/\cs.take (R.length*z)=R.flatten/\Spec P f (.box (dR rows cap z) :: hr) (.bW 0 0 z rows.length cap :: ds) (.box cs :: replicate hr.length .undef) (.bW 0 0 z R.length cap)) \/
   Spec P f (.box (dR rows cap z) :: hr) (.bW 0 0 z rows.length cap :: ds) (dyn hr.length (.own z R)) (.ref (hr.length+1))) :
  Spec P f (.own z rows :: hr) (.ref 0 :: ds) (dyn hr.length (.own z R)) (.ref (hr.length+1)):=by
 have af:Enters P f:=by
  rcases h rows.length (dU _) with ⟨_,_,_,_,X⟩ | X
  ·exact X.1
  ·exact X.1
 refine ⟨af,?_⟩;intro w l0 G0 B S0 vs hT hl hG X L ai;have K:=ai 0;simp only [getD_cons_zero] at K;rcases K with ⟨_,_,ah⟩ | ⟨b,c,E,cap,h1,h2,h3,h4,h5,h6,h7,h8,h9,h10⟩
 ·exact (ag ah).elim
 obtain ⟨F,ab⟩:∃ F,F=jm S0 0 (some (.pointer (some ⟨b,0,none⟩))):=⟨_,rfl⟩
 have o:F 0=some (.pointer (some ⟨b,0,none⟩)):=by rw [ab];exact dh _ _ _
 have p:∀ r,r≠0->F r=S0 r:=fun r hr=>by rw [ab];exact fm _ _ hr
 have hblt:=lt_of_block h2;have ar:∃ lo g,G0 b=some (lo,g)/\lo<=0/\c.size<=g:=by
  rcases h9 with h9 | ⟨lo,g,G,g2,g3⟩
  ·omega
  ·exact ⟨lo,g,G,g2,g3⟩
 have A:∀ (i:Nat) v x,vs[i]?=some v->(D.bW 0 0 z rows.length cap :: ds)[i]?=some x->aK (cx w l0 F) v x:=by
  intro i v x hv hx;cases i with
  | zero =>
   have V:D.bW 0 0 z rows.length cap=x:=by simpa using hx
   subst V;obtain ⟨G,a,len,cp,rfl⟩:=(L 0 v (.ref 0) hv rfl).nS;have G:S0 0=_:=G;rw [h1] at G;cases G;exact .bW 0 0 z _ _ ⟨b,0,none⟩ _ o (fun _=>by simp [Addr.add]) h4
  | succ i =>
   have V:ds[i]?=some x:=by simpa using hx
   refine (L (i+1) v x hv (by simpa using hx)).fV (.refl _ _) ?_;intro s av u Y;rw [p s ?_];exact Y;rintro rfl;exact ap x (dX V) av
 have J:∀ r,lQ w.heap.size G0 w l0 B F r ((D.box (dR rows cap z) :: hr).getD r .undef):=by
  intro r;cases r with
  | zero =>
   simp only [getD_cons_zero];refine ⟨b,0,c,E,o,h2,by rw [lB h5 h4];omega,h7,h8,by rw [lB h5 h4,<- h3,Nat.zero_add];exact h9,?_⟩;intro j u e Y q;rw [Nat.zero_add] at Y;unfold dR at q;by_cases H:j < rows.flatten.length
   ·rw [getElem?_append_left H] at q;by_cases hz:z=0
    ·rw [jS h5,hz] at H;omega
    rw [IW hz h5] at q;cases g:rows[j / z]? with
    | none=>rw [g] at q;cases q
    | some l =>
     rw [g] at q;obtain ⟨u',al,T⟩:=h10 _ _ l e g q;have em:j / z*z+j%z=j:=by rw [Nat.mul_comm];exact Nat.div_add_mod j z
     rw [em,Y] at al;cases al;have y:e.names=[]:=(h6 l (dX g) e (dX q)).2;exact T.fV (.refl _ _) (by rw [y];simp)
   ·rw [getElem?_append_right (by omega),getElem?_replicate] at q;split at q
    ·cases q;exact .undef _
    ·cases q
  | succ r =>
   have W:=ai (r+1);simp only [getD_cons_succ] at W |-
   by_cases t:r < hr.length
   ·have hg:hr.getD r .undef=hr[r]:=by simp [getD,t]
    rw [hg] at W |-;obtain ⟨z',C,e⟩:=as _ (ck t);rw [e] at W |-;rcases W with ⟨a,p1,p2⟩ | ⟨b',Z,E',n,p1,p2,p3,p4,p5,p6,p7,p8,p9,p10⟩
    ·exact .inl ⟨a,by rw [p _ (by omega)];exact p1,p2⟩
    ·refine .inr ⟨b',Z,E',n,by rw [p _ (by omega)];exact p1,p2,p3,p4,p5,p6,p7,p8,p9,?_⟩;intro i j l x g H;obtain ⟨u,Y,T⟩:=p10 i j l x g H;have y:x.names=[]:=(p6 l (dX g) x (dX H)).2;exact ⟨u,Y,T.fV (.refl _ _) (by rw [y];simp)⟩
   ·have hg:hr.getD r .undef=.undef:=by simp [getD,t]
    rw [hg] at W |-
    show F (r+1)=none;rw [p _ (by omega)];exact W
 rcases h cap h4 with ⟨cs,am,hcl,ao,U⟩ | U
 ·refine (U.2 w l0 G0 B F vs hT hl hG (by simpa using X) A J).mono ?_;rintro e w' ⟨v,rfl,ho⟩;refine ⟨v,rfl,ho.os,ho.tape,ho.output,ho.size,ho.old,ho.part,?_⟩;obtain ⟨lev,own,S,G,g2,g3,g4,g5⟩:=ho.rep;have ac:=g4 0;rw [Qm,aq rfl] at ac;obtain ⟨b',o',Z,E',q1,q2,q3,q4,q5,q6,q7⟩:=ac;have aj:S 0=F 0:=g5 0 (by simp) (by rw [Qm,aq rfl];simp);rw [aj,o] at q1;cases q1;obtain ⟨lo,g,k1,k2,k3⟩:=ar;obtain ⟨c0,c1,E1,m1,m2,m3,-⟩:=ho.part b lo g k1;rw [h2] at m1;cases m1;rw [q2] at m2;cases m2;obtain ⟨ad,a',n,hS,rfl,y3,y4,y5,e6,y6⟩:=g3.gv;have hS:S 0=_:=hS;rw [aj,o] at hS;cases hS;subst e6;have hlen:0 < rows.length:=length_pos_iff.2 ag;have an:=y6 (by omega);subst an;refine ⟨lev,jm own b (some (hr.length+1)),jm (jm S 0 none) (hr.length+1) (some (.slice (some ⟨b,0,none⟩) R.length n)),G,g2,?_,?_,?_⟩
  ·exact .ref _ _ _ _ (by show jm _ _ _ _=_;rw [dh];simp [Addr.add])
  ·intro r;rw [PK];by_cases Q:r=hr.length+1
   ·subst Q;rw [aq rfl];refine .inr ⟨b,Z,_,n,dh _ _ _,q2,by rw [m3,h3],am,M,aa,q4,dh _ _ _,by rw [m3];exact h9,?_⟩;intro i j l x g H;have N:j < z:=by rw [<- M l (dX g)];exact (fA.1 H).1
    have au:i < R.length:=(fA.1 g).1;have t:=qx N au;have hz:z≠0:=by omega
    have ae:cs[i*z+j]?=some x:=by
     rw [<- getElem?_take_of_lt t,ao,IW hz M];have e1:(i*z+j) / z=i:=by rw [Nat.mul_comm,Nat.mul_add_div (by omega),Nat.div_eq_of_lt N];rfl
     have e2:(i*z+j)%z=j:=by rw [Nat.mul_comm,Nat.mul_add_mod,Nat.mod_eq_of_lt N]
     rw [e1,e2,g];exact H
    have hcl':i*z+j < cs.length:=(fA.1 ae).1;have I:i*z+j < Z.size:=by omega
    refine ⟨Z[i*z+j],by simp [I],?_⟩;have y:x.names=[]:=(aa l (dX g) x (dX H)).2;exact (q7 (i*z+j) _ x (by rw [Nat.zero_add];simp [I]) ae).fV (.refl _ _) (by rw [y];simp)
   ·rw [ak Q];show jm _ _ _ r=none;rw [fm _ _ Q];by_cases O:r=0
    ·subst O;exact dh _ _ _
    ·rw [fm _ _ O];have:=g4 r;rw [Qm,ak O] at this;exact this
  ·intro i g k;rw [PK,ak (by simp at g;omega)] at k;exact (k rfl).elim
 ·refine (U.2 w l0 G0 B F vs hT hl hG (by simpa using X) A J).mono ?_;rintro e w' ⟨v,rfl,ho⟩;refine ⟨v,rfl,ho.os,ho.tape,ho.output,ho.size,ho.old,ho.part,?_⟩;obtain ⟨lev,own,S,G,g2,g3,g4,g5⟩:=ho.rep;refine ⟨lev,own,S,G,g2,g3,g4,?_⟩;intro i g k;rw [PK,ak (by simp at g;omega)] at k;exact (k rfl).elim
end
theorem Ht {z:Nat}:∀ {R:List (List D)} {cs:List D},(∀ r∈R,r.length=z)->cs.take (R.length*z)=R.flatten->rowsOf z R.length cs=R
 | [],_,_,_=>rfl
 | r :: R,cs,h,ht=>by
  have hr:=h r (by simp);have f:∀ r∈R,r.length=z:=fun x g=>h x (by simp [g]);simp only [length_cons,rowsOf];rw [flatten_cons,length_cons,Nat.succ_mul] at ht;have c:cs.take z=r:=by
   have:=congrArg (List.take z) ht;rw [take_take,Nat.min_eq_left (by omega)] at this;rw [this,<- hr,take_left]
  have e:(cs.drop z).take (R.length*z)=R.flatten:=by
   have:=congrArg (drop z) ht;rw [drop_take,Nat.add_sub_cancel,<- hr,drop_left] at this;rw [<- hr];exact this
  rw [c,Ht f e]
variable {d:D}
theorem acu (h:bG d):La d=true:=by
 obtain ⟨e,c⟩:=h;cases d<;>simp only [La]<;>first | exact e.elim | (simp [D.names] at c;done) | simpa using c
variable {off:Nat} {cs:List D}
theorem Pu (h:(cs.drop off).take (R.length*z)=R.flatten) (j:∀ r∈R,r.length=z) (g:∀ r∈R,∀ d∈r,bG d) (f:off+R.length*z<=cs.length):gS off z R.length (.box cs)=.sl z R:=by
 have c:((cs.drop off).take (R.length*z)).all La=true:=by
  rw [h,dn];intro d e;obtain ⟨r,hr,e⟩:=mem_flatten.1 e;exact acu (g r hr d e)
 unfold gS;simp only [c,f,decide_true,Bool.and_self,if_true];rw [Ht j h]
variable {i m:Nat}
theorem JA {cap:Nat} (c:∀ r∈rows,r.length=z) (h:i+m<=rows.length):((dR rows cap z).drop (i*z)).take (m*z)=((rows.drop i).take m).flatten:=by
 have e:∀ r∈rows.drop i,r.length=z:=fun r hr=>c r (mem_of_mem_drop hr);have hl:=jS c;have f:(i+m)*z<=rows.length*z:=l6 z h;rw [Nat.add_mul] at f;unfold dR;rw [drop_append_of_le_length (by omega),NX i c,take_append_of_le_length (by rw [jS e,fj,Nat.sub_mul];omega),NY m e]
theorem yC {cap:Nat} (c:∀ r∈rows,r.length=z) (h:∀ r∈rows,∀ d∈r,bG d) (hi:i<=rows.length) (f:rows.length<=cap):gS (i*z) z (rows.length-i) (.box (dR rows cap z))=.sl z (rows.drop i):=by
 have g:∀ r∈rows.drop i,r.length=z:=fun r hr=>c r (mem_of_mem_drop hr);have e:(rows.drop i).length=rows.length-i:=by simp
 rw [<- e];refine Pu ?_ g (fun r hr=>h r (mem_of_mem_drop hr)) ?_
 ·rw [JA c (by omega),take_of_length_le (dU _)]
 ·rw [lB c f,e,<- Nat.add_mul];exact l6 z (by omega)
theorem qX (h:m<=off) (ho:off<=cs.length):(gD cs off ds).take m=cs.take m:=by
 unfold gD;rw [cQ,take_append_of_le_length (by simp;omega),take_take,Nat.min_eq_left h]
theorem nX (ho:off<=cs.length):(gD cs off ds).take (off+ds.length)=cs.take off++ds:=by
 unfold gD;have:(cs.take off++ds).length=off+ds.length:=by simp;omega
 rw [<- this,take_left]
theorem oF {cap:Nat} (c:∀ r∈rows,r.length=z) (h:i<=rows.length):(dR rows cap z).take (i*z)=(rows.take i).flatten:=by
 have:=JA (cap:=cap) (i:=0) (m:=i) c (by omega);simpa using this
theorem ab4 (h:d∈gD cs off ds):d∈cs\/d∈ds:=by
 unfold gD at h;simp only [mem_append] at h;rcases h with (h | h) | h
 ·exact .inl (mem_of_mem_take h)
 ·exact .inr h
 ·exact .inl (mem_of_mem_drop h)
def kN:D->Bool
 | .undef | .bool _ | .int _ _ | .str _ | .nil | .emp | .kP | .gl | .gR | .j4 | .sl _ _ | .bq _=>true
 | _=>false
variable {b:Nat->Bool} {a:Nat->Option Nat}
theorem abU (h:kN d=true):jU a b d d:=by
 cases d<;>first | (cases h;done) | simp [jU]
theorem mY {f:Nat->Option Nat} {e:Nat->Bool}:∀ {X:List D},(∀ d∈X,kN d=true)->kM f e X X
 | [],_=>by simp [kM]
 | d :: X,h=>by
  simp only [kM];exact ⟨abU (h d (by simp)),mY fun x c=>h x (by simp [c])⟩
theorem uX {cap:Nat} (h:∀ r∈rows,∀ d∈r,kN d=true):∀ d∈dR rows cap z,kN d=true:=by
 intro d c;unfold dR at c;rcases mem_append.1 c with c | c
 ·obtain ⟨r,hr,c⟩:=mem_flatten.1 c;exact h r hr d c
 ·rw [(mem_replicate.1 c).2];rfl
theorem mX (h:∀ r∈rows,∀ d∈r,kN d=true):∀ d∈rows.flatten,kN d=true:=by
 intro d c;obtain ⟨r,hr,c⟩:=mem_flatten.1 c;exact h r hr d c
theorem nr (c:∀ d∈cs,kN d=true) (e:∀ d∈ds,kN d=true):∀ d∈gD cs off ds,kN d=true:=by
 intro d f;rcases ab4 f with h | h
 ·exact c d h
 ·exact e d h
end Go.Abs
namespace Go.Abs
open Go.RowKit
variable {l off j r c by_ c2 off2 r2 l2 b2 N:Nat} {cs cs2 as:List D} {ea f:Bool} {b:Array (Nat × Operand)} {y x:Operand}
section
variable {P:Program} {n:Nat} {e:Env} {K:Env->Prop} {T T2 ty:TypeId} {d:Nat} {pos:String} {after:Array Edge} {gu:Option (Nat × Bool)}
variable {w0 w w':World} {l0:Nat->Option Nat} {G:Nat->Option (Nat × Nat)} {S0:Nat->Option Value} {lev own:Nat->Option Nat} {S:Nat->Option Value} {tm:Nat->Value}
def awy (cs:List D):List (List D):=cs.map fun d=>[d]
end
end Go.Abs
namespace Go.Abs
def td {S:Type} (n:Nat) (I:Nat->S->Prop) (x:Nat × S):Prop:=x.1<=n/\I x.1 x.2
def th {S:Type} (n:Nat) (x:Nat × S):Nat:=n-x.1
variable {kO kT:EL} {body:(Exit->Env->Prop)->Env->Prop} {S:Type} {e:Env} {Q:Exit->Env->Prop}
theorem aM.uB (n:Nat) (l k:List Nat) (ts os:Nat->S->EL) (I:Nat->S->Prop) (s0:S)
  (g:I 0 s0) (d:Me e (ts 0 s0++kT) (os 0 s0++kO))
  (hr:∀ i s,i < n->decide ((i:Int) < (n:Int))=true->IntKind.wrap .i64 ((i:Int)+1)=((i+1:Nat):Int)->I i s->body (kV (fun x:Nat × S=>ts x.1 x.2++kT) (fun x:Nat × S=>os x.1 x.2++kO) (td n I) (th n) (i,s) Q) (tL (ts i s++kT) (os i s++kO)))
  (j:∀ s,decide ((n:Int) < (n:Int))=false->I n s->body (kV (fun x:Nat × S=>ts x.1 x.2++kT) (fun x:Nat × S=>os x.1 x.2++kO) (td n I) (th n) (n,s) Q) (tL (ts n s++kT) (os n s++kO))) (hn:n < 9223372036854775807:=by omega)
  (hT:vZ e.t l=kT:=by simp only [go_sem,seval]<;>exact rfl) (hO:v7 e.o k=kO:=by simp only [go_sem,seval]<;>exact rfl):aM body Q e:=by
 refine ⟨Nat × S,fun x=>ts x.1 x.2++kT,fun x=>os x.1 x.2++kO,td n I,th n,(0,s0),⟨Nat.zero_le _,g⟩,d,?_⟩;rintro ⟨i,s⟩ ⟨f,hI⟩;rcases bZ i n with h | h
 ·exact hr i s h (dI (by omega)) (by rw [IntKind.wrap_i64];omega) hI
 ·have f:i<=n:=f;obtain rfl:i=n:=by omega
  exact j s (eJ (by omega)) hI
structure Tg (t o:List Nat) (k:Nat):Prop where
theorem aM.w1 (n k:Nat) (g f:List Nat) (I:Nat->Unit->Prop) (h:I 0 ())
  (hr:∀ i (s:Unit),i < n->decide ((i:Int) < (n:Int))=true->IntKind.wrap .i64 ((i:Int)+1)=((i+1:Nat):Int)->I i s->body (kV (fun x:Nat × Unit=>[(k,.int .i64 x.1)]++kT) (fun _=>[]++kO) (td n I) (th n) (i,s) Q) (tL ([(k,.int .i64 i)]++kT) ([]++kO)))
  (p:∀ s:Unit,decide ((n:Int) < (n:Int))=false->I n s->body (kV (fun x:Nat × Unit=>[(k,.int .i64 x.1)]++kT) (fun _=>[]++kO) (td n I) (th n) (n,s) Q) (tL ([(k,.int .i64 n)]++kT) ([]++kO))) (m:n < 9223372036854775807:=by omega)
  (l:vZ e.t g=kT:=by simp only [go_sem,seval]<;>exact rfl) (j:v7 e.o f=kO:=by simp only [go_sem,seval]<;>exact rfl)
  (d:Me e ([(k,.int .i64 ((0:Nat):Int))]++kT) ([]++kO):=by simp only [go_sem,seval]<;>simp):aM body Q e:=
 aM.uB n g f (fun i _=>[(k,.int .i64 i)]) (fun _ _=>[]) I () h d hr p m l j
theorem aM.wu (n:Nat) (g f:List Nat) (ts os:Nat->EL) (I:Nat->Prop)
  (h:I 0) (d:Me e (ts 0++kT) (os 0++kO))
  (hr:∀ i (s:Unit),i < n->decide ((i:Int) < (n:Int))=true->IntKind.wrap .i64 ((i:Int)+1)=((i+1:Nat):Int)->I i->body (kV (fun x:Nat × Unit=>ts x.1++kT) (fun x:Nat × Unit=>os x.1++kO) (td n fun i _=>I i) (th n) (i,s) Q) (tL (ts i++kT) (os i++kO)))
  (m:∀ s:Unit,decide ((n:Int) < (n:Int))=false->I n->body (kV (fun x:Nat × Unit=>ts x.1++kT) (fun x:Nat × Unit=>os x.1++kO) (td n fun i _=>I i) (th n) (n,s) Q) (tL (ts n++kT) (os n++kO))) (l:n < 9223372036854775807:=by omega)
  (k:vZ e.t g=kT:=by simp only [go_sem,seval]<;>exact rfl) (j:v7 e.o f=kO:=by simp only [go_sem,seval]<;>exact rfl):aM body Q e:=
 aM.uB n g f (fun i _=>ts i) (fun i _=>os i) (fun i _=>I i) () h d hr m l k j
theorem aM.wv (n:Nat) (g f:List Nat) (ts os:Nat->EL)
  (d:Me e (ts 0++kT) (os 0++kO))
  (hr:∀ i (s:Unit),i < n->decide ((i:Int) < (n:Int))=true->IntKind.wrap .i64 ((i:Int)+1)=((i+1:Nat):Int)->True->body (kV (fun x:Nat × Unit=>ts x.1++kT) (fun x:Nat × Unit=>os x.1++kO) (td n fun _ _=>True) (th n) (i,s) Q) (tL (ts i++kT) (os i++kO)))
  (l:∀ s:Unit,decide ((n:Int) < (n:Int))=false->True->body (kV (fun x:Nat × Unit=>ts x.1++kT) (fun x:Nat × Unit=>os x.1++kO) (td n fun _ _=>True) (th n) (n,s) Q) (tL (ts n++kT) (os n++kO))) (k:n < 9223372036854775807:=by omega)
  (j:vZ e.t g=kT:=by simp only [go_sem,seval]<;>exact rfl) (h:v7 e.o f=kO:=by simp only [go_sem,seval]<;>exact rfl):aM body Q e:=
 aM.uB n g f (fun i _=>ts i) (fun i _=>os i) (fun _ _=>True) () trivial d hr l k j h
variable {a b:List Nat}
theorem aM.wt {k:Nat} (g:Tg a b k) (n:Nat) (I:Nat->Unit->Prop) (f:I 0 ())
  (hr:∀ i (s:Unit),i < n->decide ((i:Int) < (n:Int))=true->IntKind.wrap .i64 ((i:Int)+1)=((i+1:Nat):Int)->I i s->body (kV (fun x:Nat × Unit=>[(k,.int .i64 x.1)]++kT) (fun _=>[]++kO) (td n I) (th n) (i,s) Q) (tL ([(k,.int .i64 i)]++kT) ([]++kO)))
  (m:∀ s:Unit,decide ((n:Int) < (n:Int))=false->I n s->body (kV (fun x:Nat × Unit=>[(k,.int .i64 x.1)]++kT) (fun _=>[]++kO) (td n I) (th n) (n,s) Q) (tL ([(k,.int .i64 n)]++kT) ([]++kO))) (l:n < 9223372036854775807:=by omega)
  (j:vZ e.t a=kT:=by simp only [go_sem,seval]<;>exact rfl) (h:v7 e.o b=kO:=by simp only [go_sem,seval]<;>exact rfl)
  (d:Me e ([(k,.int .i64 ((0:Nat):Int))]++kT) ([]++kO):=by simp only [go_sem,seval]<;>simp):aM body Q e:=
 aM.w1 n k a b I f hr m l j h d
variable {i n:Nat}
theorem av.kW {s:S} {ts os:Nat × S->EL} {I:Nat->S->Prop} (d:S) (f:i < n) (h:I (i+1) d) (g:Me e (ts (i+1,d)) (os (i+1,d))):av ts os (td n I) (th n) (i,s) e:=
 ⟨(i+1,d),⟨f,h⟩,g,by show n-(i+1) < n-i;omega⟩
variable {ts os:Nat × Unit->EL} {s:Unit} {c:Nat->Unit->Prop}
theorem av.u (d:i < n) (h:c (i+1) ()) (f:Me e (ts (i+1,())) (os (i+1,()))):av ts os (td n c) (th n) (i,s) e:=av.kW () d h f
theorem av.v (d:i < n) (f:Me e (ts (i+1,())) (os (i+1,()))):av ts os (td n fun _ _=>True) (th n) (i,s) e:=av.kW () d trivial f
theorem fZ {A:Type} {xs:List A} (h:i < xs.length):xs.drop i=xs[i] :: xs.drop (i+1):=List.drop_eq_getElem_cons h
variable {r:Nat}
theorem Yo {d:D} (h:kN d=true):d.kill r=d:=by
 cases d<;>first | (cases h;done) | rfl
theorem KC {X:List D} (h:∀ d∈X,kN d=true):D.jN r X=X:=by
 rw [jT];exact (List.map_congr_left fun d f=>Yo (h d f)).trans (List.map_id' _)
end Go.Abs
namespace Go.Abs
variable {np:Nat}
theorem eZ.dq {os:Array Oper} (h:AY np os=true:=by kernel_rfl):eZ np os:=eZ.mk h
theorem vO.dq {ops:List Oper} {o:Oper} {r:Nat} (h:rT np ops o r=true:=by kernel_rfl):vO np ops o r:=vO.mk h
structure Hd (q:Prop):Prop where
 out:q
variable {p:Prop}
theorem dP {q:Prop} (k:q) (h:Hd q->p:=by
 intro k
 (with_reducible and_intros)<;>first | exact .dq | omega | exact k.out):p:=h ⟨k⟩
variable {a:Int}
theorem gN {x:Int} (h1:-9223372036854775808<=x:=by omega) (h2:x < 9223372036854775808:=by omega) (h:x=a:=by omega):IntKind.wrap .i64 x=a:=by rw [IntKind.wrap_i64];omega
theorem iC [Decidable p] (h:p:=by omega):decide p=true:=dI h
theorem jL [Decidable p] (h:¬ p:=by omega):decide p=false:=eJ h
theorem clo (h:p:=by
 first
  | omega
  | rfl
  | (refine e0 ?_;clear e0 e1;rw [hk];clear hk;simp_all;done)
  | (refine e0 ?_;clear e0 e1;rw [hk];clear hk;simp_all;omega)
  | (rw [e1 ?_];clear e0 e1;rw [hk];clear hk;simp_all;done)
  | (rw [e1 ?_];clear e0 e1;rw [hk];clear hk;simp_all;omega)
  | (rw [e1 ?_]
     ·rfl
     ·clear e0 e1;rw [hk];clear hk;simp_all;done)
  | (rw [e1 ?_]
     ·rfl
     ·clear e0 e1;rw [hk];clear hk;simp_all;omega)):p:=h
variable {A:Type _}
theorem aQ (a:A):∃ x,x=a:=⟨_,rfl⟩
theorem qn {B:Type _} {f:A->B} {l:List A}:(l.map f).length=l.length:=List.length_map f
theorem cU (a b:Bool):((a&&b)=true)=(a=true/\b=true):=Bool.and_eq_true a b
theorem nJ:(false=true)=False:=Bool.false_eq_true
variable {B:Type}
theorem mI {A:Type} (f:A->List B) {xs:List A} {i:Nat} (h:i < xs.length):(xs.take (i+1)).flatMap f=(xs.take i).flatMap f++f xs[i]:=by
 rw [l7 h,List.flatMap_append];simp
theorem PR (f:Nat->List B) (i:Nat):(List.range (i+1)).flatMap f=(List.range i).flatMap f++f i:=by
 rw [List.range_succ,List.flatMap_append];simp
theorem gw {A B:Type} {f:A->List B} {m:Nat} (h:∀ a,(f a).length<=m):∀ xs:List A,(xs.flatMap f).length<=m*xs.length
 | []=>by simp
 | x :: r=>by
  have h1:=h x;have h2:=gw h r;simp only [List.flatMap_cons,cm,List.length_cons,Nat.mul_succ];omega
theorem F7 {f:Nat->List B} {m:Nat} (h:∀ a,(f a).length<=m) (i:Nat):((List.range i).flatMap f).length<=m*i:=by
 have:=gw h (List.range i);simpa using this
end Go.Abs
namespace Go.Abs
section
variable (τ:TypeId->TypeId) (ρ:FuncId->FuncId)
def I8:Operand->Operand
 | .func f=>.func (ρ f)
 | o=>o
def Zo:Callee->Callee
 | .value f=>.value (I8 ρ f)
 | c=>c
def GF:Op->Op
 | .load t a=>.load (τ t) (I8 ρ a)
 | .store t a v=>.store (τ t) (I8 ρ a) (I8 ρ v)
 | .binOp o t x y u=>.binOp o (τ t) (I8 ρ x) (I8 ρ y) (τ u)
 | .unOp o t x=>.unOp o (τ t) (I8 ρ x)
 | .convert a b x=>.convert (τ a) (τ b) (I8 ρ x)
 | .slice t x l h m=>.slice (τ t) (I8 ρ x) l h m
 | .indexAddr t x i=>.indexAddr (τ t) (I8 ρ x) (I8 ρ i)
 | .makeSlice t l c=>.makeSlice (τ t) l c
 | .call c=>.call ⟨Zo ρ c.callee,c.args,⟨c.argTypes.toList.map τ⟩⟩
 | o=>o
def Zp (o:Oper):Oper:=⟨o.dst,GF τ ρ o.op,τ o.type,o.pos,o.after,o.guard⟩
def I7:Code->Code
 | .region i ops d=>.region i ⟨ops.toList.map (Zp τ ρ)⟩ d
 | .seq a b=>.seq (I7 a) (I7 b)
 | .cond c a b=>.cond (I8 ρ c) (I7 a) (I7 b)
 | .block i b=>.block i (I7 b)
 | .loop b=>.loop (I7 b)
 | c=>c
end
def gp (np:Nat):Code->Bool
 | .region _ ops d=>!d||AY np ops
 | .seq a b=>gp np a&&gp np b
 | .cond _ a b=>gp np a&&gp np b
 | .block _ b=>gp np b
 | .loop b=>gp np b
 | _=>true
structure Mi (P:Program) (τ:TypeId->TypeId) (ρ:FuncId->FuncId) (k:FuncId) (np:Nat):Prop where
 ok : ∃ f0 f c0, P.funcs[k]? = some f0 /\ P.funcs[ρ k]? = some f /\ f0.body = some c0 /\ f.body = some (I7 τ ρ c0) /\ gp np (I7 τ ρ c0) = true /\ f.ntmps = f0.ntmps /\ f.results = f0.results /\ (f.name == "runtime.NumGoroutine") = false
variable {ρ:FuncId->FuncId} {τ:TypeId->TypeId} {b:Code} {a:Func}
theorem nC {P : Program} {k np : Nat} {f : Func} (h0 : P.funcs[k]? = some a) (h1 : P.funcs[ρ k]? = some f) (hb : a.body = some b := by exact rfl) (hc : f.body = some (I7 τ ρ b) := by kernel_rfl) (hd : gp np (I7 τ ρ b) = true := by kernel_rfl) (hn : f.ntmps = a.ntmps := by kernel_rfl) (hr : f.results = a.results := by kernel_rfl) (hx : (f.name == "runtime.NumGoroutine") = false := by kernel_rfl) : Mi P τ ρ k np :=
 ⟨a,f,b,h0,h1,hb,hc,hd,hn,hr,hx⟩
variable {e g:List D}
theorem IA (n np:Nat) (rs:List ResultVar) {P:Program} {k:FuncId} (R:Mi P τ ρ k np) (v:P.follows .mixedOrders=true) {fn:Func} {c:Code} (u:P.funcs[k]?=some fn) {ds:List D} {d:D} (x:gp np (I7 τ ρ c)=true->mF P n np (I7 τ ρ c) (VD P rs e.length g d) (tL (Xn 0 ds) (wK 0 e)))
  (r:fn.body=some c:=by exact rfl) (hr:fn.results.toList=rs:=by exact rfl) (w:fn.ntmps=n:=by exact rfl) (m:ds.length=np:=by exact rfl) (i:np<=n:=by simp) (j:e.length<=16:=by simp):Abs.Spec P (ρ k) e ds g d:=by
 obtain ⟨f0,f,c0,p,q,h,s,t,l,o,y⟩:=R.ok;rw [u] at p;obtain rfl:=Option.some.inj p;rw [r] at h;obtain rfl:=Option.some.inj h;exact Spec.apC v q s (by rw [o,hr]) (by rw [l,w]) y m i j (x t)
end Go.Abs
namespace Go.Abs
theorem a2 {a b:Prop} (x:a) (y:b):a/\b:=⟨x,y⟩
theorem a3 {a b c:Prop} (x:a) (y:b) (z:c):a/\b/\c:=⟨x,y,z⟩
theorem a4 {a b c d:Prop} (x:a) (y:b) (z:c) (w:d):a/\b/\c/\d:=⟨x,y,z,w⟩
theorem a5 {a b c d e:Prop} (x:a) (y:b) (z:c) (w:d) (v:e):a/\b/\c/\d/\e:=⟨x,y,z,w,v⟩
section
variable {E C p q:Prop}
theorem sm (e:E) (k:q) (h:E->p=q:=by intro e;simp only [go_sem,seval,e]<;>exact rfl):p:=(h e).mpr k
theorem s0 (k:q) (h:p=q:=by simp only [go_sem,seval]<;>exact rfl):p:=h.mpr k
theorem fL (e:E) (h:E->p:=by intro e;simp only [go_sem,seval,e]):p:=h e
theorem gU (h:p:=by simp only [go_sem,seval]):p:=h
theorem okx (h:p:=by (with_reducible and_intros)<;>first | exact .dq | omega):p:=h
theorem sc (e:E) (c:C) (k:q) (h:E->C->Hd q->p:=by
 intro e c k;try simp only [go_sem,seval,e]
 (with_reducible and_intros)<;>first
  | (refine aD.bp c ?_;try simp only [go_sem,seval,e]
     exact k.out)
  | exact .dq
  | omega):p:=h e c ⟨k⟩
theorem sl (e:E) (c:C) (k:q) (h:E->C->Hd q->p:=by
 intro e c k;try simp only [go_sem,seval,e]
 (with_reducible and_intros)<;>first
  | (refine aD.iT [] [] true (by simp) ?_;simp only [go_sem,seval,e];refine cY.gB c ?_;try simp only [go_sem,seval,e]
     exact k.out)
  | exact .dq
  | omega):p:=h e c ⟨k⟩
theorem so (e:E) (c:C) (k:q) (h:E->C->Hd q->p:=by
 intro e c k;try simp only [go_sem,seval,e]
 (with_reducible and_intros)<;>first
  | (refine aD.iT [] [] false (by simp) ?_;simp only [go_sem,seval,e];refine cY.gB c ?_;try simp only [go_sem,seval,e]
     exact k.out)
  | exact .dq
  | omega):p:=h e c ⟨k⟩
theorem sg (g:List Nat) (e:E) (c:C) (k:q) (h:∀ r,r=g->E->C->Hd q->p:=by
 intro r hr e c k;try simp only [go_sem,seval,e]
 (with_reducible and_intros)<;>first
  | (refine aD.iT [] r false (by simp) ?_;subst hr;simp only [go_sem,seval,e];refine cY.gB c ?_;try simp only [go_sem,seval,e]
     exact k.out)
  | exact .dq
  | omega):p:=h g rfl e c ⟨k⟩
theorem sp (g:List Nat) (e:E) (c:C) (k:q) (h:∀ r,r=g->E->C->Hd q->p:=by
 intro r hr e c k;try simp only [go_sem,seval,e]
 (with_reducible and_intros)<;>first
  | (refine n8.tO r (by subst hr;kernel_rfl) ?_;subst hr;simp only [go_sem,seval,e]
     (with_reducible and_intros)<;>first
      | (refine jv.intro c ?_;try simp only [go_sem,seval,e]
         exact k.out)
      | exact .dq
      | omega)
  | exact .dq
  | omega):p:=h g rfl e c ⟨k⟩
theorem jW (e:E) (c:C) (h:E->C->p:=by
 intro e c;try simp only [go_sem,seval,e]
 (with_reducible and_intros)<;>first
  | (refine aD.bp c ?_;simp only [go_sem,seval,e];try ((with_reducible and_intros)<;>first | exact .dq | omega))
  | exact .dq
  | omega):p:=h e c
theorem Xh (e:E) (c:C) (h:E->C->p:=by
 intro e c;try simp only [go_sem,seval,e]
 (with_reducible and_intros)<;>first
  | (refine aD.iT [] [] true (by simp) ?_;simp only [go_sem,seval,e];refine cY.gB c ?_;simp only [go_sem,seval,e];try ((with_reducible and_intros)<;>first | exact .dq | omega))
  | exact .dq
  | omega):p:=h e c
theorem sox (e:E) (c:C) (h:E->C->p:=by
 intro e c;try simp only [go_sem,seval,e]
 (with_reducible and_intros)<;>first
  | (refine aD.iT [] [] false (by simp) ?_;simp only [go_sem,seval,e];refine cY.gB c ?_;simp only [go_sem,seval,e];try ((with_reducible and_intros)<;>first | exact .dq | omega))
  | exact .dq
  | omega):p:=h e c
theorem Hv (g:List Nat) (e:E) (c:C) (h:∀ r,r=g->E->C->p:=by
 intro r hr e c;try simp only [go_sem,seval,e]
 (with_reducible and_intros)<;>first
  | (refine aD.iT [] r false (by simp) ?_;subst hr;simp only [go_sem,seval,e];refine cY.gB c ?_;simp only [go_sem,seval,e];try ((with_reducible and_intros)<;>first | exact .dq | omega))
  | exact .dq
  | omega):p:=h g rfl e c
end
end Go.Abs
