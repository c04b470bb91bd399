/- EngineTrades: for every input the law returns true, and its arguments read as before. -/
import Derived.Test.YtccipdjjkcejgaaGreatLK
import Derived.Test.YtccipdjjkcejgaaGreatAB
import Derived.Test.YtccipdjjkcejgaaGreatPFK
set_option linter.unusedSimpArgs false
set_option linter.unusedVariables false
open Go.Proofs.YtccipdjjkcejgaaGreat.Rows Go.Proofs.Tryz
namespace Go.Proofs.YtccipdjjkcejgaaGreat
open Go.ChangeShapes Go.WideShapes Go.ChangeAt Go.RowKit Go.Abs

theorem own:ownKnob prog.godebug=Option.none:=by kernel_rfl
theorem laidOut:laidOutB prog=true:=by kernel_rfl
set_option maxRecDepth 100000 in
theorem lifted (os:Os) (h:os.Started) (H:Type) (enc:TypeId × Value->H) :
  ReturnsInHanded {} checked os 9 .any (engineTradesSpec.pre6 enc prog f9 engineTradesRow.domain false) (engineTradesSpec.post enc prog f9 false true false false):=by
 refine returnsInHanded_of_change_sized (C:=checked) own h (by kernel_rfl) func9
  (ChangeSpec.witness6 (enc:=enc) (C:=checked) false ⟨#[],#[.slice none 0 0,.int .i64 0,.int .i64 0,.int .i64 0,.int .i64 0,.int .i64 0,.int .i64 0],[]⟩ 8 (by kernel_rfl) (by kernel_rfl) (by kernel_rfl) (by kernel_rfl)) ?_
 intro W k args ds gs before g I hcnd w _;have a:∀ (j:Nat) t v,f9.params[j]?=some t->args[j]?=some v->Value.okWide prog W .any k t v:=g;have o:=I;obtain ⟨p,q,l,hV,rfl,hfz,hnd⟩:=I;have G:DataW.TrodAll enc prog W 0 (fun _=>true) true f9.params.toList args.toList ds p:=l;rw [params9] at G a;obtain ⟨J,vs0,R,ds0,p0,q0,hargs,rfl,rfl,Z,r0⟩:=trodAll_cons G;obtain ⟨K,vs1,S,ds1,p1,q1,rfl,rfl,rfl,h1,r1⟩:=trodAll_cons r0;obtain ⟨L,vs2,T,ds2,p2,q2,rfl,rfl,rfl,n,r2⟩:=trodAll_cons r1;obtain ⟨M,vs3,U,ds3,p3,q3,rfl,rfl,rfl,h3,r3⟩:=trodAll_cons r2;obtain ⟨N,vs4,V,ds4,p4,q4,rfl,rfl,rfl,h4,r4⟩:=trodAll_cons r3;obtain ⟨O,vs5,X,ds5,p5,q5,rfl,rfl,rfl,h5,r5⟩:=trodAll_cons r4;obtain ⟨G6,vs6,H6,ds6,p6,q6,rfl,rfl,rfl,h6,r6⟩:=trodAll_cons r5;obtain ⟨rfl,rfl,rfl⟩:=trodAll_nil r6;obtain rfl:args = #[J,K,L,M,N,O,G6]:=by cases args;simp_all
 obtain ⟨rfl,rfl⟩:=trodVars_none hV;have hz:(DataW.weightsEach prog [57,3,3,3,3,3,3] [R,S,T,U,V,X,H6]).all (· <= reachBytes)=true:=w;obtain ⟨rows0,Y,m⟩:=vr (z:=17) (s:=[.int .i64,.int .i64,.int .i64,.int .i64,.int .i64,.int .i64,.int .i64,.int .i64,.int .i64,.int .i64,.int .i64,.int .i64,.int .i64,.int .i64,.int .i64,.int .i64,.int .i64]) underlying57 (by kernel_rfl) (a 0 57 J rfl rfl) Z (gL hz 0 rfl rfl);obtain ⟨P,rfl,E⟩:=sY (c:=aN.cells) pR Y.2;obtain ⟨Q,rfl,x,hi1⟩:=rV underlying3 (a 1 3 K rfl rfl) h1;obtain ⟨a2,rfl,y,hi2⟩:=rV underlying3 (a 2 3 L rfl rfl) n;obtain ⟨a3,rfl,A,Wx⟩:=rV underlying3 (a 3 3 M rfl rfl) h3;obtain ⟨a4,rfl,B,r⟩:=rV underlying3 (a 4 3 N rfl rfl) h4;obtain ⟨a5,rfl,D,u⟩:=rV underlying3 (a 5 3 O rfl rfl) h5;obtain ⟨a6,rfl,D6,u6⟩:=rV underlying3 (a 6 3 G6 rfl rfl) h6;clear l g;refine ((xQp P Q a2 a3 a4 a5 a6 E).law (yU fun t ht=>by have n:t∈([]:List (Nat × Mj)):=ht;simp at n) rfl ?_).mono fun e W' ⟨he,hb⟩=>?_
 ·intro i v d b f
  match i,b,f with
  | 0,b,f=>simp at b f;subst b;subst f;exact m
  | 1,b,f=>simp at b f;subst b;subst f;exact .int _ _
  | 2,b,f=>simp at b f;subst b;subst f;exact .int _ _
  | 3,b,f=>simp at b f;subst b;subst f;exact .int _ _
  | 4,b,f=>simp at b f;subst b;subst f;exact .int _ _
  | 5,b,f=>simp at b f;subst b;subst f;exact .int _ _
  | 6,b,f=>simp at b f;subst b;subst f;exact .int _ _
  | i+7,b,f=>simp at b
 ·subst he;exact ⟨_,rfl,uw o rfl hb laidOut (by kernel_rfl) (by kernel_rfl) underlying4 rfl⟩
theorem K7:engineTradesRow.holds Tryz.pinned (OpenSpec.ofChange engineTradesSpec):=
 OpenClaim.holds_of_wide 9 f9 rfl rfl rfl rfl rfl rfl rfl ⟨rfl,rfl,rfl,rfl,rfl⟩ rfl rfl rfl rfl rfl agA func9 ad2
  (of_decide_eq_true agM) agS
  (fun os a H enc _=>lifted os a H enc)
theorem ad3:Rows.EngineTradesSaid:=K7
end Go.Proofs.YtccipdjjkcejgaaGreat
#print axioms Go.Proofs.YtccipdjjkcejgaaGreat.ad3
