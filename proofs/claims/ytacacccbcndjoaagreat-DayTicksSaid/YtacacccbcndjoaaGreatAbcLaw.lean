/- From the reading of a law's arguments to data, and back. No theorem of a claim. -/
import Derived.Test.YtacacccbcndjoaaGreatAbcEval2
import Derived.Carry
import Derived.ProofKit
import Derived.OpenShut
import Derived.Lib.SmallJoins
set_option linter.unusedSimpArgs false
set_option linter.unusedVariables false
namespace Go.Abs
open Go.ChangeShapes Go.WideShapes Go.ChangeAt Go.RowKit
section
variable {H:Type} {enc:TypeId × Value->H} {P:Program}
def MV (P:Program) (ts:List TypeId):Bool:=ts.all fun t=>P.readableRec t&&decide (t < P.types.size)
theorem uT (hl:laidOutB P=true) {W W':World} (hb:Below W.heap.size W W') {sp:Nat->Bool}:∀ {ts:List TypeId} {vs:List Value} {ds:List (DataW H)} {p:List MemPlace},MV P ts=true ->
  DataW.TrodAll enc P W 0 (fun _=>true) true ts vs ds p->(∀ x∈p,x.block < W.heap.size)->(∀ x∈p,sp x.block=true)->DataW.TrodAll enc P W' 0 sp true ts vs ds p
 | [],_,_,_,_,h,_,_=>by
  obtain ⟨rfl,rfl,rfl⟩:=trodAll_nil h;exact trodAll_mk0
 | t :: ts,_,_,_,hr,h,hlt,hsp=>by
  obtain ⟨v,vs',d,ds',p,q,rfl,rfl,rfl,h1,h2⟩:=trodAll_cons h;simp only [MV,List.all_cons,Bool.and_eq_true,decide_eq_true_eq] at hr;refine ⟨p,q,?_,uT hl hb (by simpa [MV] using hr.2) h2 (fun x hx=>hlt x (List.mem_append_right _ hx)) (fun x hx=>hsp x (List.mem_append_right _ hx)),rfl⟩;exact WideElems.Trod_stays hl hr.1.1 hr.1.2 h1 (fun x hx=>hb.same (hlt x (List.mem_append_left _ hx))) (fun x hx=>hsp x (List.mem_append_left _ hx))
theorem Spec.law {f:FuncId} {ds:List D} (h:Spec P f [] ds [] (.bool true)) {vs:Array Value} {W:World} (hT:VY W fun _=>none) (hs:vs.size=ds.length) (hr:∀ (i:Nat) v x,vs[i]?=some v->ds[i]?=some x->aE (cx W (fun _=>none) (fun _=>none)) v x) :
  Calls P f vs W fun e W'=>e=.returned (.bool true)/\Below W.heap.size W W':=by
 refine Calls.mono (h.2 W (fun _=>none) (fun _=>none) (fun _=>none) (fun _=>none) vs hT (by intro b m h;cases h) (by intro b lo hi h;cases h) hs hr ?_) ?_
 ·intro r;have:([]:List D).getD r .undef=.undef:=by simp
  rw [this];rfl
 ·rintro e W' ⟨v,rfl,ho⟩
  obtain ⟨lev,own,S,_,_,hv,_,_⟩:=ho.rep;have:=hv.iI;subst this;exact ⟨rfl,ho.os,ho.tape,ho.output,ho.size,fun k hk=>ho.old k hk rfl⟩
theorem QI {f:Func} {s:ChangeSpec} {apart fresh handsOn again:Bool} {W W':World} {args:Array Value} {ds gs:List (DataW H)} {before:List MemPlace} {rt:TypeId}
  (hW:DataW.Whole enc P f.params.toList s.vars apart W args.toList ds gs before) (hv:s.vars=[]) (hb:Below W.heap.size W W') (hl:laidOutB P=true) (hr:MV P f.params.toList=true)
  (hrt:f.resultTypes = #[rt]) (ht:P.underlying rt=some .bool) (hf:s.fn H (ds++gs)={ results:=[.lit (.bool true)],args:=ds }) :
  s.post enc P f apart fresh handsOn again W args (.bool true) W':=by
 have hWW:=hW;obtain ⟨p,q,hA,hV,rfl,hz,hn⟩:=hW;rw [hv] at hV;obtain ⟨rfl,rfl⟩:=trodVars_none hV;have hlt:∀ x∈p,x.block < W.heap.size:=fun x hx=>by simpa using hWW.lt x (by simp [hx])
 have hargs:∀ sp:Nat->Bool,(∀ x∈p,sp x.block=true)->DataW.TrodAll enc P W' 0 sp true f.params.toList args.toList (s.fn H (ds++[])).args p:=fun sp hsp=>by
  rw [hf];exact uT hl hb hr hA hlt hsp
 have hvars:∀ sp:Nat->Bool,DataW.TrodVars enc P W' sp s.vars (s.fn H (ds++[])).vars []:=fun sp=>by
  rw [hf,hv];rfl
 have hres:∀ (b:Nat) (sp:Nat->Bool) (hd:Bool),DataW.TrodAll enc P W' b sp hd f.resultTypes.toList ((Value.bool true).resultList f.resultTypes.size) (s.fn H (ds++[])).results []:=fun b sp hd=>by
  rw [hf,hrt];exact trodAll_cons_mk (shut_bool ht _) trodAll_mk0
 have hold:∀ x∈p,(fun b=>decide (b < W.heap.size)) x.block=true:=fun x hx=>by simpa using hlt x hx
 refine ⟨ds,[],p++[],[],p,[],hWW,hres _ _ _,hargs _ hold,hvars _,World.keptBut_mono (fun x hx=>⟨hx,?_⟩) (hb.frame (· ∈ p++[])),fun _=>?_⟩
 ·simpa using hx
 ·refine ⟨ok_one hrt rfl (okWide_bool_mk ht _),_,_,([]++p)++[],⟨[]++p,[],trodAll_append (hargs _ (fun _ _=>rfl)) (hres _ _ _),hvars _,rfl,?_,?_⟩,?_⟩
  ·intro b off hp;rw [hb.frozen (hlt (.cell b off) (by simpa using hp))];exact hz b off (by simpa using hp)
  ·intro ha;simpa using hn ha
  ·intro x hx _;simpa using hx
end
end Go.Abs
