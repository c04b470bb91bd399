/- clear, a slice with three bounds, and what is known of two slices that are not one. No theorem of a claim. -/
import Derived.Test.YtacacccbcndjoaaGreatAbcHard
import Derived.Laws.Externs
set_option linter.unusedSimpArgs false
set_option linter.unusedVariables false
namespace Go.Abs
section
variable {P:Program} {n:Nat} {w0 w w':World} {l0:Nat->Option Nat} {G:Nat->Option (Nat × Nat)} {S0:Nat->Option Value} {lev lev' own own':Nat->Option Nat} {S S':Nat->Option Value} {env env':Env} {tm tm':Nat->Value}
variable {e:Env} {K:Env->Prop} {d:Nat} {ty T T2:TypeId} {pos:String} {after:Array Edge} {gu:Option (Nat × Bool)}
theorem Tj {e:Env} {r:Nat} {x:D} (he:e.o r=x):dV e r x=e:=by
 simp only [dV];cases e with
 | mk t o =>
  simp only [Env.mk.injEq,true_and]
  funext j
  by_cases hj:j=r
  ·subst hj;simp only [if_true];exact he.symm
  ·simp [hj]
theorem F0 {o:Oper} {a:Act} {next:Act->World->Prop} {Q:Exit->Act->World->Prop} {u:Value} (hd:o.dst=none) (hr:(execOp a.eval o).run P w=.ok (.value u) w')
  (h:next a w'):o.wp P a w next Q:=by
 unfold Oper.wp;rw [hr];simp only [Oper.upon,hd,Act.put];exact h
theorem gU.clear {x:Operand} {z by_:Nat} {ea:Bool} {r off l c:Nat} {cs zc:List D} (hT:bO P T=.slice z by_ ea) (hx:rd e x=.eI r off z l c) (he:e.o r=.box cs) (hzc:bB P T=some zc) (hzl:zc.length=z) (hzp:∀ d∈zc,dw d)
  (hoff:off+l*z<=cs.length) (hK:K (dV e r (.box (kP cs off (List.replicate l zc).flatten)))) :
  gU P n ⟨none,.call ⟨.builtin .clear,#[x],#[T]⟩,ty,pos,after,gu⟩ e K:=by
 intro w0 l0 G S0 w lev own S a next Q h hn hdf hnext
 have hox:=h.FY a rfl x;rw [hx] at hox;obtain ⟨el,inf,hu,hl,hin,hb,hz,zv,hzv,hzz⟩:=eK hT;have hze:cZ P el=some zc:=by rw [<- hzc];simp [bB,hu]
 obtain ⟨zv',hzr',hzs,hzrep⟩:=qF hze w;have hzr:(zeroValue el).run P w=.ok zv w:=by simp [zeroValue,Sem.run_bind,mo hin,hzv,Sem.run,pure]
 have hzz':zv'=zv:=by rw [hzr] at hzr';cases hzr';rfl
 subst hzz';obtain ⟨ad,a',cap',hS,hv,g3,g4,g5,rfl,g6⟩:=hox.ju;have hm:(#[x].map a.eval:Array Value) = #[a.eval x]:=by simp
 by_cases h0:l=0
 ·subst h0;have hw:kP cs off []=cs:=by simp [kP]
  simp only [List.replicate_zero,List.flatten_nil,hw,Tj he] at hK;refine F0 rfl (u:=.tuple #[]) ?_ (hnext _ _ _ _ _ a hn hdf h hK);cases a'<;>simp [execOp,resolve,Sem.run_bind,pure,Sem.run,invoke,builtin,hm,Builtin.clear_,bG hu,hv]
 ·have ha':=g6 (by omega);subst ha';have hfl:(List.replicate l zc).flatten.length=l*z:=zg hzl l;have hnl:(Builtin.zeroCells zv'.cells l).toList.length=(List.replicate l zc).flatten.length:=by rw [hfl];simp [Builtin.zeroCells,hzz]
  have hat:∀ (j:Nat) v,(Builtin.zeroCells zv'.cells l).toList[j]?=some v->∃ d,zc[j%z]?=some d/\aE (cx w lev S) v d:=by
   intro j v hj;have hjl:j < l*z:=by have:=(List.getElem?_eq_some_iff.1 hj).1;omega
   have hmz:j%z < z:=Nat.mod_lt _ (by omega);have hmz':j%z < zv'.cells.size:=by rw [hzz];exact hmz
   have hmc:j%z < zc.length:=by rw [hzl];exact hmz
   have:v=zv'.cells[j%z]:=by
    simp only [Builtin.zeroCells,Array.getElem?_toList,Array.getElem?_map] at hj;rw [Array.getElem?_eq_getElem (by simp [hzz];exact hjl)] at hj;simp only [Option.map_some,Array.getElem_range,Option.some.injEq,hzz] at hj;rw [<- hj,getElem!_pos zv'.cells _ hmz']
   subst this;exact ⟨zc[j%z],by simp [hmc],hzrep _ (j%z) _ _ (by simp [hmz']) (by simp [hmc])⟩
  obtain ⟨w',hr,hi⟩:=h.PY (P:=P) he hnl (by
   intro v hv;obtain ⟨j,hj⟩:=List.mem_iff_getElem?.1 hv;obtain ⟨d,hd,hr⟩:=hat j v hj
   exact (Av hr (hzp d (List.mem_of_getElem? hd)).1).1) (by
   intro j v d hj hd;have hjl:j < l*z:=by have:=(List.getElem?_eq_some_iff.1 hd).1;omega
   rw [C1 hzl hz l j hjl] at hd;obtain ⟨d',hd',hr⟩:=hat j v hj;rw [hd] at hd';cases hd'
   exact hr) (by rw [hfl];exact hoff) hS
  refine F0 rfl (u:=.tuple #[]) ?_ (hnext _ _ _ _ _ a hn hdf hi hK);cases l with
  | zero=>exact (h0 rfl).elim
  | succ l=>simp [execOp,resolve,Sem.run_bind,pure,Sem.run,invoke,builtin,hm,Builtin.clear_,bG hu,hv,hzr,hr]
theorem Ld {k : FuncId} {fn : Func} {en : Array Value -> Sem Value} {f : Operand} {as : Array Operand} {ts : Array TypeId} {a : Act} {u : Value} (hf : a.eval f = .func (.func k) #[] #[]) (hk : P.funcs[k]? = some fn) (hname : (fn.name == "runtime.NumGoroutine") = false)
  (hb:fn.body.isNone=true) (hn:Extern.findNext fn=none) (he:Extern.find fn=some en) (hr:(en (as.map a.eval)).run P w=.ok u w) :
  (execOp a.eval ⟨some d,.call ⟨.value f,as,ts⟩,ty,pos,after,gu⟩).run P w=.ok (.value u) w:=by
 have h1 : fn.name ≠ "runtime.NumGoroutine" := by simpa using hname
 have h2:fn.body=none:=by simpa using hb
 simp [execOp,resolve,hf,Deferred.ofValue,Sem.run_bind,invoke,callFunc,hk,h1,h2,hn,he,program,mark,Sem.run,pure,hr]
theorem gU.yX {f x y c : Operand} {k : FuncId} {fn : Func} {ts : Array TypeId} {i j m : Int} (hf : rd e f = .fn k []) (hk : P.funcs[k]? = some fn) (hname : (fn.name == "runtime.NumGoroutine") = false) (hb : fn.body.isNone = true) (hn : Extern.findNext fn = none) (he : Extern.find fn = some add64Entry)
  (hx:rd e x=.int .u64 i) (hy:rd e y=.int .u64 j) (hc:rd e c=.int .u64 m) (h1:0<=i) (h2:0<=j) (h3:0<=m) (h4:m<=1) (hd:d < n) (hK:K (cy e d (.bD [.int .u64 ((i+j+m)%18446744073709551616),.int .u64 ((i+j+m) / 18446744073709551616)]))) :
  gU P n ⟨some d,.call ⟨.value f,#[x,y,c],ts⟩,ty,pos,after,gu⟩ e K:=by
 intro w0 l0 G S0 w lev own S a next Q h hnn hdf hnext
 have hof:=h.FY a rfl f;have ho1:=h.FY a rfl x;have ho2:=h.FY a rfl y;have ho3:=h.FY a rfl c;rw [hf] at hof;rw [hx] at ho1;rw [hy] at ho2;rw [hc] at ho3;obtain ⟨cv,hv,hcs,hcc⟩:=hof.Df;have hcv:cv = #[]:=Array.eq_empty_of_size_eq_zero (by simpa using hcs);subst hcv;have hm:(#[x,y,c].map a.eval:Array Value) = #[.int .u64 i,.int .u64 j,.int .u64 m]:=by simp [ho1.dA,ho2.dA,ho3.dA]
 refine upon_value rfl (Ld hv hk hname hb hn he (by rw [hm];exact run_add64 i j m h1 h2 h3 h4 w)) (gJ hnn hdf hnext hd (h.put (.bD _ _ rfl ?_)) hK);intro i' v dd hi' hd';rcases i' with _ | _ | i'
 ·simp at hi' hd';subst hi';subst hd';exact .int _ _
 ·simp at hi' hd';subst hi';subst hd';exact .int _ _
 ·simp at hi'
end
end Go.Abs
