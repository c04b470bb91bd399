/- copy, clear, cap, append within a box; a slice held against nil. No theorem of a claim. -/
import Derived.Test.YtacacccbcndjoaaGreatAbcOpen
set_option linter.unusedSimpArgs false
set_option linter.unusedVariables false
namespace Go.Abs
section
variable {P:Program} {n:Nat} {w0 w w':World} {l0:Nat->Option Nat} {G:Nat->Option (Nat × Nat)} {S0:Nat->Option Value} {lev lev' own own':Nat->Option Nat} {S S':Nat->Option Value} {env env':Env} {tm tm':Nat->Value}
theorem Inv.PY (h:Inv w0 l0 G S0 w lev own S env tm) {r off:Nat} {cs ds:List D} (he:env.o r=.box cs) {news:List Value} (hlen:news.length=ds.length) (hone:∀ v∈news,v.oneCell'=true)
  (hrep:∀ (j:Nat) v d,news[j]?=some v->ds[j]?=some d->aE (cx w lev S) v d) (hoff:off+ds.length<=cs.length) {ad:Addr} (ha:S r=some (.pointer (some ad))) :
  ∃ w',(storeCells (ad.add off) news).run P w=.ok () w'/\Inv w0 l0 G S0 w' lev own S (dV env r (.box (kP cs off ds))) tm:=by
 have hobj:=h.objs r;rw [he] at hobj;obtain ⟨b,o,c,E,h1,h2,h3,h4,h5,h6,h7⟩:=hobj;have:ad=⟨b,o,none⟩:=by rw [h1] at ha;cases ha;rfl
 subst this;have hl2:(o+off)+news.length<=c.size:=by omega
 have hget:∀ j,(dj c (o+off) news)[j]?=if o+off<=j/\j < o+off+ds.length then news[j-(o+off)]? else c[j]?:=by
  intro j;rw [jL _ _ _ _ hl2,hlen]
 refine ⟨ew w b (dj c (o+off) news) E,?_,?_⟩
 ·have:=iU (P:=P) b (o+off) E news 0 c w h2 (by simpa using hl2) hone;simp only [Nat.add_zero] at this;rw [eZ];exact this
 have hvl:mA w lev (ew w b (dj c (o+off) news) E) lev:=nu h4;refine h.setObj (oQ h h2 (dH _ _ _) h6 ?_) hvl (fun _ _=>rfl) (fun _ h=>h) (.inr (by rw [he];simp)) ?_ ?_
 ·intro j hj;rw [hget,if_neg (by omega)]
 ·intro b' s hs _ hb' _
  have:b'≠b:=by
   rintro rfl
   rw [h5] at hb';cases hb';exact hs rfl
  exact ⟨lQ this _ _,rfl,rfl⟩
 ·have hwl:(kP cs off ds).length=cs.length:=mz (by omega);refine ⟨b,o,_,E,h1,jW (lt_of_block h2) _ _,by rw [dH,hwl];exact h3,h4,h5,by rw [hwl];exact h6,?_⟩;intro j u e hu he';rw [hget] at hu;rw [xp (by omega)] at he'
  by_cases hj:off<=j/\j < off+ds.length
  ·rw [if_pos (by omega)] at hu;rw [if_pos hj] at he';have e1:o+j-(o+off)=j-off:=by omega
   rw [e1] at hu;exact (hrep _ u e hu he').uY hvl fun _ _ h=>h
  ·rw [if_neg (by omega)] at hu;rw [if_neg hj] at he';exact (h7 j u e hu he').uY hvl fun _ _ h=>h
theorem kR.take {V:Cx} {a:Option Addr} {len cap z m:Nat} {R:List (List D)} (h:kR w V (.slice a len cap) z R) (hm:m<=R.length):kR w V (.slice a m cap) z (R.take m):=by
 obtain ⟨a',cap',e,h1,h2,h3,h4,h5⟩:=h;cases e;have hl:(R.take m).length=m:=by simp;omega
 have:=show kR w V (.slice a (R.take m).length cap) z (R.take m) from
  ⟨a,cap,rfl,by omega,fun r hr=>h2 r (List.mem_of_mem_take hr),fun r hr=>h3 r (List.mem_of_mem_take hr),fun ha=>by rw [h4 ha];simp,fun ad ha i j row d hi hj=>by
   have him:i < m:=by have:=(List.getElem?_eq_some_iff.1 hi).1;rw [hl] at this;exact this
   rw [List.getElem?_take_of_lt him] at hi
   exact h5 ad ha i j row d hi hj⟩
 rwa [hl] at this
section
variable {e:Env} {K:Env->Prop} {d:Nat} {ty T T2:TypeId} {pos:String} {after:Array Edge} {gu:Option (Nat × Bool)}
theorem gU.cap {x:Operand} {z by_:Nat} {ea:Bool} {r off l c:Nat} (hT:bO P T=.slice z by_ ea) (hx:rd e x=.eI r off z l c) (hd:d < n) (hK:K (cy e d (.int .i64 c))):gU P n ⟨some d,.call ⟨.builtin .cap,#[x],#[T]⟩,ty,pos,after,gu⟩ e K:=by
 intro w0 l0 G S0 w lev own S a next Q h hn hdf hnext
 have hox:=h.FY a rfl x;rw [hx] at hox;obtain ⟨el,inf,hu,_⟩:=eK hT;obtain ⟨ad,a',cap',hS,hv,g3,g4,g5,rfl,g6⟩:=hox.ju;refine upon_value rfl (u:=.int .i64 cap') ?_ (gJ hn hdf hnext hd (h.put (.int _ _)) hK);have hm:(#[x].map a.eval:Array Value) = #[a.eval x]:=by simp
 simp [execOp,resolve,Sem.run_bind,pure,Sem.run,invoke,builtin,hm,Builtin.cap_,bG hu,hv,goInt]
theorem Oj {t el:TypeId} (hu:P.underlying t=some (.slice el)) (a:Option Addr) (l c:Nat):(Op.equal t (.slice a l c) (.slice none 0 0)).run P w=.ok a.isNone w:=by
 show (Op.equalIn (9999+1) t _ _).run P w=_
 cases a<;>(unfold Op.equalIn;simp only [Sem.run_bind,bG hu,Result.andThen_ok];rfl)
theorem gU.sO {x:Operand} {z by_ z':Nat} {ea:Bool} {rows:List (List D)} {t2:TypeId} (hT:bO P T=.slice z by_ ea) (hx:rd e x=.sl z' rows) (hd:d < n) (hK:∀ b:Bool,(b=true->rows=[])->K (cy e d (.bool b))) :
  gU P n ⟨some d,.binOp .eql T x (.const (.slice none 0 0)) t2,ty,pos,after,gu⟩ e K:=by
 intro w0 l0 G S0 w lev own S a next Q h hn hdf hnext
 have hox:=h.FY a rfl x;rw [hx] at hox;obtain ⟨el,inf,hu,_⟩:=eK hT;obtain ⟨ad,cap,hv,h1,h2,h3,h4,h5⟩:=hox.vu;have hc:a.eval (.const (.slice none 0 0))=.slice none 0 0:=rfl;have he:=Oj (P:=P) (w:=w) hu ad rows.length cap
 have hex:∀ b:Bool,ad.isNone=b->(execOp a.eval ⟨some d,.binOp .eql T x (.const (.slice none 0 0)) t2,ty,pos,after,gu⟩).run P w=.ok (.value (.bool b)) w:=by
  rintro b rfl
  have hg:(eqGuard .eql T x (.const (.slice none 0 0)) (.slice ad rows.length cap) (.slice none 0 0)).run P w=.ok () w:=by simp [eqGuard,Sem.run,pure]
  have hb:(binOp .eql T (.slice ad rows.length cap) (.slice none 0 0)).run P w=.ok (.bool ad.isNone) w:=by simp [binOp,Sem.run_bind,he,Sem.run,pure]
  simp only [execOp,hv,hc,Sem.run_bind,hg,hb,Result.andThen_ok];rfl
 cases ad with
 | none=>exact upon_value rfl (u:=.bool true) (hex true rfl) (gJ hn hdf hnext hd (h.put (.bool _)) (hK true (fun _=>(h4 rfl).1)))
 | some ad=>exact upon_value rfl (u:=.bool false) (hex false rfl) (gJ hn hdf hnext hd (h.put (.bool _)) (hK false (fun h=>by cases h)))
end
end
end Go.Abs
