/- States of members behind ticks, ticks one by one: plain law, and what follows. No theorem of a claim. -/
import Derived.Test.YtacacccbcndjoaaGreatKM
import Derived.Test.YtacacccbcndjoaaGreatKE
import Derived.Test.YtacacccbcndjoaaGreatKL
set_option linter.unusedSimpArgs false
set_option linter.unusedVariables false
set_option maxHeartbeats 4000000
set_option maxRecDepth 16000
namespace Go.Proofs.YtacacccbcndjoaaGreat
open Go.Abs
def I1 (l:List au) (m:ak):ak:=if l.any (fun c=>c.who==m.no) then m.put 2 else m
theorem QZ {xs:List ak} {w p:Int} (hp:xs.Pairwise (fun a b=>a.no < b.no)):rT ak.no w (ak.put p) xs=xs.map fun m=>if m.no=w then m.put p else m:=by
 induction xs with
 | nil=>rfl
 | cons x r ih =>
  obtain ⟨h1,h2⟩:=List.pairwise_cons.1 hp;rw [rT,List.map_cons]
  by_cases q:x.no=w
  ·rw [if_pos q,if_pos q];congr 1;rw [List.map_congr_left (g:=id)]
   ·simp
   ·intro m hm;have:=h1 m hm;rw [if_neg (by omega)];rfl
  ·rw [if_neg q,if_neg q,ih h2]
theorem JJ:∀ (l:List au) (r:aq) (a:List au),(∀ c∈l,bq r c.who≠0)->r.okB=true->(eL l (r,a)).1.ms=r.ms.map (I1 l)/\(eL l (r,a)).1.ns=r.ns/\(eL l (r,a)).1.xs=r.xs/\(eL l (r,a)).1.okB=true
 | [],r,a,_,h=>by
  refine ⟨?_,rfl,rfl,h⟩;have:I1 []=id:=by funext m;simp [I1]
  simp [eL,this]
 | c :: t,r,a,h1,h2=>by
  have h:=nx h2 (h1 c (by simp)) (p:=2) (by omega);obtain ⟨p1,p2,p3,p4⟩:=vp h
  obtain ⟨q1,q2,q3,q4⟩:=JJ t (gp r c.who 2) (bM a [c.who]) (fun y hy=>by
   rw [p2];split
   ·decide
   ·exact h1 y (by simp [hy])) p1
  rw [eL];refine ⟨?_,by rw [q2,p3],by rw [q3,p4],q4⟩;rw [q1]
  have hm:(gp r c.who 2).ms=r.ms.map fun m=>if m.no=c.who then m.put 2 else m:=by
   rw [gp,if_pos h];exact QZ (dB.1 h2).1.2
  rw [hm,List.map_map];refine List.map_congr_left fun m _=>?_
  simp only [Function.comp,I1,List.any_cons]
  by_cases q:m.no=c.who
  ·have q2:(c.who==m.no)=true:=by simpa using q.symm
   rw [if_pos q];simp only [q2,Bool.true_or,if_true];split<;>rfl
  ·have q2:(c.who==m.no)=false:=by simpa using fun e=>q e.symm
   rw [if_neg q];simp only [q2,Bool.false_or]
theorem TG {s:af} (hr:s.right) (n:Int):∀ c∈dQ n s.calls,bq s.aj c.who≠0:=fun c hc=>by
 obtain ⟨x,hx,hc⟩:=List.mem_flatMap.1 hc;split at hc
 ·obtain rfl:=List.mem_singleton.1 hc;have:=hr.known.cs _ hx;omega
 ·cases hc
theorem FC (n:Int) (xs:List au) (p:au->Bool):(dQ n xs).any p=xs.any fun c=>decide (c.till<=n)&&p c:=by
 induction xs with
 | nil=>rfl
 | cons x r ih =>
  rw [show dQ n (x :: r)=(if x.till<=n then [x] else [])++dQ n r from rfl,List.any_append,ih,List.any_cons]
  by_cases q:x.till<=n<;>simp [q]
def jj (n:Int) (cs:List au) (w:Int):Bool:=cs.any fun c=>decide (c.till<=n)&&c.who==w
theorem n5 {s:af} {n:Int} (hr:s.right) (he:dL s n=0):cE s n={ s with now:=s.now+n,aj:=⟨s.aj.ms.map (fun m=>if jj (s.now+n) s.calls m.no then m.put 2 else m),s.aj.ns,s.aj.xs⟩,calls:=s.calls.filter fun c=>!jj (s.now+n) s.calls c.who }:=by
 rw [cE,if_pos he];obtain ⟨h1,h2,h3,_⟩:=JJ _ s.aj s.calls (TG hr (s.now+n)) hr.aj
 have e1:(eL (dQ (s.now+n) s.calls) (s.aj,s.calls)).1=⟨s.aj.ms.map (fun m=>if jj (s.now+n) s.calls m.no then m.put 2 else m),s.aj.ns,s.aj.xs⟩:=by
  have:∀ r:aq,r=⟨r.ms,r.ns,r.xs⟩:=fun _=>rfl
  rw [this (eL (dQ (s.now+n) s.calls) (s.aj,s.calls)).1,h1,h2,h3];congr 1;refine List.map_congr_left fun m _=>?_
  rw [I1,FC];rfl
 have e2:(eL (dQ (s.now+n) s.calls) (s.aj,s.calls)).2=s.calls.filter fun c=>!jj (s.now+n) s.calls c.who:=by
  rw [rz];refine List.filter_congr fun c _=>?_
  rw [FF,FC];rfl
 rw [e1,e2]
theorem Tq {s:af} {n:Int} (hr:s.right) (he:dL s n=0) {m:ak} (hm:m∈s.aj.ms):eV (cE s n).aj m.no=if jj (s.now+n) s.calls m.no then m.put 2 else m:=by
 have hr2:=qZ he;refine uh (dB.1 hr2.aj).1.2 ?_ ?_
 ·rw [n5 hr he];exact List.mem_map.2 ⟨m,hm,rfl⟩
 ·split<;>rfl
theorem Oe {cs:List au} {a b w:Int} (hab:a<=b):(jj a cs w||jj b (cs.filter fun c=>!jj a cs c.who) w)=jj b cs w:=by
 rw [Bool.eq_iff_iff];simp only [Bool.or_eq_true,jj,List.any_eq_true,cg,decide_eq_true_eq,beq_iff_eq,List.mem_filter,Bool.not_eq_true'];constructor
 ·rintro (⟨c,h1,h2,h3⟩ | ⟨c,⟨h1,_⟩,h2,h3⟩)
  ·exact ⟨c,h1,by omega,h3⟩
  ·exact ⟨c,h1,h2,h3⟩
 ·rintro ⟨c,h1,h2,h3⟩
  cases q:(cs.any fun x=>decide (x.till<=a)&&x.who==c.who)
  ·exact .inr ⟨c,⟨h1,q⟩,h2,h3⟩
  ·obtain ⟨x,g1,g2⟩:=List.any_eq_true.1 q;simp only [cg,decide_eq_true_eq,beq_iff_eq] at g2;exact .inl ⟨x,g1,g2.1,by omega⟩
theorem Rj {s:af} {n m:Int} (hr:s.right) (he:dL s n=0) (he2:dL (cE s n) m=0) (hnm:n+m<=1000):dL s (n+m)=0/\cE (cE s n) m=cE s (n+m):=by
 have hr2:=qZ he;have hrs:=eg.2 hr;have hrs2:=eg.2 hr2
 have w1:1<=n/\n<=1000/\s.now+n<=1099511627776:=by
  unfold dL at he;rw [if_pos hrs] at he;split at he
  ·rename_i h;simp only [within,cg,decide_eq_true_eq] at h;split at he
   ·cases he
   ·omega
  ·cases he
 have hnow:(cE s n).now=s.now+n:=by rw [n5 hr he]
 have w2:1<=m/\m<=1000/\s.now+n+m<=1099511627776:=by
  unfold dL at he2;rw [if_pos hrs2] at he2;split at he2
  ·rename_i h;simp only [within,cg,decide_eq_true_eq] at h;split at he2
   ·cases he2
   ·rw [hnow] at *;omega
  ·cases he2
 have he3:dL s (n+m)=0:=by
  unfold dL;rw [if_pos hrs,if_pos (by simp [within];omega),if_neg (by omega)]
 refine ⟨he3,?_⟩;rw [n5 hr2 he2,n5 hr he3,n5 hr he];dsimp only;rw [show s.now+n+m=s.now+(n+m) by omega];have hab:s.now+n<=s.now+(n+m):=by omega
 have hl:=fun w=>Oe (cs:=s.calls) (w:=w) hab
 congr 1
 ·congr 1;rw [List.map_map];refine List.map_congr_left fun x _=>?_
  simp only [Function.comp];have h:=hl x.no;cases q1:jj (s.now+n) s.calls x.no
  ·rw [q1,Bool.false_or] at h;simp only [ir,if_false];rw [h]
  ·rw [q1,Bool.true_or] at h;rw [<- h];simp only [if_true];rw [show (x.put 2).no=x.no from rfl];split<;>rfl
 ·rw [List.filter_filter];refine List.filter_congr fun c _=>?_
  have h:=hl c.who;rw [<- h];cases jj (s.now+n) s.calls c.who<;>simp
def vO (t p:Int):af:=⟨t,0,p,⟨[],[],[]⟩,⟨0,[],[]⟩,⟨0,[]⟩,[],[],[],[]⟩
theorem tO (t p:Int):(vO t p).small:=⟨⟨by simp [vO],by simp [vO],by simp [vO]⟩,⟨by simp [vO],by simp [vO]⟩,by simp [vO],by simp [vO],by simp [vO],by simp [vO],by simp [vO],by simp [vO]⟩
theorem Lh (g:FuncId):Abs.Spec Tryz.prog 259 [] [.sl 3 [],.fn g []] [] (.int .i64 (-1)):=by
 refine aU 19 2 [.tmp 4] mixed Tryz.func259 ?_;simp only [go_sem,seval,List.length_nil];(with_reducible and_intros)<;>first|exact .dq|omega|skip
 refine aB.walk (S:=Unit) 0 [0,1,7] [128] (fun i _=>[(8,.int .i64 i)]) (fun _ _=>[]) (fun _ _=>True) () trivial ?_ ?_ ?_
 ·simp only [go_sem,seval]<;>try simp
 ·intro i _ hi _ _ _;omega
 ·intro _ _ _;simp only [go_sem,seval]
theorem GJ:Abs.Spec Tryz.prog 136 [] [.sl 3 []] [] (.bool true):=by
 have h:=fun g=>Lh g
 have h2:∀ g,Abs.Spec Tryz.prog 207 [] [.sl 3 [],.fn g []] [] (.bool false):=by
  intro g;refine aU 9 2 [.tmp 4] mixed Tryz.func207 ?_;simp only [go_sem,seval];(with_reducible and_intros)<;>first|exact .dq|omega|skip
  refine aa.pure (h g) ?_;simp only [go_sem,seval]
 refine aU 6 1 [.tmp 2] mixed Tryz.func136 ?_;simp only [go_sem,seval];(with_reducible and_intros)<;>first|exact .dq|omega|skip
 refine aa.pure (h2 _) ?_;simp only [go_sem,seval]
theorem LI (g:FuncId):Abs.Spec Tryz.prog 260 [] [.sl 3 [],.int .i64 0,.int .i64 0,.fn g []] [] (.bD []):=by
 refine aU 53 4 [] mixed Tryz.func260 ?_;simp only [go_sem,seval];(with_reducible and_intros)<;>first|exact .dq|omega|skip
 refine aB.walk (S:=Unit) 0 [0,1,2,3] [] (fun i _=>[(8,.int .i64 1)]) (fun _ _=>[]) (fun _ _=>True) () trivial ?_ ?_ ?_
 ·simp only [go_sem,seval]<;>rfl
 ·intro i _ hi _ _ _;omega
 ·intro _ _ _;simp only [go_sem,seval]
theorem Mt (g:FuncId):Abs.Spec Tryz.prog 209 [] [.sl 3 [],.int .i64 0,.fn g []] [] (.bD []):=by
 have h:=LI g;refine aU 63 3 [] mixed Tryz.func209 ?_;simp only [go_sem,seval];(with_reducible and_intros)<;>first|exact .dq|omega|skip
 refine aB.walk (S:=Unit) 0 [0,1,2,6] [] (fun i _=>[(7,.int .i64 0),(8,.int .i64 20)]) (fun _ _=>[]) (fun _ _=>True) () trivial ?_ ?_ ?_
 ·simp only [go_sem,seval]<;>try simp
 ·intro i _ hi _ _ _;omega
 ·intro _ _ _;simp only [go_sem,seval];refine fm.id ?_;simp only [go_sem,seval];(with_reducible and_intros)<;>first|exact .dq|omega|skip
  refine aa.pure h ?_;simp only [go_sem,seval];(with_reducible and_intros)<;>first|exact .dq|omega|skip
  refine aB.walk (S:=Unit) 0 [0,1,2] [] (fun i _=>[(6,.int .i64 20)]) (fun _ _=>[]) (fun _ _=>True) () trivial ?_ ?_ ?_
  ·simp only [go_sem,seval]<;>try simp
  ·intro i _ hi _ _ _;omega
  ·intro _ _ _;simp only [go_sem,seval]
theorem Ij (g:FuncId):Abs.Spec Tryz.prog 137 [] [.sl 3 [],.fn g []] [] (.bD []):=by
 have h:=Mt g;refine aU 9 2 [] mixed Tryz.func137 ?_;simp only [go_sem,seval,List.length_nil];(with_reducible and_intros)<;>first|exact .dq|omega|skip
 refine aa.pure h ?_;simp only [go_sem,seval]
theorem Lw (g:FuncId):Abs.Spec Tryz.prog 141 [] [.sl 3 [],.fn g []] [] (.sl 3 []):=by
 refine aU 66 2 [.tmp 4] mixed Tryz.func141 ?_;simp only [go_sem,seval,List.length_nil]
theorem NC:Abs.Spec Tryz.prog 56 [] [.sl 3 []] [] (.bD [.sl 3 [],.int .i64 0]):=by
 have h1:=GJ;have h2:=uB [] (by simp);have h3:=fun g=>Ij g
 have h4:=fun g=>Lw g
 simp only [List.map_nil] at h2;refine aU 50 1 [.tmp 2,.tmp 3] mixed Tryz.func56 ?_;simp only [go_sem,seval];(with_reducible and_intros)<;>first|exact .dq|omega|skip
 refine aa.pure h1 ?_;simp only [go_sem,seval];(with_reducible and_intros)<;>first|exact .dq|omega|skip
 refine aa.pure h2 ?_;simp only [go_sem,seval];(with_reducible and_intros)<;>first|exact .dq|omega|skip
 refine aa.pure (h3 _) ?_;simp only [go_sem,seval];(with_reducible and_intros)<;>first|exact .dq|omega|skip
 refine aa.pure (h4 _) ?_;simp only [go_sem,seval,List.length_nil];(with_reducible and_intros)<;>first|exact .dq|omega|skip
 refine aB.walk (S:=Unit) 0 [0,19,20] [240,304,336] (fun i _=>[(21,.int .i64 i),(5,.nil)]) (fun _ _=>[]) (fun _ _=>True) () trivial ?_ ?_ ?_
 ·simp only [go_sem,seval]<;>try simp
 ·intro i _ hi _ _ _;omega
 ·intro _ _ _;simp only [go_sem,seval]
theorem LA (g:FuncId):Abs.Spec Tryz.prog 285 [] [.sl 4 [],.int .i64 0,.int .i64 0,.fn g []] [] (.bD []):=by
 refine aU 53 4 [] mixed Tryz.func285 ?_;simp only [go_sem,seval];(with_reducible and_intros)<;>first|exact .dq|omega|skip
 refine aB.walk (S:=Unit) 0 [0,1,2,3] [] (fun i _=>[(8,.int .i64 1)]) (fun _ _=>[]) (fun _ _=>True) () trivial ?_ ?_ ?_
 ·simp only [go_sem,seval]<;>rfl
 ·intro i _ hi _ _ _;omega
 ·intro _ _ _;simp only [go_sem,seval]
theorem Mu (g:FuncId):Abs.Spec Tryz.prog 262 [] [.sl 4 [],.int .i64 0,.fn g []] [] (.bD []):=by
 have h:=LA g;refine aU 63 3 [] mixed Tryz.func262 ?_;simp only [go_sem,seval];(with_reducible and_intros)<;>first|exact .dq|omega|skip
 refine aB.walk (S:=Unit) 0 [0,1,2,6] [] (fun i _=>[(7,.int .i64 0),(8,.int .i64 20)]) (fun _ _=>[]) (fun _ _=>True) () trivial ?_ ?_ ?_
 ·simp only [go_sem,seval]<;>try simp
 ·intro i _ hi _ _ _;omega
 ·intro _ _ _;simp only [go_sem,seval];refine fm.id ?_;simp only [go_sem,seval];(with_reducible and_intros)<;>first|exact .dq|omega|skip
  refine aa.pure h ?_;simp only [go_sem,seval];(with_reducible and_intros)<;>first|exact .dq|omega|skip
  refine aB.walk (S:=Unit) 0 [0,1,2] [] (fun i _=>[(6,.int .i64 20)]) (fun _ _=>[]) (fun _ _=>True) () trivial ?_ ?_ ?_
  ·simp only [go_sem,seval]<;>try simp
  ·intro i _ hi _ _ _;omega
  ·intro _ _ _;simp only [go_sem,seval]
theorem J9 (g:FuncId):Abs.Spec Tryz.prog 212 [] [.sl 4 [],.fn g []] [] (.bD []):=by
 have h:=Mu g;refine aU 9 2 [] mixed Tryz.func212 ?_;simp only [go_sem,seval,List.length_nil];(with_reducible and_intros)<;>first|exact .dq|omega|skip
 refine aa.pure h ?_;simp only [go_sem,seval]
theorem join_nil:Abs.Spec Tryz.prog 144 [] [.sl 4 []] [] (.bD [.sl 4 [],.int .i64 0]):=by
 have h0:Abs.Spec Tryz.prog 211 [] [.sl 4 []] [] (.bool true):=by
  refine aU 23 1 [.tmp 2] mixed Tryz.func211 ?_;simp only [go_sem,seval,List.length_nil];(with_reducible and_intros)<;>first|exact .dq|omega|skip
  refine aB.walk (S:=Unit) 0 [5,6] [112] (fun i _=>[(7,.int .i64 i)]) (fun _ _=>[]) (fun _ _=>True) () trivial ?_ ?_ ?_
  ·simp only [go_sem,seval]<;>try simp
  ·intro i _ hi _ _ _;omega
  ·intro _ _ _;simp only [go_sem,seval]
 have h1:=fun g=>J9 g
 refine aU 68 1 [.tmp 2,.tmp 3] mixed Tryz.func144 ?_;simp only [go_sem,seval];(with_reducible and_intros)<;>first|exact .dq|omega|skip
 refine aa.pure h0 ?_;simp only [go_sem,seval];(with_reducible and_intros)<;>first|exact .dq|omega|skip
 refine aa.gen [272] [] false (by simp) ?_;simp only [go_sem,seval];refine bg.intro (h1 _) ?_;simp only [go_sem,seval];(with_reducible and_intros)<;>first|exact .dq|omega|skip
 refine aB.walk (S:=Unit) 0 [4] [272] (fun i _=>[(6,.int .i64 0),(5,.nil)]) (fun _ _=>[]) (fun _ _=>True) () trivial ?_ ?_ ?_
 ·simp only [go_sem,seval]<;>try simp
 ·intro i _ hi _ _ _;omega
 ·intro _ _ _;simp only [go_sem,seval,List.length_nil]
theorem P9:Abs.Spec Tryz.prog 57 [] [.sl 3 []] [] (.bD [.sl 4 [],.int .i64 0]):=by
 have h1:=NC;have h2:=Spec.MB join_nil (ds':=[.nil]) (by simp [lG,jh]);refine aU 72 1 [.tmp 2,.tmp 3] mixed Tryz.func57 ?_;simp only [go_sem,seval,List.length_nil];(with_reducible and_intros)<;>first|exact .dq|omega|skip
 refine aB.walk (S:=Unit) 0 [0,11,12] [208] (fun i _=>[(13,.int .i64 i)]) (fun _ _=>[]) (fun _ _=>True) () trivial ?_ ?_ ?_
 ·simp only [go_sem,seval]<;>try simp
 ·intro i _ hi _ _ _;omega
 ·intro _ _ _;simp only [go_sem,seval];(with_reducible and_intros)<;>first|exact .dq|omega|skip
  refine aa.pure h1 ?_;simp only [go_sem,seval,List.length_nil];(with_reducible and_intros)<;>first|exact .dq|omega|skip
  refine aB.walk (S:=Unit) 0 [40,41] [560,672] (fun i _=>[(42,.int .i64 i),(8,.nil)]) (fun _ _=>[]) (fun _ _=>True) () trivial ?_ ?_ ?_
  ·simp only [go_sem,seval]<;>try simp
  ·intro i _ hi _ _ _;omega
  ·intro _ _ _;simp only [go_sem,seval];(with_reducible and_intros)<;>first|exact .dq|omega|skip
   refine aa.pure h2 ?_;simp only [go_sem,seval]
theorem Kg:Abs.Spec Tryz.prog 55 [] [.agg [.sl 3 [],.sl 12 [],.sl 4 []],.agg [.int .i64 0,.sl 7 [],.sl 4 []]] [.own 7 []] (.bD [.agg [.int .i64 0,.ref 0,.sl 4 []],.sl 3 [],.int .i64 0]):=by
 have h1:=nV ⟨[],[],[]⟩ ⟨by simp,by simp,by simp⟩;have h2:=sV ⟨0,[],[]⟩ ⟨by simp,by simp⟩;rw [show aq.okB ⟨[],[],[]⟩=true from rfl] at h1;rw [show aG.okB ⟨0,[],[]⟩=true from rfl] at h2;simp only [if_true,aq.cells,aG.cells,List.map_nil] at h1 h2;refine aU 104 2 [.cell 4 33,.tmp 5,.tmp 6] mixed Tryz.func55 ?_;simp only [go_sem,seval];(with_reducible and_intros)<;>first|exact .dq|omega|skip
 refine aa.pure h1 ?_;simp only [go_sem,seval];(with_reducible and_intros)<;>first|exact .dq|omega|skip
 refine aa.pure h2 ?_;simp only [go_sem,seval,List.length_nil];(with_reducible and_intros)<;>first|exact .dq|omega|skip
 refine aB.walk (S:=Unit) 0 [2,3,4,28,29] [48,64,80,480] (fun i _=>[(30,.int .i64 i),(8,.nil),(9,.nil)]) (fun _ _=>[]) (fun _ _=>True) () trivial ?_ ?_ ?_
 ·simp only [go_sem,seval]<;>try simp
 ·intro i _ hi _ _ _;omega
 ·intro _ _ _;simp only [go_sem,seval];(with_reducible and_intros)<;>first|exact .dq|omega|skip
theorem TA:Abs.Spec Tryz.prog 55 [] [.agg [.sl 3 [],.sl 12 [],.sl 4 []],.agg [.int .i64 0,.sl 7 [],.sl 4 []]] [] (.bD [.agg [.int .i64 0,.sl 7 [],.sl 4 []],.sl 3 [],.int .i64 0]):=by
 refine Spec.frozen Kg [0] rfl ?_;intro r;rcases r with _ | r<;>rfl
theorem Gz:Abs.Spec Tryz.prog 59 [] [.agg [.sl 3 [],.sl 12 [],.sl 4 []]] [.own 3 []] (.agg [.ref 0,.sl 12 [],.sl 4 []]):=by
 have h1:=wH ⟨[],[],[]⟩ ⟨by simp,by simp,by simp⟩;simp only [aq.cells,List.map_nil] at h1;refine aU 37 1 [.cell 2 29] mixed Tryz.func59 ?_;simp only [go_sem,seval];(with_reducible and_intros)<;>first|exact .dq|omega|skip
 refine aa.gen [] [] false (by simp) ?_;simp only [go_sem,seval];refine bg.intro h1 ?_;simp only [go_sem,seval,List.length_nil];(with_reducible and_intros)<;>first|exact .dq|omega|skip
 refine aB.walk (S:=Unit) 0 [1,2,8] [32,48,96,144] (fun i _=>[(9,.int .i64 i)]) (fun _ _=>[]) (fun _ _=>True) () trivial ?_ ?_ ?_
 ·simp only [go_sem,seval]<;>try simp
 ·intro i _ hi _ _ _;omega
 ·intro _ _ _;simp only [go_sem,seval]
theorem Rn:Abs.Spec Tryz.prog 59 [] [.agg [.sl 3 [],.sl 12 [],.sl 4 []]] [] (.agg [.sl 3 [],.sl 12 [],.sl 4 []]):=by
 refine Spec.frozen Gz [0] rfl ?_;intro r;rcases r with _ | r<;>rfl
theorem BK (s:af) (p:Int) (hs:s.small) (hr:bA s=true):Abs.Spec Tryz.prog 54 [] [.agg s.cells,.int .i64 p] [] (.int .i64 (if s.phase=p then 0 else 15)):=by
 have c1:=rI s hs;rw [hr] at c1;simp only [if_true] at c1;simp only [af.cells] at c1 |-;refine aU 18 2 [.tmp 4] mixed Tryz.func54 ?_;simp only [go_sem,seval];(with_reducible and_intros)<;>first|exact .dq|omega|skip
 refine aa.pure c1 ?_
 by_cases h:s.phase=p
 ·have q:(s.phase==p)=true:=by simpa using h
  rw [if_pos h];simp only [go_sem,seval,bne,q]
 ·have q:(s.phase==p)=false:=by simpa using h
  rw [if_neg h];simp only [go_sem,seval,bne,q]
theorem Mn:Abs.Spec Tryz.prog 15 [] [.agg (vO 2 0).cells] [] (.bD [.agg (vO 2 1).cells,.sl 3 [],.int .i64 0]):=by
 have h1:=BK (vO 2 0) 0 (tO _ _) (by kernel_rfl);have h2:=TA;have h3:=NC;have h4:=P9;have h5:=wZ (vO 2 0) (tO _ _) (by simp [vO]);have h6:=Rn;rw [show (if (vO 2 0).phase=0 then 0 else 15:Int)=0 from rfl] at h1;simp only [af.cells,vO,List.map_nil,pl] at h1 h5 |-;refine aU 79 1 [.cell 2 42,.tmp 3,.tmp 4] mixed Tryz.func15 ?_;simp only [go_sem,seval];(with_reducible and_intros)<;>first|exact .dq|omega|skip
 refine aa.pure h1 ?_;simp only [go_sem,seval];(with_reducible and_intros)<;>first|exact .dq|omega|skip
 refine aa.pure h2 ?_;simp only [go_sem,seval];(with_reducible and_intros)<;>first|exact .dq|omega|skip
 refine aa.pure h3 ?_;simp only [go_sem,seval];(with_reducible and_intros)<;>first|exact .dq|omega|skip
 refine aa.pure h4 ?_;simp only [go_sem,seval];(with_reducible and_intros)<;>first|exact .dq|omega|skip
 refine aa.pure h5 ?_;simp only [go_sem,seval,List.length_nil];(with_reducible and_intros)<;>first|exact .dq|omega|skip
 refine aa.pure h6 ?_;simp only [go_sem,seval];(with_reducible and_intros)<;>first|exact .dq|omega|skip
theorem Q8:Abs.Spec Tryz.prog 16 [] [.agg (vO 2 1).cells] [] (.bD [.agg (vO 0 0).cells,.int .i64 15]):=by
 have h1:=BK (vO 2 1) 2 (tO _ _) (by kernel_rfl);rw [show (if (vO 2 1).phase=2 then 0 else 15:Int)=15 from rfl] at h1;simp only [af.cells,vO,List.map_nil,pl] at h1 |-;refine aU 34 1 [.cell 2 42,.tmp 3] mixed Tryz.func16 ?_;simp only [go_sem,seval];(with_reducible and_intros)<;>first|exact .dq|omega|skip
 refine aa.pure h1 ?_;simp only [go_sem,seval]<;>simp
theorem GD:Abs.Spec Tryz.prog 6 [] [] [] (.bool true):=by
 have h1:=ni (vO 0 0) 2 (eg.1 (by kernel_rfl)) (tO _ _) (by simp [vO]) ⟨by decide,by decide⟩;rw [show cE (vO 0 0) 2=vO 2 0 from rfl,show jk (vO 0 0) 2=[] from rfl,show dL (vO 0 0) 2=0 from rfl] at h1;have h2:=Mn;have h3:=Q8;simp only [af.cells,vO,List.map_nil,pl] at h1 h2 h3
 replace h1:=Spec.MB h1 (ds':=[.agg [.int .i64 0,.int .i64 0,.int .i64 0,.nil,.nil,.nil,.int .i64 0,.nil,.nil,.int .i64 0,.nil,.nil,.nil,.nil,.nil],.int .i64 2]) (by simp [lG,jh])
 refine aU 48 0 [.tmp 0] mixed Tryz.func6 ?_;simp only [go_sem,seval];(with_reducible and_intros)<;>first|exact .dq|omega|skip
 refine aa.pure h1 ?_;simp only [go_sem,seval];(with_reducible and_intros)<;>first|exact .dq|omega|skip
 refine aa.pure h2 ?_;simp only [go_sem,seval];(with_reducible and_intros)<;>first|exact .dq|omega|skip
 refine aa.pure h3 ?_;simp only [go_sem,seval]
theorem QC {s:af} {c:aY} (h:s.lens):(aQ s c).2.Aa.length < 2 ^ 30/\(aQ s c).2.falls.length < 2 ^ 30:=by
 have hl:=Fk (c:=c) h;unfold aQ br;split
 ·dsimp only;omega
 ·simp [aW.err]
theorem VE {s:af} {c:aY} (h:s.fY) (hq:∀ x∈s.aM,oc x):∀ x∈(tv s c).1.aM,oc x:=by
 unfold tv;split
 ·exact hq
 have hS:=y8 s c h;intro x hx;obtain ⟨i,hi,hx⟩:=iB.1 hx;rcases (hS i hi x hx).2 with hx | rfl
 ·exact hq x hx
 ·exact QC h.right.lens
theorem IS:∀ (l:List aY) (x:af × List Int) (i:Nat),vE x i->(∀ y∈x.1.aM,oc y)->∀ y∈(wJ l x).1.aM,oc y
 | [],_,_,_,h=>h
 | c :: r,x,i,hx,h=>by
  simp only [wJ];exact IS r _ _ (BW c hx) (VE hx.fY h)
theorem P6 (l:List aY):∀ y∈(FV l).aM,oc y:=IS (l.take 200) _ 0 QJ (fun y hy=>by cases hy)
theorem GU (l:List aY) (n m:Int) (hn:fy n) (hm:fy m):Abs.Spec Tryz.prog 3 [] [.sl 17 (l.map aY.cells),.int .i64 n,.int .i64 m] [] (.bool true):=by
 have hwk:=GD;rcases Nat.lt_or_ge 1000 l.length with hlen | hlen
 ·have d:decide ((1000:Int) < (l.length:Int))=true:=decide_eq_true (by omega);refine aU 156 3 [.tmp 6] mixed Tryz.func3 ?_;simp only [go_sem,seval,aI,d]
 have d:decide ((1000:Int) < (l.length:Int))=false:=decide_eq_false (by omega);have hG:=LV l hlen;obtain ⟨hf,hp⟩:=RG l;have hsea:=P6 l;obtain ⟨s,hs⟩:=aO (FV l);rw [<- hs] at hG hf hsea;clear hs hp;have hr:=hf.right;have hrs:=eg.2 hr;have hsm:=hf.good.small;have hT1:=ni s n hr hsm hsea hn;have hclk:=hr.Ii;have hlc:=hsm.calls;have hlm:=hsm.aj.1;simp only [af.cells] at hG;refine aU 156 3 [.tmp 6] mixed Tryz.func3 ?_;simp only [go_sem,seval,aI,d];(with_reducible and_intros)<;>first|exact .dq|omega|skip
 refine aa.pure hG ?_;simp only [go_sem,seval];(with_reducible and_intros)<;>first|exact .dq|omega|skip
 simp only [af.cells] at hT1;refine aa.pure hT1 ?_
 by_cases e:dL s n=0
 case neg =>
  have q:(dL s n==0)=false:=by simpa using e
  have e3:jk s n=[]:=by rw [jk,if_neg e]
  rw [e3]
  by_cases w1:n < 1
  ·have d1:decide (n < 1)=true:=decide_eq_true w1;simp only [go_sem,seval,bne,q,d1,List.map_nil,List.length_nil];(with_reducible and_intros)<;>first|exact .dq|omega|skip
   refine aa.pure hwk ?_;simp only [go_sem,seval]
  have d1:decide (n < 1)=false:=decide_eq_false w1
  by_cases w2:1000 < n
  ·have d2:decide (1000 < n)=true:=decide_eq_true w2;simp only [go_sem,seval,bne,q,d1,d2,List.map_nil,List.length_nil];(with_reducible and_intros)<;>first|exact .dq|omega|skip
   refine aa.pure hwk ?_;simp only [go_sem,seval]
  have d2:decide (1000 < n)=false:=decide_eq_false w2;have hw:IntKind.wrap .i64 (s.now+n)=s.now+n:=bz (by omega) (by omega)
  have w3:1099511627776 < s.now+n:=by
   refine Decidable.byContradiction fun h=>e ?_
   unfold dL;rw [if_pos hrs,if_pos (by simp [within];omega),if_neg h]
  have d3:decide (1099511627776 < s.now+n)=true:=decide_eq_true w3;simp only [go_sem,seval,bne,q,d1,d2,hw,d3,List.map_nil,List.length_nil];(with_reducible and_intros)<;>first|exact .dq|omega|skip
  refine aa.pure hwk ?_;simp only [go_sem,seval]
 have q:(dL s n==0)=true:=by simpa using e
 have w1:1<=n/\n<=1000/\s.now+n<=1099511627776:=by
  unfold dL at e;rw [if_pos hrs] at e;split at e
  ·rename_i h;simp only [within,cg,decide_eq_true_eq] at h;split at e
   ·cases e
   ·omega
  ·cases e
 have hr2:=qZ e;have hEq:=n5 hr e;have hmo:=fun {x:ak} hx=>Tq hr e (m:=x) hx
 have htw:=fun he2 hnm=>Rj hr e (m:=m) he2 hnm
 obtain ⟨t,ht⟩:=aO (cE s n);rw [<- ht] at hr2 hEq;simp only [<- ht] at hmo htw |-
 have hsm2:t.small:=by
  rw [hEq];exact ⟨⟨by simpa using hsm.aj.1,hsm.aj.2⟩,hsm.book,hsm.bE,hsm.ps,Nat.lt_of_le_of_lt (List.length_filter_le ..) hsm.calls,hsm.aT,hsm.aM,hsm.rs⟩
 have hsea2:∀ x∈t.aM,oc x:=by rw [hEq];exact hsea
 have hT2:=ni t m hr2 hsm2 hsea2 hm;have hR:=fun w=>bV t.aj w hsm2.aj.small
 have hw:IntKind.wrap .i64 (s.now+n)=s.now+n:=bz (by omega) (by omega);have hrr2:=eg.2 hr2;clear hEq ht;simp only [af.cells,aq.cells] at hT2 hR |-;simp only [go_sem,seval,bne,q];(with_reducible and_intros)<;>first|exact .dq|omega|skip
 refine aB.walk (S:=Unit) s.aj.ms.length [1,2,7,8] [128,144] (fun i _=>[(11,.int .i64 i)]) (fun _ _=>[]) (fun _ _=>True) () trivial ?_ ?_ ?_
 ·simp only [go_sem,seval]<;>simp
 ·intro i _ hi hdi hwi _;have hmm:=aD (c:=ak.cells) s.aj.ms hi;have hli:(i:Int) < (s.aj.ms.length:Int):=by omega
  have hx:=hmo (List.getElem_mem hi);obtain ⟨x,hxd⟩:=aO (s.aj.ms[i]);rw [<- hxd] at hmm hx;have hRx:=hR x.no;rw [hx] at hRx;simp only [ak.cells] at hmm hRx;clear hmo hR hxd hx;obtain ⟨Y,hY⟩:=aO (if jj (s.now+n) s.calls x.no then x.put 2 else x);have hYs:Y.state=if jj (s.now+n) s.calls x.no then 2 else x.state:=by rw [hY];split<;>rfl
  rw [<- hY] at hRx;simp only [go_sem,seval,aI,hdi,hmm];(with_reducible and_intros)<;>first|exact .dq|omega|skip
  refine aa.pure hRx ?_;simp only [go_sem,seval];(with_reducible and_intros)<;>first|exact .dq|omega|skip
  refine aB.walk (S:=Unit) s.calls.length [1,2,7,8,11,12,13] [128,144,208,224] (fun k _=>[(15,.bool (jj (s.now+n) (s.calls.take k) x.no)),(16,.int .i64 k)]) (fun _ _=>[]) (fun _ _=>True) () trivial ?_ ?_ ?_
  ·simp only [go_sem,seval]<;>simp [jj]
  ·intro k _ hk hdk hwk' _;have hck:=aD (c:=au.cells) s.calls hk;have hlk:(k:Int) < (s.calls.length:Int):=by omega
   have hst:jj (s.now+n) (s.calls.take (k+1)) x.no=(jj (s.now+n) (s.calls.take k) x.no||(decide (s.calls[k].till<=s.now+n)&&s.calls[k].who==x.no)):=by
    rw [jj,List.take_succ_eq_append_getElem hk,List.any_append];simp [jj]
   obtain ⟨c,hc⟩:=aO (s.calls[k]);rw [<- hc] at hck hst;simp only [au.cells] at hck;cases q1:jj (s.now+n) (s.calls.take k) x.no
   ·rw [q1,Bool.false_or] at hst;cases q2:c.who==x.no
    ·rw [q2,Bool.and_false] at hst;simp only [go_sem,seval,aI,hdk,hck,q2,hwk'];(with_reducible and_intros)<;>first|exact .dq|omega|skip
     refine ah.step () hk trivial ?_;simp only [go_sem,seval,hst]
    ·rw [q2,Bool.and_true] at hst;simp only [go_sem,seval,aI,hdk,hck,q2,hw,hwk'];(with_reducible and_intros)<;>first|exact .dq|omega|skip
     refine ah.step () hk trivial ?_;simp only [go_sem,seval,hst]
   ·rw [q1,Bool.true_or] at hst;simp only [go_sem,seval,aI,hdk,hck,hwk'];(with_reducible and_intros)<;>first|exact .dq|omega|skip
    refine ah.step () hk trivial ?_;simp only [go_sem,seval,hst]
  ·intro _ hdk _;cases q1:jj (s.now+n) s.calls x.no
   ·rw [q1] at hYs;simp only [ir,if_false] at hYs;simp only [go_sem,seval,aI,hdk,List.take_length,q1,hYs,bne,beq_self_eq_true,hwi];(with_reducible and_intros)<;>first|exact .dq|omega|skip
    refine ah.step () hi trivial ?_;simp only [go_sem,seval]
   ·rw [q1] at hYs;simp only [if_true] at hYs;simp only [go_sem,seval,aI,hdk,List.take_length,q1,hYs,bne,beq_self_eq_true,hwi];(with_reducible and_intros)<;>first|exact .dq|omega|skip
    refine ah.step () hi trivial ?_;simp only [go_sem,seval]
 ·intro _ hdx _;clear hmo hR;simp only [go_sem,seval,aI,hdx];(with_reducible and_intros)<;>first|exact .dq|omega|skip
  refine aa.pure hT2 ?_
  by_cases e2:dL t m=0
  case neg =>
   have q2:(dL t m==0)=false:=by simpa using e2
   simp only [go_sem,seval,bne,q2];(with_reducible and_intros)<;>first|exact .dq|omega|skip
   refine aa.pure hwk ?_;simp only [go_sem,seval]
  have q2:(dL t m==0)=true:=by simpa using e2
  have w2:1<=m/\m<=1000:=by
   unfold dL at e2;rw [if_pos hrr2] at e2;split at e2
   ·rename_i h;simp only [within,cg,decide_eq_true_eq] at h;omega
   ·cases e2
  have hw2:IntKind.wrap .i64 (n+m)=n+m:=bz (by omega) (by omega)
  by_cases w3:1000 < n+m
  ·have d3:decide (1000 < n+m)=true:=decide_eq_true w3;simp only [go_sem,seval,bne,q2,hw2,d3];(with_reducible and_intros)<;>first|exact .dq|omega|skip
   refine aa.pure hwk ?_;simp only [go_sem,seval]
  have d3:decide (1000 < n+m)=false:=decide_eq_false w3;obtain ⟨g1,g2⟩:=htw e2 (by omega);have hT3:=ni s (n+m) hr hsm hsea ⟨by omega,by omega⟩;rw [<- g2,g1] at hT3;obtain ⟨u,hu⟩:=aO (cE t m);rw [<- hu] at hT3 |-
  have hK:=CH u u (by
   rw [hu,g2,n5 hr g1]
   exact ⟨⟨by simpa using hsm.aj.1,hsm.aj.2⟩,hsm.book,hsm.bE,hsm.ps,Nat.lt_of_le_of_lt (List.length_filter_le ..) hsm.calls,hsm.aT,hsm.aM,hsm.rs⟩)
  rw [LN] at hK;simp only [af.cells] at hT3 hK;simp only [go_sem,seval,bne,q2,hw2,d3];(with_reducible and_intros)<;>first|exact .dq|omega|skip
  refine aa.pure hT3 ?_;simp only [go_sem,seval];(with_reducible and_intros)<;>first|exact .dq|omega|skip
  refine aa.pure hK ?_;simp only [go_sem,seval];(with_reducible and_intros)<;>first|exact .dq|omega|skip
  refine aa.pure hwk ?_;simp only [go_sem,seval]
end Go.Proofs.YtacacccbcndjoaaGreat
