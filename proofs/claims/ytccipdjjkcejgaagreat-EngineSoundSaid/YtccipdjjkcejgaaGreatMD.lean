/- The reference's books: corrected, marked, and what follows. No theorem of a claim. -/
import Derived.Test.YtccipdjjkcejgaaGreatMC
set_option linter.unusedSimpArgs false
set_option linter.unusedVariables false
set_option maxHeartbeats 4000000
set_option maxRecDepth 16000
namespace Go.Proofs.YtccipdjjkcejgaaGreat
open Go.Abs Tryz
open List hiding max min
theorem Mn (b:aI) (n:Int) (a:b.small):(ct b n).small:=by
 unfold ct;split
 ·refine ⟨by simpa [Vj] using a.1,?_⟩;have:=Cf b (fT (bN n b.ts) true) 16;show (Ce b (fT (bN n b.ts) true) 16).length < _;omega
 ·exact ⟨by simp,by simp⟩
theorem aee {b:aI} {g:List aF} {w n:Int} (d:gm w) (c:gm n) (h:AQ b g w n=true):∀ p∈Nr b g w n,p.n7:=by
 intro p a;unfold Nr at a;split at a
 ·cases a
 ·obtain rfl:=ga.1 a;simp only [AQ,cU] at h;exact ⟨d,c,UX h.1,UX h.2.1⟩
theorem sH {b:aI} {g:List aF} {p:aF}:∀ {i:Nat},p∈Ce b g i->∃ k m:Nat,k < i/\m < 8/\p∈Nr b g ((k:Int)+1) ((m:Int)+1):=by
 intro i a;obtain ⟨k,c,a⟩:=mem_flatMap.1 a;obtain ⟨m,d,a⟩:=mem_flatMap.1 a;exact ⟨k,m,mem_range.1 c,mem_range.1 d,a⟩
theorem Jp {b:aI} {g:List aF} (h:Cd b g=true) {k m:Nat} (a:k < 16) (c:m < 8):AQ b g ((k:Int)+1) ((m:Int)+1)=true:=by
 have:=dn.1 h k (mem_range.2 a);exact dn.1 this m (mem_range.2 c)
theorem Ex {b:aI} {g:List aF} (h:nw b g=0):g.all qc=true/\J5 g=true/\Cd b g=true:=by
 unfold nw at h;split at h
 ·split at h
  ·split at h
   ·split at h
    ·exact ⟨by assumption,by assumption,by assumption⟩
    ·cases h
   ·cases h
  ·cases h
 ·cases h
theorem aeh {b:aI} {g:List aF} (h:nw b g=0):∀ p∈Ce b g 16,p.n7:=by
 intro p a;obtain ⟨k,m,c,d,a⟩:=sH a;exact aee ⟨by omega,by omega⟩ ⟨by omega,by omega⟩ (Jp (Ex h).2.2 c d) p a
theorem AV {b:aI} {n:Int} (h:fY b n=0):b.okB=true /\ ¬ lR n b.ts < 0/\nw b (fT (bN n b.ts) true)=0:=by
 unfold fY at h;split at h
 ·split at h
  ·cases h
  ·exact ⟨by assumption,by assumption,h⟩
 ·cases h
def uk (b:aI) (n q p:Int):Int:=if fY b n=0 then gO (ct b n) { bN n b.ts with aZ:=q,aH:=p } else fY b n
def pQ (b:aI) (n q p:Int):aI:=if fY b n=0 then jf (ct b n) { bN n b.ts with aZ:=q,aH:=p } else ⟨0,[],[]⟩
def Cs (b:aI) (n q p:Int):Int:=if fY b n=0 then oL (ct b n) { bN n b.ts with aZ:=q,aH:=p } else 0
def cG (x:aC):Int:=if x.set==0 then x.aH else x.set
def fQ (x:aC):Bool:=!(x.set==0&&x.aH==0)
def LA (r:az) (p:aF):Int:=
 if bJ r p.inst then (if !fQ (bA r p.inst)&&!(p.aZ==0) then 20 else if bQ (lq p (bA r p.inst).mult (cG (bA r p.inst)))&&bQ (p.aZ*cG (bA r p.inst)) then 0 else 1) else 10
def uJ (r:az):List aF->Int
 | []=>0
 | p :: t=>if LA r p=0 then uJ r t else LA r p
def Lz (r:az) (p:aF):aE:=⟨p.who,(bA r p.inst).cur,lq p (bA r p.inst).mult (cG (bA r p.inst))⟩
def sv (r:az) (p:aF):List aF:=if p.aZ==0&&p.aZ*cG (bA r p.inst)==0 then [] else [⟨p.who,p.inst,p.aZ,p.aZ*cG (bA r p.inst)⟩]
def wO (r:az) (b:aI):Int:=if r.okB&&b.okB then uJ r b.qs else 14
def D8 (r:az) (b:aI):aI:=if wO r b=0 then ⟨b.next,b.ts,b.qs.flatMap (sv r)⟩ else ⟨0,[],[]⟩
def sG (r:az) (b:aI):List aE:=if wO r b=0 then b.qs.map (Lz r) else []
theorem Sf {x:aC} (h:x.ok=true):0<=cG x/\cG x<=1073741824:=by
 simp only [aC.ok,within,cU,bL] at h;unfold cG;split<;>omega
theorem Rq {b:aI} (h:b.okB=true):∀ p∈b.qs,p.okB=true:=by
 intro p c;simp only [aI.okB,cU] at h;obtain ⟨i,a,rfl⟩:=mem_iff_getElem.1 c;exact aa3 h.1 a
theorem S6 {p:aF} (h:p.okB=true):-1099511627776<=p.aZ/\p.aZ<=1099511627776/\bQ p.cost=true:=by
 simp only [aF.okB,within,cU,bL] at h;exact ⟨h.2.1.1,h.2.1.2,h.2.2.1⟩
def l8 (w c:Int) (x:aB):Bool:=x.who==w&&x.cur==c
def eO (w c:Int):List aB->Int
 | []=>-1
 | x :: r=>if l8 w c x then 0 else if eO w c r < 0 then -1 else eO w c r+1
theorem GW {w c:Int}:∀ {xs:List aB} {i:Nat} (h:i < xs.length),(∀ j (b:j < xs.length),j < i->l8 w c xs[j]=false)->l8 w c xs[i]=true->eO w c xs=i
 | [],i,h,_,_=>by simp at h
 | x :: r,0,h,_,a=>by
  have a:l8 w c x=true:=a;simp [eO,a]
 | x :: r,i+1,h,hn,a=>by
  have d:l8 w c x=false:=hn 0 (by simp) ah;have e:=GW (xs:=r) (i:=i) (by simpa using h) (fun j b hji=>hn (j+1) (by simpa using b) ah) a;simp only [eO,d,e];rw [ak (by simp),ak ah];omega
theorem Cl {w c:Int}:∀ {xs:List aB},(∀ j (a:j < xs.length),l8 w c xs[j]=false)->eO w c xs = -1
 | [],_=>rfl
 | x :: r,hn=>by
  have b:l8 w c x=false:=hn 0 (by simp);have d:=Cl (xs:=r) (fun j a=>hn (j+1) (by simpa using a));simp [eO,b,d]
theorem JF {w c:Int}:∀ {xs:List aB},¬ eO w c xs < 0->∃ (i:Nat) (h:i < xs.length),eO w c xs=i/\l8 w c xs[i]=true
 | [],h=>by simp [eO] at h
 | t :: r,h=>by
  simp only [eO] at h |-;split at h
  ·rename_i a;exact ⟨0,by simp,by rw [aq a];rfl,a⟩
  ·rename_i a;split at h
   ·omega
   ·rename_i b;obtain ⟨i,hi,e,d⟩:=JF (xs:=r) b;refine ⟨i+1,by simp;omega,?_,by simpa using d⟩;rw [ak a,ak b,e];rfl
def qq (w c:Int) (xs:List aB):aB:=xs.getD (eO w c xs).toNat ⟨0,0,0,0⟩
def Nb (xs:List aB) (x:aB) (w c:Int):List aB:=if x.who==w&&x.cur==c then (if 0 < x.br then [x] else []) else if eO w c xs < 0 then [] else [qq w c xs]
def afD (xs:List aB) (x:aB) (w:Int) (i:Nat):List aB:=rG (fun k=>Nb xs x w k) i
def ym (xs:List aB) (x:aB) (i:Nat):List aB:=rG (fun k=>afD xs x ((k:Int)+1) 3) i
theorem TF (xs:List aB) (x:aB) (w c:Int):(Nb xs x w c).length<=1:=by
 unfold Nb;split
 ·split<;>simp
 ·split<;>simp
theorem acU (xs:List aB) (x:aB) (w:Int) (i:Nat):(afD xs x w i).length<=i:=by
 have:=yF (f:=fun k=>Nb xs x w (k:Nat)) (m:=1) (fun k=>TF _ _ _ _) i;simpa [afD] using this
theorem acW (xs:List aB) (x:aB) (i:Nat):(ym xs x i).length<=3*i:=yF (fun k=>acU _ _ _ _) i
def Cv (d:aE):Bool:=(within d.who 1 16&&within d.cur 0 2)&&within d.br 0 4611686018427387904
def AS (xs:List aB) (d:aE) (a:Int):Int:=if qt cj bO xs then (if Cv d&&within a 0 1099511627776 then 0 else 3) else 14
def Mk (xs:List aB) (d:aE) (a:Int):List aB:=if AS xs d a=0 then ym xs ⟨d.who,d.cur,d.br,if eO d.who d.cur xs < 0 then a else (qq d.who d.cur xs).till⟩ 16 else []
def G8 (xs:List aB) (d:aE):Int:=if qt cj bO xs then (if Cv d then 0 else 3) else 14
def Ou (xs:List aB) (d:aE):aB:=if eO d.who d.cur xs < 0 then ⟨d.who,d.cur,0,0⟩ else { qq d.who d.cur xs with br:=max ((qq d.who d.cur xs).br-d.br) 0 }
def AD (xs:List aB) (d:aE):List aB:=if G8 xs d=0 then ym xs (Ou xs d) 16 else []
def kg (n:Int) (xs:List aB):List aB:=xs.flatMap fun x=>if x.till<=n then [x] else []
def pU (n:Int) (xs:List aB):List aB:=xs.flatMap fun x=>if x.till<=n then [] else [x]
def eI (xs:List aB) (ws:List Int):List aB:=xs.flatMap fun x=>if Ob ws x.who then [] else [x]
def oV (l:List aE):Bool:=l.all fun d=>bQ d.br
def NR (w c:Int) (d:aE):Bool:=d.who==w&&d.cur==c
def By (w c:Int) (l:List aE):List Int:=pick (NR w c) aE.br l
def jg (w c:Int) (l:List aE):Int:=if oV l then (if bQ (aG (By w c l)) then 0 else 1) else 3
def oP (w c:Int) (l:List aE):Int:=if jg w c l=0 then aG (By w c l) else 0
def gE (a b:aE):Bool:=decide (a.who < b.who)||(a.who==b.who&&decide (a.cur < b.cur))
theorem iJ {a b:aE}:gE a b=true ↔ a.who < b.who\/(a.who=b.who/\a.cur < b.cur):=by simp [gE]
def aE.zero:aE:=⟨0,0,0⟩
def Oy (f:Bool) (last:aE) (s:Bool × aE) (d:aE):Bool:=(f||gE last d)&&(!s.1||gE d s.2)
def kX (f:Bool) (last:aE):List aE->Bool × aE->Bool × aE
 | [],s=>s
 | d :: r,s=>kX f last r (if Oy f last s d then (true,d) else s)
theorem GH {f:Bool} {last:aE}:∀ {l:List aE} {s:Bool × aE},(kX f last l s).1=true->kX f last l s=s\/((kX f last l s).2∈l/\(f||gE last (kX f last l s).2)=true)
 | [],s,_=>.inl rfl
 | d :: r,s,h=>by
  simp only [kX] at h |-;rcases GH (l:=r) h with e | ⟨h1,h2⟩
  ·rw [e];split
   ·rename_i a;simp only [Oy,cU] at a;exact .inr ⟨by simp,a.1⟩
   ·exact .inl rfl
  ·exact .inr ⟨by simp [h1],h2⟩
def BH (l:List aE) (d:aE):List aE:=if oP d.who d.cur l==0 then [] else [⟨d.who,d.cur,oP d.who d.cur l⟩]
def Qh (l:List aE):Nat->Bool->aE->List aE->List aE × Int
 | 0,_,_,out=>(out,0)
 | n+1,f,last,out =>
  if (kX f last l (false,.zero)).1 then
   (if jg (kX f last l (false,.zero)).2.who (kX f last l (false,.zero)).2.cur l=0 then Qh l n false (kX f last l (false,.zero)).2 (out++BH l (kX f last l (false,.zero)).2)
    else ([],jg (kX f last l (false,.zero)).2.who (kX f last l (false,.zero)).2.cur l))
  else (out,0)
def xU (l:List aE):List aE × Int:=if oV l then Qh l (l.length+1) true .zero [] else ([],3)
theorem Yf (w c:Int) (l:List aE):bQ (oP w c l)=true:=by
 unfold oP;split
 ·rename_i h;unfold jg at h;split at h
  ·split at h
   ·assumption
   ·cases h
  ·cases h
 ·rfl
theorem WM (l:List aE):∀ (n:Nat) (f:Bool) (last:aE) (out:List aE),(∀ d∈out,bQ d.br=true)->∀ d∈(Qh l n f last out).1,bQ d.br=true
 | 0,_,_,out,h=>h
 | n+1,f,last,out,h=>by
  simp only [Qh];split
  ·split
   ·refine WM l n _ _ _ ?_;intro d a;rcases mem_append.1 a with a | a
    ·exact h d a
    ·unfold BH at a;split at a
     ·cases a
     ·obtain rfl:=ga.1 a;exact Yf _ _ _
   ·intro d a;cases a
  ·exact h
theorem SQ (l:List aE):∀ (n:Nat) (f:Bool) (last:aE) (out:List aE),(Qh l n f last out).1.length<=out.length+n
 | 0,_,_,out=>dU _
 | n+1,f,last,out=>by
  simp only [Qh];split
  ·split
   ·refine Nat.le_trans (SQ l n _ _ _) ?_;have:∀ d,(BH l d).length<=1:=fun d=>by unfold BH;split<;>simp
    rw [cm];have:=this (kX f last l (false,.zero)).2;omega
   ·simp
  ·simp
theorem WN (l:List aE):(∀ d∈(xU l).1,bQ d.br=true)/\(xU l).1.length<=l.length+1:=by
 unfold xU;split
 ·exact ⟨WM l _ _ _ _ (by simp),Nat.le_trans (SQ l _ _ _ _) (by simp)⟩
 ·exact ⟨by simp,by simp⟩
def we (l:List aE):List aU:=l.flatMap fun d=>[⟨2,d.who,d.cur,d.br⟩,⟨5,0,d.cur,-d.br⟩]
def Wm (l:List aE):Bool:=l.all fun d=>aP.right ⟨2,d.who,d.cur⟩
def DO (l:List aE):Int:=if Wm l then (if (xU l).2=0 then rL (we (xU l).1) else (xU l).2) else 3
def rS (l:List aE):List aU:=if DO l=0 then om (we (xU l).1) else []
theorem Gn (l:List aE):(we l).length<=2*l.length:=gw (fun d=>by simp) l
def Lb (l:List Int):Bool:=l.all fun x=>!decide (x < 0)
def Dz:Int->List Int->List Int
 | _,[]=>[]
 | t,c :: r=>min t c :: Dz (t-min t c) r
def Ik:Int->List Int->Int
 | t,[]=>t
 | t,c :: r=>Ik (t-min t c) r
def mO (t:Int) (l:List Int):Int:=if (!decide (t < 0)&&bQ t)&&right l then (if Lb l then (if 1024 < l.length then 5 else 0) else 3) else 3
structure eN where
 src:Int
 aZ:Int
 aH:Int
deriving DecidableEq
@[reducible] def eN.cells (x:eN):List D:=[.I x.src,.I x.aZ,.I x.aH]
def ahead (long:Bool) (a b:bB):Bool:=if a.aH==b.aH then decide (a.src < b.src) else decide (b.aH < a.aH)==long
def kpos (long:Bool) (x:bB) (out:List bB):Nat->Nat
 | 0=>0
 | k+1=>if ahead long x (out.getD k ⟨0,0,0,0,0⟩) then kpos long x out k else k+1
theorem P6 (long:Bool) (x:bB) (out:List bB):∀ k,kpos long x out k<=k
 | 0=>dU _
 | k+1=>by
  simp only [kpos];split
  ·have:=P6 long x out k;omega
  ·exact dU _
def U0 (long:Bool) (x:bB) (out:List bB):List bB:=out.take (kpos long x out out.length)++x :: out.drop (kpos long x out out.length)
def MQ (long:Bool):List bB->List bB->List bB
 | out,[]=>out
 | out,x :: r=>MQ long (U0 long x out) r
def Qo (long:Bool) (l:List bB):List bB:=MQ long [] l
theorem abz (long:Bool) (x:bB) (out:List bB):(U0 long x out).length=out.length+1:=by
 have:=P6 long x out out.length;simp only [U0,cm,length_cons,dY,fj];omega
theorem K6 (long:Bool):∀ (l out:List bB),(MQ long out l).length=out.length+l.length
 | [],out=>rfl
 | x :: r,out=>by simp only [MQ,K6 long r,abz,length_cons];omega
def uf (b:bB):Bool:=within b.aZ 1 1048576&&within b.aH 1 1073741824
def mW:Int->List bB->List eN × Int
 | left,[]=>([],left)
 | left,b :: r=>if 0 < left then (⟨b.src,min left b.aZ,b.aH⟩ :: (mW (left-min left b.aZ) r).1,(mW (left-min left b.aZ) r).2) else ([],left)
def qJ (q:Int) (l:List bB):Int:=if within q (-1099511627776) 1099511627776&&l.all uf then 0 else 3
def ke (q:Int) (l:List bB):List eN × Int:=if qJ q l=0 then mW (max q (-q)) (Qo (decide (0 < q)) l) else ([],0)
theorem NU:∀ (l:List bB) (a:Int),(mW a l).1.length<=l.length
 | [],_=>dU _
 | b :: r,a=>by
  simp only [mW];split
  ·have:=NU r (a-min a b.aZ);simp only [length_cons];omega
  ·simp
def tN (q n:Int) (p:aF):Bool:=p.inst==n&&((decide (0 < q)&&decide (p.aZ < 0))||(decide (q < 0)&&decide (0 < p.aZ)))
def It (q n:Int) (l:List aF):List Int:=pick (tN q n) aF.who l
def mP (q n:Int) (l:List aF):List Int:=pick (tN q n) (fun p=>max p.aZ (-p.aZ)) l
def G1 (f:eN):Bool:=within f.aZ 0 1099511627776&&within f.aH 0 1073741824
def OR (long:Bool) (n:Int):Int:=if long then n else -n
def F6 (w n:Int) (long:Bool) (f:eN):List aF:=[⟨f.src,n,OR long f.aZ,OR long (f.aZ*f.aH)⟩,⟨w,n,-OR long f.aZ,-OR long (f.aZ*f.aH)⟩]
def rE (l:List eN):Int:=if l.all G1 then (if l.all fun f=>bQ (f.aZ*f.aH) then 0 else 1) else 3
def rF (w n:Int) (long:Bool) (l:List eN):List aF:=if rE l=0 then l.flatMap (F6 w n long) else []
def Av (c iU:Int) (a:List Int):Int:=if (within c 0 2&&a.length==5)&&(within iU 0 4611686018427387904&&mO iU a==0) then 0 else 3
def JZ (c iU rest:Int) (g:List Int):dQ:=⟨c,iU,g.getD 0 0,g.getD 1 0,g.getD 2 0,g.getD 3 0,g.getD 4 0,rest⟩
def sM (c iU:Int) (a:List Int):dQ:=if Av c iU a=0 then JZ c iU (Ik iU a) (Dz iU a) else ⟨0,0,0,0,0,0,0,0⟩
theorem R2:∀ (l:List Int) (t:Int),(Dz t l).length=l.length
 | [],_=>rfl
 | c :: r,t=>by simp only [Dz,length_cons,R2 r]
def uT (t W:Int) (ws:List Int):List Int:=ws.map fun w=>t*w / W
def wA (t W:Int) (ws:List Int):List Int:=ws.map fun w=>t*w%W
def nA (rs:List Int) (gs:List Bool):Nat->Int
 | 0=>-1
 | i+1=>if !(gs.getD i true)&&(decide (nA rs gs i < 0)||decide (rs.getD (nA rs gs i).toNat 0 < rs.getD i 0)) then (i:Int) else nA rs gs i
def sQ (rs:List Int):Nat->List Bool->List Int->List Int
 | 0,_,ps=>ps
 | n+1,gs,ps=>sQ rs n (gs.set (nA rs gs rs.length).toNat true) (ps.set (nA rs gs rs.length).toNat (ps.getD (nA rs gs rs.length).toNat 0+1))
def pz (t:Int) (ws:List Int):Int:=if (!decide (t < 0)&&bQ t)&&right ws then (if Lb ws then (if 1024 < ws.length then 5 else if aG ws=0 then (if t=0 then 0 else 2) else 0) else 3) else 3
def iH (t:Int) (ws:List Int):List Int:=
 if pz t ws=0 then (if aG ws=0 then replicate ws.length 0 else sQ (wA t (aG ws) ws) (t-aG (uT t (aG ws) ws)).toNat (replicate ws.length false) (uT t (aG ws) ws)) else []
theorem N5 (rs:List Int):∀ (n:Nat) (gs:List Bool) (ps:List Int),(sQ rs n gs ps).length=ps.length
 | 0,_,_=>rfl
 | n+1,gs,ps=>by simp only [sQ];rw [N5 rs n];simp
theorem vI (t:Int) (ws:List Int):(iH t ws).length<=ws.length:=by
 unfold iH;split
 ·split
  ·simp
  ·rw [N5];simp [uT]
 ·simp
theorem yD (rs:List Int) (gs:List Bool):∀ i,-1<=nA rs gs i/\nA rs gs i < i
 | 0=>by simp [nA]
 | i+1=>by
  have:=yD rs gs i;simp only [nA];split<;>omega
theorem Wk (rs:List Int) (gs:List Bool):∀ i,(∃ j < i,gs.getD j true=false)->0<=nA rs gs i
 | 0,h=>by obtain ⟨j,d,_⟩:=h;omega
 | i+1,h=>by
  simp only [nA];split
  ·omega
  ·rename_i a;rcases Int.lt_or_le (nA rs gs i) 0 with hb | hb
   ·have c:decide (nA rs gs i < 0)=true:=dI hb;rw [c,Bool.true_or,Bool.and_true] at a;obtain ⟨j,d,b⟩:=h;rcases bZ j i with h2 | h2
    ·have:=Wk rs gs i ⟨j,h2,b⟩;omega
    ·obtain rfl:j=i:=ah
     rw [b] at a;exact absurd rfl a
   ·exact hb
theorem JC (rs:List Int) (gs:List Bool):∀ i,0<=nA rs gs i->gs.getD (nA rs gs i).toNat true=false
 | 0,h=>by simp [nA] at h
 | i+1,h=>by
  simp only [nA] at h |-;split
  ·rename_i a;simp only [cU,iK] at a;rw [show ((i:Int)).toNat=i by omega];exact a.1
  ·rename_i a;rw [ak a] at h;exact JC rs gs i h
theorem Ws:∀ {gs:List Bool},gs.count true < gs.length->∃ j < gs.length,gs.getD j true=false
 | [],h=>by simp at h
 | b :: r,h=>by
  cases b
  ·exact ⟨0,by simp,rfl⟩
  ·simp only [count_cons_self,length_cons] at h;obtain ⟨j,hj,a⟩:=Ws (gs:=r) ah;exact ⟨j+1,by simp;omega,by simpa using a⟩
theorem count_set:∀ {gs:List Bool} {j:Nat},gs.getD j true=false->(gs.set j true).count true=gs.count true+1
 | [],j,h=>by simp at h
 | b :: r,0,h=>by
  have h:b=false:=h;subst h;simp
 | b :: r,j+1,h=>by
  have:=count_set (gs:=r) (j:=j) (by simpa using h);simp only [set_cons_succ,count_cons,this];omega
theorem sx:∀ {l:List Int},(∀ x∈l,0<=x)->0<=aG l
 | [],_=>by simp [aG]
 | x :: r,h=>by
  have h1:=h x (by simp);have h2:=sx (l:=r) fun y a=>h y (by simp [a]);simp only [aG];omega
theorem Je:∀ {l:List Int},(∀ x∈l,0<=x)->∀ x∈l,x<=aG l
 | [],_,x,a=>by cases a
 | y :: r,h,x,a=>by
  have h1:=h y (by simp);have h2:=sx (l:=r) fun z b=>h z (by simp [b]);simp only [aG];rcases mem_cons.1 a with rfl | a
  ·omega
  ·have:=Je (l:=r) (fun z b=>h z (by simp [b])) x a;omega
theorem TS:∀ {l:List Int},(∀ x∈l,0<=x)->∀ i,aG (l.take i)<=aG l
 | [],_,i=>by simp
 | y :: r,h,0=>by simp only [take_zero];exact sx h
 | y :: r,h,i+1=>by
  have:=TS (l:=r) (fun z a=>h z (by simp [a])) i;simp only [take_succ_cons,aG];omega
theorem Qx {t W:Int} (c:1<=W):∀ {l:List Int},(∀ x∈l,0<=t*x)->0<=aG (uT t W l)/\W*aG (uT t W l)+aG (wA t W l)=t*aG l/\0<=aG (wA t W l)/\aG (wA t W l)<=(W-1)*l.length
 | [],_=>by simp [uT,wA,aG]
 | x :: r,h=>by
  obtain ⟨h1,h2,h3,h4⟩:=Qx c (l:=r) fun y d=>h y (by simp [d]);have b:=h x (by simp);have a1:=Int.mul_ediv_add_emod (t*x) W;have a2:=Int.emod_nonneg (t*x) (show W≠0 by omega);have a3:=Int.emod_lt_of_pos (t*x) (show 0 < W by omega);have a4:0<=t*x / W:=Int.ediv_nonneg b ah;have a:uT t W (x :: r)=(t*x / W) :: uT t W r:=rfl;have e2:wA t W (x :: r)=(t*x%W) :: wA t W r:=rfl;rw [a,e2];simp only [aG,length_cons];refine ⟨by omega,?_,by omega,?_⟩
  ·rw [Int.mul_add,Int.mul_add];omega
  ·push_cast;rw [Int.mul_add];omega
theorem BF {t W:Int} {ws:List Int} (e:0<=t) (b:aG ws=W) (a:1<=W) (f:∀ x∈ws,0<=x):0<=t-aG (uT t W ws)/\t-aG (uT t W ws) < ws.length:=by
 obtain ⟨h1,c,h3,d⟩:=Qx (t:=t) a (l:=ws) fun x g=>Int.mul_nonneg e (f x g);rw [b,Int.mul_comm t W] at c;have h5:W*(t-aG (uT t W ws))=aG (wA t W ws):=by rw [Int.mul_sub];omega
 have hpos:0 < ws.length:=by
  cases ws with
  | nil=>simp [aG] at b;omega
  | cons x r=>simp
 constructor
 ·rcases Int.lt_or_le (t-aG (uT t W ws)) 0 with h | h
  ·have:=Int.mul_neg_of_pos_of_neg (show 0 < W by omega) h;omega
  ·exact h
 ·rcases Int.lt_or_le (t-aG (uT t W ws)) ws.length with h | h
  ·exact h
  ·have h6:=Int.mul_le_mul_of_nonneg_left h (show 0<=W by omega);rw [Int.sub_mul] at d;omega
theorem K9 {t W x:Int} (b:0<=t) (hW1:1<=W) (c:0<=x) (f:x<=W):0<=t*x / W/\t*x / W<=t:=by
 have d:=Int.mul_nonneg b c;refine ⟨Int.ediv_nonneg d ah,?_⟩;have e:t*x<=t*W:=Int.mul_le_mul_of_nonneg_left f b;have a:=Int.ediv_le_ediv (show 0 < W by omega) e;rw [Int.mul_ediv_cancel _ (show W≠0 by omega)] at a;exact a
theorem Hl {t W:Int} {ws:List Int} (d:0<=t) (hW:aG ws=W) (a:1<=W) (e:∀ x∈ws,0<=x) (i:Nat):0<=aG (uT t W (ws.take i))/\aG (uT t W (ws.take i))<=t:=by
 have b:∀ x∈ws.take i,0<=x:=fun x c=>e x (mem_of_mem_take c);obtain ⟨f,h2,h3,h4⟩:=Qx (t:=t) a (l:=ws.take i) fun x c=>Int.mul_nonneg d (b x c);have h5:=TS e i;refine ⟨f,?_⟩;rcases Int.lt_or_le t (aG (uT t W (ws.take i))) with h | h
 ·have h6:t*aG (ws.take i)<=t*W:=Int.mul_le_mul_of_nonneg_left ah d;have g:=Int.mul_lt_mul_of_pos_left h (show 0 < W by omega);rw [Int.mul_comm W t] at g;omega
 ·exact h
theorem N7 {rs:List Int} {B:Int}:∀ (n:Nat) (gs:List Bool) (ps:List Int),0<=B->(∀ p∈ps,0<=p/\p<=B)->∀ p∈sQ rs n gs ps,0<=p/\p<=B+n
 | 0,_,_,_,h=>fun p a=>by have:=h p a;simp;omega
 | n+1,gs,ps,hB,h=>by
  intro p a;simp only [sQ] at a
  have:=N7 (B:=B+1) n _ _ ah (fun q c=>by
   rcases mem_or_eq_of_mem_set c with h1 | rfl
   ·have:=h q h1;omega
   ·have:0<=ps.getD (nA rs gs rs.length).toNat 0/\ps.getD (nA rs gs rs.length).toNat 0<=B:=by
     rw [getD_eq_getElem?_getD];cases b:ps[(nA rs gs rs.length).toNat]? with
     | none=>simp;exact hB
     | some x=>exact h x (dX b)
    omega) p a
  push_cast;omega
theorem VP (t:Int) (ws:List Int):∀ p∈iH t ws,0<=p/\p<=4611686018427388928:=by
 intro p c;unfold iH at c;split at c
 ·rename_i b;unfold pz at b;split at b
  ·rename_i e;simp only [cU,iK,gM] at e;split at b
   ·rename_i f;split at b
    ·cases b
    ·rename_i h3;split at c
     ·have:p=0:=by simpa using (mem_replicate.1 c).2
      omega
     ·rename_i h4;have a:∀ x∈ws,0<=x:=fun x d=>by
       have:=dn.1 f x d;simp only [iK,gM] at this;omega
      have hs0:=sx a;have hlr:=BF (t:=t) (ws:=ws) ah rfl ah a;have htr:=bI.1 e.1.2
      have:=N7 (B:=4611686018427387904) _ _ _ (by decide) (fun q g=>by
       obtain ⟨x,d,rfl⟩:=mem_map.1 g;have:=K9 (t:=t) (W:=aG ws) (x:=x) ah ah (a x d) (Je a x d)
       omega) p c
      omega
   ·cases b
  ·cases b
 ·cases c
def Qg (c:Int) (ws:List Int):Bool:=qt (fun x=>within x 1 16) (fun a b=>decide (a < b)) ws&&within c 0 2
def iW (l:bE) (c:Int) (ws:List Int):List Int:=ws.map fun w=>jo ⟨3,w,c⟩ l.bs
def iV (r:az) (ws:List Int):List Int:=ws.map fun w=>(fU r w).need
theorem Dw {A:Type} {no:A->Int} {n:Int} {z:A} {R:A->Prop} (a:R z):∀ {xs:List A},(∀ x∈xs,R x)->R (iE no n z xs)
 | [],_=>a
 | x :: r,h=>by
  simp only [iE];split
  ·exact h x (by simp)
  ·exact Dw a fun y b=>h y (by simp [b])
def iz (l:bE) (c:Int) (ws:List Int):Int:=if l.okB then (if Qg c ws then (if bQ (aG (iW l c ws)) then 0 else 1) else 3) else 14
def pN (l:bE) (c:Int) (ws:List Int):Int:=if iz l c ws=0 then aG (iW l c ws) else 0
def j0 (r:az) (ws:List Int):Int:=if r.okB then (if Qg 0 ws then (if bQ (aG (iV r ws)) then 0 else 1) else 3) else 14
def tM (r:az) (ws:List Int):Int:=if j0 r ws=0 then aG (iV r ws) else 0
def Ap (k c:Int) (ws ps:List Int) (i:Nat):List aU:=[⟨k,ws.getD i 0,c,-(ps.getD i 0)⟩]
def NB (k c n:Int) (ws ps:List Int):List aU:=⟨6,0,c,n⟩ :: rG (Ap k c ws ps) ps.length
def NA (k c n a:Int) (ws gs:List Int):Int:=if within n 0 4611686018427387904 then (if a < n then 13 else rL (NB k c n ws (iH n gs))) else 3
def NC (k c n a:Int) (ws gs:List Int):List aU:=if NA k c n a ws gs=0 then om (NB k c n ws (iH n gs)) else []
def Sv (l:bE) (c n:Int) (ws:List Int):Int:=if iz l c ws=0 then NA 3 c n (pN l c ws) ws (iW l c ws) else iz l c ws
def On (l:bE) (c n:Int) (ws:List Int):List aU:=if iz l c ws=0 then NC 3 c n (pN l c ws) ws (iW l c ws) else []
def Ch (r:az) (c n:Int) (ws:List Int):Int:=if j0 r ws=0 then (if within c 0 2 then NA 2 c n (tM r ws) ws (iV r ws) else 3) else j0 r ws
def yA (r:az) (c n:Int) (ws:List Int):List aU:=if j0 r ws=0&&within c 0 2 then NC 2 c n (tM r ws) ws (iV r ws) else []
def uP (ws ps:List Int) (i:Nat):List eN:=if 0 < ps.getD i 0 then [⟨ws.getD i 0,ps.getD i 0,0⟩] else []
def O0 (ws ps:List Int):List eN:=rG (uP ws ps) ps.length
def nj (b:aI) (w n k:Int):Int:=if b.okB then (if within k 0 1099511627776 then (if aG (mP (posOf w n b.qs).aZ n b.qs) < k then 13 else 0) else 3) else 14
def oA (b:aI) (w n k:Int):List eN:=if nj b w n k=0 then O0 (It (posOf w n b.qs).aZ n b.qs) (iH k (mP (posOf w n b.qs).aZ n b.qs)) else []
theorem Gt {A:Type} (p:A->Bool) (f g:A->Int):∀ l:List A,(pick p f l).length=(pick p g l).length
 | []=>rfl
 | x :: r=>by
  have:=Gt p f g r;simp only [pick,flatMap_cons,cm] at this |-;split<;>simp [this]
theorem GN {B:Int} (a:0<=B):∀ {l:List Int},(∀ x∈l,0<=x/\x<=B)->0<=aG l/\aG l<=B*l.length
 | [],_=>by simp [aG]
 | x :: r,h=>by
  have h1:=h x (by simp);have h2:=GN a (l:=r) fun y b=>h y (by simp [b]);simp only [aG,length_cons];push_cast;rw [Int.mul_add];omega
theorem WK {l:bE} (h:l.okB=true) (w c:Int):0<=jo ⟨3,w,c⟩ l.bs:=by
 simp only [bE.okB,cU] at h;have f:∀ b∈l.bs,qG b=true:=fun b a=>by
  obtain ⟨i,e,rfl⟩:=mem_iff_getElem.1 a;have:=dn.1 h.1.2 i (mem_range.2 e);rcases Nat.eq_zero_or_pos i with rfl | hp
  ·rwa [rO e] at this
  ·obtain ⟨j,rfl⟩:∃ j,i=j+1:=⟨i-1,by omega⟩
   rw [oS e,cU] at this;exact this.1
 clear h;generalize l.bs=bs at f;induction bs with
 | nil=>simp [jo]
 | cons b r ih =>
  simp only [jo];split
  ·rename_i a;have d:=f b (by simp);simp only [WB,cU,eH] at a;simp only [qG,cU,iK,gM] at d;have k:b.bz.floor=0:=by
    have:=aeB b.bz;rw [d.1,fc] at this;have g:(b.bz.kind==3)=true:=by simp [cq.bz,a.1]
    rw [g,Bool.true_or] at this;simpa using this
   rw [k] at d;omega
  ·exact ih fun b a=>f b (by simp [a])
def Gh (l:bE) (c:Int) (m:au):Int:=max (m.need-jo ⟨3,m.no,c⟩ l.bs) 0
def F5 (l:bE) (c:Int) (m:au):Int:=min (Gh l c m) (max (jo ⟨2,m.no,c⟩ l.bs) 0)
def kS (l:bE) (c:Int) (m:au):List aU:=if m.state==1 then cg ⟨2,m.no,c⟩ ⟨3,m.no,c⟩ (F5 l c m) else []
def yc (l:bE) (c:Int) (m:au):List aE:=if m.state==1&&decide (F5 l c m < Gh l c m) then [⟨m.no,c,Gh l c m-F5 l c m⟩] else []
def rfB (l:bE) (r:az) (c:Int):Bool:=(l.okB&&r.okB)&&within c 0 2
def gQ (l:bE) (r:az) (c:Int):Int:=if l.okB&&r.okB then (if within c 0 2 then rL (r.ms.flatMap (kS l c)) else 3) else 14
def dS (l:bE) (r:az) (c:Int):List aU:=if rfB l r c then om (r.ms.flatMap (kS l c)) else []
def pL (l:bE) (r:az) (c:Int):List aE:=if rfB l r c then r.ms.flatMap (yc l c) else []
theorem Ve {r:az} (h:r.okB=true):∀ m∈r.ms,m.ok=true:=by
 simp only [az.okB,cU] at h;exact fun m a=>D7 h.1.1 m a
def YI (s:af) (w:Int):Int:=if fJ s then (if bM s.aj w=0 then 10 else if bM s.aj w=2 then 0 else 14) else 14
def Pp (s:af) (w n:Int) (b:bB):Bool:=(b.who==w&&b.inst==n)&&bM s.aj b.src==1
def iD (s:af) (w n:Int) (l:List bB):List bB:=l.flatMap fun b=>if Pp s w n b then [b] else []
def jz (p:Int) (f:eN):eN:={ f with aH:=p }
def mC (b:aI) (w n:Int) (long:Bool) (f:List eN):aI × Int:=if rE f=0 then (wS b (rF w n long f),nw b (rF w n long f)) else (b,rE f)
def Ec (b:aI) (w n p:Int) (long:Bool) (rest:Int):aI × Int:=if nj b w n rest=0 then mC b w n long ((oA b w n rest).map (jz p)) else (b,nj b w n rest)
def ot (s:af) (b:aI) (w n q:Int):aI × Int:=
 if fQ (bA s.aj n) then
  (if qJ q (iD s w n s.bH)=0 then
   (if (mC b w n (decide (0 < q)) (ke q (iD s w n s.bH)).1).2=0/\(ke q (iD s w n s.bH)).2≠0 then
    Ec (mC b w n (decide (0 < q)) (ke q (iD s w n s.bH)).1).1 w n (cG (bA s.aj n)) (decide (0 < q)) (ke q (iD s w n s.bH)).2
   else mC b w n (decide (0 < q)) (ke q (iD s w n s.bH)).1)
  else (b,qJ q (iD s w n s.bH)))
 else (b,20)
structure aI.eo (b:aI):Prop where
 small:b.small
 short:b.qs.length < 2 ^ 20
 n7:∀ p∈b.qs,p.n7
 ok:∀ p∈b.qs,(-1099511627776<=p.aZ/\p.aZ<=1099511627776)/\bQ p.cost=true
theorem Nt {b:aI} (d:b.eo) (g:List aF):(wS b g).eo:=by
 unfold wS;split
 ·rename_i h;have c:=(Ex h).2.2;refine ⟨⟨d.small.1,?_⟩,?_,aeh h,?_⟩
  ·have:=Cf b g 16;show (Ce b g 16).length < _;omega
  ·have:=Cf b g 16;show (Ce b g 16).length < _;omega
  ·intro p a;obtain ⟨k,m,e,f,a⟩:=sH a;have:=Jp c e f;simp only [AQ,within,cU,bL] at this;unfold Nr at a;split at a
   ·cases a
   ·obtain rfl:=ga.1 a;exact ⟨this.2.2,this.2.1⟩
 ·exact ⟨⟨by simp,by simp⟩,by simp,by simp,by simp⟩
theorem BX {b:aI} (a:b.eo) (w n:Int) (long:Bool) (f:List eN):(mC b w n long f).1.eo:=by
 unfold mC;split
 ·exact Nt a _
 ·exact a
theorem VH {b:aI} (a:b.eo) (w n p:Int) (long:Bool) (rest:Int):(Ec b w n p long rest).1.eo:=by
 unfold Ec;split
 ·exact BX a _ _ _ _
 ·exact a
theorem VG {s:af} {b:aI} (a:b.eo) (w n q:Int):(ot s b w n q).1.eo:=by
 unfold ot;split
 ·split
  ·split
   ·exact VH (BX a _ _ _ _) _ _ _ _ _
   ·exact BX a _ _ _ _
  ·exact a
 ·exact a
theorem Yc (w n:Int) (long:Bool) (f:List eN):(rF w n long f).length<=2*f.length:=by
 unfold rF;split
 ·exact gw (f:=F6 w n long) (fun f=>by simp [F6]) f
 ·simp
theorem ZR (b:aI) (w n k:Int):(oA b w n k).length<=b.qs.length:=by
 unfold oA;split
 ·have h1:=yF (f:=uP (It (posOf w n b.qs).aZ n b.qs) (iH k (mP (posOf w n b.qs).aZ n b.qs))) (m:=1) (fun i=>by unfold uP;split<;>simp) (iH k (mP (posOf w n b.qs).aZ n b.qs)).length;have h2:=vI k (mP (posOf w n b.qs).aZ n b.qs);have h3:(mP (posOf w n b.qs).aZ n b.qs).length<=b.qs.length:=gx _ _ _;simp only [O0];omega
 ·simp
theorem Ju (s:af) (w n:Int) (l:List bB):(iD s w n l).length<=l.length:=by
 have:=gw (f:=fun b=>if Pp s w n b then [b] else []) (m:=1) (fun b=>by split<;>simp) l;simpa [iD] using this
theorem X7 (q:Int) (l:List bB):(ke q l).1.length<=l.length:=by
 unfold ke;split
 ·refine Nat.le_trans (NU _ _) ?_;rw [Qo,K6];simp
 ·simp
def dL (s:af) (w:Int):List Int:=pick (fun x=>!(x==w)) (fun x=>x) (ld s.aj [1])
theorem vK (r:az) (ss:List Int):(ld r ss).length<=r.ms.length:=gx _ _ _
theorem Hg (s:af) (w:Int):(dL s w).length<=s.aj.ms.length:=Nat.le_trans (gx _ _ _) (vK _ _)
def AK (s:af) (w c:Int) (p:fG):Bool:=p.who==w&&(nI s.aj p.fq).b==c
def uM (s:af) (p:fG):Int:=p.units*(nI s.aj p.fq).c
def yp (s:af) (w c:Int):List Int:=pick (AK s w c) (uM s) s.ps
def AL (s:af) (w c:Int):Int:=aG (yp s w c)
def qi (s:af) (w c:Int):Int:=if bQ (AL s w c) then AL s w c else 0
theorem Wi {r:az} (h:r.okB=true) (n:Int):0<=(nI r n).c/\(nI r n).c<=1073741824:=by
 simp only [az.okB,cU] at h;refine Dw (R:=fun a:ay=>0<=a.c/\a.c<=1073741824) (by decide) fun a b=>?_;have:=D7 h.2 a b;simp only [ay.ok,within,cU,bL] at this;omega
theorem ZI {s:af} (d:s.aj.okB=true) (e:mN s.ps=true):∀ p∈s.ps,0<=uM s p/\uM s p<=1180591620717411303424:=fun p g=>by
 have f:=Wi d p.fq;have hu:=((jB.1 e).1 p g).2;have h3:=jV (a:=p.units) (b:=(nI s.aj p.fq).c) (A:=1099511627776) (B:=1073741824) ah ah;have h4:=Int.mul_nonneg (show 0<=p.units by omega) f.1;simp only [uM];omega
def jD (s:af) (w:Int) (b:aI) (n:Int):aI × Int:=if (posOf w n b.qs).aZ==0 then (b,0) else ot s b w n (posOf w n b.qs).aZ
def mB (s:af) (w:Int):Nat->Nat->aI->aI × Int
 | 0,_,b=>(b,0)
 | m+1,i,b=>if (jD s w b ((i:Int)+1)).2=0 then mB s w m (i+1) (jD s w b ((i:Int)+1)).1 else ((jD s w b ((i:Int)+1)).1,(jD s w b ((i:Int)+1)).2)
def qK (w:Int) (l:List aF):List aF:=l.flatMap fun p=>if p.who==w then [] else [p]
def aac (s:af) (w:Int) (p:aF):List aE:=if p.who==w then [⟨w,(bA s.aj p.inst).cur,lq p (bA s.aj p.inst).mult 0⟩] else []
def wH (s:af) (w:Int) (l:List aF):List aE:=l.flatMap (aac s w)
def Am (s:af) (w:Int) (l:List aF):Bool:=l.all fun p=>!(p.who==w)||bQ (lq p (bA s.aj p.inst).mult 0)
def qh (s:af) (w:Int):Int:=if YI s w=0 then (if (mB s w 8 0 s.book).2=0 then (if Am s w (mB s w 8 0 s.book).1.qs then 0 else 1) else (mB s w 8 0 s.book).2) else YI s w
def qg (s:af) (w:Int):aI:=if qh s w=0 then ⟨(mB s w 8 0 s.book).1.next,(mB s w 8 0 s.book).1.ts,qK w (mB s w 8 0 s.book).1.qs⟩ else ⟨0,[],[]⟩
def jP (s:af) (w:Int):List aE:=if qh s w=0 then wH s w (mB s w 8 0 s.book).1.qs else []
theorem DX {s:af} {w:Int} {b:aI} (a:b.eo) (n:Int):(jD s w b n).1.eo:=by
 unfold jD;split
 ·exact a
 ·exact VG a _ _ _
theorem Gw {s:af} {w:Int}:∀ (m i:Nat) {b:aI},b.eo->(mB s w m i b).1.eo
 | 0,_,_,hb=>hb
 | m+1,i,b,hb=>by
  simp only [mB];split
  ·exact Gw m _ (DX hb _)
  ·exact DX hb _
theorem I0 {s:af} {w:Int} (h:YI s w=0):fJ s=true/\bM s.aj w=2:=by
 unfold YI at h;split at h
 ·split at h
  ·cases h
  ·split at h
   ·exact ⟨by assumption,by assumption⟩
   ·cases h
 ·cases h
def JG (s:af) (w c a:Int):Int:=aG [a,min (jo ⟨2,w,c⟩ s.bu.bs) 0]
def wI (s:af) (w c a:Int):Int:=aG [max (jo ⟨2,w,c⟩ s.bu.bs) 0,qi s w c,max (JG s w c a) 0]
def UD (s:af) (w c a:Int):Bool:=(bQ (AL s w c)&&bQ (JG s w c a))&&(bQ (wI s w c a)&&(iz s.bu c (dL s w)==0&&j0 s.aj (dL s w)==0))
def qI (s:af) (w c a:Int):Int:=if fJ s then (if bM s.aj w=0 then 10 else if within c 0 2&&bQ a then (if UD s w c a then 0 else 1) else 3) else 14
def iB (s:af) (w c a:Int):List Int:=if qI s w c a=0 then [wI s w c a,jo ⟨3,w,c⟩ s.bu.bs,jo ⟨4,0,c⟩ s.bu.bs,pN s.bu c (dL s w),tM s.aj (dL s w)] else []
def gj (s:af) (w c a:Int):Int:=if qI s w c a=0 then max (-JG s w c a) 0 else 0
theorem TN (s:af) (w c:Int):bQ (qi s w c)=true:=by
 unfold qi;split
 ·assumption
 ·rfl
def aiq (s:af) (w c a:Int) (f:dQ):List aU:=
 cg ⟨1,0,c⟩ ⟨2,w,c⟩ (qi s w c)++cg ⟨5,0,c⟩ ⟨2,w,c⟩ a++cg ⟨6,0,c⟩ ⟨2,w,c⟩ f.iU++cg ⟨2,w,c⟩ ⟨6,0,c⟩ f.c0++cg ⟨3,w,c⟩ ⟨6,0,c⟩ f.c1++cg ⟨4,0,c⟩ ⟨6,0,c⟩ f.c2
def XT (s:af) (w c a:Int) (f:dQ) (x y:Int):List aU:=
 aiq s w c a f++On s.bu c f.c3 (dL s w)++yA s.aj c f.c4 (dL s w)++cg ⟨2,w,c⟩ ⟨1,0,c⟩ x++cg ⟨3,w,c⟩ ⟨1,0,c⟩ y
def sJ (s:af) (w c d:Int) (f:dQ) (a b:Int):List aU × Int × Int:=
 if Sv s.bu c f.c3 (dL s w)=0 then (if Ch s.aj c f.c4 (dL s w)=0 then (if bQ (a-f.c0+(b-f.c1)) then (om (XT s w c d f (a-f.c0) (b-f.c1)),a-f.c0+(b-f.c1),rL (XT s w c d f (a-f.c0) (b-f.c1))) else ([],0,1)) else ([],0,Ch s.aj c f.c4 (dL s w))) else ([],0,Sv s.bu c f.c3 (dL s w))
theorem Gd (l:List aU):(om l).length<=306:=by
 unfold om;split
 ·exact Nat.le_trans (Yn _ _) Rh
 ·simp
theorem ND (k c n a:Int) (ws gs:List Int):(NC k c n a ws gs).length<=306:=by
 unfold NC;split
 ·exact Gd _
 ·simp
theorem YD (l:bE) (c n:Int) (ws:List Int):(On l c n ws).length<=306:=by
 unfold On;split
 ·exact ND _ _ _ _ _ _
 ·simp
theorem Rm (r:az) (c n:Int) (ws:List Int):(yA r c n ws).length<=306:=by
 unfold yA;split
 ·exact ND _ _ _ _ _ _
 ·simp
structure af.mid (s:af):Prop where
 small:s.small
 bs:s.bu.bs.length < 2 ^ 20
 qs:s.book.qs.length < 2 ^ 20
 ns:s.aj.ns.length < 2 ^ 20
def ap5 (l:List ByteArray):List (List D):=l.map fun s=>[.str s]
@[go_sem] theorem ap6 (l:List ByteArray):(ap5 l).length=l.length:=by simp [ap5]
def at8 (s1 s2 s3 s4 s5 r s t u e f g h:ByteArray) (i j k l m n o p q a b c d:Bool):List (ByteArray × Bool):=[(s1,i),(s2,j),(s3,k),(s4,l),(s5,m),(r,n),(s,o),(t,p),(u,q),(e,a),(f,b),(g,c),(h,d)]
def parts (a b:af):List (ByteArray × Bool):=at8 ⟨#[67,108,111,99,107]⟩ ⟨#[77,101,109,98,101,114,115]⟩ ⟨#[73,110,115,116,115]⟩ ⟨#[65,115,115,101,116,115]⟩ ⟨#[78,101,120,116]⟩ ⟨#[84,114,97,100,101,115]⟩ ⟨#[80,111,115,115]⟩ ⟨#[76,97,115,116]⟩ ⟨#[66,97,108,97,110,99,101,115]⟩ ⟨#[80,108,101,100,103,101,115]⟩ ⟨#[67,97,108,108,115]⟩ ⟨#[66,105,100,115]⟩ ⟨#[83,101,97,116,115]⟩ (a.now==b.now&&(a.day==b.day&&a.phase==b.phase)) (decide (a.aj.ms=b.aj.ms)) (decide (a.aj.ns=b.aj.ns)) (decide (a.aj.xs=b.aj.xs)) (a.book.next==b.book.next) (decide (a.book.ts=b.book.ts)) (decide (a.book.qs=b.book.qs)) (a.bu.last==b.bu.last) (decide (a.bu.bs=b.bu.bs)) (decide (a.ps=b.ps)) (decide (a.calls=b.calls)) (decide (a.bH=b.bH)) (decide (a.aA=b.aA))
@[reducible] def awt (x:Int):List D:=[.I x]
def tab {A:Type} (f:Nat->A) (n:Nat):List A:=(range n).map f
theorem adh {A:Type} (f:Nat->A):tab f 0=[]:=rfl
theorem adg {A:Type} (f:Nat->A) (n:Nat):tab f (n+1)=tab f n++[f n]:=by simp [tab,range_succ]
theorem Q3 {A:Type} (f:Nat->A) (n:Nat):(tab f n).length=n:=by simp [tab]
def gP (f:Nat->Int):Nat->Nat->Int
 | 0,_=>0
 | m+1,i=>if f i=0 then gP f m (i+1) else f i
def af.zero:af:=⟨0,0,0,⟨[],[],[]⟩,⟨0,[],[]⟩,⟨0,[]⟩,[],[],[],[]⟩
def cz (s:af) (w:Int) (c:Nat):Int:=oP w c (jP s w)
def AH (s:af) (w:Int) (c:Nat):Int:=jg w c (jP s w)
def yK (s:af) (w:Int) (c:Nat):List Int:=iB s w c (cz s w c)
def iP (s:af) (w:Int) (c:Nat):dQ:=sM c (gj s w c (cz s w c)) (yK s w c)
def Hi (s:af) (w:Int) (c:Nat):Int:=if qI s w c (cz s w c)=0 then Av c (gj s w c (cz s w c)) (yK s w c) else qI s w c (cz s w c)
def kQ (s:af) (w:Int) (c:Nat):List aU × Int × Int:=sJ s w c (cz s w c) (iP s w c) ((yK s w c).getD 0 0) ((yK s w c).getD 1 0)
def nextId (l:bE):Int:=IntKind.wrap .i64 (l.last+1)
def jj (l:bE) (g:List aU) (e:Int):bE × Int:=if e=0/\g≠[] then (kR l (nextId l) g,gf l (nextId l) g) else (l,e)
def qA (w:Int) (c:Nat) (n:Int):List aE:=if n==0 then [] else [⟨w,c,n⟩]
def Ai (s:af) (w:Int):Nat->Nat->bE->List aE->bE × List aE × Int
 | 0,_,l,p=>(l,p,0)
 | m+1,i,l,p =>
  if (jj l (kQ s w i).1 (kQ s w i).2.2).2=0 then Ai s w m (i+1) (jj l (kQ s w i).1 (kQ s w i).2.2).1 (p++qA w i (kQ s w i).2.1)
  else (l,p,(jj l (kQ s w i).1 (kQ s w i).2.2).2)
def Ky (w:Int) (l:List fG):List fG:=l.flatMap fun p=>if p.who==w then [] else [p]
def BE (w:Int) (l:List bB):List bB:=l.flatMap fun b=>if b.who==w||b.src==w then [] else [b]
def BL (s:af) (w:Int):Int:=
 if qh s w=0 then (if gP (AH s w) 3 0=0 then (if gP (Hi s w) 3 0=0 then (Ai s w 3 0 s.bu []).2.2 else gP (Hi s w) 3 0) else gP (AH s w) 3 0) else qh s w
def DQ (s:af) (w:Int):af:=
 if BL s w=0 then { s with aj:=ju s.aj w 3,book:=qg s w,bu:=(Ai s w 3 0 s.bu []).1,ps:=Ky w s.ps,calls:=eI s.calls [w],bH:=BE w s.bH } else .zero
def MS (s:af) (w:Int):List dQ:=if BL s w=0 then tab (iP s w) 3 else []
def MR (s:af) (w:Int):List aE:=if BL s w=0 then (Ai s w 3 0 s.bu []).2.1 else []
theorem aad (s:af) (w:Int) (l:List aF):(wH s w l).length<=l.length:=by
 have:=gw (f:=aac s w) (m:=1) (fun p=>by unfold aac;split<;>simp) l;simpa [wH] using this
theorem J4 {f:Nat->Int}:∀ {m i:Nat},gP f m i=0->∀ c,i<=c->c < i+m->f c=0
 | 0,i,_,c,h1,h2=>by omega
 | m+1,i,h,c,h1,h2=>by
  simp only [gP] at h;split at h
  ·rename_i a;rcases bZ i c with h3 | h3
   ·exact J4 h c ah ah
   ·obtain rfl:c=i:=ah
    exact a
  ·rename_i a;exact absurd h a
theorem BN {l:bE} {id:Int} {g:List aU}:(kR l id g).bs.length<=306/\∀ b∈(kR l id g).bs,b.n7:=by
 unfold kR;split
 ·rename_i h;refine ⟨Nat.le_trans (acH _ _ _) Rh,?_⟩;have i:Ho l g jd=true:=by
   unfold gf at h;split at h
   ·split at h
    ·split at h
     ·cases h
     ·split at h
      ·split at h
       ·assumption
       ·cases h
      ·rename_i j;exact absurd h j
    ·cases h
   ·cases h
  intro b f;obtain ⟨a,d,f⟩:=mem_flatMap.1 f;unfold EB at f;split at f
  ·cases f
  ·obtain rfl:=ga.1 f;have o:=dn.1 i a d;have e:gm a.kind/\gm a.who/\gm a.cur:=by
    obtain ⟨k,n,d⟩:=mem_flatMap.1 d;obtain ⟨w,p,d⟩:=mem_flatMap.1 d;obtain ⟨c,m,d⟩:=mem_flatMap.1 d;have h1:=mem_range.1 n;have j:=mem_range.1 p;have h3:=mem_range.1 m;unfold acc at d;split at d
    ·obtain rfl:=ga.1 d;exact ⟨⟨by dsimp only;omega,by dsimp only;omega⟩,⟨by dsimp only;omega,by dsimp only;omega⟩,⟨by dsimp only;omega,by dsimp only;omega⟩⟩
    ·cases d
   exact ⟨e.1,e.2.1,e.2.2,UX o⟩
 ·exact ⟨by simp,by simp⟩
def bE.eo (l:bE):Prop:=l.bs.length < 2 ^ 29/\(∀ b∈l.bs,b.n7)/\gm l.last
theorem U6 (w:Int) (l:List bB):(BE w l).length<=l.length:=by
 have:=gw (f:=fun b:bB=>if b.who==w||b.src==w then [] else [b]) (m:=1) (fun p=>by split<;>simp) l;simpa [BE] using this
def fH (s:af):List aE:=(xU (sG s.aj s.book)).1
def yT (s:af):bE × Int:=jj s.bu (rS (fH s)) (DO (fH s))
def jF (s:af):Int:=if fJ s then (if s.phase=0 then (if wO s.aj s.book=0 then (if (xU (sG s.aj s.book)).2=0 then (yT s).2 else (xU (sG s.aj s.book)).2) else wO s.aj s.book) else 15) else 14
def lJ (s:af):af:=if jF s=0 then { s with phase:=1,aj:=L1 s.aj,book:=D8 s.aj s.book,bu:=(yT s).1 } else .zero
def qW (s:af):List aE:=if jF s=0 then fH s else []
def xV (s:af):Int:=if fJ s then (if s.phase=2 then (if s.day=1099511627776 then 1 else 0) else 15) else 14
def uE (s:af):af:=if xV s=0 then { s with day:=s.day+1,phase:=0,book:=⟨s.book.next,[],s.book.qs⟩ } else .zero
def aB.due (c:aB):aE:=⟨c.who,c.cur,c.br⟩
def lV:List aB->az × List aB->az × List aB
 | [],x=>x
 | c :: r,x=>lV r (ju x.1 c.who 2,eI x.2 [c.who])
def qk (s:af) (n:Int):Int:=if fJ s then (if within n 1 1000 then (if 1099511627776 < s.now+n then 1 else 0) else 3) else 14
def mD (s:af) (n:Int):af:=if qk s n=0 then { s with now:=s.now+n,aj:=(lV (kg (s.now+n) s.calls) (s.aj,s.calls)).1,calls:=(lV (kg (s.now+n) s.calls) (s.aj,s.calls)).2 } else .zero
def qj (s:af) (n:Int):List aE:=if qk s n=0 then (kg (s.now+n) s.calls).map aB.due else []
theorem T6 {A:Type} (no:A->Int) (n:Int) (f:A->A) (l:List A):(yw no n f l).length<=l.length:=by
 induction l with
 | nil=>simp [yw]
 | cons x r ih=>simp only [yw];split<;>simp<;>omega
theorem Zf {r:az} (h:r.lp) (n p:Int):(ju r n p).lp:=by
 unfold ju;split
 ·obtain ⟨a,b,c⟩:=h;exact ⟨Nat.lt_of_le_of_lt (T6 _ _ _ _) a,b,c⟩
 ·exact ⟨by simp [az.none],by simp [az.none],by simp [az.none]⟩
theorem Rb (xs:List aB) (ws:List Int):(eI xs ws).length<=xs.length:=by
 have:=gw (f:=fun x:aB=>if Ob ws x.who then [] else [x]) (m:=1) (fun p=>by split<;>simp) xs;simpa [eI] using this
theorem Yq (n:Int) (xs:List aB):(kg n xs).length<=xs.length:=by
 have:=gw (f:=fun x:aB=>if x.till<=n then [x] else []) (m:=1) (fun p=>by split<;>simp) xs;simpa [kg] using this
def KP (s:af):Int:=min (s.now+3) 1099511627776
def rQ (s:af) (w:Int):Nat->Nat->List aB × List aE->(List aB × List aE) × Int
 | 0,_,x=>(x,0)
 | m+1,c,x=>if Xf s w c=0 then rQ s w m (c+1) (Mk x.1 ⟨w,c,TI s w c⟩ (KP s),x.2++qA w c (TI s w c)) else (x,Xf s w c)
def vi (s:af):List Int->List aB × List aE->(List aB × List aE) × Int
 | [],x=>(x,0)
 | w :: r,x=>if (rQ s w 3 0 x).2=0 then vi s r (rQ s w 3 0 x).1 else rQ s w 3 0 x
def YG (s:af):(List aB × List aE) × Int:=vi s (ld s.aj [1]) (s.calls,[])
def lG (s:af):Int:=if fJ s then (if s.phase=1 then (YG s).2 else 15) else 14
def kj (s:af):af:=if lG s=0 then { s with phase:=2,calls:=(YG s).1.1 } else .zero
def pK (s:af):List aE:=if lG s=0 then (YG s).1.2 else []
theorem aaU (xs:List aB) (d:aE) (a:Int):(Mk xs d a).length<=48:=by
 unfold Mk;split
 ·exact acW _ _ _
 ·simp
structure aN where
 client:Int
 seq:Int
 kind:Int
 who:Int
 other:Int
 no:Int
 inst:Int
 cur:Int
 aZ:Int
 aH:Int
 br:Int
 s0:Int
 s1:Int
 s2:Int
 s3:Int
 s4:Int
 s5:Int
deriving DecidableEq
@[reducible] def aN.cells (x:aN):List D:=[.I x.client,.I x.seq,.I x.kind,.I x.who,.I x.other,.I x.no,.I x.inst,.I x.cur,.I x.aZ,.I x.aH,.I x.br,.I x.s0,.I x.s1,.I x.s2,.I x.s3,.I x.s4,.I x.s5]
def HE (r:az) (w:Int):Int:=if gF r w then (if (fU r w).state=1 then 0 else 14) else 10
def aet (s:af) (w c:Int):Int:=if Xf s w c=0 then (if decide (0 < TI s w c)||decide (0<=eO w c s.calls) then 17 else 0) else Xf s w c
def ku (n:Int):List aO->Int->Int
 | [],_=>-1
 | x :: r,i=>if x.client==n then i else ku n r (i+1)
def eU (s:ByteArray) (i:Nat):Int:=((s[i]?).map (fun x=>(x.toNat:Int))).getD 0
def UT (s:ByteArray) (b:Int):Nat->Nat->Bool
 | 0,_=>false
 | m+1,i=>eU s i==b||UT s b m (i+1)
def hasB (s:ByteArray) (b:Int):Bool:=UT s b s.size 0
def Gl:List ByteArray:=[⟨#[]⟩,⟨#[119,97]⟩,⟨#[105,99,113,97,115]⟩,⟨#[110,99,112,97]⟩,⟨#[119,99,97]⟩,⟨#[119,99,97]⟩,⟨#[119,110,113]⟩,⟨#[119,110,113]⟩,⟨#[119,99,97]⟩,⟨#[99,97]⟩,⟨#[119,111,105,113,112]⟩,⟨#[110]⟩,⟨#[110,113,112]⟩,⟨#[105,112]⟩,⟨#[]⟩,⟨#[]⟩,⟨#[]⟩,⟨#[97]⟩,⟨#[119,105,111,113,112]⟩,⟨#[119]⟩,⟨#[]⟩,⟨#[110,119,99]⟩,⟨#[119,105]⟩]
def dJ (k:Int):ByteArray:=Gl.getD k.toNat ⟨#[]⟩
def oM (c:aN) (b:Int):Int:=if b=119 then c.who else if b=111 then c.other else if b=110 then c.no else if b=105 then c.inst else if b=99 then c.cur else if b=113 then c.aZ else if b=112 then c.aH else c.br
def sO (c:aN) (l a:ByteArray):Nat->Nat->Int
 | 0,_=>0
 | m+1,i=>if !hasB l (eU a i)&&!(oM c (eU a i)==0) then 6 else sO c l a m (i+1)
def tT (c:aN):Nat->Int
 | 0=>c.s0
 | 1=>c.s1
 | 2=>c.s2
 | 3=>c.s3
 | 4=>c.s4
 | _=>c.s5
def xD (c:aN) (l:ByteArray):Nat->Nat->Int
 | 0,_=>0
 | m+1,i=>if !hasB l 115&&!(tT c i==0) then 6 else xD c l m (i+1)
def pP:ByteArray:=⟨#[119,111,110,105,99,113,112,97]⟩
def fC (c:aN):Int:=if within c.kind 1 22 then (if sO c (dJ c.kind) pP 8 0=0 then (if xD c (dJ c.kind) 6 0=0 then (if within c.client 1 8 then 0 else 6) else 6) else 6) else 21
theorem J8 (c:aN) (l a:ByteArray):∀ m i,sO c l a m i=0\/sO c l a m i=6
 | 0,_=>.inl rfl
 | m+1,i=>by simp only [sO];split;exact .inr rfl;exact J8 c l a m (i+1)
def aT.err (e:Int):aT:=⟨e,0,0,[],[]⟩
def jh (c:aN) (last:Int):aT × Bool:=if c.seq=IntKind.wrap .i64 (last+1) then (if 1099511627776 < c.seq then (.err 1,true) else (.err 0,false)) else (.err 19,true)
def aO.zero:aO:=⟨0,0,.err 0⟩
def mR (s:af) (i:Int):aO:=s.aA.getD i.toNat .zero
def ec (s:af) (c:aN):aT × Bool:=
 if fC c=0 then (if 0<=ku c.client s.aA 0 then (if c.seq=(mR s (ku c.client s.aA 0)).seq then ((mR s (ku c.client s.aA 0)).r,true) else if c.seq < (mR s (ku c.client s.aA 0)).seq then (.err 18,true) else jh c (mR s (ku c.client s.aA 0)).seq) else jh c 0) else (.err (fC c),true)
def qz (s:af) (g:List aU):Int:=gf s.bu (nextId s.bu) g
def sF (s:af) (g:List aU):af:=if qz s g=0 then { s with bu:=kR s.bu (nextId s.bu) g } else s
structure af.good (s:af):Prop where
 small:s.small
 n7:s.n7
 ms:s.aj.ms.length < 2 ^ 27
 qs:s.book.qs.length < 2 ^ 20
 bH:s.bH.length < 2 ^ 20
 bs:s.bu.bs.length < 2 ^ 29
 ps:s.ps.length < 2 ^ 28
theorem af.good.bu {s:af} (h:s.good) {l:bE} (a:l.eo):({ s with bu:=l }:af).good:=
 ⟨⟨h.small.aj,h.small.book,Nat.lt_trans a.1 (by decide),h.small.ps,h.small.calls,h.small.bH,h.small.aA,h.small.rs⟩,
  ⟨h.n7.now,h.n7.day,h.n7.phase,h.n7.ms,h.n7.ns,h.n7.xs,h.n7.next,h.n7.ts,h.n7.qs,a.2.2,a.2.1,h.n7.ps,h.n7.calls,h.n7.bH,h.n7.aA⟩,h.ms,h.qs,h.bH,a.1,h.ps⟩
theorem af.good.eo {s:af} (h:s.good):s.bu.eo:=⟨h.bs,h.n7.bs,h.n7.last⟩
def WL (s:af) (d:aE):af:={ s with calls:=AD s.calls d }
def wM (s:af) (c:aN):af × Int:=
 if aP.right ⟨2,c.who,c.cur⟩&&within c.br 1 4611686018427387904 then
  (if HE s.aj c.who=0 then
   (if c.kind=8 then (sF s (cg ⟨1,0,c.cur⟩ ⟨3,c.who,c.cur⟩ c.br),qz s (cg ⟨1,0,c.cur⟩ ⟨3,c.who,c.cur⟩ c.br))
   else if c.kind=4 then
    (if qz s (cg ⟨1,0,c.cur⟩ ⟨2,c.who,c.cur⟩ c.br)=0 then (WL (sF s (cg ⟨1,0,c.cur⟩ ⟨2,c.who,c.cur⟩ c.br)) ⟨c.who,c.cur,c.br⟩,G8 s.calls ⟨c.who,c.cur,c.br⟩)
    else (sF s (cg ⟨1,0,c.cur⟩ ⟨2,c.who,c.cur⟩ c.br),qz s (cg ⟨1,0,c.cur⟩ ⟨2,c.who,c.cur⟩ c.br)))
   else
    (sF s (cg ⟨2,c.who,c.cur⟩ ⟨1,0,c.cur⟩ c.br),if qz s (cg ⟨2,c.who,c.cur⟩ ⟨1,0,c.cur⟩ c.br)=0 then aet (sF s (cg ⟨2,c.who,c.cur⟩ ⟨1,0,c.cur⟩ c.br)) c.who c.cur else qz s (cg ⟨2,c.who,c.cur⟩ ⟨1,0,c.cur⟩ c.br)))
  else (s,HE s.aj c.who))
 else (s,3)
def UU (r:az) (n:Int):Bool:=decide (0<=jt ay.a n r.xs)
def oQ (r:az) (n:Int):ay:=iE ay.a n ⟨0,0,0,0⟩ r.xs
def ng (c:aN):Int:=if c.kind=7 then -c.aZ else c.aZ
def oq (s:af) (c:aN) (n:Int):af × Int:=
 if within c.aZ 1 1099511627776 then
  (if gF s.aj c.who&&UU s.aj c.no then
   (if (fU s.aj c.who).state=1 then
    (if fP s.ps c.who c.no n=0 then
     (if n < 0 then ({ s with ps:=eP s.ps c.who c.no n },aet { s with ps:=eP s.ps c.who c.no n } c.who (oQ s.aj c.no).b)
     else if (oQ s.aj c.no).E n=0 then ({ s with ps:=eP s.ps c.who c.no n,calls:=AD s.calls ⟨c.who,(oQ s.aj c.no).b,(oQ s.aj c.no).V n⟩ },G8 s.calls ⟨c.who,(oQ s.aj c.no).b,(oQ s.aj c.no).V n⟩)
     else ({ s with ps:=eP s.ps c.who c.no n },(oQ s.aj c.no).E n))
    else (s,fP s.ps c.who c.no n))
   else (s,14))
  else (s,10))
 else (s,3)
theorem PC {ps:List fG} {w a u:Int} (h:fP ps w a u=0):Good (eP ps w a u):=by
 obtain ⟨b,c,h3,h4,h5,d⟩:=XR h;unfold eP;rw [aq h];exact aa5 c d b
theorem ajE {p:fG} (h:p.ok):p.n7:=by
 obtain ⟨a,h2,h3⟩:=h;have:=rZ.1 a;exact ⟨⟨by omega,by omega⟩,⟨by omega,by omega⟩,⟨by omega,by omega⟩⟩
def iA (c:aN):aL:=⟨0,c.who,c.other,c.inst,c.aZ,c.aH,false⟩
def nD (s:af) (c:aN):af × Int × Int:=
 if c.kind=10 then
  (if vL s.aj (iA c)=0 then ({ s with book:=jf s.book (iA c) },oL s.book (iA c),gO s.book (iA c)) else (s,0,vL s.aj (iA c)))
 else if c.kind=13 then ({ s with aj:=oB s.aj c.inst c.aH },0,wD s.aj c.inst c.aH)
 else if lR c.no s.book.ts < 0 then (s,0,10)
 else if HE s.aj (bN c.no s.book.ts).jK=0/\HE s.aj (bN c.no s.book.ts).gK=0 then
  (if c.kind=11 then ({ s with book:=ct s.book c.no },0,fY s.book c.no)
  else ({ s with book:=pQ s.book c.no c.aZ c.aH },Cs s.book c.no c.aZ c.aH,uk s.book c.no c.aZ c.aH))
 else (s,0,14)
def wN (s:af) (c:Int):af × Int:=if gQ s.bu s.aj c=0/\dS s.bu s.aj c≠[] then (sF s (dS s.bu s.aj c),qz s (dS s.bu s.aj c)) else (s,gQ s.bu s.aj c)
def nB:Nat->Nat->af->List aE->af × List aE × Int
 | 0,_,s,ds=>(s,ds,0)
 | m+1,c,s,ds=>if (wN s c).2=0 then nB m (c+1) (wN s c).1 (ds++pL s.bu s.aj c) else ((wN s c).1,[],(wN s c).2)
theorem Hr (l:bE) (r:az) (c:Int):(pL l r c).length<=r.ms.length:=by
 unfold pL;split
 ·have:=gw (f:=yc l c) (m:=1) (fun m=>by unfold yc;split<;>simp) r.ms;simpa using this
 ·simp
theorem To (l:bE) (r:az) (c:Int):(dS l r c).length<=306:=by
 unfold dS;split
 ·exact Gd _
 ·simp
def uW (s:af) (c:aN):af × Int:=
 if within c.aZ 1 1048576&&within c.aH 1 1073741824 then
  (if gF s.aj c.who&&(gF s.aj c.other&&bJ s.aj c.inst) then
   (if c.who=c.other then (s,16)
   else if (fU s.aj c.who).state=2/\(fU s.aj c.other).state=1 then
    (if 32<=s.bH.length then (s,9) else ({ s with bH:=s.bH++[⟨c.who,c.inst,c.other,c.aZ,c.aH⟩] },0))
   else (s,14))
  else (s,10))
 else (s,3)
@[reducible] def af.aa0 (s:af) (r:Nat):List D:=[.I s.now,.I s.day,.I s.phase,.sl 3 (s.aj.ms.map au.cells),.sl 12 (s.aj.ns.map aC.cells),.sl 4 (s.aj.xs.map ay.cells),.I s.book.next,.sl 7 (s.book.ts.map aL.cells),.sl 4 (s.book.qs.map aF.cells),
 .I s.bu.last,.sl 4 (s.bu.bs.map cq.cells),.sl 3 (pl s.ps),.sl 4 (s.calls.map aB.cells),.ref r,.sl 7 (s.aA.map aO.cells)]
end Go.Proofs.YtccipdjjkcejgaaGreat
