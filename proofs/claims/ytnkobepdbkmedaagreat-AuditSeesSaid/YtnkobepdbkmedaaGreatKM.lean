/- One number is another one: what a state holds no more. No theorem of a claim. -/
import Derived.Test.YtnkobepdbkmedaaGreatKK
set_option linter.unusedSimpArgs false
set_option linter.unusedVariables false
namespace Go.Proofs.YtnkobepdbkmedaaGreat
open Go.Abs
theorem Hh {A:Type} (F:A->Int) (y:A):∀ {l:List A} {k:Nat} (h:k < l.length),tot (l.set k y) F=tot l F-F l[k]+F y
 | [],k,h=>by simp at h
 | x :: r,0,_=>by simp only [List.set_cons_zero,eP,List.getElem_cons_zero];omega
 | x :: r,k+1,h=>by
  have:=Hh F y (l:=r) (k:=k) (by simpa using h);simp only [List.set_cons_succ,eP,this,List.getElem_cons_succ];omega
theorem JA (c:Int) (bs:List bp):az (fO c bs)=tot bs (fun b=>y8 c b.bG b.sum):=by
 induction bs with
 | nil=>rfl
 | cons b r ih=>rw [uf,ih];rfl
theorem FB (n:Int) (qs:List aA):az (bR n qs)=tot qs (fun p=>if p.inst=n then p.aV else 0):=by
 induction qs with
 | nil=>rfl
 | cons b r ih=>rw [jC,ih];rfl
def xe (b:bp) (n:Int):bp:={ b with sum:=b.sum+n }
def yT (p:aA) (n:Int):aA:={ p with aV:=p.aV+n }
def zB (s:af) (k:Nat) (n:Int):af:={ s with aU:=⟨s.aU.last,s.aU.bs.set k (xe (s.aU.bs.getD k ⟨0,0,0,0⟩) n)⟩ }
def Ax (s:af) (k:Nat) (n:Int):af:={ s with book:=⟨s.book.next,s.book.ts,s.book.qs.set k (yT (s.book.qs.getD k ⟨0,0,0,0⟩) n)⟩ }
theorem PG {s:af} {c:Nat} (hc:c < 3) (h:mZ s (c:Int)=false):iq s=false:=by
 cases hh:iq s
 ·rfl
 ·simp only [iq,bW,List.all_eq_true] at hh;have:=(hh.2.2 c (List.mem_range.2 hc)).1;rw [h] at this;cases this
theorem OR {s:af} {i:Nat} (hi:i < 8) (h:qZ s ((i:Int)+1)=false):iq s=false:=by
 cases hh:iq s
 ·rfl
 ·simp only [iq,bW,List.all_eq_true] at hh;have:=hh.2.1 i (List.mem_range.2 hi);rw [h] at this;cases this
theorem R3 {s:af} (h:s.right) {k:Nat} (hk:k < s.aU.bs.length) {n:Int} (hn:n≠0):iq (zB s k n)=false:=by
 have hr:=qy (qu h.aU _ (List.getElem_mem hk));have hcur:s.aU.bs[k].bG.cur=s.aU.bs[k].cur:=rfl;have hz:=ES h.aU s.aU.bs[k].cur;refine PG (c:=s.aU.bs[k].cur.toNat) (by omega) ?_;have e:((s.aU.bs[k].cur.toNat:Nat):Int)=s.aU.bs[k].cur:=by omega
 rw [e];simp only [mZ,beq_eq_false_iff_ne,ne_eq];have hg:s.aU.bs.getD k ⟨0,0,0,0⟩=s.aU.bs[k]:=by rw [List.getD_eq_getElem?_getD,List.getElem?_eq_getElem hk];rfl
 have h1:az (nF s.aU.bs[k].cur [] (zB s k n).aU.bs)=n:=by
  unfold zB;rw [Mo,JA,hg,Hh _ _ hk,<- JA,hz,wZ,wZ,if_pos rfl];have:y8 s.aU.bs[k].cur (xe s.aU.bs[k] n).bG (xe s.aU.bs[k] n).sum=s.aU.bs[k].sum+n:=by rw [wZ];exact if_pos rfl
  simp only [xe,if_true];omega
 rw [h1];exact hn
theorem Th {s:af} (h:s.right) {k:Nat} (hk:k < s.book.qs.length) {n:Int} (hn:n≠0):iq (Ax s k n)=false:=by
 have hb:=dD.1 h.book;have hp:=jI.1 (hb.ok _ (List.getElem_mem hk));have hz:=hb.level s.book.qs[k].inst hp.2.1.1 hp.2.1.2;refine OR (i:=(s.book.qs[k].inst-1).toNat) (by omega) ?_;have e:(((s.book.qs[k].inst-1).toNat:Nat):Int)+1=s.book.qs[k].inst:=by omega
 rw [e];simp only [qZ,beq_eq_false_iff_ne,ne_eq];have hg:s.book.qs.getD k ⟨0,0,0,0⟩=s.book.qs[k]:=by rw [List.getD_eq_getElem?_getD,List.getElem?_eq_getElem hk];rfl
 have h1:az (bR s.book.qs[k].inst (Ax s k n).book.qs)=n:=by
  unfold Ax;rw [FB,hg,Hh _ _ hk,<- FB,hz];have h2:(if (yT s.book.qs[k] n).inst=s.book.qs[k].inst then (yT s.book.qs[k] n).aV else 0)=s.book.qs[k].aV+n:=if_pos rfl;have h3:(if s.book.qs[k].inst=s.book.qs[k].inst then s.book.qs[k].aV else 0)=s.book.qs[k].aV:=if_pos rfl;rw [h2,h3];omega
 rw [h1];exact hn
end Go.Proofs.YtnkobepdbkmedaaGreat
