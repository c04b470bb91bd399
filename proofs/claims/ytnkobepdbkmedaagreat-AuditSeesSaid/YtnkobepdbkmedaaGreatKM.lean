/- One number is another one: what a state holds no more. No theorem of a claim. -/
import Derived.Test.YtnkobepdbkmedaaGreatKK
set_option linter.unusedSimpArgs false
set_option linter.unusedVariables false
namespace Go.Proofs.YtnkobepdbkmedaaGreat
open Go.Abs
theorem G9 {A:Type} (F:A->Int) (y:A):∀ {l:List A} {k:Nat} (h:k < l.length),tot (l.set k y) F=tot l F-F l[k]+F y
 | [],k,h=>by simp at h
 | x :: r,0,_=>by simp only [List.set_cons_zero,eR,List.getElem_cons_zero];omega
 | x :: r,k+1,h=>by
  have:=G9 F y (l:=r) (k:=k) (by simpa using h);simp only [List.set_cons_succ,eR,this,List.getElem_cons_succ];omega
theorem J9 (c:Int) (bs:List bp):az (fN c bs)=tot bs (fun b=>yY c b.bH b.sum):=by
 induction bs with
 | nil=>rfl
 | cons b r ih=>rw [uf,ih];rfl
theorem ED (n:Int) (qs:List aA):az (bR n qs)=tot qs (fun p=>if p.inst=n then p.aV else 0):=by
 induction qs with
 | nil=>rfl
 | cons b r ih=>rw [jI,ih];rfl
def wh (b:bp) (n:Int):bp:={ b with sum:=b.sum+n }
def yP (p:aA) (n:Int):aA:={ p with aV:=p.aV+n }
def zU (s:af) (k:Nat) (n:Int):af:={ s with aU:=⟨s.aU.last,s.aU.bs.set k (wh (s.aU.bs.getD k ⟨0,0,0,0⟩) n)⟩ }
def Aj (s:af) (k:Nat) (n:Int):af:={ s with book:=⟨s.book.next,s.book.ts,s.book.qs.set k (yP (s.book.qs.getD k ⟨0,0,0,0⟩) n)⟩ }
theorem PA {s:af} {c:Nat} (hc:c < 3) (h:mZ s (c:Int)=false):ir s=false:=by
 cases hh:ir s
 ·rfl
 ·simp only [ir,bZ,List.all_eq_true] at hh;have:=(hh.2.2 c (List.mem_range.2 hc)).1;rw [h] at this;cases this
theorem Ny {s:af} {i:Nat} (hi:i < 8) (h:qZ s ((i:Int)+1)=false):ir s=false:=by
 cases hh:ir s
 ·rfl
 ·simp only [ir,bZ,List.all_eq_true] at hh;have:=hh.2.1 i (List.mem_range.2 hi);rw [h] at this;cases this
theorem Tv {s:af} (h:s.right) {k:Nat} (hk:k < s.aU.bs.length) {n:Int} (hn:n≠0):ir (zU s k n)=false:=by
 have hr:=qE (qw h.aU _ (List.getElem_mem hk));have hcur:s.aU.bs[k].bH.cur=s.aU.bs[k].cur:=rfl;have hz:=E6 h.aU s.aU.bs[k].cur;refine PA (c:=s.aU.bs[k].cur.toNat) (by omega) ?_;have e:((s.aU.bs[k].cur.toNat:Nat):Int)=s.aU.bs[k].cur:=by omega
 rw [e];simp only [mZ,beq_eq_false_iff_ne,ne_eq];have hg:s.aU.bs.getD k ⟨0,0,0,0⟩=s.aU.bs[k]:=by rw [List.getD_eq_getElem?_getD,List.getElem?_eq_getElem hk];rfl
 have h1:az (nP s.aU.bs[k].cur [] (zU s k n).aU.bs)=n:=by
  unfold zU;rw [Ni,J9,hg,G9 _ _ hk,<- J9,hz,wQ,wQ,if_pos rfl];have:yY s.aU.bs[k].cur (wh s.aU.bs[k] n).bH (wh s.aU.bs[k] n).sum=s.aU.bs[k].sum+n:=by rw [wQ];exact if_pos rfl
  simp only [wh,if_true];omega
 rw [h1];exact hn
theorem Tn {s:af} (h:s.right) {k:Nat} (hk:k < s.book.qs.length) {n:Int} (hn:n≠0):ir (Aj s k n)=false:=by
 have hb:=dG.1 h.book;have hp:=jE.1 (hb.ok _ (List.getElem_mem hk));have hz:=hb.level s.book.qs[k].inst hp.2.1.1 hp.2.1.2;refine Ny (i:=(s.book.qs[k].inst-1).toNat) (by omega) ?_;have e:(((s.book.qs[k].inst-1).toNat:Nat):Int)+1=s.book.qs[k].inst:=by omega
 rw [e];simp only [qZ,beq_eq_false_iff_ne,ne_eq];have hg:s.book.qs.getD k ⟨0,0,0,0⟩=s.book.qs[k]:=by rw [List.getD_eq_getElem?_getD,List.getElem?_eq_getElem hk];rfl
 have h1:az (bR s.book.qs[k].inst (Aj s k n).book.qs)=n:=by
  unfold Aj;rw [ED,hg,G9 _ _ hk,<- ED,hz];have h2:(if (yP s.book.qs[k] n).inst=s.book.qs[k].inst then (yP s.book.qs[k] n).aV else 0)=s.book.qs[k].aV+n:=if_pos rfl;have h3:(if s.book.qs[k].inst=s.book.qs[k].inst then s.book.qs[k].aV else 0)=s.book.qs[k].aV:=if_pos rfl;rw [h2,h3];omega
 rw [h1];exact hn
end Go.Proofs.YtnkobepdbkmedaaGreat
