/- TOP, part 5. -/
import Derived.BigQuiet
import Derived.Deep.QuietTactic
import Derived.Test.YtpopikndggffaaaGreatDoorGm2
namespace Go.Proofs.YtpopikndggffaaaGreatDoor
set_option linter.all false
set_option maxRecDepth 100000
set_option maxHeartbeats 16000000
open Go.RowKit
variable{a:Act}{Q:Exit->Act->aI->Prop}{f:FuncId}{b l:List Oper}{A:Program}{w:aI}{v:aN}
structure dY(w:aI) where
 it:aI
 ok:aS w.heap.size w it
instance (w:aI):Nonempty (dY w):=⟨⟨w,aY _ _⟩⟩
def cU{id:Nat}(e:A.follows .mixedOrders=true)(d:Region.lexB .any l.toArray=true)
 (h:wpQuiet A l.toArray (λb=>∃x:dY w,b=x.it) (λc=>∀b,(∃x:dY w,b=x.it)->Q .normal c b) l a):(Code.region id l.toArray true).wp A Q a w:=
 wp_region_quiet (C:=λb=>∃x:dY w,b=x.it) e d ⟨⟨_,(aY _ _).drew⟩,rfl⟩ (by simpa using h)
def eP{a:Array aN}(x:dY w)
 (h:Calls A f a x.it λe b=>e=.returned v/\aS x.it.heap.size x.it b):Calls A f a x.it λe b=>e=.returned v/\∃y:dY w,b=y.it:=
 h.mono λ_ _ ⟨d,c⟩=>⟨d,⟨_,aJ x.ok c⟩,rfl⟩
def BX{a:Array aN}(x:dY w)
 (h:Calls A f a x.it λe b=>e=.returned v/\x.it=b):Calls A f a x.it λe b=>e=.returned v/\∃y:dY w,b=y.it:=
 h.mono λ_ _ ⟨d,c⟩=>⟨d,x,c.symm⟩
def rV{id:Nat}(r:A.follows .mixedOrders=true)(n:DU b=true)
 (p:(!b.isEmpty&&((b.getLast?).map λo=>KP .any b.dropLast o).getD false)=true) (i:Region.lexB .any b.dropLast.toArray=true)
 (h:wpQuiet A b.dropLast.toArray (λc=>∃x:dY w,c=x.it) (λg=>∀c,(∃x:dY w,c=x.it)->wpList A b.toArray Q (b.drop (b.length-1)) g c) b.dropLast a):(Code.region id b.toArray true).wp A Q a w:=by
  refine IE r n p (λd j=>?_);have f:b≠[]:=by rintro rfl;simp at j
  have e:b.drop (b.length-1)=[d]:=by
   have l:=fR f;have m:b.getLast f=d:=by rw[oE f]at j;exact cS j
   rw[m]at l;have q:b.dropLast.length=b.length-1:=FW;conv=>lhs;arg 2;rw[<-l]
   rw[<-q,mB]
  rw[e]at h;simp only[Region.lexB,bL]at i;refine wpAny_of_quiet (C:=λc=>∃x:dY w,c=x.it) (Q:=λg=>∀c,(∃x:dY w,c=x.it)->wpList A b.toArray Q [d] g c) (λ_ c k h=>h c k) _ _ _ _ ⟨⟨_,(aY _ _).drew⟩,rfl⟩ ?_;have:=wpAnyQ_lex (C:=λc=>∃x:dY w,c=x.it) (md:=.any) i.1 b.dropLast 0 (Array.replicate b.dropLast.toArray.size false) a (by simp) (by simpa using i.2) h;simpa using this
section
variable {P:Program}
def aD7{c:Array Oper}{b:Oper}(h:LetsOut Q):LetsOut (tR P c b Q):=by obtain⟨a,w,h⟩:=h;exact⟨a,w,h⟩
def bq1{d:Array Oper}{b o:Oper}{K:Act->aI->Prop}(h:o.wp P a w K Q):o.wp P a w K (tR P d b Q):=by
 unfold Oper.wp at *;generalize (execOp a.eval o).run P w=f at h|-;rcases f with⟨x,g⟩|⟨x,g⟩
 .cases x<;>simp only[Oper.upon]at h|-
  all_goals first
   |exact h
   |exact h.mono λe i c=>by
    cases e
    .exact c
    .exact c
    exact aD7 c
 cases x<;>simp only[Oper.upon]at h|-
 all_goals exact h
def aS0{b e:Array Oper}{c d:Oper}(f:c.guard=none)(h:wpList P b Q [c,d] a w):wpList P e (tR P b d Q) [c] a w:=by
 unfold wpList at h|-;rw[aU (AF f _ _)]at h|-;rcases h with h|h
 .exact .inl (bq1 h)
 exact .inr ⟨h.1,aD7 h.2⟩
def av4{m:List Oper}(s:DU m=true)
 (f:(!m.isEmpty&&((m.getLast?).map λo=>KP .any m.dropLast o).getD false)=true)
 (r:∀c,m.getLast?=some c->wpAny P .any m.dropLast.toArray (tR P m.toArray c Q) m.dropLast.toArray.size (Array.replicate m.dropLast.toArray.size false) a w):wpAny P .any m.toArray Q m.toArray.size (Array.replicate m.toArray.size false) a w:=by
  rw[bL]at f;have b:m≠[]:=(by intro e;rw[e]at f;simp at f);have e:=fR b;have g:m.getLast?=some (m.getLast b):=oE b;rw[g]at f;have h:=r _ g;generalize m.getLast b=d at e h f;generalize m.dropLast=l at e h f;subst e;have n:(List.replicate l.length false).toArray=Array.replicate l.toArray.size false:=(by simp);rw[<-n]at h;have j:=aP0 s (UR (by simpa using f.2)) l.length (List.replicate l.length false) a _ (by simp) (by simp) (λi o t k=>by rw[b8,sO]at k;split at k<;>simp at k) (by simpa using h);have p:(List.replicate l.length false++[false]).toArray=Array.replicate (l++[d]).toArray.size false:=by rw[<-wG];simp
  rw[p]at j;have q:(l++[d]).toArray.size=l.length+1:=(by simp);rw[q]at j|-;exact j
def IF(h:DU l=true):DU l.dropLast=true:=by unfold DU at *;rw[dL]at *;exact λo a=>h o (List.dropLast_subset _ a)
def iS{id:Nat}(B:P.follows .mixedOrders=true)(m:DU b=true)
 (z:(!b.isEmpty&&((b.getLast?).map λo=>KP .any b.dropLast o).getD false)=true)
 (n:(!b.dropLast.isEmpty&&((b.dropLast.getLast?).map λo=>KP .any b.dropLast.dropLast o).getD false)=true) (l:Region.lexB .any b.dropLast.dropLast.toArray=true)
 (h:wpQuiet P b.dropLast.dropLast.toArray (λg=>∃x:dY w,g=x.it) (λk=>∀g,(∃x:dY w,g=x.it)->wpList P b.toArray Q (b.drop (b.length-2)) k g) b.dropLast.dropLast a):(Code.region id b.toArray true).wp P Q a w:=by
  refine IE B m z (λf q=>?_);refine av4 (IF m) n (λc i=>?_);have j:b≠[]:=(by rintro rfl;simp at q);have d:b.dropLast≠[]:=(by intro e;rw[e]at i;simp at i);have s:=fR j;have v:b.getLast j=f:=by rw[oE j]at q;exact cS q
  have t:=fR d;have u:b.dropLast.getLast d=c:=by rw[oE d]at i;exact cS i
  rw[v]at s;rw[u]at t;have p:c.guard=none:=JK (IF m) (by rw[<-u];exact List.getLast_mem d);have e:b.drop (b.length-2)=[c,f]:=by
   have A:b.dropLast.dropLast.length=b.length-2:=by rw[FW,FW];omega
   have y:b=b.dropLast.dropLast++[c,f]:=by
    conv=>lhs;rw[<-s,<-t]
    simp
   conv=>lhs;arg 2;rw[y]
   rw[<-A,mB]
  rw[e]at h;simp only[Region.lexB,bL]at l;refine wpAny_of_quiet (C:=λg=>∃x:dY w,g=x.it) (Q:=λk=>∀g,(∃x:dY w,g=x.it)->wpList P b.toArray Q [c,f] k g) (λ_ g r h=>aS0 p (h g r)) _ _ _ _ ⟨⟨_,(aY _ _).drew⟩,rfl⟩ ?_;have:=wpAnyQ_lex (C:=λg=>∃x:dY w,g=x.it) (md:=.any) l.1 b.dropLast.dropLast 0 (Array.replicate b.dropLast.dropLast.toArray.size false) a (by simp) (by simpa using l.2) h;simpa using this
end
variable{K:aI->Prop}
structure wI(K:aI->Prop) where
 it:aI
 ok:K it
def J4{id:Nat}{K:aI->Prop}(d:K w)(f:∀x,K x->K x.drew)(g:A.follows .mixedOrders=true)(e:Region.lexB .any l.toArray=true)
 (h:wpQuiet A l.toArray (λb=>∃x:wI K,b=x.it) (λc=>∀b,(∃x:wI K,b=x.it)->Q .normal c b) l a):(Code.region id l.toArray true).wp A Q a w:=
 wp_region_quiet (C:=λb=>∃x:wI K,b=x.it) g e ⟨⟨w.drew,f w d⟩,rfl⟩ (by simpa using h)
def MB{a:Array aN}(x:wI K)
 (h:∀y,K y->Calls A f a y λe b=>e=.returned v/\K b):Calls A f a x.it λe b=>e=.returned v/\∃y:wI K,b=y.it:=
 (h x.it x.ok).mono λ_ _ ⟨c,d⟩=>⟨c,⟨_,d⟩,rfl⟩
end Go.Proofs.YtpopikndggffaaaGreatDoor
