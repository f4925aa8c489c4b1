/- TOP, part 5. -/
import Derived.BigQuiet
import Derived.Deep.QuietTactic
import Derived.Test.YtpopikndggffaaaGreatDoorGt2
namespace Go.Proofs.YtpopikndggffaaaGreatDoor
set_option linter.all false
set_option maxRecDepth 100000
set_option maxHeartbeats 16000000
open Go.RowKit
variable{a:Act}{Q:Exit->Act->aI->Prop}{f:FuncId}{b l:List Oper}{A:Program}{w:aI}{v:aN}
structure dR(w:aI) where
 it:aI
 ok:aR w.heap.size w it
instance (w:aI):Nonempty (dR w):=⟨⟨w,bR _ _⟩⟩
def cI{id:Nat}(e:A.follows .mixedOrders=true)(d:Region.lexB .any l.toArray=true) (h:wpQuiet A l.toArray (λb=>∃x:dR w,b=x.it) (λc=>∀b,(∃x:dR w,b=x.it)->Q .normal c b) l a):(Code.region id l.toArray true).wp A Q a w:=wp_region_quiet (C:=λb=>∃x:dR w,b=x.it) e d ⟨⟨_,iH.drew⟩,rfl⟩ (by simpa using h)
def eL{a:Array aN}(x:dR w) (h:Calls A f a x.it λe b=>e=.returned v/\aR x.it x.it b):Calls A f a x.it λe b=>e=.returned v/\∃y:dR w,b=y.it:=h.mono λ_ _ ⟨d,c⟩=>⟨d,⟨_,aK x.ok c⟩,rfl⟩
def CY{a:Array aN}(x:dR w) (h:Calls A f a x.it λe b=>e=.returned v/\x.it=b):Calls A f a x.it λe b=>e=.returned v/\∃y:dR w,b=y.it:=h.mono λ_ _ ⟨d,c⟩=>⟨d,x,c.symm⟩
def nT{id:Nat}(r:A.follows .mixedOrders=true)(n:FG b=true) (p:(!b.isEmpty&&((b.getLast?).map λo=>MC .any b.dropLast o).getD false)=true) (i:Region.lexB .any b.dropLast.toArray=true) (h:wpQuiet A b.dropLast.toArray (λc=>∃x:dR w,c=x.it) (λg=>∀c,(∃x:dR w,c=x.it)->wpList A b.toArray Q (b.drop (b-1)) g c) b.dropLast a):(Code.region id b.toArray true).wp A Q a w:=by
 refine JH r n p (λd j=>?_);have f:b≠[]:=by rintro rfl;simp at j
 have e:b.drop (b-1)=[d]:=by
  have l:=gL f;have m:b.getLast f=d:=by rw[oY f]at j;exact cJ j
  rw[m]at l;have q:b.dropLast.length=b-1:=IB;conv=>lhs;arg 2;rw[<-l]
  rw[<-q,mR]
 rw[e]at h;simp only[Region.lexB,bL]at i;refine wpAny_of_quiet (C:=λc=>∃x:dR w,c=x.it) (Q:=λg=>∀c,(∃x:dR w,c=x.it)->wpList A b.toArray Q [d] g c) (λ_ c k h=>h c k) _ _ _ _ ⟨⟨_,iH.drew⟩,rfl⟩ ?_;have:=wpAnyQ_lex (C:=λc=>∃x:dR w,c=x.it) (md:=.any) i.1 b.dropLast 0 (Array.replicate b.dropLast.toArray.size false) a (by simp) (by simpa using i.2) h;simpa using this
section
variable {P:Program}
def aM4{c:Array Oper}{b:Oper}(h:LetsOut Q):LetsOut (uU P c b Q):=by have⟨a,w,h⟩:=h;exact⟨a,w,h⟩
def bA5{d:Array Oper}{b o:Oper}{K:Act->aI->Prop}(h:o.wp P a w K Q):o.wp P a w K (uU P d b Q):=by
 unfold Oper.wp at *;generalize (execOp a.eval o).run P w=f at h|-;rcases f with⟨x,g⟩|⟨x,g⟩
 .cases x<;>simp only[Oper.upon]at h|-
  all_goals first
   |exact h
   |exact h.mono λe i c=>by
    cases e
    .exact c
    .exact c
    exact aM4 c
 cases x<;>simp only[Oper.upon]at h|-
 all_goals exact h
def ba4{b e:Array Oper}{c d:Oper}(f:c.guard=none)(h:wpList P b Q [c,d] a w):wpList P e (uU P b d Q) [c] a w:=by
 unfold wpList at h|-;rw[aV (BI f _ _)]at h|-;rcases h with h|h
 .exact .inl (bA5 h)
 exact .inr ⟨h.1,aM4 h.2⟩
def aD0{m:List Oper}(s:FG m=true) (f:(!m.isEmpty&&((m.getLast?).map λo=>MC .any m.dropLast o).getD false)=true) (r:∀c,m.getLast?=some c->wpAny P .any m.dropLast.toArray (uU P m.toArray c Q) m.dropLast.toArray (Array.replicate m.dropLast.toArray false) a w):wpAny P .any m.toArray Q m.toArray (Array.replicate m.toArray false) a w:=by
 rw[bL]at f;have b:m≠[]:=(by intro e;rw[e]at f;simp at f);have e:=gL b;have g:m.getLast?=some (m.getLast b):=oY b;rw[g]at f;have h:=r _ g;generalize m.getLast b=d at e h f;generalize m.dropLast=l at e h f;subst e;have n:(List.replicate l false).toArray=Array.replicate l.toArray false:=(by simp);rw[<-n]at h;have j:=aX2 s (WK (by simpa using f.2)) l (List.replicate l false) a _ (by simp) (by simp) (λi o t k=>by rw[aY,tU]at k;split at k<;>simp at k) (by simpa using h);have p:(List.replicate l false++[false]).toArray=Array.replicate (l++[d]).toArray.size false:=by rw[<-xR];simp
 rw[p]at j;have q:(l++[d]).toArray.size=l+1:=(by simp);rw[q]at j|-;exact j
def JI(h:FG l=true):FG l.dropLast=true:=by unfold FG at *;rw[dN]at *;exact λo a=>h o (List.dropLast_subset _ a)
def jF{id:Nat}(B:P.follows .mixedOrders=true)(m:FG b=true) (z:(!b.isEmpty&&((b.getLast?).map λo=>MC .any b.dropLast o).getD false)=true) (n:(!b.dropLast.isEmpty&&((b.dropLast.getLast?).map λo=>MC .any b.dropLast.dropLast o).getD false)=true) (l:Region.lexB .any b.dropLast.dropLast.toArray=true) (h:wpQuiet P b.dropLast.dropLast.toArray (λg=>∃x:dR w,g=x.it) (λk=>∀g,(∃x:dR w,g=x.it)->wpList P b.toArray Q (b.drop (b-2)) k g) b.dropLast.dropLast a):(Code.region id b.toArray true).wp P Q a w:=by
 refine JH B m z (λf q=>?_);refine aD0 (JI m) n (λc i=>?_);have j:b≠[]:=(by rintro rfl;simp at q);have d:b.dropLast≠[]:=(by intro e;rw[e]at i;simp at i);have s:=gL j;have v:b.getLast j=f:=by rw[oY j]at q;exact cJ q
 have t:=gL d;have u:b.dropLast.getLast d=c:=by rw[oY d]at i;exact cJ i
 rw[v]at s;rw[u]at t;have p:c.guard=none:=LB (JI m) (by rw[<-u];exact List.getLast_mem d);have e:b.drop (b-2)=[c,f]:=by
  have A:b.dropLast.dropLast.length=b-2:=by rw[IB,IB];omega
  have y:b=b.dropLast.dropLast++[c,f]:=by
   conv=>lhs;rw[<-s,<-t]
   simp
  conv=>lhs;arg 2;rw[y]
  rw[<-A,mR]
 rw[e]at h;simp only[Region.lexB,bL]at l;refine wpAny_of_quiet (C:=λg=>∃x:dR w,g=x.it) (Q:=λk=>∀g,(∃x:dR w,g=x.it)->wpList P b.toArray Q [c,f] k g) (λ_ g r h=>ba4 p (h g r)) _ _ _ _ ⟨⟨_,iH.drew⟩,rfl⟩ ?_;have:=wpAnyQ_lex (C:=λg=>∃x:dR w,g=x.it) (md:=.any) l.1 b.dropLast.dropLast 0 (Array.replicate b.dropLast.dropLast.toArray.size false) a (by simp) (by simpa using l.2) h;simpa using this
end
variable{K:aI->Prop}
structure xS(K:aI->Prop) where
 it:aI
 ok:K it
def KJ{id:Nat}{K:aI->Prop}(d:K w)(f:∀x,K x->K x.drew)(g:A.follows .mixedOrders=true)(e:Region.lexB .any l.toArray=true) (h:wpQuiet A l.toArray (λb=>∃x:xS K,b=x.it) (λc=>∀b,(∃x:xS K,b=x.it)->Q .normal c b) l a):(Code.region id l.toArray true).wp A Q a w:=wp_region_quiet (C:=λb=>∃x:xS K,b=x.it) g e ⟨⟨w.drew,f w d⟩,rfl⟩ (by simpa using h)
def NS{a:Array aN}(x:xS K) (h:∀y,K y->Calls A f a y λe b=>e=.returned v/\K b):Calls A f a x.it λe b=>e=.returned v/\∃y:xS K,b=y.it:=(h x.it x.ok).mono λ_ _ ⟨c,d⟩=>⟨c,⟨_,d⟩,rfl⟩
end Go.Proofs.YtpopikndggffaaaGreatDoor
