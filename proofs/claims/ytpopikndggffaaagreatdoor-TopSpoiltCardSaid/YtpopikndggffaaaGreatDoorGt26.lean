/- TOP, part 26. -/
import Derived.BigRegionIn
import Derived.OwnWalkIn
import Derived.Shelf.RegionOpen
import Derived.Sort.QuietIn
import Derived.Sort.QuietThIn
import Derived.TacticsInMore
import Derived.Test.YtpopikndggffaaaGreatDoorGt0
namespace Go.Proofs.YtpopikndggffaaaGreatDoor
set_option linter.all false
set_option maxRecDepth 100000
set_option maxHeartbeats 16000000
open Go.RowKit
variable{a:Act}{K:Act->aI->Prop}{Q:Exit->Act->aI->Prop}{l:List Oper}{c o:Oper}{w:aI}
section
variable {F:Fence}{n:Nat}{P:Program}
def aN3(l:Nat)(b:∀c,o.op≠.defer c)(h:o.wpIn F n P a w K Q):o.wpIn (F.inRound l) n P a w K Q:=by unfold Oper.wpIn at *;rw[Oper.semAt_eq _ _ _ b]at *;exact h
def by6(l:List Oper):Bool:=l.all fun o=>(match o.op with|.defer _=>false|_=>true)&&o.guard.isNone
def ae2(h:by6 l=true){o:Oper}(b:o∈l):(∀c,o.op≠.defer c)/\o.guard=none:=by have:=dN.1 h o b;rw[bL]at this;refine⟨λc a=>?_,by simpa using this.2⟩;rw[a]at this;exact absurd this.1 (by simp)
def KL(h:o.guard=none)(a:Array Oper)(t:Array aN):Region.wanted o (yielded a t)=true:=by unfold Region.wanted;rw[h]
end
def yY:Nat->List (List Bool)
 |0=>[[]]
 |k+1=>(yY k).flatMap fun l=>[false::l,true::l]
def FK:∀l:List Bool,l∈yY l.length
 |[]=>by simp[yY]
 |b::l=>by simp only[cE,yY,lY];exact⟨l,FK l,by cases b<;>simp⟩
def SK(b:Region.Mode)(a:Array Oper)(l:List Bool):Bool:=(List.range a.size).all fun i=>!(l.getD i false)||((a[i]?).map (·.after.all fun e=>!Region.binds b e||l.getD e.on false)).getD false
def aQ6(b:Region.Mode)(a c:Array Oper)(k:Nat)(l:List Bool):Bool:=!SK b a l||(if l.all id then(Region.ready b c (l++[false]).toArray==[k])&&(Region.ready b c (l++[true]).toArray==[])
 else(Region.ready b c (l++[false]).toArray==Region.ready b a l.toArray)&&!(Region.ready b a l.toArray).isEmpty &&
  (Region.ready b a l.toArray).all fun i=>SK b a (l.set i true)&&decide (i<k)&&!(l.getD i true))
section
variable {F:Fence}{n:Nat}{P:Program}
def GR(F:Fence)(n:Nat)(P:Program)(ops:Array Oper)(last:Oper)(Q:Exit->Act->aI->Prop):Exit->Act->aI->Prop
 |.normal,a,w=>wpListIn F n P ops Q [last] a w
 |e,a,w=>Q e a w
def be0(l:List Bool)(i:Nat)(c:i<l)(h:l.getD i true=false):(l.set i true).count false+1=l.count false:=by have d:l[i]=false:=(by rwa[aY,aJ c]at h);have f:=List.count_set (a:=true) (b:=false) c;have e:0<l.count false:=BA.2 (d▸dC c);rw[f,d];simp;omega
def bk8{d:Array Oper}(h:o.wpIn F n P a w K (GR F n P d c Q)):o.wpIn F n P a w K Q:=by
 unfold Oper.wpIn at *;refine⟨h.1,?_⟩;have b:=h.2;generalize (o.semAt F.round a.eval).run P w=f at b|-;rcases f with⟨x,i⟩|⟨x,i⟩
 .cases x<;>simp only[Oper.uponIn]at b|-
  all_goals first
   |exact b
   |exact⟨b.1,b.2.mono λe j g=>by cases e<;>exact g⟩
 cases x<;>simp only[Oper.uponIn]at b|-
 all_goals exact b
def bR5{z:Region.Mode}(r:Nat)(H:by6 (l++[c])=true) (s:(yY l).all (aQ6 z l.toArray (l++[c]).toArray l)=true):∀(d:Nat)(t:List Bool)(a:Act)(w:aI),t.length=l->t.count false=d->SK z l.toArray t=true->wpAnyIn F n P z l.toArray (GR F n P (l++[c]).toArray c Q) d t.toArray a w->wpAnyIn (F.inRound r) n P z (l++[c]).toArray Q (d+1) (t++[false]).toArray a w:=by
 intro d;induction d with
 |zero=>
  intro t a w v L o h;have e:t.all id=true:=by
   rw[dN];intro b B;cases b with
   |true=>rfl
   |false=>have:=BA.2 B;omega
  have k:=dN.1 s t (v▸FK t);unfold aQ6 at k;rw[o,e]at k;simp only[p8,G9,eH,bL,gH]at k;have⟨f,m⟩:=k;have j:=h.2;unfold GR at j;simp only[]at j;refine⟨λx=>absurd (f.symm.trans x) (by simp),λi q=>?_⟩;rw[f]at q;obtain rfl:=bP.1 q;have g:(t++[false]).toArray.setIfInBounds l true=(t++[true]).toArray:=by rw[nL,kC _ _ (by omega),v,iM];rfl
  unfold wpOpIn;have G:(l++[c]).toArray[l.length]?=some c:=(by simp);simp only[G];have⟨C,y⟩:=ae2 H (FC l (bP.2 rfl));rw[aV (KL y _ _),g];unfold wpListIn at j;rw[aV (KL y _ _)]at j;refine aN3 r C (Oper.wpIn_mono (λa w h=>?_) j);exact⟨m,h⟩
 |succ d M=>
  intro t a w v L o h;have e:t.all id=false:=by
   rcases K:t.all id with _|_
   .rfl
   exfalso;have u:0<t.count false:=(by omega);have:=dN.1 K false (BA.1 u);cases this
  have k:=dN.1 s t (v▸FK t);unfold aQ6 at k;rw[o,e]at k;simp only[p8,G9,bU,dW,bL,gH,OO,dN,bG]at k;obtain⟨⟨f,m⟩,E⟩:=k;refine⟨λx=>?_,λi q=>?_⟩
  .rw[f]at x;rw[x]at m;cases m
  rw[f]at q;obtain⟨⟨I,A⟩,J⟩:=E i q;have j:=h.2 i q;unfold wpOpIn at *;have D:(l++[c]).toArray[i]?=l.toArray[i]?:=(by simp[fO A]);rw[D];have G:l.toArray[i]?=some l[i]:=(by simp[aJ A]);simp only[G]at j|-;have⟨C,y⟩:=ae2 H (sI [c] (dC A));rw[aV (KL y _ _)]at j|-;have g:(t++[false]).toArray.setIfInBounds i true=(t.set i true++[false]).toArray:=by rw[nL,cN8 _ _ (by omega)]
  have p:t.toArray.setIfInBounds i true=(t.set i true).toArray:=(by rw[nL]);rw[g];rw[p]at j;refine aN3 r C (Oper.wpIn_mono (λa w h=>M (t.set i true) a w (by simp[v]) ?_ I h) ?_)
  .have:=be0 t i (by omega) J;omega
  exact bk8 j
def aj6(b:Region.Mode)(a:Array Oper)(k:Nat):SK b a (List.replicate k false)=true:=by
 unfold SK;rw[dN];intro i _;have:(List.replicate k false).getD i false=false:=by rw[aY,tU];split<;>rfl
 rw[this];rfl
def RC{id:Nat}{Q:Exit->Act->aI->Prop}{a:Act}{w:aI}{l:List Oper}{last:Oper}(r:Nat)(j:F.round=none)(o:by6 (l++[last])=true)(p:P.follows .mixedOrders=true)(f:Region.lexB .any l.toArray=true) (g:(yY l).all (aQ6 .any l.toArray (l++[last]).toArray l)=true) (h:wpQuietIn F n P l.toArray (λb=>∃n,b=w.drewN n) (λc=>∀b,(∃n,b=w.drewN n)->wpListIn F n P (l++[last]).toArray Q [last] c b) l a):(Code.region id (l++[last]).toArray true).wpIn (F.inRound r) n P Q a w:=by
 simp only[Region.lexB,bL]at f;refine wpIn_region_any p ?_;have q:=wpAnyQIn_lex (F:=F) (n:=n) (C:=λb=>∃n,b=w.drewN n) (md:=.any) f.1 l 0 (Array.replicate l.toArray.size false) a (by simp) (by simpa using f.2) h;have i:wpAnyIn F n P .any l.toArray (GR F n P (l++[last]).toArray last Q) l (List.replicate l false).toArray a {w with drawn:=w.drawn+1}:=by have:=wpAnyIn_of_quiet (C:=λb=>∃n,b=w.drewN n) (Q:=λc=>∀b,(∃n,b=w.drewN n)->wpListIn F n P (l++[last]).toArray Q [last] c b) (Q':=GR F n P (l++[last]).toArray last Q) j (λ_ b k h=>h b k) _ _ _ {w with drawn:=w.drawn+1} ⟨1,rfl⟩ q;simpa using this
 have d:=bR5 r o g l (List.replicate l false) a _ (by simp) (by simp) (aj6 _ _ _) i;have e:(List.replicate l false++[false]).toArray=Array.replicate (l++[last]).toArray.size false:=by rw[<-xR];simp
 rw[e]at d;have m:(l++[last]).toArray.size=l+1:=(by simp);rw[m]at d|-;exact d
def TR{id:Nat}{b:List Oper}(r:Nat)(g:F.round=none)(o:by6 b=true)(q:P.follows .mixedOrders=true)(m:Region.lexB .any b.dropLast.toArray=true) (c:(!b.isEmpty&&(yY (b-1)).all (aQ6 .any b.dropLast.toArray b.toArray (b-1)))=true) (h:wpQuietIn F n P b.dropLast.toArray (λf=>∃n,f=w.drewN n) (λj=>∀f,(∃n,f=w.drewN n)->wpListIn F n P b.toArray Q (b.drop (b-1)) j f) b.dropLast a):(Code.region id b.toArray true).wpIn (F.inRound r) n P Q a w:=by
 rw[bL]at c;have d:b≠[]:=(by intro e;rw[e]at c;simp at c);have e:=gL d;have i:b.dropLast.length=b-1:=IB;have p:b.drop (b-1)=[b.getLast d]:=by
  conv=>lhs;arg 2;rw[<-e]
  rw[<-i,mR]
 rw[p]at h;have k:=RC (F:=F) (n:=n) (P:=P) (id:=id) (Q:=Q) (a:=a) (w:=w) (l:=b.dropLast) (last:=b.getLast d) r g (by rw[e];exact o) q m (by rw[e,i];exact c.2) (by rw[e];exact h);rwa[e]at k
end
end Go.Proofs.YtpopikndggffaaaGreatDoor
