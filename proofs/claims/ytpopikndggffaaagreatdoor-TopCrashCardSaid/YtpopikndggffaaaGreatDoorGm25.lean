/- TOP, part 25. -/
import Derived.BigRegionIn
import Derived.OwnWalkIn
import Derived.Shelf.RegionOpen
import Derived.Sort.QuietIn
import Derived.Sort.QuietThIn
import Derived.TacticsInMore
import Derived.Test.YtpopikndggffaaaGreatDoorGm0
namespace Go.Proofs.YtpopikndggffaaaGreatDoor
set_option linter.all false
set_option maxRecDepth 100000
set_option maxHeartbeats 16000000
open Go.RowKit
variable{a:Act}{K:Act->aI->Prop}{Q:Exit->Act->aI->Prop}{l:List Oper}{c o:Oper}{w:aI}
section
variable {F:Fence}{n:Nat}{P:Program}
def aE6(l:Nat)(b:∀c,o.op≠.defer c)(h:o.wpIn F n P a w K Q):o.wpIn (F.inRound l) n P a w K Q:=by unfold Oper.wpIn at *;rw[Oper.semAt_eq _ _ _ b]at *;exact h
def bo0(l:List Oper):Bool:=l.all fun o=>(match o.op with|.defer _=>false|_=>true)&&o.guard.isNone
def ZI(h:bo0 l=true){o:Oper}(b:o∈l):(∀c,o.op≠.defer c)/\o.guard=none:=by have:=dL.1 h o b;rw[bL]at this;refine⟨λc a=>?_,by simpa using this.2⟩;rw[a]at this;exact absurd this.1 (by simp)
def J7(h:o.guard=none)(a:Array Oper)(t:Array aN):Region.wanted o (yielded a t)=true:=by unfold Region.wanted;rw[h]
end
def xU:Nat->List (List Bool)
 |0=>[[]]
 |k+1=>(xU k).flatMap fun l=>[false::l,true::l]
def E8:∀l:List Bool,l∈xU l.length
 |[]=>by simp[xU]
 |b::l=>by
  simp only[cF,xU,lG];exact⟨l,E8 l,by cases b<;>simp⟩
def QR(b:Region.Mode)(a:Array Oper)(l:List Bool):Bool:=
 (List.range a.size).all fun i=>!(l.getD i false)||((a[i]?).map (·.after.all fun e=>!Region.binds b e||l.getD e.on false)).getD false
def aH8(b:Region.Mode)(a c:Array Oper)(k:Nat)(l:List Bool):Bool:=
 !QR b a l||(if l.all id then(Region.ready b c (l++[false]).toArray==[k])&&(Region.ready b c (l++[true]).toArray==[])
  else(Region.ready b c (l++[false]).toArray==Region.ready b a l.toArray)&&!(Region.ready b a l.toArray).isEmpty &&
   (Region.ready b a l.toArray).all fun i=>QR b a (l.set i true)&&decide (i<k)&&!(l.getD i true))
section
variable {F:Fence}{n:Nat}{P:Program}
def FE(F:Fence)(n:Nat)(P:Program)(ops:Array Oper)(last:Oper)(Q:Exit->Act->aI->Prop):Exit->Act->aI->Prop
 |.normal,a,w=>wpListIn F n P ops Q [last] a w
 |e,a,w=>Q e a w
def aV2(l:List Bool)(i:Nat)(c:i<l.length)(h:l.getD i true=false):(l.set i true).count false+1=l.count false:=by have d:l[i]=false:=(by rwa[b8,aK c]at h);have f:=List.count_set (a:=true) (b:=false) c;have e:0<l.count false:=zW.2 (d▸cY c);rw[f,d];simp;omega
def bb4{d:Array Oper}(h:o.wpIn F n P a w K (FE F n P d c Q)):o.wpIn F n P a w K Q:=by
 unfold Oper.wpIn at *;refine⟨h.1,?_⟩;have b:=h.2;generalize (o.semAt F.round a.eval).run P w=f at b|-;rcases f with⟨x,i⟩|⟨x,i⟩
 .cases x<;>simp only[Oper.uponIn]at b|-
  all_goals first
   |exact b
   |exact⟨b.1,b.2.mono λe j g=>by cases e<;>exact g⟩
 cases x<;>simp only[Oper.uponIn]at b|-
 all_goals exact b
def bF5{z:Region.Mode}(r:Nat)(H:bo0 (l++[c])=true)
 (s:(xU l.length).all (aH8 z l.toArray (l++[c]).toArray l.length)=true):∀(d:Nat)(t:List Bool)(a:Act)(w:aI),t.length=l.length->t.count false=d->QR z l.toArray t=true->
 wpAnyIn F n P z l.toArray (FE F n P (l++[c]).toArray c Q) d t.toArray a w->wpAnyIn (F.inRound r) n P z (l++[c]).toArray Q (d+1) (t++[false]).toArray a w:=by
  intro d;induction d with
  |zero=>
   intro t a w v L o h;have e:t.all id=true:=by
    rw[dL];intro b B;cases b with
    |true=>rfl
    |false=>have:=zW.2 B;omega
   have k:=dL.1 s t (v▸E8 t);unfold aH8 at k;rw[o,e]at k;simp only[oH,EP,eE,bL,gG]at k;obtain⟨f,m⟩:=k;have j:=h.2;unfold FE at j;simp only[]at j;refine⟨λx=>absurd (f.symm.trans x) (by simp),λi q=>?_⟩;rw[f]at q;obtain rfl:=bT.1 q;have g:(t++[false]).toArray.setIfInBounds l.length true=(t++[true]).toArray:=by rw[mZ,jR _ _ (by omega),v,gM];rfl
   unfold wpOpIn;have G:(l++[c]).toArray[l.length]?=some c:=(by simp);simp only[G];obtain⟨C,y⟩:=ZI H (DO l (bT.2 rfl));rw[aU (J7 y _ _),g];unfold wpListIn at j;rw[aU (J7 y _ _)]at j;refine aE6 r C (Oper.wpIn_mono (λa w h=>?_) j);exact⟨m,h⟩
  |succ d M=>
   intro t a w v L o h;have e:t.all id=false:=by
    rcases K:t.all id with _|_
    .rfl
    exfalso;have u:0<t.count false:=(by omega);have:=dL.1 K false (zW.1 u);cases this
   have k:=dL.1 s t (v▸E8 t);unfold aH8 at k;rw[o,e]at k;simp only[oH,EP,bU,dP,bL,gG,MZ,dL,bH]at k;obtain⟨⟨f,m⟩,E⟩:=k;refine⟨λx=>?_,λi q=>?_⟩
   .rw[f]at x;rw[x]at m;cases m
   rw[f]at q;obtain⟨⟨I,A⟩,J⟩:=E i q;have j:=h.2 i q;unfold wpOpIn at *;have D:(l++[c]).toArray[i]?=l.toArray[i]?:=(by simp[eY A]);rw[D];have G:l.toArray[i]?=some l[i]:=(by simp[aK A]);simp only[G]at j|-;obtain⟨C,y⟩:=ZI H (rF [c] (cY A));rw[aU (J7 y _ _)]at j|-;have g:(t++[false]).toArray.setIfInBounds i true=(t.set i true++[false]).toArray:=(by rw[mZ,cx0 _ _ (by omega)]);have p:t.toArray.setIfInBounds i true=(t.set i true).toArray:=(by rw[mZ]);rw[g];rw[p]at j;refine aE6 r C (Oper.wpIn_mono (λa w h=>M (t.set i true) a w (by simp[v]) ?_ I h) ?_)
   .have:=aV2 t i (by omega) J;omega
   exact bb4 j
def ad6(b:Region.Mode)(a:Array Oper)(k:Nat):QR b a (List.replicate k false)=true:=by
 unfold QR;rw[dL];intro i _;have:(List.replicate k false).getD i false=false:=by rw[b8,sO];split<;>rfl
 rw[this];rfl
def PM{id:Nat}{Q:Exit->Act->aI->Prop}{a:Act}{w:aI}{l:List Oper}{last:Oper}(r:Nat)(j:F.round=none)(o:bo0 (l++[last])=true)(p:P.follows .mixedOrders=true)(f:Region.lexB .any l.toArray=true)
 (g:(xU l.length).all (aH8 .any l.toArray (l++[last]).toArray l.length)=true)
 (h:wpQuietIn F n P l.toArray (λb=>∃n,b=w.drewN n) (λc=>∀b,(∃n,b=w.drewN n)->wpListIn F n P (l++[last]).toArray Q [last] c b) l a):(Code.region id (l++[last]).toArray true).wpIn (F.inRound r) n P Q a w:=by
  simp only[Region.lexB,bL]at f;refine wpIn_region_any p ?_;have q:=wpAnyQIn_lex (F:=F) (n:=n) (C:=λb=>∃n,b=w.drewN n) (md:=.any) f.1 l 0 (Array.replicate l.toArray.size false) a (by simp) (by simpa using f.2) h;have i:wpAnyIn F n P .any l.toArray (FE F n P (l++[last]).toArray last Q) l.length (List.replicate l.length false).toArray a {w with drawn:=w.drawn+1}:=by have:=wpAnyIn_of_quiet (C:=λb=>∃n,b=w.drewN n) (Q:=λc=>∀b,(∃n,b=w.drewN n)->wpListIn F n P (l++[last]).toArray Q [last] c b) (Q':=FE F n P (l++[last]).toArray last Q) j (λ_ b k h=>h b k) _ _ _ {w with drawn:=w.drawn+1} ⟨1,rfl⟩ q;simpa using this
  have d:=bF5 r o g l.length (List.replicate l.length false) a _ (by simp) (by simp) (ad6 _ _ _) i;have e:(List.replicate l.length false++[false]).toArray=Array.replicate (l++[last]).toArray.size false:=by rw[<-wG];simp
  rw[e]at d;have m:(l++[last]).toArray.size=l.length+1:=(by simp);rw[m]at d|-;exact d
def RW{id:Nat}{b:List Oper}(r:Nat)(g:F.round=none)(o:bo0 b=true)(q:P.follows .mixedOrders=true)(m:Region.lexB .any b.dropLast.toArray=true)
 (c:(!b.isEmpty&&(xU (b.length-1)).all (aH8 .any b.dropLast.toArray b.toArray (b.length-1)))=true)
 (h:wpQuietIn F n P b.dropLast.toArray (λf=>∃n,f=w.drewN n) (λj=>∀f,(∃n,f=w.drewN n)->wpListIn F n P b.toArray Q (b.drop (b.length-1)) j f) b.dropLast a):(Code.region id b.toArray true).wpIn (F.inRound r) n P Q a w:=by
  rw[bL]at c;have d:b≠[]:=(by intro e;rw[e]at c;simp at c);have e:=fR d;have i:b.dropLast.length=b.length-1:=FW;have p:b.drop (b.length-1)=[b.getLast d]:=by
   conv=>lhs;arg 2;rw[<-e]
   rw[<-i,mB]
  rw[p]at h;have k:=PM (F:=F) (n:=n) (P:=P) (id:=id) (Q:=Q) (a:=a) (w:=w) (l:=b.dropLast) (last:=b.getLast d) r g (by rw[e];exact o) q m (by rw[e,i];exact c.2) (by rw[e];exact h);rwa[e]at k
end
end Go.Proofs.YtpopikndggffaaaGreatDoor
