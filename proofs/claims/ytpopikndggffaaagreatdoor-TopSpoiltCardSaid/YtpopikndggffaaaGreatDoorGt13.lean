/- TOP, part 13. -/
import Derived.Deep.RegionHeldLaw
import Derived.Deep.RegionLaw
import Derived.Test.YtpopikndggffaaaGreatDoorGt8
namespace Go.Proofs.YtpopikndggffaaaGreatDoor
set_option linter.all false
set_option maxRecDepth 100000
set_option maxHeartbeats 16000000
open Go.RowKit Tryz
variable{g k m n:Nat}{w x:aI}
def bU1{A:Program}{c:Code}{Q:Exit->Act->aI->Prop}{a:Act}(R:Nat->aI->Prop)(g:Nat->Act)(h1:c.wp A (λe d b=>e=.normal/\∃x,d=g x/\R x b) a w)(f:∀x b,R x b->Q .normal (g x) b):c.wp A Q a w:=Code.wp_mono (λe d b h=>by obtain⟨rfl,x,rfl,h⟩:=h;exact f x b h) h1
def nQ{p q:Prop}(h:p)(k:p->q):q:=k h
def XT(h:aR w w x)(o:Obj):aR w w (x.alloc o):=h.alloc h.size o
def Q8(b:Row w n 5 (dM [UInt8.ofNat k]))(a:aR w w x):Row x n 5 (dM [UInt8.ofNat k])/\(convert 110 9 (.slice (zp n) 1 1)).run prog x=.ok (bs [UInt8.ofNat k]) x:=⟨b.next a,Row.conv (P:=prog) (cap:=1) (n:=1) (b.next a) rfl underlying110 underlying5 underlying9⟩
def nB{X:aI}{g:Nat}(b:X=g)(c:n<256)(a:aR (X.alloc (.cells #[.int .u8 n] 5)) (X.alloc (.cells #[.int .u8 n] 5)) w):Row w g 5 (dM [UInt8.ofNat n])/\(convert 110 9 (.slice (zp g) 1 1)).run prog w=.ok (bs [UInt8.ofNat n]) w:=by
 subst b;have h:=Row.new X #[.int .u8 n] 5;have e:(#[Value.int .u8 n]:Array aN).toList=dM [UInt8.ofNat n]:=by have:(UInt8.ofNat n).toNat=n:=(by simp;omega);simp[dM];omega
 rw[e]at h;exact Q8 h a
def bY9(v:aN)(b:kM)(w:aI)(h:MU w v b):Calls prog 70 #[v] w λe j=>e=.returned (.tuple #[bs (jG b),eP b])/\aR w w j:=by
 have q:=λj (R:aR w.heap.size w j)=>YO v b j (h.next R);have d:=j8 (b:=b);have hy:eP b=0->jG b=wS b:=λh=>(by unfold jG;rw[aV h]);have L:eP b≠0->jG b=[]:=λh=>(by unfold jG;rw[aP h]);obtain⟨s,f,l⟩:=b;obtain⟨A,c,rfl,hE,hs,hg,hh⟩:=h;simp only[]at hE hs hg hh q d|-;obtain⟨-,hd,hf,-⟩:=Reads.each SG hE.1;unfold maxLen at hf hs;have O:=cD w (.cells #[.string s,.int .i64 f,.slice A l.length c] 129);have hL:=λE=>hE.later E;have ok:=hE.2;have z:=cI5 w (.string s) (.int .i64 f) (.slice A l.length c) 129;by_cases E:eP (s,f,l)=0
 .obtain⟨p1,p2,p3,p4,p5,p6,-⟩:=d E;obtain⟨f,rfl⟩:=cR p5;rw[hy E];have K:wS (s,(f:Int),l)=(oU (lb s)++be 8 f++[UInt8.ofNat l.length])++rF l:=(by unfold wS aq0;simp);rw[K];rw[E]at q|-;have hT:=λw=>YN s w (by omega);have lT:(oU (lb s)).length<=1000:=(by rw[oJ _ (by rw[bI];omega),bI];omega);generalize oU (lb s)=T at hT lT|-;obtain⟨n,hN⟩:∃n,n=l.length:=⟨_,rfl⟩;rw[<-hN]at p3 p4 p6 hd O q z|-;have⟨Hn,HL,h6,h5⟩:=aC hN hL ok q;have U:=λk (hk:k<=n)=>aT3 (l:=l.take k) 8 (by rw[b8];omega);have h4:=aH U;clear hN hL ok hE hy L d E K q U;have u1:IntKind.u64.wrap (f:Int)=(f:Int):=(by rw[eE];omega);have u2:IntKind.u64.wrap (n:Int)=(n:Int):=(by rw[eE];omega);have u3:IntKind.u8.wrap (n:Int)=(n:Int):=(by rw[IntKind.wrap_u8];omega);have a:n<256:=(by omega);have Y:=λw=>as0 (P:=prog) (e:=5) (src:=110) (dst:=9) (n:Int) (by omega) (by omega) underlying110 underlying5 underlying9 w;rw[bW]at Y;have Z:=λw:aI=>(nB (X:=w) (g:=w.heap.size) rfl a (bR _ _).drew).2;go_in;(go_wp2_with fail);refine(h5.out _ O).mono ?_;rintro e D ⟨rfl,m⟩;have ha:=aK O m;have N:=aH (show∀j,aR D.heap.size D j->j.cell? ⟨w.heap.size,0,none⟩=some (.string s)/\j.cell? ⟨w.heap.size,1,none⟩=some (.int .i64 (f:Int))/\j.cell? ⟨w.heap.size,2,none⟩=some (.slice A n c)from λj R=>z j (aK m R));obtain⟨-,-,g2⟩:=N.out D (bR _ _);have hP:=λw=>am6 f w (by omega);clear m z O;(go_wp2_with fail);clear g2;obtain⟨G,hG⟩:∃G,G=w.heap.size:=⟨_,rfl⟩;rw[<-hG]at N|-;have HG:=aH hG;clear hG;apply bU1 (λg j=>aR D.heap.size D j);case h1=>
   refine wp_region_noPanic ?_;go_region_held_law (λj=>j.cell? ⟨G,0,none⟩=some (.string s)/\j.cell? ⟨G,1,none⟩=some (.int .i64 (f:Int))/\j.cell? ⟨G,2,none⟩=some (.slice A n c))
    ((refine N.out _ ?_;repeat (first|exact bR _ _|assumption|refine cn9 ?_|refine XT ?_ _|refine aK ?_ (by assumption))))
    (first
     |(go_at_call 104;refine(hT _).mono ?_;rintro e wT ⟨rfl,p⟩;(first|(refine nQ (nB (g:=D.heap.size) rfl a p) ?_;rintro ⟨t,x⟩)|(refine nQ (nB (g:=D.heap.size) rfl a (aK (bR _ _).drew p)) ?_;rintro ⟨t,x⟩)|(refine nQ (nB (g:=wT.heap.size) rfl a p) ?_;rintro ⟨t,x⟩)|(refine nQ (nB (g:=wT.heap.size) rfl a (aK (bR _ _).drew p)) ?_;rintro ⟨t,x⟩)|(refine nQ (nB (g:=wP.heap.size) rfl a p) ?_;rintro ⟨t,x⟩)|(refine nQ (nB (g:=wP.heap.size) rfl a (aK (bR _ _).drew p)) ?_;rintro ⟨t,x⟩)|(refine nQ (Q8 r p) ?_;rintro ⟨t,x⟩)|skip))
     |(go_at_call 105;refine(hP _).mono ?_;rintro e wP ⟨rfl,o⟩;(first|(refine nQ (nB (g:=D.heap.size) rfl a o) ?_;rintro ⟨r,u⟩)|(refine nQ (nB (g:=D.heap.size) rfl a (aK (bR _ _).drew o)) ?_;rintro ⟨r,u⟩)|(refine nQ (nB (g:=wT.heap.size) rfl a o) ?_;rintro ⟨r,u⟩)|(refine nQ (nB (g:=wT.heap.size) rfl a (aK (bR _ _).drew o)) ?_;rintro ⟨r,u⟩)|(refine nQ (nB (g:=wP.heap.size) rfl a o) ?_;rintro ⟨r,u⟩)|(refine nQ (nB (g:=wP.heap.size) rfl a (aK (bR _ _).drew o)) ?_;rintro ⟨r,u⟩)|(refine nQ (Q8 t o) ?_;rintro ⟨r,u⟩)|skip)))
   (all_goals (refine NoPanic.normal ?_));all_goals first
    |(obtain⟨Q,F⟩:∃g,g=wT.heap.size:=⟨_,rfl⟩;rw[<-F];exact⟨rfl,Q,rfl,by subst F;repeat (first|exact bR _ _|assumption|refine cn9 ?_|refine XT ?_ _|refine aK ?_ (by assumption))⟩)
    |(obtain⟨Q,F⟩:∃g,g=wP.heap.size:=⟨_,rfl⟩;rw[<-F];exact⟨rfl,Q,rfl,by subst F;repeat (first|exact bR _ _|assumption|refine cn9 ?_|refine XT ?_ _|refine aK ?_ (by assumption))⟩)
    |(obtain⟨Q,F⟩:∃g,g=D.heap.size:=⟨_,rfl⟩;rw[<-F];exact⟨rfl,Q,rfl,by subst F;repeat (first|exact bR _ _|assumption|refine cn9 ?_|refine XT ?_ _|refine aK ?_ (by assumption))⟩)
  rintro g w2 I;have W:=aK ha I;have hi:=HG.out;subst hi;obtain⟨-,-,g2⟩:=N.out w2 I;have h3:=aH (λj (R:aR w2.heap.size w2 j)=>(N.out j (aK I R)).2.2);clear N HG hP hT Y Z I;rw[jX,jX];obtain⟨H,hH⟩:∃H,H=T++be 8 f++[UInt8.ofNat n]:=⟨_,rfl⟩;have hj:H.length<=2000:=(by rw[hH];simp;omega);rw[<-hH];have HH:=aH hH;clear hH;go_wp2_with fail
  go_loopw [5,6] (λs i wr=>∃k:Nat,k<=n/\i=.int .i64 (k:Int)/\s=.string (bs (H++rF (l.take k)))/\aR w2.heap.size w2 wr) (λ_ i _=>n-(intOf i).toNat)
  .exact⟨0,by omega,rfl,by simp[rF],bR _ _⟩
  obtain⟨k,hk,rfl,rfl,C⟩:=hrel;have V:=aK W C;have g2:=h3.out wr C;by_cases hm:k<n
  .obtain⟨e,he⟩:∃e,l[k]?=some e:=⟨_,aJ (by have:=Hn.out;omega)⟩;obtain⟨b,ho,rfl,-,hc⟩:=HL.out (by have:=Hn.out;omega);obtain⟨c0,c1,c2⟩:=hc k e he wr V;have J:=λw=>bE6 e w (h6.out e (bC he));have h2:=aq6 he;have l1:=h4.out k hk;have l2:=yW e;have i1:(k:Int)<n:=(by omega);have hn:¬(n:Int)<=k:=(by omega);obtain⟨S,hS⟩:∃S,S=H++rF (l.take k):=⟨_,rfl⟩;have hl:S.length<=5000:=(by rw[hS,aO];omega);rw[<-hS];have M:H++rF (l.take (k+1))=S++mW e:=(by rw[h2,hS,bT]);generalize mW e=B at J l2 M;obtain⟨e1,e2,e3⟩:=e;unfold KG at J;simp only[]at c0 c1 c2 J;have h7:=aH M;clear he hc h2 M hS;(go_wp2_with fail);refine(J _).mono ?_;rintro y w3 ⟨rfl,h9⟩;go_wp2;go_roundw
   .exact⟨k+1,by omega,by go_num,by rw[h7.out,jX],aK C h9⟩
   simp[intOf];omega
  have i1:¬(k:Int)<n:=(by omega);have ht:rF (l.take k)=rF l:=(by rw[aT (by have:=Hn.out;omega)]);have Ht:=aH ht;clear ht;go_wp2;refine bE (v:=.tuple #[.string (bs (H++rF (l.take k))),.int .i64 0]) (by simp[results,results70,go_sem]) rfl ⟨bt7 (by rw[Ht.out,HH.out];simp) rfl,V⟩
 rw[L E];clear hy L d;have h8:(eP (s,f,l)==0)=false:=(by rw[bA];exact E);generalize eP (s,f,l)=ck at q E h8;go_in;(go_wp2_with fail);refine(q _ O).mono ?_;rintro e D ⟨rfl,m⟩;go_wp2;refine bE (v:=.tuple #[.string (⟨#[]⟩:aS),.int .i64 ck]) (by simp[results,results70,go_sem]) rfl ⟨rfl,aK O m⟩
variable{e:Int}{l:List Ev}{X:List aN}{u v:aN}{s:aS}{T:cC}{b:kM}
abbrev jU:=aS×Int×Ev
def E8(t:jU):List aN:=[.string t.1,.int .i64 t.2.1,.string t.2.2.1,.string t.2.2.2.1,.float .f64 t.2.2.2.2]
def pB(t:jU):Array aN:=#[.string t.1,.int .i64 t.2.1,.string t.2.2.1,.string t.2.2.2.1,.float .f64 t.2.2.2.2]
def al0(t:jU):(E8 t).length=5:=rfl
def fU(l:List jU):List aN:=l.flatMap E8
def sN(a b:List jU):fU (a++b)=fU a++fU b:=eB
def tE(l:List jU):∀u∈fU l,u.oneCell'=true:=by intro u a;obtain⟨t,-,h⟩:=lY.1 a;unfold E8 at h;simp only[cY,r8,or_false]at h;rcases h with rfl|rfl|rfl|rfl|rfl<;>rfl
def okT(t:jU):Prop:=t.1.size<=maxLen/\(-9223372036854775808<=t.2.1/\t.2.1<=9223372036854775807)/\okV t.2.2
def eQ(s:aS):Int->List Ev->List jU
 |_,[]=>[]
 |f,e::l=>(s,f,e)::eQ s (f+1) l
def ag9(s:aS)(f:Int)(l:List Ev)(e:Ev):eQ s f (l++[e])=eQ s f l++[(s,f+l,e)]:=by
 induction l generalizing f with
 |nil=>simp[eQ]
 |cons a l b=>rw[l8,eQ,b,eQ,l8,cE,show f+1+(l:Int)=f+((l.length+1:Nat):Int)from by omega]
@[simp] def QU(s:aS)(f:Int)(l:List Ev):(eQ s f l).length=l:=by
 induction l generalizing f with
 |nil=>rfl
 |cons a l b=>rw[eQ,cE,b,cE]
def O5(s:aS)(f:Int){l:List Ev}{n:Nat}{e:Ev}(h:l[n]?=e):eQ s f (l.take (n+1))=eQ s f (l.take n)++[(s,f+n,e)]:=by rw[dL,h];have a:n<l:=(aQ.1 h).1;show eQ s f (l.take n++[e])=_;rw[ag9,b8,fX (by omega)]
def dO(b:kM):List jU:=eQ b.1 b.2.1 b.2.2
@[simp] def bB2(b:kM):(dO b).length=b.2.2:=QU _ _ _
def wZ{t:jU}(h:t∈eQ s e l):t.1=s/\e<=t.2.1/\t.2.1<e+l/\t.2.2∈l:=by
 induction l generalizing e with
 |nil=>cases h
 |cons a l d=>
  rw[eQ,cY]at h;rcases h with rfl|h
  .exact⟨rfl,Int.le_refl _,by simp only[cE];omega,by simp⟩
  have⟨b,f,g,c⟩:=d h;exact⟨b,by omega,by rw[cE];omega,iU _ c⟩
def uV(b:kM):Prop:=okB b/\eP b=0
def uV.range(h:uV b):0<b.2.2.length/\b.2.2.length<=8/\0<=b.2.1/\b.2.1<=1073741824-(b.2.2:Int):=by have:=j8 h.2;exact⟨this.2.2.1,this.2.2.2.1,this.2.2.2.2.1,this.2.2.2.2.2.1⟩
def uV.told(h:uV b):∀t∈dO b,okT t:=by intro t d;have⟨a,e,f,c⟩:=wZ d;have g:=h.range;exact⟨by rw[a];exact h.1.1,by omega,h.1.2.2 _ c⟩
def wL(w:aI)(v:aN)(l:List jU):Prop:=Reads w v 5 l.length (fU l)/\∀t∈l,okT t
def wL.next{w:aI}{v:aN}{T:List jU}(h:wL w v T)(a:aR w w x):wL x v T:=⟨h.1.next a,h.2⟩
def wL.later{w:aI}{A:Option Addr}{n c:Nat}{l:List jU}(h:wL w (.slice A n c) l)(g:0<l.length):∃b a,A=zp b a/\b<w.heap.size/\∀(i:Nat)(t:jU),l[i]?=t->∀d:aI,aR w w d->d.cell? (zp b (a+i*5))=t.1/\d.cell? (zp b (a+i*5+1))=t.2.1/\d.cell? (zp b (a+i*5+2))=t.2.2.1/\d.cell? (zp b (a+i*5+3))=t.2.2.2.1/\d.cell? (zp b (a+i*5+4))=some (.float .f64 t.2.2.2.2):=by have⟨b,a,j,f,m⟩:=(Reads.each al0 h.1).2.2.2 g;refine⟨b,a,j,f,λi e o d k=>?_⟩;have h:=m i e o d k;exact⟨by simpa[E8]using h 0 (by omega),by simpa[E8,gC]using h 1 (by omega),by simpa[E8,gC]using h 2 (by omega),by simpa[E8,gC]using h 3 (by omega),by simpa[E8,gC]using h 4 (by omega)⟩
def LW:(prog.info? 133).map (λi=>(i.zero,i.size,i.bytes))=some (some (.agg #[zn,(),zn,zn,.float .f64 0]),5,64):=by kernel_rfl
def GC(w:aI)(t:jU):Reads (w.alloc (.cells (pB t) 133)) (.slice (zp w) 1 1) 5 1 (fU [t]):=by have:=Reads.FH (size:=5) (n:=1) (cap:=1) (Row.new w (pB t) 133) rfl dQ (by unfold maxLen;omega);simpa[pB,fU,E8]using this
def vZ{w:aI}{i:Nat}(h:w.ownsRow n T m v i X)(e:k<=n):w.ownsRow k T m v i X:=by
 refine⟨h.1,?_⟩;rcases h.2 with f|⟨g,b,c,rfl,d,a⟩
 .exact .inl f
 exact .inr ⟨g,b,c,rfl,aM e d,a⟩
def iZ(s:aS):Bool:=decide (0<s.size)&&decide (s.size<=32)
def RL(s:aS)(w:aI)(c:s<=maxLen):Calls prog 98 #[s] w λe f=>e=(iZ s)/\w=f:=by
 unfold maxLen at c;by_cases z:s.size=0
 .have b:(s.toList==[])=true:=(by rw[toList_nil z];rfl);have a:iZ s=false:=(by unfold iZ;simp[z]);rw[a];clear a;go_in;go_wp2;go_ret;exact⟨rfl,rfl⟩
 have b:(s.toList==[])=false:=(by rw[bA];exact GD z);by_cases g:s.size<=32
 iterate 2
  ·(first|(have d:(s.size:Int)<=32:=by omega)|(have d:¬(s.size:Int)<=32:=by omega));(first|(have a:iZ s=true:=by unfold iZ;simp;omega)|(have a:iZ s=false:=by unfold iZ;simp;omega));rw[a];clear a;go_in;go_wp2;go_ret;exact⟨rfl,rfl⟩
def VG(s:aS)(w:aI)(b:s<=maxLen):Calls prog 71 #[s] w λe d=>e=(iZ s)/\w=d:=by
 unfold maxLen at b;by_cases z:1<=s.size
 .have i0:(1:Int)<=s.size:=(by omega);by_cases f:s.size<=32
  iterate 2
   ·(first|(have c:(s.size:Int)<=32:=by omega)|(have c:¬(s.size:Int)<=32:=by omega));(first|(have a:iZ s=true:=by unfold iZ;simp;omega)|(have a:iZ s=false:=by unfold iZ;simp;omega));rw[a];clear a;go_in;go_wp2;go_ret;exact⟨rfl,rfl⟩
 have i0:¬(1:Int)<=s.size:=(by omega);have a:iZ s=false:=(by unfold iZ;simp;omega);rw[a];clear a;go_in;go_wp2;go_ret;exact⟨rfl,rfl⟩
def ofT(s:aS)(t:jU):Bool:=decide (t.1=s)
def nV{a:Type}{l:List a}{x:a}{p:a->Bool}(h:l[n]?=some x):(l.take (n+1)).filter p=(l.take n).filter p++[x].filter p:=by rw[dL,h,jA];rfl
def aj7(h:eP (s,e,l)=0):iZ s=true:=by have:=j8 h;unfold iZ;simp only[]at this;simp;omega
def cO6(w:aI)(c:Int)(e:eY)(a:aI):Prop:=e=.returned (.tuple #[.int .i64 0,.int .i64 c])/\aR w.heap.size w a
def bH6{r:Option Nat}(h:w.ownsRow n T m v k X)(b:w.grownBy x r)(c:∀d,v.ownBlock=some d->some d≠r):x.ownsRow n T m v k X:=eS h (λd a=>b.block d (jN h d a) (c d a))
def Reads.cD3{w:aI}(h:Reads w v n k X):Reads w.drew v n k X:=h
def AX(f c:Int)(d:Bool)(t:jU):Bool:=if d then decide (t.2.1 - f<=0)&&decide (-(t.2.1 - f)<c)else decide (0<=t.2.1 - f)&&decide (t.2.1 - f<c)
def BE(T:List jU)(f c:Int)(d:Bool):List jU:=if d then(T.filter (AX f c d)).reverse else T.filter (AX f c d)
def KC(s:aS)(f c:Int):Bool:=!iZ s||(decide (f<0)||decide (c<1))
def cN1(w:aI)(T:List jU)(e:eY)(b:aI):Prop:=∃a,e=.returned (.tuple #[a,.int .i64 0])/\b.ownsRow w.heap.size 133 5 a T.length (fU T)/\aR w.heap.size w b
variable{M:List Nat}
def rQ(M:List Nat):List aN:=M.map fun(n:Nat)=>.int .i64 (n:Int)
@[simp] def ay0(M:List Nat):(rQ M).length=M:=by simp[rQ]
def af1(w:aI)(g:Nat)(b c:aN)(T:List jU)(M:List Nat)(a:Nat):Prop:=Row w g 48 [b,c,.int .i64 (a:Nat)]/\wL w b T/\Reads w c 1 M.length (rQ M)
def af1.next{w:aI}{g:Nat}{v u:aN}{T:List jU}{n:Nat}(h:af1 w g v u T M n)(a:aR w w x):af1 x g v u T M n:=⟨h.1.next a,h.2.1.next a,h.2.2.next a⟩
def af1.cells{w:aI}{n:Nat}{v:aN}{T:List jU}{k:Nat}(h:af1 w n v u T M k):w.cell? (zp n)=v/\w.cell? (zp n 1)=u/\w.cell? (zp n 2)=k:=by have a:=h.1.lO;have b:=h.1.qD;have c:=h.1.tW;exact⟨a,b,c⟩
def am8(x y:jU)(w:aI)(p:okT x)(q:okT y):Calls prog 72 #[.agg (pB x),.agg (pB y)] w λe v=>e=(decide (x=y))/\aR w w v:=by
 have⟨s,f,t,d,n⟩:=x;have⟨j,h,c,a,b⟩:=y;have o:=λw=>bY4 (t,d,n) (c,a,b) w p.2.2 q.2.2;have i:=VO w (.cells (pB (s,f,t,d,n)) 133) (.cells (pB (j,h,c,a,b)) 133);clear p q;unfold pB KG at *;dsimp only at i o|-;by_cases k:s=j
 .subst k;have r:(s.toList==s.toList)=true:=(by simp);by_cases l:f=h
  .subst l;have u:(f==f)=true:=(by simp);have g:decide ((s,f,t,d,n)=(s,f,c,a,b))=decide ((t,d,n)=(c,a,b)):=(by simp);rw[g];clear g;generalize decide ((t,d,n)=(c,a,b))=z at o|-;go_in;(go_wp2_with fail);go_call o _ as e A ⟨rfl,m⟩;go_wp2;go_ret;exact⟨rfl,aK i m⟩
  have u:(f==h)=false:=(by rw[bA];exact l);have g:decide ((s,f,t,d,n)=(s,h,c,a,b))=false:=(by simp[l]);rw[g];go_in;go_wp2;go_ret;exact⟨rfl,i⟩
 have r:(s.toList==j.toList)=false:=(by rw[bA,Ne,toList_inj];exact k);have g:decide ((s,f,t,d,n)=(j,h,c,a,b))=false:=(by simp[k]);rw[g];go_in;go_wp2;go_ret;exact⟨rfl,i⟩
def ap4(va vb:aN)(a b:List jU)(w:aI)(T:wL w va a)(U:wL w vb b)(hn:a.length<=1000000/\b.length<=1000000):Calls prog 42 #[va,vb] w λe Y=>e=(decide (a=b))/\aR w w Y:=by
 obtain⟨A,c,rfl,-⟩:=id T.1;obtain⟨A',c',rfl,-⟩:=id U.1;by_cases X:a.length=b
 .obtain⟨n,S⟩:=fR a.length;have h2:n<=1000000:=(by omega);obtain⟨j,l,HA,HB⟩:=aC S (show n=b from by omega) T U;rw[show b.length=n from by omega,show a=n from by omega];clear X hn S T U;have e0:((n:Int)==n)=true:=by simp
  go_in;go_wp2_with fail
  go_loopw [5] (λi wr=>∃k:Nat,k<=n/\i=.int .i64 k/\(∀m,m<k->a[m]?=b[m]?)/\aR w w wr) (λi _=>n-(intOf i).toNat)
  .exact⟨0,by omega,rfl,λm hm=>by omega,iH⟩
  obtain⟨k,hk,rfl,r,h⟩:=hrel;have⟨q,v⟩:=aA r h;clear r;by_cases h1:k<n
  .have i1:(k:Int)<n:=(by omega);obtain⟨x,t⟩:∃x,a[k]?=some x:=⟨_,aJ (by have:=j.zz;omega)⟩;obtain⟨y,V⟩:∃y,b[k]?=some y:=⟨_,aJ (by have:=l.zz;omega)⟩;have o:=HA.zz;have p:=HB.zz;rw[show a.length=n from j.zz.symm]at o;rw[show b.length=n from l.zz.symm]at p;obtain⟨bx,ox,rfl,-,Q⟩:=o.later (by have:=j.zz;omega);obtain⟨h0,oy,rfl,-,R⟩:=p.later (by have:=l.zz;omega);have E:=λz:dR wr=>Q k x t z.it (aK h z.ok);have F:=λz:dR wr=>R k y V z.it (aK h z.ok);have G:=λz=>(E z).1;have H:=λz=>(E z).2.1;have I:=λz=>(E z).2.2.1;have J:=λz=>(E z).2.2.2.1;have K:=λz=>(E z).2.2.2.2;have L:=λz=>(F z).1;have M:=λz=>(F z).2.1;have N:=λz=>(F z).2.2.1;have O:=λz=>(F z).2.2.2.1;have P:=λz=>(F z).2.2.2.2;have d:=λY=>am8 x y Y (o.2 x (bC t)) (p.2 y (bC V));have⟨Z,Hy⟩:=aA t V;clear E F Q R t V h o p;by_cases f:x=y
   .have s:decide (x=y)=true:=(by simp[f]);simp only[s]at d;have W:=aH f;obtain⟨x1,x2,x3,x4,x5⟩:=x;obtain⟨y1,y2,y3,y4,y5⟩:=y;dsimp only[pB]at d G H I J K L M N O P;have B:=aH d;clear d s f;(go_wp2_with fail);refine cI (by kernel_rfl) (by kernel_rfl) ?_;(repeat go_big_quiet_step ((go_at_call 72;exact eL _ (B _))));refine wpQuiet_nil ?_;intro _ t;obtain⟨⟨w4,D⟩,rfl⟩:=t;go_wp2;go_roundw
    .
     refine⟨k+1,by omega,by go_num,λm hm=>?_,cU v D dQ⟩;rcases cK m k with C|C
     .exact q m C
     obtain rfl:m=k:=(by omega);rw[Z.zz,Hy.zz,W.zz]
    simp[intOf];omega
   have s:decide (x=y)=false:=(by simp[f]);simp only[s]at d;have g:decide (a=b)=false:=by rw[cN];rintro rfl;have h8:=Z.zz;rw[Hy.zz]at h8;exact f (cJ h8).symm
   have u:=aH g;obtain⟨x1,x2,x3,x4,x5⟩:=x;obtain⟨y1,y2,y3,y4,y5⟩:=y;dsimp only[pB]at d G H I J K L M N O P;have B:=aH d;clear d s f g;(go_wp2_with fail);refine cI (by kernel_rfl) (by kernel_rfl) ?_;(repeat go_big_quiet_step ((go_at_call 72;exact eL _ (B _))));refine wpQuiet_nil ?_;intro _ t;obtain⟨⟨w4,D⟩,rfl⟩:=t;go_wp2;go_ret;rw[u.zz];exact⟨rfl,cU v D dQ⟩
  obtain rfl:k=n:=by omega
  have g:decide (a=b)=true:=by
   rw[decide_eq_true_iff];apply pS;intro m;rcases cK m k with C|C
   .exact q m C
   rw[kD (by rw[<-j.zz];exact C),kD (by rw[<-l.zz];exact C)]
  have u:=aH g;clear g h;go_wp2;go_ret;rw[u.zz];exact⟨rfl,v⟩
 have e0:((a:Int)==b)=false:=(by rw[bA];omega);have e1:¬(a:Int)=b:=(by omega);have s:decide (a=b)=false:=(by rw[cN];rintro rfl;exact X rfl);have HD:=aH s;clear T U hn s X;go_in;go_wp2;go_ret;rw[HD.zz];exact⟨rfl,iH⟩
end Go.Proofs.YtpopikndggffaaaGreatDoor
