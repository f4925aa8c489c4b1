/- TOP, part 13. -/
import Derived.Deep.RegionHeldLaw
import Derived.Deep.RegionLaw
import Derived.Test.YtpopikndggffaaaGreatDoorGm9
namespace Go.Proofs.YtpopikndggffaaaGreatDoor
set_option linter.all false
set_option maxRecDepth 100000
set_option maxHeartbeats 16000000
open Go.RowKit Tryz
variable{g k m n:Nat}{w x:aI}
def bI0{A:Program}{c:Code}{Q:Exit->Act->aI->Prop}{a:Act}(R:Nat->aI->Prop)(g:Nat->Act)(h1:c.wp A (λe d b=>e=.normal/\∃x,d=g x/\R x b) a w)(f:∀x b,R x b->Q .normal (g x) b):c.wp A Q a w:=
 Code.wp_mono (λe d b h=>by obtain⟨rfl,x,rfl,h⟩:=h;exact f x b h) h1
def nC{p q:Prop}(h:p)(k:p->q):q:=k h
def VZ(h:aS w.heap.size w x)(o:Obj):aS w.heap.size w (x.alloc o):=h.alloc h.size o
def OI(b:Row w n 5 (dS [UInt8.ofNat k]))(a:aS w.heap.size w x):
 Row x n 5 (dS [UInt8.ofNat k])/\(convert 110 9 (.slice (some ⟨n,0,none⟩) 1 1)).run prog x=.ok (.string (bs [UInt8.ofNat k])) x:=
 ⟨b.next a,Row.conv (P:=prog) (cap:=1) (n:=1) (b.next a) rfl underlying110 underlying5 underlying9⟩
def mN{X:aI}{g:Nat}(b:X.heap.size=g)(c:n<256)(a:aS (X.alloc (.cells #[.int .u8 n] 5)).heap.size (X.alloc (.cells #[.int .u8 n] 5)) w):
 Row w g 5 (dS [UInt8.ofNat n])/\(convert 110 9 (.slice (some ⟨g,0,none⟩) 1 1)).run prog w=.ok (.string (bs [UInt8.ofNat n])) w:=by
  subst b;have h:=Row.new X #[.int .u8 n] 5;have e:(#[Value.int .u8 n]:Array aN).toList=dS [UInt8.ofNat n]:=by have:(UInt8.ofNat n).toNat=n:=(by simp;omega);simp[dS];omega
  rw[e]at h;exact OI h a
def bL3(v:aN)(b:kK)(w:aI)(h:LH w v b):
 Calls prog 70 #[v] w λe j=>e=.returned (.tuple #[.string (bs (iT b)),.int .i64 (eF b)])/\aS w.heap.size w j:=by
  have q:=λj (R:aS w.heap.size w j)=>X4 v b j (h.next R);have d:=iM (b:=b);have hy:eF b=0->iT b=vH b:=λh=>(by unfold iT;rw[aU h]);have L:eF b≠0->iT b=[]:=λh=>(by unfold iT;rw[aQ h]);obtain⟨s,f,l⟩:=b;obtain⟨A,c,rfl,hE,hs,hg,hh⟩:=h;simp only[]at hE hs hg hh q d|-;obtain⟨-,hd,hf,-⟩:=Reads.each QN hE.1;unfold maxLen at hf hs;have O:=cI w (.cells #[.string s,.int .i64 f,.slice A l.length c] 129);have hL:=λE=>hE.later E;have ok:=hE.2;have z:=cs1 w (.string s) (.int .i64 f) (.slice A l.length c) 129;by_cases E:eF (s,f,l)=0
  .obtain⟨p1,p2,p3,p4,p5,p6,-⟩:=d E;obtain⟨f,rfl⟩:=dA p5;rw[hy E];have K:vH (s,(f:Int),l)=(o8 (lb s)++be 8 f++[UInt8.ofNat l.length])++qJ l:=(by unfold vH aj6;simp);rw[K];rw[E]at q|-;have hT:=λw=>X3 s w (by omega);have lT:(o8 (lb s)).length<=1000:=(by rw[nS _ (by rw[bN];omega),bN];omega);generalize o8 (lb s)=T at hT lT|-;obtain⟨n,hN⟩:∃n,n=l.length:=⟨_,rfl⟩;rw[<-hN]at p3 p4 p6 hd O q z|-;have⟨Hn,HL,h6,h5⟩:=aC hN hL ok q;have U:=λk (hk:k<=n)=>aK6 (l:=l.take k) 8 (by rw[bJ];omega);have h4:=aH U;clear hN hL ok hE hy L d E K q U;have u1:IntKind.u64.wrap (f:Int)=(f:Int):=(by rw[eR];omega);have u2:IntKind.u64.wrap (n:Int)=(n:Int):=(by rw[eR];omega);have u3:IntKind.u8.wrap (n:Int)=(n:Int):=(by rw[IntKind.wrap_u8];omega);have a:n<256:=(by omega);have Y:=λw=>al5 (P:=prog) (e:=5) (src:=110) (dst:=9) (n:Int) (by omega) (by omega) underlying110 underlying5 underlying9 w;rw[cB]at Y;have Z:=λw:aI=>(mN (X:=w) (g:=w.heap.size) rfl a (aY _ _).drew).2;go_in;(go_wp2_with fail);refine(h5.out _ O).mono ?_;rintro e D ⟨rfl,m⟩;have ha:=aJ O m;have N:=aH (show∀j,aS D.heap.size D j->j.cell? ⟨w.heap.size,0,none⟩=some (.string s)/\j.cell? ⟨w.heap.size,1,none⟩=some (.int .i64 f)/\j.cell? ⟨w.heap.size,2,none⟩=some (.slice A n c)from λj R=>z j (aJ m R));obtain⟨-,-,g2⟩:=N.out D (aY _ _);have hP:=λw=>ag8 f w (by omega);clear m z O;(go_wp2_with fail);clear g2;obtain⟨G,hG⟩:∃G,G=w.heap.size:=⟨_,rfl⟩;rw[<-hG]at N|-;have HG:=aH hG;clear hG;apply bI0 (λg j=>aS D.heap.size D j);case h1=>
    refine wp_region_noPanic ?_;go_region_held_law (λj=>j.cell? ⟨G,0,none⟩=some (.string s)/\j.cell? ⟨G,1,none⟩=some (.int .i64 f)/\j.cell? ⟨G,2,none⟩=some (.slice A n c))
     ((refine N.out _ ?_;repeat (first|exact aY _ _|assumption|refine bZ4 ?_|refine VZ ?_ _|refine aJ ?_ (by assumption))))
     (first
      |(go_at_call 104;refine(hT _).mono ?_;rintro e wT ⟨rfl,p⟩;(first|(refine nC (mN (g:=D.heap.size) rfl a p) ?_;rintro ⟨t,x⟩)|(refine nC (mN (g:=D.heap.size) rfl a (aJ (aY _ _).drew p)) ?_;rintro ⟨t,x⟩)|(refine nC (mN (g:=wT.heap.size) rfl a p) ?_;rintro ⟨t,x⟩)|(refine nC (mN (g:=wT.heap.size) rfl a (aJ (aY _ _).drew p)) ?_;rintro ⟨t,x⟩)|(refine nC (mN (g:=wP.heap.size) rfl a p) ?_;rintro ⟨t,x⟩)|(refine nC (mN (g:=wP.heap.size) rfl a (aJ (aY _ _).drew p)) ?_;rintro ⟨t,x⟩)|(refine nC (OI r p) ?_;rintro ⟨t,x⟩)|skip))
      |(go_at_call 105;refine(hP _).mono ?_;rintro e wP ⟨rfl,o⟩;(first|(refine nC (mN (g:=D.heap.size) rfl a o) ?_;rintro ⟨r,u⟩)|(refine nC (mN (g:=D.heap.size) rfl a (aJ (aY _ _).drew o)) ?_;rintro ⟨r,u⟩)|(refine nC (mN (g:=wT.heap.size) rfl a o) ?_;rintro ⟨r,u⟩)|(refine nC (mN (g:=wT.heap.size) rfl a (aJ (aY _ _).drew o)) ?_;rintro ⟨r,u⟩)|(refine nC (mN (g:=wP.heap.size) rfl a o) ?_;rintro ⟨r,u⟩)|(refine nC (mN (g:=wP.heap.size) rfl a (aJ (aY _ _).drew o)) ?_;rintro ⟨r,u⟩)|(refine nC (OI t o) ?_;rintro ⟨r,u⟩)|skip)))
    (all_goals (refine NoPanic.normal ?_));all_goals first
     |(obtain⟨Q,F⟩:∃g,g=wT.heap.size:=⟨_,rfl⟩;rw[<-F];exact⟨rfl,Q,rfl,by subst F;repeat (first|exact aY _ _|assumption|refine bZ4 ?_|refine VZ ?_ _|refine aJ ?_ (by assumption))⟩)
     |(obtain⟨Q,F⟩:∃g,g=wP.heap.size:=⟨_,rfl⟩;rw[<-F];exact⟨rfl,Q,rfl,by subst F;repeat (first|exact aY _ _|assumption|refine bZ4 ?_|refine VZ ?_ _|refine aJ ?_ (by assumption))⟩)
     |(obtain⟨Q,F⟩:∃g,g=D.heap.size:=⟨_,rfl⟩;rw[<-F];exact⟨rfl,Q,rfl,by subst F;repeat (first|exact aY _ _|assumption|refine bZ4 ?_|refine VZ ?_ _|refine aJ ?_ (by assumption))⟩)
   rintro g w2 I;have W:=aJ ha I;have hi:=HG.out;subst hi;obtain⟨-,-,g2⟩:=N.out w2 I;have h3:=aH (λj (R:aS w2.heap.size w2 j)=>(N.out j (aJ I R)).2.2);clear N HG hP hT Y Z I;rw[l4,l4];obtain⟨H,hH⟩:∃H,H=T++be 8 f++[UInt8.ofNat n]:=⟨_,rfl⟩;have hj:H.length<=2000:=(by rw[hH];simp;omega);rw[<-hH];have HH:=aH hH;clear hH;(go_wp2_with fail);go_loopw [5,6] (λs i wr=>∃k:Nat,k<=n/\i=.int .i64 k/\s=.string (bs (H++qJ (l.take k)))/\aS w2.heap.size w2 wr) (λ_ i _=>n-(intOf i).toNat)
   .exact⟨0,by omega,rfl,by simp[qJ],aY _ _⟩
   obtain⟨k,hk,rfl,rfl,C⟩:=hrel;have V:=aJ W C;have g2:=h3.out wr C;by_cases hm:k<n
   .obtain⟨e,he⟩:∃e,l[k]?=some e:=⟨_,aK (by have:=Hn.out;omega)⟩;obtain⟨b,ho,rfl,-,hc⟩:=HL.out (by have:=Hn.out;omega);obtain⟨c0,c1,c2⟩:=hc k e he wr V;have J:=λw=>bt4 e w (h6.out e (bD he));have h2:=ak2 he;have l1:=h4.out k hk;have l2:=xS e;have i1:(k:Int)<n:=(by omega);have hn:¬(n:Int)<=k:=(by omega);obtain⟨S,hS⟩:∃S,S=H++qJ (l.take k):=⟨_,rfl⟩;have hl:S.length<=5000:=(by rw[hS,aP];omega);rw[<-hS];have M:H++qJ (l.take (k+1))=S++mI e:=(by rw[h2,hS,bV]);generalize mI e=B at J l2 M;obtain⟨e1,e2,e3⟩:=e;unfold J1 at J;simp only[]at c0 c1 c2 J;have h7:=aH M;clear he hc h2 M hS;(go_wp2_with fail);refine(J _).mono ?_;rintro y w3 ⟨rfl,h9⟩;go_wp2;go_roundw
    .exact⟨k+1,by omega,by go_num,by rw[h7.out,l4],aJ C h9⟩
    simp[intOf];omega
   have i1:¬(k:Int)<n:=(by omega);have ht:qJ (l.take k)=qJ l:=(by rw[aX (by have:=Hn.out;omega)]);have Ht:=aH ht;clear ht;go_wp2;refine bG (v:=.tuple #[.string (bs (H++qJ (l.take k))),.int .i64 0]) (by simp[results,results70,go_sem]) rfl ⟨bj4 (by rw[Ht.out,HH.out];simp) rfl,V⟩
  rw[L E];clear hy L d;have h8:(eF (s,f,l)==0)=false:=(by rw[bI];exact E);generalize eF (s,f,l)=ck at q E h8;go_in;(go_wp2_with fail);refine(q _ O).mono ?_;rintro e D ⟨rfl,m⟩;go_wp2;refine bG (v:=.tuple #[.string (⟨#[]⟩:aT),.int .i64 ck]) (by simp[results,results70,go_sem]) rfl ⟨rfl,aJ O m⟩
variable{e:Int}{l:List Ev}{X:List aN}{u v:aN}{s:aT}{T:cD}{b:kK}
abbrev jL:=aT×Int×Ev
def CO(t:jL):List aN:=[.string t.1,.int .i64 t.2.1,.string t.2.2.1,.string t.2.2.2.1,.float .f64 t.2.2.2.2]
def oJ(t:jL):Array aN:=#[.string t.1,.int .i64 t.2.1,.string t.2.2.1,.string t.2.2.2.1,.float .f64 t.2.2.2.2]
def af1(t:jL):(CO t).length=5:=rfl
def fH(l:List jL):List aN:=l.flatMap CO
def rK(a b:List jL):fH (a++b)=fH a++fH b:=dU
def sC(l:List jL):∀u∈fH l,u.oneCell'=true:=by intro u a;obtain⟨t,-,h⟩:=lG.1 a;unfold CO at h;simp only[cX,qC,or_false]at h;rcases h with rfl|rfl|rfl|rfl|rfl<;>rfl
def okT(t:jL):Prop:=t.1.size<=maxLen/\(-9223372036854775808<=t.2.1/\t.2.1<=9223372036854775807)/\okV t.2.2
def eG(s:aT):Int->List Ev->List jL
 |_,[]=>[]
 |f,e::l=>(s,f,e)::eG s (f+1) l
def aa9(s:aT)(f:Int)(l:List Ev)(e:Ev):eG s f (l++[e])=eG s f l++[(s,f+l.length,e)]:=by
 induction l generalizing f with
 |nil=>simp[eG]
 |cons a l b=>rw[kM,eG,b,eG,kM,cF,show f+1+(l.length:Int)=f+((l.length+1:Nat):Int)from by omega]
@[simp] def PD(s:aT)(f:Int)(l:List Ev):(eG s f l).length=l.length:=by
 induction l generalizing f with
 |nil=>rfl
 |cons a l b=>rw[eG,cF,b,cF]
def MK(s:aT)(f:Int){l:List Ev}{n:Nat}{e:Ev}(h:l[n]?=some e):eG s f (l.take (n+1))=eG s f (l.take n)++[(s,f+n,e)]:=by rw[dQ,h];have a:n<l.length:=(aR.1 h).1;show eG s f (l.take n++[e])=_;rw[aa9,bJ,fQ (by omega)]
def dJ(b:kK):List jL:=eG b.1 b.2.1 b.2.2
@[simp] def bq8(b:kK):(dJ b).length=b.2.2.length:=PD _ _ _
def vO{t:jL}(h:t∈eG s e l):t.1=s/\e<=t.2.1/\t.2.1<e+l.length/\t.2.2∈l:=by
 induction l generalizing e with
 |nil=>cases h
 |cons a l d=>
  rw[eG,cX]at h;rcases h with rfl|h
  .exact⟨rfl,Int.le_refl _,by simp only[cF];omega,by simp⟩
  obtain⟨b,f,g,c⟩:=d h;exact⟨b,by omega,by rw[cF];omega,iG _ c⟩
def tS(b:kK):Prop:=okB b/\eF b=0
def tS.range(h:tS b):0<b.2.2.length/\b.2.2.length<=8/\0<=b.2.1/\b.2.1<=1073741824-(b.2.2.length:Int):=by have:=iM h.2;exact⟨this.2.2.1,this.2.2.2.1,this.2.2.2.2.1,this.2.2.2.2.2.1⟩
def tS.told(h:tS b):∀t∈dJ b,okT t:=by intro t d;obtain⟨a,e,f,c⟩:=vO d;have g:=h.range;exact⟨by rw[a];exact h.1.1,by omega,h.1.2.2 _ c⟩
def vA(w:aI)(v:aN)(l:List jL):Prop:=Reads w v 5 l.length (fH l)/\∀t∈l,okT t
def vA.next{w:aI}{v:aN}{T:List jL}(h:vA w v T)(a:aS w.heap.size w x):vA x v T:=⟨h.1.next a,h.2⟩
def vA.later{w:aI}{A:Option Addr}{n c:Nat}{l:List jL}(h:vA w (.slice A n c) l)(g:0<l.length):∃b a,A=some ⟨b,a,none⟩/\b<w.heap.size/\
 ∀(i:Nat)(t:jL),l[i]?=some t->∀d:aI,aS w.heap.size w d->d.cell? ⟨b,a+i*5,none⟩=some (.string t.1)/\d.cell? ⟨b,a+i*5+1,none⟩=some (.int .i64 t.2.1)/\d.cell? ⟨b,a+i*5+2,none⟩=some (.string t.2.2.1)/\d.cell? ⟨b,a+i*5+3,none⟩=some (.string t.2.2.2.1)/\d.cell? ⟨b,a+i*5+4,none⟩=some (.float .f64 t.2.2.2.2):=by obtain⟨b,a,j,f,m⟩:=(Reads.each af1 h.1).2.2.2 g;refine⟨b,a,j,f,λi e o d k=>?_⟩;have h:=m i e o d k;exact⟨by simpa[CO]using h 0 (by omega),by simpa[CO,fL]using h 1 (by omega),by simpa[CO,fL]using h 2 (by omega),by simpa[CO,fL]using h 3 (by omega),by simpa[CO,fL]using h 4 (by omega)⟩
def K8:(prog.info? 133).map (λi=>(i.zero,i.size,i.bytes))=some (some (.agg #[.string ⟨#[]⟩,.int .i64 0,.string ⟨#[]⟩,.string ⟨#[]⟩,.float .f64 0]),5,64):=by kernel_rfl
def EW(w:aI)(t:jL):Reads (w.alloc (.cells (oJ t) 133)) (.slice (some ⟨w.heap.size,0,none⟩) 1 1) 5 1 (fH [t]):=by have:=Reads.DX (size:=5) (n:=1) (cap:=1) (Row.new w (oJ t) 133) rfl (aO _) (by unfold maxLen;omega);simpa[oJ,fH,CO]using this
def FD{w:aI}{i:Nat}(h:w.ownsRow n T m v i X)(e:k<=n):w.ownsRow k T m v i X:=by
 refine⟨h.1,?_⟩;rcases h.2 with f|⟨g,b,c,rfl,d,a⟩
 .exact .inl f
 exact .inr ⟨g,b,c,rfl,aL e d,a⟩
def iK(s:aT):Bool:=decide (0<s.size)&&decide (s.size<=32)
def PX(s:aT)(w:aI)(c:s.size<=maxLen):
 Calls prog 98 #[.string s] w λe f=>e=.returned (.bool (iK s))/\w=f:=by
  unfold maxLen at c;by_cases z:s.size=0
  .have b:(s.toList==[])=true:=(by rw[toList_nil z];rfl);have a:iK s=false:=(by unfold iK;simp[z]);rw[a];clear a;go_in;go_wp2;go_ret;exact⟨rfl,rfl⟩
  have b:(s.toList==[])=false:=(by rw[bI];exact EX z);by_cases g:s.size<=32
  iterate 2
   ·(first|(have d:(s.size:Int)<=32:=by omega)|(have d:¬(s.size:Int)<=32:=by omega));(first|(have a:iK s=true:=by unfold iK;simp;omega)|(have a:iK s=false:=by unfold iK;simp;omega));rw[a];clear a;go_in;go_wp2;go_ret;exact⟨rfl,rfl⟩
def TW(s:aT)(w:aI)(b:s.size<=maxLen):
 Calls prog 71 #[.string s] w λe d=>e=.returned (.bool (iK s))/\w=d:=by
  unfold maxLen at b;by_cases z:1<=s.size
  .have i0:(1:Int)<=s.size:=(by omega);by_cases f:s.size<=32
   iterate 2
    ·(first|(have c:(s.size:Int)<=32:=by omega)|(have c:¬(s.size:Int)<=32:=by omega));(first|(have a:iK s=true:=by unfold iK;simp;omega)|(have a:iK s=false:=by unfold iK;simp;omega));rw[a];clear a;go_in;go_wp2;go_ret;exact⟨rfl,rfl⟩
  have i0:¬(1:Int)<=s.size:=(by omega);have a:iK s=false:=(by unfold iK;simp;omega);rw[a];clear a;go_in;go_wp2;go_ret;exact⟨rfl,rfl⟩
def ofT(s:aT)(t:jL):Bool:=decide (t.1=s)
def nG{a:Type}{l:List a}{x:a}{p:a->Bool}(h:l[n]?=some x):(l.take (n+1)).filter p=(l.take n).filter p++[x].filter p:=by rw[dQ,h,iN];rfl
def ad7(h:eF (s,e,l)=0):iK s=true:=by have:=iM h;unfold iK;simp only[]at this;simp;omega
def cx7(w:aI)(c:Int)(e:eT)(a:aI):Prop:=e=.returned (.tuple #[.int .i64 0,.int .i64 c])/\aS w.heap.size w a
def bw2{r:Option Nat}(h:w.ownsRow n T m v k X)(b:w.grownBy x r)(c:∀d,v.ownBlock=some d->some d≠r):x.ownsRow n T m v k X:=
 fG h (λd a=>b.block d (jG h d a) (c d a))
def Reads.cn6{w:aI}(h:Reads w v n k X):Reads w.drew v n k X:=h
def zO(f c:Int)(d:Bool)(t:jL):Bool:=if d then decide (t.2.1 - f<=0)&&decide (-(t.2.1 - f)<c)else decide (0<=t.2.1 - f)&&decide (t.2.1 - f<c)
def AB(T:List jL)(f c:Int)(d:Bool):List jL:=if d then(T.filter (zO f c d)).reverse else T.filter (zO f c d)
def IY(s:aT)(f c:Int):Bool:=!iK s||(decide (f<0)||decide (c<1))
def cw3(w:aI)(T:List jL)(e:eT)(b:aI):Prop:=∃a,e=.returned (.tuple #[a,.int .i64 0])/\b.ownsRow w.heap.size 133 5 a T.length (fH T)/\aS w.heap.size w b
variable{M:List Nat}
def qQ(M:List Nat):List aN:=M.map fun(n:Nat)=>.int .i64 (n:Int)
@[simp] def aq6(M:List Nat):(qQ M).length=M.length:=by simp[qQ]
def ZR(w:aI)(g:Nat)(b c:aN)(T:List jL)(M:List Nat)(a:Nat):Prop:=
 Row w g 48 [b,c,.int .i64 (a:Nat)]/\vA w b T/\Reads w c 1 M.length (qQ M)
def ZR.next{w:aI}{g:Nat}{v u:aN}{T:List jL}{n:Nat}(h:ZR w g v u T M n)(a:aS w.heap.size w x):ZR x g v u T M n:=
 ⟨h.1.next a,h.2.1.next a,h.2.2.next a⟩
def ZR.cells{w:aI}{n:Nat}{v:aN}{T:List jL}{k:Nat}(h:ZR w n v u T M k):w.cell? ⟨n,0,none⟩=some v/\w.cell? ⟨n,1,none⟩=some u/\w.cell? ⟨n,2,none⟩=some (.int .i64 k):=by have a:=h.1.cell 0 (by simp);have b:=h.1.cell 1 (by simp);have c:=h.1.cell 2 (by simp);exact⟨a,b,c⟩
def ah0(x y:jL)(w:aI)(p:okT x)(q:okT y):
 Calls prog 72 #[.agg (oJ x),.agg (oJ y)] w λe v=>e=.returned (.bool (decide (x=y)))/\aS w.heap.size w v:=by
  obtain⟨s,f,t,d,n⟩:=x;obtain⟨j,h,c,a,b⟩:=y;have o:=λw=>bL2 (t,d,n) (c,a,b) w p.2.2 q.2.2;have i:=U5 w (.cells (oJ (s,f,t,d,n)) 133) (.cells (oJ (j,h,c,a,b)) 133);clear p q;unfold oJ J1 at *;dsimp only at i o|-;by_cases k:s=j
  .subst k;have r:(s.toList==s.toList)=true:=(by simp);by_cases l:f=h
   .subst l;have u:(f==f)=true:=(by simp);have g:decide ((s,f,t,d,n)=(s,f,c,a,b))=decide ((t,d,n)=(c,a,b)):=(by simp);rw[g];clear g;generalize decide ((t,d,n)=(c,a,b))=z at o|-;go_in;(go_wp2_with fail);refine(o _).mono ?_;rintro e A ⟨rfl,m⟩;go_wp2;go_ret;exact⟨rfl,aJ i m⟩
   have u:(f==h)=false:=(by rw[bI];exact l);have g:decide ((s,f,t,d,n)=(s,h,c,a,b))=false:=(by simp[l]);rw[g];go_in;go_wp2;go_ret;exact⟨rfl,i⟩
  have r:(s.toList==j.toList)=false:=(by rw[bI,Ne,toList_inj];exact k);have g:decide ((s,f,t,d,n)=(j,h,c,a,b))=false:=(by simp[k]);rw[g];go_in;go_wp2;go_ret;exact⟨rfl,i⟩
def aj0(va vb:aN)(a b:List jL)(w:aI)(T:vA w va a)(U:vA w vb b)(hn:a.length<=1000000/\b.length<=1000000):
 Calls prog 42 #[va,vb] w λe Y=>e=.returned (.bool (decide (a=b)))/\aS w.heap.size w Y:=by
  obtain⟨A,c,rfl,-⟩:=id T.1;obtain⟨A',c',rfl,-⟩:=id U.1;by_cases X:a.length=b.length
  .obtain⟨n,S⟩:∃n,n=a.length:=⟨_,rfl⟩;have h2:n<=1000000:=(by omega);have⟨j,l,HA,HB⟩:=aC S (show n=b.length from by omega) T U;rw[show b.length=n from by omega,show a.length=n from by omega];clear X hn S T U;have e0:((n:Int)==n)=true:=(by simp);go_in;(go_wp2_with fail);go_loopw [5] (λi wr=>∃k:Nat,k<=n/\i=.int .i64 k/\(∀m,m<k->a[m]?=b[m]?)/\aS w.heap.size w wr) (λi _=>n-(intOf i).toNat)
   .exact⟨0,by omega,rfl,λm hm=>by omega,aY _ _⟩
   obtain⟨k,hk,rfl,r,h⟩:=hrel;have⟨q,v⟩:=aA r h;clear r;by_cases h1:k<n
   .have i1:(k:Int)<n:=(by omega);obtain⟨x,t⟩:∃x,a[k]?=some x:=⟨_,aK (by have:=j.out;omega)⟩;obtain⟨y,V⟩:∃y,b[k]?=some y:=⟨_,aK (by have:=l.out;omega)⟩;have o:=HA.out;have p:=HB.out;rw[show a.length=n from j.out.symm]at o;rw[show b.length=n from l.out.symm]at p;obtain⟨bx,ox,rfl,-,Q⟩:=o.later (by have:=j.out;omega);obtain⟨h0,oy,rfl,-,R⟩:=p.later (by have:=l.out;omega);have E:=λz:dY wr=>Q k x t z.it (aJ h z.ok);have F:=λz:dY wr=>R k y V z.it (aJ h z.ok);have G:=λz=>(E z).1;have H:=λz=>(E z).2.1;have I:=λz=>(E z).2.2.1;have J:=λz=>(E z).2.2.2.1;have K:=λz=>(E z).2.2.2.2;have L:=λz=>(F z).1;have M:=λz=>(F z).2.1;have N:=λz=>(F z).2.2.1;have O:=λz=>(F z).2.2.2.1;have P:=λz=>(F z).2.2.2.2;have d:=λY=>ah0 x y Y (o.2 x (bD t)) (p.2 y (bD V));have⟨Z,Hy⟩:=aA t V;clear E F Q R t V h o p;by_cases f:x=y
    .have s:decide (x=y)=true:=(by simp[f]);simp only[s]at d;have W:=aH f;obtain⟨x1,x2,x3,x4,x5⟩:=x;obtain⟨y1,y2,y3,y4,y5⟩:=y;dsimp only[oJ]at d G H I J K L M N O P;have B:=aH d;clear d s f;(go_wp2_with fail);refine cU (by kernel_rfl) (by kernel_rfl) ?_;(repeat go_big_quiet_step ((go_at_call 72;exact eP _ (B.out _))));refine wpQuiet_nil ?_;intro _ t;obtain⟨⟨w4,D⟩,rfl⟩:=t;go_wp2;go_roundw
     .
      refine⟨k+1,by omega,by go_num,λm hm=>?_,dK v.out D (aO _)⟩;rcases cR m k with C|C
      .exact q.out m C
      obtain rfl:m=k:=(by omega);rw[Z.out,Hy.out,W.out]
     simp[intOf];omega
    have s:decide (x=y)=false:=(by simp[f]);simp only[s]at d;have g:decide (a=b)=false:=by rw[cN];rintro rfl;have h8:=Z.out;rw[Hy.out]at h8;exact f (cS h8).symm
    have u:=aH g;obtain⟨x1,x2,x3,x4,x5⟩:=x;obtain⟨y1,y2,y3,y4,y5⟩:=y;dsimp only[oJ]at d G H I J K L M N O P;have B:=aH d;clear d s f g;(go_wp2_with fail);refine cU (by kernel_rfl) (by kernel_rfl) ?_;(repeat go_big_quiet_step ((go_at_call 72;exact eP _ (B.out _))));refine wpQuiet_nil ?_;intro _ t;obtain⟨⟨w4,D⟩,rfl⟩:=t;go_wp2;go_ret;rw[u.out];exact⟨rfl,dK v.out D (aO _)⟩
   obtain rfl:k=n:=(by omega);have g:decide (a=b)=true:=by
    rw[decide_eq_true_iff];apply p7;intro m;rcases cR m k with C|C
    .exact q.out m C
    rw[jS (by rw[<-j.out];exact C),jS (by rw[<-l.out];exact C)]
   have u:=aH g;clear g h;go_wp2;go_ret;rw[u.out];exact⟨rfl,v.out⟩
  have e0:((a.length:Int)==b.length)=false:=(by rw[bI];omega);have e1:¬(a.length:Int)=b.length:=(by omega);have s:decide (a=b)=false:=(by rw[cN];rintro rfl;exact X rfl);have HD:=aH s;clear T U hn s X;go_in;go_wp2;go_ret;rw[HD.out];exact⟨rfl,aY _ _⟩
def dF(T:List jL)(s:aT):List jL:=T.filter (ofT s)
def yI(T:List jL)(s:aT):(dF T s).length<=T.length:=iR _ _
def JF(g:Nat)(vL vM:aN)(T:List jL)(M:List Nat)(G:Nat)(s:aT)(w:aI)(h:ZR w g vL vM T M G)(U:T.length<=800000):
 Calls prog 69 #[.pointer (some ⟨g,0,none⟩),.string s] w λe C=>∃v',e=.returned v'/\C.ownsRow w.heap.size 133 5 v' (dF T s).length (fH (dF T s))/\aS w.heap.size w C:=by
  obtain⟨A,c,rfl,-⟩:=id h.2.1.1;obtain⟨n,L⟩:∃n,n=T.length:=⟨_,rfl⟩;have⟨O,HB⟩:=aA L (λh0=>h.2.1.later h0);have D:∀C,aS w.heap.size w C->C.cell? ⟨g,0,none⟩=some (.slice A n c):=λC hb=>by have:=(h.next hb).cells.1;rwa[<-L]at this
  rw[<-L]at U;have N:=aH D;obtain⟨i0,S,X,Y,Z⟩:=info_parts K8;unfold dF;clear h L D;go_in;go_wp2_with fail
  go_loopw [5,6] (λo i wr=>∃k m:Nat,k<=n/\m<=k/\i=.int .i64 k/\wr.ownsRow w.heap.size 133 5 o m (fH ((T.take k).filter (ofT s)))/\((T.take k).filter (ofT s)).length=m/\aS w.heap.size w wr) (λ_ i _=>n-(intOf i).toNat)
  .exact⟨0,0,by omega,by omega,rfl,bQ _ _ _ _,rfl,aY _ _⟩
  obtain⟨k,m,hk,hm,rfl,d,q,f⟩:=hrel;have z0:=N.out _ f;by_cases h2:k<n
  .obtain⟨t,W⟩:∃t,T[k]?=some t:=⟨_,aK (by have:=O.out;omega)⟩;have F:=nG (p:=ofT s) W;obtain⟨b,h3,hA,h1,j⟩:=HB.out (by have:=O.out;omega);subst hA;obtain⟨c0,c1,c2,c3,c4⟩:=j k t W wr f;obtain⟨r,H,I,J,K⟩:=t;dsimp only at c0 c1 c2 c3 c4;have i1:(k:Int)<n:=(by omega);have⟨x,v,a,u⟩:=aC F q d f;have z:aS wr.heap.size wr (wr.alloc (.cells (oJ (r,H,I,J,K)) 133)):=cI wr _;have E:=EW wr (r,H,I,J,K);have⟨y,P⟩:=aA z E;clear W j F q d f z E;by_cases V:r=s
   .subst V;have e1:(r.toList==r.toList)=true:=(by simp);have l:ofT r (r,H,I,J,K)=true:=(by simp[ofT]);go_wp2_with (first
     |(at_builtin;refine iZ _ rfl _ _ 46 rfl w.heap.size 133 i0 _ 5 64 underlying46 S X Y Z rfl (by decide) _ m _ rfl (cA a.out y.out) _ 1 (fH [(r,H,I,J,K)]) rfl P.out (sC _) (by unfold maxLen;omega) (by omega) (dK u.out y.out (aO _)).size ?_;intro v3 w3 B R))
    have Q:=(dK u.out y.out (aO _)).grown R (dK u.out y.out (aO _)).size (dE a.out);go_wp2;go_roundw
    .
     refine⟨k+1,m+1,by omega,by omega,by go_num,?_,?_,Q⟩
     .rw[x.out,rK];simpa[l]using B
     rw[x.out,aP,v.out];simp[l]
    simp[intOf];omega
   have e1:(r.toList==s.toList)=false:=(by rw[bI,Ne,toList_inj];exact V);have l:ofT s (r,H,I,J,K)=false:=(by simp[ofT,V]);go_wp2;go_roundw
   .
    refine⟨k+1,m,by omega,by omega,by go_num,?_,?_,u.out⟩
    .rw[x.out];simpa[l]using a.out
    rw[x.out];simpa[l]using v.out
   simp[intOf];omega
  obtain rfl:k=n:=(by omega);rw[aX (by rw[<-O.out];exact aO _)]at d q;have⟨a,v⟩:=aA d q;clear d q;go_wp2;go_ret;have h9:=a.out;rw[<-v.out]at h9;exact⟨_,rfl,h9,f⟩
def bt6(g:Nat)(m n:aN)(T:List jL)(M:List Nat)(b:Nat)(s:aT)(w:aI)(h:ZR w g m n T M b)(j:T.length<=800000)(p:s.size<=maxLen):
 Calls prog 41 #[.pointer (some ⟨g,0,none⟩),.string s] w λe o=>e=.returned (if iK s then .tuple #[.int .i64 (((dF T s).length:Int)-1),.int .i64 0]else .tuple #[.int .i64 (-1),.int .i64 2])/\aS w.heap.size w o:=by
  have k:=TW s w p;have l:=JF g m n T M b s w h j;have f:=yI T s;rcases c:iK s with _|_
  iterate 2
   .rw[c]at k;(first|clear h c|clear h l c);go_in;(go_wp2_with fail);refine k.mono ?_;rintro e o ⟨rfl,rfl⟩;(try (go_wp2_with fail;refine l.mono ?_;rintro e v ⟨u,rfl,a,d⟩;obtain⟨r,t,rfl,-⟩:=Reads.dC a;(have q:((dF T s).length:Int)<=800000:=by omega);have i:=aH d;clear a d f));go_wp2;go_ret2;first|exact⟨rfl,i.out⟩|exact⟨rfl,aY _ _⟩
def aW5(g:Nat)(d f:aN)(T:List jL)(M:List Nat)(a:Nat)(w:aI)(h:ZR w g d f T M a):
 Calls prog 43 #[.pointer (some ⟨g,0,none⟩)] w λe i=>e=.returned (.tuple #[])/\i=w.setCell ⟨g,2,none⟩ (.int .i64 (M.length:Nat)):=by
  obtain⟨A,c,rfl,-⟩:=id h.2.2;obtain⟨j,k,l⟩:=h.cells;have b:=h.1.frozen 2 (by simp);clear h;go_in;go_wp2;go_end0;exact⟨rfl,rfl⟩
end Go.Proofs.YtpopikndggffaaaGreatDoor
