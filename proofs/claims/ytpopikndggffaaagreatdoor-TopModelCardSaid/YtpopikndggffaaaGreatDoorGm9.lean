/- TOP, part 9. -/
import Derived.LoopIn
import Derived.LoopNIn
import Derived.OwnWalkIn
import Derived.RangeFuncBound
import Derived.RangeFuncBox
import Derived.RangeFuncCalls
import Derived.RangeFuncKeeps
import Derived.RangeFuncLeaves
import Derived.RangeFuncNested
import Derived.Shelf.Abstract
import Derived.Shelf.RegionOpen
import Derived.TacticsInMore
import Derived.Test.YtpopikndggffaaaGreatDoorGm6
import Derived.Test.YtpopikndggffaaaGreatDoorGm7
namespace Go.Proofs.YtpopikndggffaaaGreatDoor
set_option linter.all false
set_option maxRecDepth 100000
set_option maxHeartbeats 16000000
open Go.RowKit Tryz
variable{l:List Ev}{k m n:Nat}{w x y:aI}
section
open Go.Shelf
def Reads.each{I:Type}{f:I->List aN}(z:∀x,(f x).length=n){w:aI}{A:Option Addr}{k m:Nat}{l:List I}(h:Reads w (.slice A k m) n l.length (l.flatMap f)):
 k=l.length/\k<=m/\m<=maxLen/\(0<l.length->∃b a,A=some ⟨b,a,none⟩/\b<w.heap.size/\
  ∀(i:Nat)(x:I),l[i]?=some x->∀o:aI,aS w.heap.size w o->∀j (q:j<n),o.cell? ⟨b,a+(i*n+j),none⟩=(f x)[j]?):=by
   obtain⟨G,H,E,s,t,C,y⟩:=h;obtain⟨rfl,rfl,rfl⟩:=eV E;refine⟨rfl,s,t,λr=>?_⟩;obtain⟨b,a,u,g,d⟩:=y r;refine⟨b,a,u,g,λi x B o v j q=>?_⟩;obtain⟨e,F⟩:=aR.1 B;have D:=DE f n z l i j e q;have c:i*n+j<(l.flatMap f).length:=by rw[C];have:(i+1)*n<=l.length*n:=cw6 _ e;rw[TB]at this;omega
   rw[v.cell (p:=⟨b,a+(i*n+j),none⟩) g,d _ c,<-F,<-D,aK c]
def QN(e:Ev):(evL e).length=3:=rfl
def WE(w:aI)(v:aN)(l:List Ev):Prop:=Reads w v 3 l.length (l.flatMap evL)/\∀e∈l,okV e
def WE.next{w:aI}{v:aN}(h:WE w v l)(a:aS w.heap.size w x):WE x v l:=⟨h.1.next a,h.2⟩
def WE.ok{v:aN}{l:List Ev}(h:WE w v l){n:Nat}{e:Ev}(a:l[n]?=some e):okV e:=h.2 e (bD a)
def WE.later{w:aI}{A:Option Addr}{n c:Nat}{l:List Ev}(h:WE w (.slice A n c) l)(g:0<l.length):∃b a,A=some ⟨b,a,none⟩/\b<w.heap.size/\
 ∀(i:Nat)(e:Ev),l[i]?=some e->∀d:aI,aS w.heap.size w d->d.cell? ⟨b,a+i*3,none⟩=some (.string e.1)/\d.cell? ⟨b,a+i*3+1,none⟩=some (.string e.2.1)/\d.cell? ⟨b,a+i*3+2,none⟩=some (.float .f64 e.2.2):=by obtain⟨b,a,j,f,m⟩:=(Reads.each QN h.1).2.2.2 g;refine⟨b,a,j,f,λi e o d k=>?_⟩;have h:=m i e o d k;exact⟨by simpa[evL]using h 0 (by omega),by simpa[evL,fL]using h 1 (by omega),by simpa[evL,fL]using h 2 (by omega)⟩
end
variable{v:aN}{b:kK}
def cs1(w:aI)(a b c:aN)(t:cD)(e:aI)(f:aS (w.alloc (.cells #[a,b,c] t)) (w.alloc (.cells #[a,b,c] t)) e):
 e.cell? (zp w)=a/\e.cell? (zp w 1)=b/\e.cell? (zp w 2)=c:=by
  have d:(w.alloc (.cells #[a,b,c] t)).heap[w.heap.size]?=some (.cells #[a,b,c] t (0,0)):=heap_alloc_new w _;have h:∀j v,(#[a,b,c]:Array aN)[j]?=some v->e.cell? ⟨w.heap.size,j,none⟩=some v:=λj v h=>by refine(f.cell (p:=⟨w.heap.size,j,none⟩) (eN.1 d).1).trans ?_;unfold World.cell?;rw[d];simpa using h
  exact⟨h 0 _ rfl,h 1 _ rfl,h 2 _ rfl⟩
def LH(w:aI)(v:aN)(b:kK):Prop:=∃A c,v=.agg #[.string b.1,.int .i64 b.2.1,.slice A b.2.2.length c]/\WE w (.slice A b.2.2.length c) b.2.2/\b.1.size<=maxLen/\-9223372036854775808<=b.2.1/\b.2.1<=9223372036854775807
def LH.next{w:aI}{v:aN}{b:kK}(h:LH w v b)(f:aS w w x):LH x v b:=by have⟨A,c,a,d,e⟩:=h;exact⟨A,c,a,d.next f,e⟩
def LH.okB(h:LH w v b):okB b:=by obtain⟨A,c,g,a,d,e,f⟩:=h;exact⟨d,⟨e,f⟩,a.2⟩
def EI(v:aN)(b:kK)(w:aI)(h:LH w v b):
 Calls prog 90 #[v] w λe w'=>e=(eF b)/\aS w w w':=by
 obtain⟨s,f,l⟩:=b;obtain⟨A,c,rfl,hE,hs,hf1,hf2⟩:=h;simp only[]at hE hs hf1 hf2|-;obtain⟨-,hc1,hc2,-⟩:=Reads.each QN hE.1;unfold maxLen at hc2 hs;have hz:=cI w (.cells #[.string s,.int .i64 f,.slice A l.length c] 129);have hL:=fun h0=>hE.later h0;have ok:=hE.2;by_cases z:s.size=0
 .have e1:(s.toList==[])=true:=by rw[toList_nil z];rfl
  have hr:eF (s,f,l)=2:=by unfold eF;rw[aU (.inl z)]
  rw[hr];clear hr;go_in;go_wp2_with fail
  go_step3;go_wp2;try rw[eJ]
  go_ret;exact⟨rfl,hz⟩
 have e1:(s.toList==[])=false:=by rw[bI];exact EX z
 by_cases z2:l.length=0
 .have e2:(l.length:Int)=0:=by omega
  have hr:eF (s,f,l)=2:=by unfold eF;rw[aU (.inr z2)]
  rw[hr];clear hr;go_in;go_wp2_with fail
  go_step3;go_wp2;try rw[eJ]
  go_ret;exact⟨rfl,by rw[z2]at hz;exact hz⟩
 have e2:¬(l.length:Int)=0:=by omega
 have e2':((l.length:Int)==0)=false:=by rw[bI];exact e2
 by_cases z3:32<s.size
 .have e3:(32:Int)<s.size:=by omega
  have hr:eF (s,f,l)=3:=by unfold eF;rw[aQ (by simp only[];omega),aU (.inl z3)]
  rw[hr];clear hr;go_in;go_wp2_with fail
  go_step3;go_wp2;try rw[eJ]
  go_ret;exact⟨rfl,hz⟩
 have e3:¬(32:Int)<s.size:=by omega
 by_cases z4:8<l.length
 .have e4:(8:Int)<l.length:=by omega
  have hr:eF (s,f,l)=3:=by unfold eF;rw[aQ (by simp only[];omega),aU (.inr z4)]
  rw[hr];clear hr;go_in;go_wp2_with fail
  go_step3;go_wp2;try rw[eJ]
  go_ret;exact⟨rfl,hz⟩
 have e4:¬(8:Int)<l.length:=by omega
 by_cases z5:f<0
 .have hr:eF (s,f,l)=2:=by unfold eF;rw[aQ (by simp only[];omega),aQ (by simp only[];omega),aU (.inl z5)]
  rw[hr];clear hr;go_in;go_wp2_with fail
  go_step3;go_wp2;try rw[eJ]
  go_ret;exact⟨rfl,hz⟩
 by_cases z6:1073741824-(l.length:Int)<f
 iterate 2
  ·(first|(have hr:eF (s,f,l)=2:=by unfold eF;rw[aQ (by simp only[];omega),aQ (by simp only[];omega),aU (.inr z6)])|(have hr:eF (s,f,l)=AR l:=by unfold eF;rw[aQ (by simp only[];omega),aQ (by simp only[];omega),aQ (by simp only[];omega)]));have w1:IntKind.i64.wrap (1073741824-(l.length:Int))=1073741824-(l.length:Int):=by rw[dM];omega
   rw[hr];clear hr;(try (obtain⟨n,hN⟩:∃n,n=l.length:=⟨_,rfl⟩;rw[<-hN]at e2 e2' e4 z4 z2 z6 w1 hc1 hz|-;have⟨Hn,HL,Hok⟩:=aB hN hL ok;clear hN hL ok hE));go_in;(go_wp2_with fail);go_step3
   first
    |go_wp2
     (try rw[eJ]);go_ret;exact⟨rfl,hz⟩
    |go_wp2_with fail
     go_step3;(go_wp2_with fail);go_loopw [2,36] (fun r i wr=>∃k:Nat,k<=n/\i=.int .i64 (k:Int)/\r=.int .i64 0/\AR (l.take k)=0/\aS w.heap.size w wr) (fun _ i _=>n-(intOf i).toNat)
     .exact⟨0,by omega,rfl,rfl,rfl,hz⟩
     obtain⟨k,hk,rfl,rfl,hbad,hbr⟩:=hrel;have Hbad:=aH hbad;clear hbad;by_cases hlt:k<n
     .obtain⟨e,he⟩:∃e,l[k]?=some e:=⟨_,aK (by have:=Hn.out;omega)⟩;obtain⟨b,off,rfl,-,hc⟩:=HL.out (by have:=Hn.out;omega);obtain⟨c0,c1,c2⟩:=hc k e he wr hbr;have hk2:=fun w=>GY e w (Hok.out e (bD he));have hm:=am3 Hbad.out he;have hbx:=at0 wr e 44;have hz2:=cI wr (.cells (J1 e) 44);have i1:(k:Int)<n:=(by omega);generalize jP e=ck at hk2 hm;obtain⟨e1,e2,e3⟩:=e;unfold J1 at hk2 hbx hz2;simp only[]at c0 c1 c2 hk2 hbx hz2;have Hm:=aH hm;clear he hc hm;obtain⟨x0,x1,x2⟩:=hbx _ (aY _ _);by_cases h0:ck=0
      iterate 2
       .first|have hnext:=Hm.out.1 h0;subst h0;have Hnext:=aH hnext;clear hnext|(have hend:=Hm.out.2 h0;(have h0':(ck==0)=false:=by rw[bI];exact h0);have Hend:=aH hend;clear hend)
        (go_wp2_with fail);refine(hk2 _).mono ?_;rintro y w2 ⟨rfl,hb2⟩;go_wp2;first|(go_roundw;(case rel=>exact⟨k+1,by omega,by go_num,rfl,Hnext.out,aJ hbr (aJ hz2 hb2)⟩);(case measure=>simp[intOf];omega))|try rw[eJ];go_ret;exact⟨nF Hend.out.symm,aJ hbr (aJ hz2 hb2)⟩
     have i1:¬(k:Int)<n:=(by omega);have h0:AR l=0:=by have:=Hbad.out;rwa [aX (by have:=Hn.out;omega)]at this
     have H0:=aH h0;clear h0;go_wp2;(try rw[eJ]);go_ret;exact⟨nF H0.out.symm,hbr⟩
def X4(v:aN)(b:kK)(w:aI)(h:LH w v b):
 Calls prog 68 #[v] w λe w'=>e=(eF b)/\aS w w w':=by
 obtain⟨s,f,l⟩:=b;obtain⟨A,c,rfl,hE,hs,hf1,hf2⟩:=h;simp only[]at hE hs hf1 hf2|-;obtain⟨-,hc1,hc2,-⟩:=Reads.each QN hE.1;unfold maxLen at hc2 hs;have hz:=cI w (.cells #[.string s,.int .i64 f,.slice A l.length c] 129);have hL:=fun h0=>hE.later h0;have ok:=hE.2;by_cases z:s.size=0
 .have e1:(s.size:Int)=0:=by omega
  have hr:eF (s,f,l)=2:=by unfold eF;rw[aU (.inl z)]
  rw[hr];clear hr;go_in;go_wp2;go_ret;exact⟨rfl,hz⟩
 have e1:¬(s.size:Int)=0:=by omega
 have e1':((s.size:Int)==0)=false:=by rw[bI];exact e1
 by_cases z2:l.length=0
 .have e2:(l.length:Int)=0:=by omega
  have hr:eF (s,f,l)=2:=by unfold eF;rw[aU (.inr z2)]
  rw[hr];clear hr;go_in;go_wp2;go_ret;exact⟨rfl,by rw[z2]at hz;exact hz⟩
 have e2:¬(l.length:Int)=0:=by omega
 have e2':((l.length:Int)==0)=false:=by rw[bI];exact e2
 by_cases z3:32<s.size
 .have e3:(32:Int)<s.size:=by omega
  have hr:eF (s,f,l)=3:=by unfold eF;rw[aQ (by simp only[];omega),aU (.inl z3)]
  rw[hr];clear hr;go_in;go_wp2;go_ret;exact⟨rfl,hz⟩
 have e3:¬(32:Int)<s.size:=by omega
 by_cases z4:8<l.length
 .have e4:(8:Int)<l.length:=by omega
  have hr:eF (s,f,l)=3:=by unfold eF;rw[aQ (by simp only[];omega),aU (.inr z4)]
  rw[hr];clear hr;go_in;go_wp2;go_ret;exact⟨rfl,hz⟩
 have e4:¬(8:Int)<l.length:=by omega
 by_cases z5:f<0
 .have hr:eF (s,f,l)=2:=by unfold eF;rw[aQ (by simp only[];omega),aQ (by simp only[];omega),aU (.inl z5)]
  rw[hr];clear hr;go_in;go_wp2;go_ret;exact⟨rfl,hz⟩
 by_cases z6:1073741824-(l.length:Int)<f
 iterate 2
  ·(first|(have hr:eF (s,f,l)=2:=by unfold eF;rw[aQ (by simp only[];omega),aQ (by simp only[];omega),aU (.inr z6)])|(have hr:eF (s,f,l)=AR l:=by unfold eF;rw[aQ (by simp only[];omega),aQ (by simp only[];omega),aQ (by simp only[];omega)]));have w1:IntKind.i64.wrap (1073741824-(l.length:Int))=1073741824-(l.length:Int):=by rw[dM];omega
   rw[hr];clear hr;(try (obtain⟨n,hN⟩:∃n,n=l.length:=⟨_,rfl⟩;rw[<-hN]at e2 e2' e4 z4 z2 z6 w1 hc1 hz|-;have⟨Hn,HL,Hok,HB⟩:=aC hN hL ok (cs1 w (.string s) (.int .i64 f) (.slice A n c) 129);clear hN hL ok hE));go_in
   first
    |go_wp2
     go_ret;exact⟨rfl,hz⟩
    |go_wp2_with fail
     go_loopw [3] (fun i wr=>∃k:Nat,k<=n/\i=.int .i64 (k:Int)/\AR (l.take k)=0/\aS (w.alloc (.cells #[.string s,.int .i64 f,.slice A n c] 129)).heap.size (w.alloc (.cells #[.string s,.int .i64 f,.slice A n c] 129)) wr) (fun i _=>n-(intOf i).toNat)
     .exact⟨0,by omega,rfl,rfl,aY _ _⟩
     obtain⟨k,hk,rfl,hbad,hbr0⟩:=hrel;have hbr:=aJ hz hbr0;obtain⟨-,-,g2⟩:=HB.out wr hbr0;have Hbad:=aH hbad;clear hbad;by_cases hlt:k<n
     .obtain⟨e,he⟩:∃e,l[k]?=some e:=⟨_,aK (by have:=Hn.out;omega)⟩;obtain⟨b,off,rfl,-,hc⟩:=HL.out (by have:=Hn.out;omega);obtain⟨c0,c1,c2⟩:=hc k e he wr hbr;have hk2:=fun w=>ag9 e w (Hok.out e (bD he));have hm:=am3 Hbad.out he;have i1:(k:Int)<n:=(by omega);generalize jP e=ck at hk2 hm;obtain⟨e1,e2,e3⟩:=e;unfold J1 at hk2;simp only[]at c0 c1 c2 hk2;have Hm:=aH hm;clear he hc hm;by_cases h0:ck=0
      iterate 2
       .first|have hnext:=Hm.out.1 h0;subst h0;have Hnext:=aH hnext;clear hnext|(have hend:=Hm.out.2 h0;(have h0':(ck==0)=false:=by rw[bI];exact h0);have Hend:=aH hend;clear hend)
        (go_wp2_with fail);refine(hk2 _).mono ?_;rintro y w2 ⟨rfl,hb2⟩;go_wp2;first|(go_roundw;(case rel=>exact⟨k+1,by omega,by go_num,Hnext.out,aJ hbr0 hb2⟩);(case measure=>simp[intOf];omega))|go_ret;exact⟨nF Hend.out.symm,aJ hbr hb2⟩
     have i1:¬(k:Int)<n:=(by omega);have h0:AR l=0:=by have:=Hbad.out;rwa [aX (by have:=Hn.out;omega)]at this
     have H0:=aH h0;clear h0;go_wp2;go_ret;exact⟨nF H0.out.symm,hbr⟩
variable{e:Int}
def aZ5(n:Nat)(w:aI)(b:n<18446744073709551616):
 Calls prog 138 #[.int .u64 n,.int .i64 1] w λe a=>e=.returned (.string (bs [UInt8.ofNat (n%256)]))/\aS w.heap.size w a:=by have c:=sI n 1 w (by omega) (by omega);have e:qL n 1=[UInt8.ofNat (n%256)]:=(by unfold qL;rw[aQ (by omega)];rfl);rwa[cB,e]at c
def bj4{s b:aT}{a:Int}(h:s=b)(c:e=a):Ending.returned (.tuple #[.string s,.int .i64 e])=.returned (.tuple #[.string b,.int .i64 a]):=by rw[h,c]
def ofNat_mod(n:Nat):UInt8.ofNat (n%256)=UInt8.ofNat n:=by apply V8.1;simp
def aO7(v:aN)(b:kK)(w:aI)(h:LH w v b):
 Calls prog 91 #[v] w λe P=>e=.returned (.tuple #[.string (bs (iT b)),.int .i64 (eF b)])/\aS w.heap.size w P:=by
  have g:=λP (hb:aS w.heap.size w P)=>EI v b P (h.next hb);have a:=iM (b:=b);have hy:eF b=0->iT b=vH b:=λh=>(by unfold iT;rw[aU h]);have z:eF b≠0->iT b=[]:=λh=>(by unfold iT;rw[aQ h]);obtain⟨s,f,l⟩:=b;obtain⟨A,c,rfl,hE,hs,h6,h7⟩:=h;simp only[]at hE hs h6 h7 g a|-;obtain⟨-,h4,h5,-⟩:=Reads.each QN hE.1;unfold maxLen at h5 hs;have L:=cI w (.cells #[.string s,.int .i64 f,.slice A l.length c] 129);have hL:=λm=>hE.later m;have ok:=hE.2;have j:=cs1 w (.string s) (.int .i64 f) (.slice A l.length c) 129;by_cases m:eF (s,f,l)=0
  .obtain⟨p1,p2,p3,p4,p5,p6,-⟩:=a m;obtain⟨f,rfl⟩:=dA p5;rw[hy m];have q:vH (s,(f:Int),l)=(o8 (lb s)++be 8 f++[UInt8.ofNat l.length])++qJ l:=(by unfold vH aj6;simp);rw[q];rw[m]at g|-;have Z:=λw=>SC s w (by omega);have lT:(o8 (lb s)).length<=1000:=(by rw[nS _ (by rw[bN];omega),bN];omega);generalize o8 (lb s)=T at Z lT|-;obtain⟨n,Y⟩:∃n,n=l.length:=⟨_,rfl⟩;rw[<-Y]at p3 p4 p6 h4 L g j|-;have⟨U,HL,V,R⟩:=aC Y hL ok g;have F:=λk (hk:k<=n)=>aK6 (l:=l.take k) 8 (by rw[bJ];omega);have Q:=aH F;clear Y hL ok hE hy z a m q g F;have u1:IntKind.u64.wrap (f:Int)=(f:Int):=(by rw[eR];omega);have u2:IntKind.u64.wrap (n:Int)=(n:Int):=(by rw[eR];omega);have E:=λw=>aZ5 n w (by omega);rw[ofNat_mod]at E;go_in;(go_wp2_with fail);refine(R.out _ L).mono ?_;rintro e w1 ⟨rfl,d⟩;have o:=λx:dY w1=>j x.it (aJ d x.ok);have h3:=λx=>(o x).1;have I:=λx=>(o x).2.1;have J:=λx=>(o x).2.2;have h2:=aJ L d;clear o;(go_wp2_with fail);refine cU (by kernel_rfl) (by kernel_rfl) ?_;(repeat go_big_quiet_step (first|(go_at_call 137;exact eP _ (Z _))|(go_at_call 138;with_reducible exact eP _ (XQ f _ (by omega)))|(go_at_call 138;with_reducible exact eP _ (E _))));refine wpQuiet_nil ?_;intro _ hx;obtain⟨⟨w2,r⟩,rfl⟩:=hx;rename_i w2;have G:=aJ h2 r;obtain⟨-,-,g2⟩:=j w2 (aJ d r);clear h3 I J j d r Z;rw[l4,l4];obtain⟨H,M⟩:∃H,H=T++be 8 f++[UInt8.ofNat n]:=⟨_,rfl⟩;have h8:H.length<=2000:=(by rw[M];simp;omega);rw[<-M];have HH:=aH M;clear M;(go_wp2_with fail);go_loopw [5,30] (λs i wr=>∃k:Nat,k<=n/\i=.int .i64 k/\s=.string (bs (H++qJ (l.take k)))/\aS w.heap.size w wr) (λ_ i _=>n-(intOf i).toNat)
   .exact⟨0,by omega,rfl,by simp[qJ],G⟩
   obtain⟨k,hk,rfl,rfl,t⟩:=hrel;by_cases ha:k<n
   .obtain⟨e,O⟩:∃e,l[k]?=some e:=⟨_,aK (by have:=U.out;omega)⟩;obtain⟨b,hf,rfl,-,hc⟩:=HL.out (by have:=U.out;omega);obtain⟨c0,c1,c2⟩:=hc k e O wr t;have p:=λw=>as9 e w (V.out e (bD O));have K:=ak2 O;have u:=at0 wr e 44;have D:=cI wr (.cells (J1 e) 44);have l1:=Q.out k hk;have l2:=xS e;have i1:(k:Int)<n:=(by omega);have hd:¬(n:Int)<=k:=(by omega);obtain⟨S,N⟩:∃S,S=H++qJ (l.take k):=⟨_,rfl⟩;have h9:S.length<=5000:=(by rw[N,aP];omega);rw[<-N];have C:H++qJ (l.take (k+1))=S++mI e:=(by rw[K,N,bV]);generalize mI e=B at p l2 C;obtain⟨e1,e2,e3⟩:=e;unfold J1 at p u D;simp only[]at c0 c1 c2 p u D;have W:=aH C;clear O hc K C N;obtain⟨x0,x1,x2⟩:=u _ (aY _ _);(go_wp2_with fail);refine(p _).mono ?_;rintro y w3 ⟨rfl,h1⟩;go_wp2;go_roundw
    .exact⟨k+1,by omega,by go_num,by rw[W.out,l4],aJ t (aJ D h1)⟩
    simp[intOf];omega
   have i1:¬(k:Int)<n:=(by omega);have ht:qJ (l.take k)=qJ l:=(by rw[aX (by have:=U.out;omega)]);have Ht:=aH ht;clear ht;go_wp2;refine bG (v:=.tuple #[.string (bs (H++qJ (l.take k))),.int .i64 0]) (by simp[results,results91,go_sem]) rfl ⟨bj4 (by rw[Ht.out,HH.out];simp) rfl,t⟩
  rw[z m];clear hy z a;have X:(eF (s,f,l)==0)=false:=(by rw[bI];exact m);generalize eF (s,f,l)=ck at g m X;go_in;(go_wp2_with fail);refine(g _ L).mono ?_;rintro e w1 ⟨rfl,d⟩;go_wp2;refine bG (v:=.tuple #[.string (⟨#[]⟩:aT),.int .i64 ck]) (by simp[results,results91,go_sem]) rfl ⟨rfl,aJ L d⟩
section
open Go.Shelf
attribute [local go_sem] Oper.semAt_some
def bL6(s:aT)(a:Int)(w:aI):
 Calls prog 236 #[.string s,.int .i64 a] w λe b=>e=.returned (.func (.func 277) #[] #[.pointer (some ⟨w.heap.size+1,0,none⟩),.pointer (some ⟨w.heap.size,0,none⟩)])/\
  (w.alloc (.cells #[.string s] 9)).alloc (.cells #[.int .i64 a] 3)=b:=by
   go_in;go_wp2;go_ret;exact⟨rfl,rfl⟩
def cl5(l:List bB)(f:Nat)(pre:List (Nat×Nat))(a:Nat):Prop:=AS l (f:Int) (pre.map Prod.fst) a/\((pre.getLast?).map Prod.snd).getD f=a
def am9(l:List bB)(f:Nat)(a:List (Nat×Nat)):Prop:=wAt l (f:Int)=a.map Prod.fst/\P8 l (f:Int)=((a.getLast?).map Prod.snd).getD f
def zF(b:Nat)(W a:aI):Prop:=a.heap[b]?=W.heap[b]?
def bc0(h:zF n w x)(k:zF n x y):zF n w y:=Eq.trans k h
def bc1(b:n<w.heap.size)(W:aI)(l:Nat)(o a:Obj)(c:w.heap.size<=l)(_:W.heap[l]?=some o)(_:o.isCells=false)(_:o.isWalk=false):zF n W (W.putObj l a):=
 World.putObj_heap_other (λe=>by omega)
def aO4(h:aS w.heap.size w x):w.grownBy x none:=⟨h.os,h.tape,h.output,h.size,λk a _=>h.block k a⟩
def bu1(n:Nat)(hn:1<=n)(l g N:Nat)(s:aT)(f:Nat)(hs:s.size<=1000000000000)(Z:f<=s.size)(J O:List (Nat×Nat)->aI->Prop)
 (W:aI) (X:AbidesFrom W.heap.size J)
 (E:∀pre x A,J pre A->pre.length<s.size->YieldAt Fence.wide (n-1) prog l #[.int .i64 ((x.1:Nat):Int),.int .i64 ((x.2:Nat):Int)] A λe i=>
  (e=.returned (.bool true)/\J (pre++[x]) i/\zF g A i)\/(e=.returned (.bool false)/\O (pre++[x]) i))
 (j:Boxed W g 9 (.string s)) (B:Boxed W N 3 (.int .i64 f)) (V:J [] W) :
 CallsIn Fence.wide n prog 277 #[.func (.yield l) #[] #[],.pointer (some ⟨N,0,none⟩),.pointer (some ⟨g,0,none⟩)] W λe i=>(∃v,e=.returned v)/\
  ((∃T,am9 (lb s) f T/\J T i)\/(∃pre:List (Nat×Nat),True/\O pre i)):=by
   have F:=B.cell;have G:=j.cell;refine callsIn_of_wp func277 rfl trivial ?_ rfl;simp only[ntmps277,rE,cF,jU,Nat.reduceAdd,Nat.reduceSub,G4,G0,MX,IS,pD,kM]
   gi_wp2
   gi_loopw [4] (λp wr=>∃(pre:List (Nat×Nat)) (a:Nat),p=.int .i64 a/\cl5 (lb s) f pre a/\Boxed wr g 9 (.string s)/\J pre wr) (λp wr=>s.size-(intOf p).toNat)
   .exact⟨[],f,rfl,⟨AS.start _ _ (by rw[bN];exact Z),rfl⟩,j,V⟩
   obtain⟨pre,a,rfl,w,d,D⟩:=hrel;have Q:=d.cell;have I:=w.1.le;have t:=w.1.yV;rw[bN]at I;rw[gR]at t;have z:=aH w;clear w F G
   gi_wp2_with fail
   refine⟨trivial,?_⟩;refine(callsIn_wide.2 (JG _ _ _ (by omega) (by omega))).mono ?_;rintro e M ⟨rfl,q⟩;have k:J pre M:=X pre wr M none D (aO4 q) (by simp);rcases y:SQ (lb s) (a:Int)with _|_
   .have b:=z.out.1.stop y;have c:=aH b;clear y b E
    gi_wp2
    refine⟨λ_ h=>(by cases h),?_⟩
    gi_wp2
    refine bG (results_none rfl _ _ _) rfl ?_;exact⟨⟨_,rfl⟩,.inl ⟨pre,⟨c.out.1,by rw[c.out.2,z.out.2]⟩,k⟩⟩
   have b:=z.out.1.step y;obtain⟨m,K⟩:∃m,m=gN (lb s) (a:Int):=⟨_,rfl⟩;rw[<-K]at b;rw[<-K];have L:=b.1.le;rw[bN]at L;have R:=b.2;obtain⟨fn,S,u,P,hy,Y⟩:=E pre (a,m) M k (by omega);dsimp only at hy;have c:=aH b;clear y b K E
   gi_wp2
   refine Y.mono ?_;rintro e U (⟨rfl,C,H⟩|⟨rfl,o⟩)
   .have r:Boxed U g 9 (.string s):=Eq.trans H ((q.block g d.lt).trans d)
    gi_wp2
    go_roundw
    .exact⟨pre++[(a,m)],m,rfl,⟨by rw[iJ];exact c.out.1,by simp⟩,r,C⟩
    simp[intOf];omega
   .gi_wp2
    refine bG (results_none rfl _ _ _) rfl ?_;exact⟨⟨_,rfl⟩,.inr ⟨pre++[(a,m)],trivial,o⟩⟩
def bu0(n:Nat)(m:1<=n)(a d:Nat)(s:aT)(f:Nat)(o:s.size<=1000000000000)(k:f<=s.size)(w:aI)
 (c:Boxed w a 9 (.string s)) (b:Boxed w d 3 (.int .i64 f)) :
 SeqStopsK Fence.wide n prog 277 #[.pointer (some ⟨d,0,none⟩),.pointer (some ⟨a,0,none⟩)] (λx:Nat×Nat=>#[Value.int .i64 ((x.1:Nat):Int),.int .i64 ((x.2:Nat):Int)]) (zF a) (am9 (lb s) f) (λ_=>True) s.size w:=λl J g W e i _ j h=>
 bu1 n m l a d s f o k J g W i j ((e.block a c.lt).trans c) ((e.block d b.lt).trans b) h
end
section
open Go.Shelf
attribute [local go_sem] Oper.semAt_some
def aR0(w:aI)(f:Nat)(pre:List (Nat×Nat))(W:aI):Prop:=
 (∃v,Boxed W w.heap.size 33 v/\W.ownsRow (w.heap.size+4) 3 1 v pre.length (gJ (pre.map Prod.fst))/\True)/\
 Boxed W (w.heap.size+1) 3 (.int .i64 (((pre.getLast?).map Prod.snd).getD f:Nat))/\aS w.heap.size w W/\w.heap.size+4<=W.heap.size
def as4(w:aI)(f:Nat):OwnFrom (w+4) (aR0 w f):=
 OwnFrom.and (Own.from (holdsRow_own (w+4) w 33 3 1 (λpre:List (Nat×Nat)=>pre.length) (λpre=>gJ (pre.map Prod.fst)) (λ_ _=>True)) _)
  (OwnFrom.and (Own.from (boxed_own (w+1) 3 (λpre:List (Nat×Nat)=>.int .i64 (((pre.getLast?).map Prod.snd).getD f:Nat))) _) (OwnFrom.and (ownFrom_below gC (by omega)) (λ_ _ _ _ b a _=>aL b a.size)))
def ac7{u z u':aN}{X Y:List aN}{b:Obj}(C:Boxed w n 33 v)(d:w.ownsRow (n+4) 3 1 v m X)(A:Boxed w (n+1) 3 z)(B:n+4<=w)
 (f:x.ownsRow (n+4) 3 1 u k Y) (a:(w.alloc b).grownBy x v.ownBlock) :
 (Boxed x n 33 v/\Boxed x (n+1) 3 z)/\Boxed (x.setCell (zp n) u) (n+1) 3 z/\
  (Boxed ((x.setCell (zp n) u).setCell (zp (n+1)) u') n 33 u/\((x.setCell (zp n) u).setCell (zp (n+1)) u').ownsRow (n+4) 3 1 u k Y/\Boxed ((x.setCell (zp n) u).setCell (zp (n+1)) u') (n+1) 3 u'/\
   (∀K,KeepsFrom K w ((x.setCell (zp n) u).setCell (zp (n+1)) u'))/\zF (n+1+1) w ((x.setCell (zp n) u).setCell (zp (n+1)) u')/\aS n w ((x.setCell (zp n) u).setCell (zp (n+1)) u')):=by
    have c:=dE d;have D:some n≠v.ownBlock:=λe=>(by have:=c n e.symm;omega);have E:some (n+1)≠v.ownBlock:=λe=>(by have:=c _ e.symm;omega);have F:some (n+1+1)≠v.ownBlock:=λe=>(by have:=c _ e.symm;omega);have i:Boxed x n 33 v:=(C.alloc b).kept a D;have l:Boxed x (n+1) 3 z:=(A.alloc b).kept a E;have q:Boxed (x.setCell (zp n) u) (n+1) 3 z:=l.other (by omega) u;refine⟨⟨i,l⟩,q,(i.set u).other (by omega) u',ownsRow_setCell_below (ownsRow_setCell_below f (by show n<n+4;omega) _) (by show n+1<n+4;omega) _,q.set u',λK=>?_,?_,?_⟩
    .refine((((KeepsOthers.alloc w b).trans (KeepsOthers.of_grownBy a λj o r s=>?_)).trans (KeepsOthers.setCell _ _ _)).trans (KeepsOthers.setCell _ _ _)).from K;rcases(d.alloc b).2 with⟨rfl,_⟩|⟨g,t,y,rfl,_,h,_⟩
     .simp[Value.ownBlock]at r
     obtain rfl:g=j:=(by simpa[Value.ownBlock]using r);rw[h]at s;cases s;rfl
    .unfold zF;rw[aV _ _ _ _ (by show n+1+1≠n+1;omega),aV _ _ _ _ (by show n+1+1≠n;omega)];exact(a.block _ (by simp;omega) F).trans (mM w b _ (by omega))
    exact(((((aY n w).alloc (by omega) b).grown a (by simp;omega) (λG e=>by have:=c G e;omega)).setCell (p:=zp n) gC u).setCell (p:=zp (n+1)) (by show n<=n+1;omega) u')
def ab8(s:aT)(a:Int)(w:aI)(hs:s.size<=1000000000000)(ha:-9223372036854775808<=a/\a<=9223372036854775807):
 Calls prog 168 #[s,a] w (bF8 (lb s) a w):=by
 obtain⟨ha1,ha2⟩:=ha;by_cases hsh:a<0\/(s.size:Int)<a
 .have h1:wAt (lb s) a=[]:=by unfold wAt;rw[aU (by rw[bN];exact hsh)]
  have h2:P8 (lb s) a=0:=by unfold P8;rw[aU (by rw[bN];exact hsh)]
  have H1:=aH h1;have H2:=aH h2;clear h1 h2;rcases(show a<0\/(¬a<0/\(s.size:Int)<a)from by omega)with h|⟨h,h'⟩
  all_goals
   clear hsh;go_in;go_wp2;refine bG (v:=.tuple #[.slice none 0 0,.int .i64 0]) (by simp[results,results168,go_sem]) rfl ⟨_,bK8 (by rw[H2.out];rfl),?_,((aY _ _).alloc (aO _) _).alloc (by simp) _⟩;rw[H1.out];exact Reads.nil _ _
 obtain⟨f,rfl⟩:=dA (a:=a) (by omega);have hf:f<=s.size:=by omega
 have hk1:decide (s.size<f)=false:=by rw[cN];omega
 have hk0:decide ((f:Int)<0)=false:=by rw[cN];omega
 obtain⟨i0,hi0,hz0,hz1,hz2⟩:=info_parts bS3;refine(callsIn_wide (n:=5)).1 ?_;refine callsIn_of_wp_marks func168 rfl trivial ?_ rfl;simp only[ntmps168,rE,cF,jU,Nat.reduceAdd,Nat.reduceSub,G4,G0,MX,IS,pD,kM];clear hsh
 gi_wp2_with fail
 refine⟨trivial,?_⟩;refine(callsIn_wide.2 (bL6 _ _ _)).mono ?_;rintro e w1 ⟨rfl,rfl⟩
 gi_wp2_with fail
 obtain⟨W0,hW0⟩:∃W0,W0=((((w.alloc (Obj.cells #[Value.slice none 0 0] 33)).alloc (Obj.cells #[Value.int IntKind.i64 (f:Int)] 3)).alloc (Obj.cells #[Value.string s] 9)).alloc (Obj.cells #[Value.int IntKind.i64 (f:Int)] 3)):=⟨_,rfl⟩;have b4:Boxed W0 w.heap.size 33 (.slice none 0 0):=by rw[hW0];exact(((Boxed.new w _ _).alloc _).alloc _).alloc _
 have b5:Boxed W0 (w.heap.size+1) 3 (.int .i64 (f:Int)):=by
  rw[hW0];have:=Boxed.new (w.alloc (Obj.cells #[Value.slice none 0 0] 33)) 3 (.int .i64 (f:Int));rw[bC]at this;exact(this.alloc _).alloc _
 have bS:Boxed W0 (w.heap.size+1+1) 9 (.string s):=by
  rw[hW0];have:=Boxed.new ((w.alloc (Obj.cells #[Value.slice none 0 0] 33)).alloc (Obj.cells #[Value.int IntKind.i64 (f:Int)] 3)) 9 (.string s);rw[bC,bC]at this;exact this.alloc _
 have bF:Boxed W0 (w.heap.size+1+1+1) 3 (.int .i64 (f:Int)):=by
  rw[hW0];have:=Boxed.new (((w.alloc (Obj.cells #[Value.slice none 0 0] 33)).alloc (Obj.cells #[Value.int IntKind.i64 (f:Int)] 3)).alloc (Obj.cells #[Value.string s] 9)) 3 (.int .i64 (f:Int));rw[bC,bC,bC]at this;exact this
 have hB0:aS w.heap.size w W0:=by
  rw[hW0];exact((((aY _ w).alloc (aO _) _).alloc (by simp) _).alloc (by simp;omega) _).alloc (by simp;omega) _
 have hsz:W0.heap.size=w.heap.size+4:=by rw[hW0];simp
 rw[<-hW0];clear hW0;refine wpIn_rangeFunc_ownG rfl (by omega) (gf:=277) (lb:=#[.pointer (some ⟨w.heap.size+1+1+1,0,none⟩),.pointer (some ⟨w.heap.size+1+1,0,none⟩)]) rfl trivial (enters_of func277 (by kernel_rfl) rfl)
  (bu0 _ (by omega) (w.heap.size+1+1) (w.heap.size+1+1+1) s f hs hf W0 bS bF) bc0 (bc1 (by omega)) (aY _ _) (fun _=>rfl)
  (aR0 w f) (fun _ _ _=>False)
  ?own (fun _ _ _ _ _ hs _ _=>hs)
  ⟨⟨_,b4,bQ _ _ _ _,trivial⟩,b5,hB0,by omega⟩
  (fun x=>{tmps:=#[.string s,.int .i64 (f:Int),undef,undef,.pointer (some ⟨w.heap.size,0,none⟩),.pointer (some ⟨w.heap.size+1,0,none⟩),.int .i64 ((x.1:Nat):Int),.int .i64 ((x.2:Nat):Int),.int .i64 (f:Int),.bool false,.bool false,.int .i64 (f:Int),.string s,.int .i64 (s.size:Int),.bool false,.bool false,.int .i64 (f:Int),.string s,.int .i64 (f:Int),
   .func (.func 277) #[] #[.pointer (some ⟨w.heap.size+1+1+1,0,none⟩),.pointer (some ⟨w.heap.size+1+1,0,none⟩)],.int .i64 ((x.1:Nat):Int),.int .i64 ((x.2:Nat):Int),undef,undef,undef,undef,undef,undef,undef],defers:=[]}) ?assign ?body ?done ?stop
 case own=>rw[hsz];exact as4 w f
 case assign=>
  intro l x W K hK
  gi_wp2
  exact hK
 case body=>
  rintro l pre x W ⟨⟨v,hv,hrow,-⟩,h5,hB,hszW⟩ hlt;have hc:=hv.cell
  gi_wp2_with (gi_at_builtin;refine wpListIn_append_own _ rfl _ _ 33 rfl (w.heap.size+4) 3 i0 (.int .i64 0) 1 8 underlying33 hi0 hz0 hz1 hz2 rfl (by decide) _ _ _ rfl (hrow.alloc _) ⟨W.heap.size,0,none⟩ 1 1 [.int .i64 ((x.1:Nat):Int)] rfl rfl (bW6 _ _ _) (by intro u hu;simp at hu;subst hu;rfl) (by unfold maxLen;omega) (by omega) (by simp;omega) ?_;intro v' w1 hown' hgrow _;obtain⟨g',cap',rfl⟩:=ownsRow_succ hown';obtain⟨⟨hv1,h51⟩,h52,hfin⟩:=ac7 (u':=.int .i64 ((x.2:Nat):Int)) hv hrow h5 hszW hown' hgrow;have hc1:=hv1.cell;have hf1:=hv1.frozen;have hc2:=h52.cell;have hf2:=h52.frozen)
  obtain⟨g1,g2,g3,g4,g5,g6⟩:=hfin;refine⟨g4 _,g5,⟨_,g1,by rw[iJ,dN,wS,BI,aP];exact g2,trivial⟩,by simpa using g3,hB.trans g6,aL hszW (g4 0).size⟩
 case done=>
  rintro D ys W hD hS ⟨⟨v,hv,hrow,-⟩,h5,hB,hszW⟩ hK;have hc:=hv.cell;have hc5:=h5.cell;have hf:=hv.frozen;have hf5:=h5.frozen;obtain⟨A,c,rfl⟩:∃A c,v=.slice A ys.length c:=by
   rcases hrow.2 with⟨rfl,hn⟩|⟨g,cap,cur,rfl,_⟩
   .exact⟨none,0,by rw[hn]⟩
   exact⟨_,_,rfl⟩
  have Hrow:=aH hrow;have HS:=aH hS;have HK:=aH hK;clear hrow hS hK
  gi_wp2
  gi_region
  gi_wp2
  obtain⟨u,hu⟩:∃u:Nat,u=((ys.getLast?).map Prod.snd).getD f:=⟨_,rfl⟩;rw[<-hu]at h5 hc5|-;have b1:=(hv.set (.slice A ys.length c)).other (B':=w.heap.size+1) (by omega) (.int .i64 (u:Int));have b2:=(h5.other (B':=w.heap.size) (by omega) (.slice A ys.length c)).set (.int .i64 (u:Int));have hK2:((W.setCell ⟨w.heap.size,0,none⟩ (.slice A ys.length c)).setCell ⟨w.heap.size+1,0,none⟩ (.int .i64 (u:Int))).drew.heap[D]?=some (.deferred (some [])):=
   (((KeepsOthers.setCell W ⟨w.heap.size,0,none⟩ (.slice A ys.length c)).trans (KeepsOthers.setCell _ ⟨w.heap.size+1,0,none⟩ (.int .i64 (u:Int)))).trans (KeepsOthers.drew _)).same D _ HK.out rfl
  have hr2:((W.setCell ⟨w.heap.size,0,none⟩ (.slice A ys.length c)).setCell ⟨w.heap.size+1,0,none⟩ (.int .i64 (u:Int))).ownsRow (w.heap.size+4) 3 1 (.slice A ys.length c) ys.length (gJ (ys.map Prod.fst)):=
   ownsRow_setCell_below (ownsRow_setCell_below Hrow.out (by show w.heap.size<w.heap.size+4;omega) _) (by show w.heap.size+1<w.heap.size+4;omega) _
  have hB2:aS w.heap.size w ((W.setCell ⟨w.heap.size,0,none⟩ (.slice A ys.length c)).setCell ⟨w.heap.size+1,0,none⟩ (.int .i64 (u:Int))):=(hB.setCell (p:=⟨w.heap.size,0,none⟩) (aO _) _).setCell (p:=⟨w.heap.size+1,0,none⟩) (by show w.heap.size<=w.heap.size+1;omega) _;generalize ((W.setCell ⟨w.heap.size,0,none⟩ (.slice A ys.length c)).setCell ⟨w.heap.size+1,0,none⟩ (.int .i64 (u:Int)))=W2 at b1 b2 hK2 hr2 hB2|-;have hD4:w.heap.size+4<=D:=by omega
  have q0:∀o,(W2.drew.putObj D o).cell? ⟨w.heap.size,0,none⟩=some (.slice A ys.length c):=fun o=>(dH (World.putObj_heap_other (by show w.heap.size≠D;omega))).trans b1.cell;have q1:∀o,(W2.drew.putObj D o).cell? ⟨w.heap.size+1,0,none⟩=some (.int .i64 (u:Int)):=fun o=>(dH (World.putObj_heap_other (by show w.heap.size+1≠D;omega))).trans b2.cell;have e1:wAt (lb s) (f:Int)=ys.map Prod.fst:=HS.out.1;have e2:P8 (lb s) (f:Int)=u:=by rw[HS.out.2,hu]
  refine⟨by simp,.inl ⟨_,_,rfl,run_takeDeferred hK2,?_⟩⟩;refine⟨.tuple #[.slice A ys.length c,.int .i64 (u:Int)],by simp[results,results168,go_sem,q0,q1],?_⟩;refine⟨_,bK8 (by rw[e2]),?_,hB2.trans ((below_drewN (aY _ _) 1).trans (belowK_b (w:=w) (aO _) W2.drew D _ _ (by omega) hK2 rfl rfl))⟩;rw[e1,gR];exact Reads.dC (ownsRow_putObj hr2.drew _ hK2 rfl)
 case stop=>
  rintro D c pre W _ _ h _;exact h.elim
end
def C2(w:aI)(o:Obj):aS w.heap.size w (w.alloc o):=(aY _ _).alloc (aO _) _
def UQ(n:Int)(w:aI)(r:-9223372036854775808<=n/\n<=9223372036854775807):
 Calls prog 166 #[.int .i64 n] w λe s=>e=.returned (.string (bs (eM n)))/\aS w.heap.size w s:=by
  obtain⟨j,l⟩:=r;by_cases h:n<0\/199<n
  .rw[YH h];rcases(show n<0\/(¬n<0/\(200:Int)<=n)from by omega)with h|⟨h,t⟩
   all_goals
    go_in;go_wp2;go_ret;exact⟨rfl,aY _ _⟩
  obtain⟨k,rfl⟩:=dA (a:=n) (by omega);have u:decide ((200:Int)<=k)=false:=(by rw[cN];omega);have p:decide ((k:Int)<0)=false:=(by rw[cN];omega);rw[aj5 (by omega)];have q:(k:Int)<=9223372036854775807:=(by omega);clear h j l;go_in;(go_wp2_with fail);refine(sI _ _ _ (by omega) (by omega)).mono ?_;rintro e v ⟨rfl,m⟩;have f:qL ((k:Nat):Int).toNat 4=be 4 k:=bu7 _;rw[f];clear f;obtain⟨X,b⟩:∃X,X=bs (be 4 k):=⟨_,rfl⟩;have c:X.size=4:=(by rw[b,eK];simp);rw[<-b];have g:=aH b;clear b;(go_wp2_with fail);refine(AV _ _ (by rw[VR,c];decide)).mono ?_;rintro e x ⟨rfl,o⟩;obtain⟨Y,d⟩:∃Y,Y=bs (kY (lb (⟨#[99,104,110,107]⟩++X))):=⟨_,rfl⟩;rw[<-d];have i:=aH d;clear d;go_wp2;go_ret;refine⟨AG ?_,?_⟩
  .rw[i.out,g.out];rfl
  repeat (first|assumption|exact aY _ _|(refine aJ (by assumption) ?_))
def YJ(a b:aT)(w:aI)(d:a.size<=maxLen)(f:b.size<=maxLen):
 Calls prog 235 #[.string a,.string b] w λe g=>e=.returned (.bool (pre (lb a) (lb b)))/\w=g:=by
  unfold maxLen at d f;by_cases h:b.size<=a.size
  .have c:(b.size:Int)<=a.size:=(by omega);have e:((a.extract 0 b.size).toList==b.toList)=pre (lb a) (lb b):=by unfold pre;rw[bN,bN,cJ h,fI,eB,EY,mA,tG,l3]
   have E:=aH e;clear e;go_in;go_wp2;go_ret;exact⟨aA7 E.out,rfl⟩
  have c:¬(b.size:Int)<=a.size:=(by omega);have e:false=pre (lb a) (lb b):=(by unfold pre;rw[bN,bN,cC h];rfl);have E:=aH e;clear e;go_in;go_wp2;go_ret;exact⟨aA7 E.out,rfl⟩
def hasPrefix(a b:aT)(w:aI)(d:a.size<=maxLen)(f:b.size<=maxLen):
 Calls prog 167 #[.string a,.string b] w λe c=>e=.returned (.bool (pre (lb a) (lb b)))/\w=c:=by
  go_in;(go_wp2_with fail);refine(YJ _ _ _ d f).mono ?_;rintro e c ⟨rfl,rfl⟩;go_wp2;go_ret;exact⟨rfl,rfl⟩
variable{Q:List bB}
def C4(l:List bB)(n:Int)(w:aI)(e:eT)(a:aI):Prop:=
 ∃v,e=.returned (.tuple #[v,.int .i64 (ad8 l n),.bool (cOk l n)])/\Reads a v 1 (cAt l n).length (gJ (cAt l n))/\aS w.heap.size w a
def ag4{b:Bool}(h:US Q e=false)(f:cOk Q e=b)(d:aS w.heap.size w x):C4 Q e w (.returned (.tuple #[.slice none 0 0,.int .i64 0,.bool b])) x:=by have a:cAt Q e=[]:=(by unfold cAt;rw[h];rfl);have c:ad8 Q e=0:=(by unfold ad8;rw[h];rfl);unfold C4;rw[a,c,f];exact⟨_,rfl,Reads.nil _ _,d⟩
def bs3(h:US Q e=true)(f:Reads x v 1 (wAt Q 12).length (gJ (wAt Q 12)))(d:aS w.heap.size w x):C4 Q e w (.returned (.tuple #[v,.int .i64 (P8 Q 12),.bool true])) x:=by
 have a:cAt Q e=wAt Q 12:=(by unfold cAt;rw[h];rfl);have b:ad8 Q e=P8 Q 12:=by unfold ad8;rw[h];rfl
 have c:cOk Q e=true:=by unfold US at h;unfold cOk;rw[bL]at h;rw[h.1,h.2];rfl
 unfold C4;rw[a,b,c];exact⟨_,rfl,f,d⟩
def UP(s:aT)(n:Int)(w:aI)(G:s.size<=1000000000000)(F:-9223372036854775808<=n/\n<=9223372036854775807):
 Calls prog 111 #[.string s,.int .i64 n] w (C4 (lb s) n w):=by
  have j:eM n=[]\/(eM n).length=12:=by
   by_cases h:n<0\/199<n
   .exact .inl (YH h)
   obtain⟨k,rfl⟩:=dA (a:=n) (by omega);exact .inr (jO (by omega))
  have u:US (lb s) n=((eM n != [])&&pre (lb s) (eM n)):=rfl;have x:cOk (lb s) n=((eM n != [])&&(pre (lb s) (eM n)||pre (eM n) (lb s))):=rfl;have r:=UQ n w F;generalize eM n=H at j u x r;have⟨q,A,p⟩:=aB u x r;clear u x r;have m:s.size<=maxLen:=(by unfold maxLen;omega);rcases j with rfl|v
  .go_in;(go_wp2_with fail);refine(p.out).mono ?_;rintro e E ⟨rfl,b⟩;go_wp2;go_ret3;exact ag4 (by rw[q.out];rfl) (by rw[A.out];rfl) b
  have l:(H != [])=true:=(by rw[mW];rintro rfl;simp at v);have C:(H==[])=false:=(by rw[bI];rintro rfl;simp at v);have i:(bs H).size<=maxLen:=(by rw[eK,v];decide);have⟨g,d,c⟩:=aB l m i;clear l m i;rcases o:pre (lb s) H with _|_
  .rcases B:pre H (lb s)with _|_
   all_goals
    have⟨f,z⟩:=aA o B;clear o B;go_in;(go_wp2_with fail);refine(p.out).mono ?_;rintro e E ⟨rfl,b⟩;(go_wp2_with fail);refine(hasPrefix _ _ _ d.out c.out).mono ?_;rintro e D ⟨rfl,rfl⟩;rw[gF,f.out];(go_wp2_with fail);refine(hasPrefix _ _ _ c.out d.out).mono ?_;rintro e D ⟨rfl,rfl⟩;rw[gF,z.out];go_wp2;go_ret3;exact ag4 (by rw[q.out,f.out];simp) (by rw[A.out,g.out,f.out,z.out];rfl) b
  have f:=aH o;clear o;go_in;(go_wp2_with fail);refine(p.out).mono ?_;rintro e E ⟨rfl,b⟩;(go_wp2_with fail);refine(hasPrefix _ _ _ d.out c.out).mono ?_;rintro e D ⟨rfl,rfl⟩;rw[gF,f.out];(go_wp2_with fail);refine(ab8 _ _ _ G (by decide)).mono ?_;rintro e J ⟨I,rfl,y,t⟩;go_wp2;go_ret3;exact bs3 (by rw[q.out,f.out,g.out];rfl) y (aJ b t)
def aM6(n:Int)(s:aT)(w:aI)(l:-9223372036854775808<=n/\n<=9223372036854775807)(j:s.size<=maxLen):
 Calls prog 141 #[.int .i64 n,.string s] w λe m=>e=.returned (.bool (xB n s.size))/\w=m:=by
  unfold maxLen at j;obtain⟨c,d⟩:=l;by_cases a:0<=n
  .obtain⟨k,rfl⟩:=dA a;by_cases f:k<=4096
   .by_cases i:s.size<=2000
    iterate 2
     ·(try (have e:xB k s.size=false:=by unfold xB;rw[cN];omega));have b:decide ((k:Int)<=4096)=true:=by rw[decide_eq_true_iff];omega
      (first|((have g:decide ((s.size:Int)<=2000)=true:=by rw[decide_eq_true_iff];omega);(have h:decide ((s.size:Int)+12<=4096-k)=xB k s.size:=by unfold xB;rw[decide_eq_decide];omega);(have o:(k:Int)<=4096:=by omega);(have p:(s.size:Int)<=2000:=by omega);generalize xB k s.size=F at h|-;clear a f i c d j)|((have g:decide ((s.size:Int)<=2000)=false:=by rw[cN];omega);(rw[e];clear e a f i c d)));go_in;go_wp2;go_ret;exact⟨rfl,rfl⟩
   have e:xB k s.size=false:=(by unfold xB;rw[cN];omega);have b:decide ((k:Int)<=4096)=false:=(by rw[cN];omega);rw[e];clear e a f c d;go_in;go_wp2;go_ret;exact⟨rfl,rfl⟩
  have e:xB n s.size=false:=(by unfold xB;rw[cN];omega);have b:decide ((0:Int)<=n)=false:=(by rw[cN];omega);rw[e];clear e a c d;go_in;go_wp2;go_ret;exact⟨rfl,rfl⟩
section
open Go.Shelf
attribute [local go_sem] Oper.semAt_some
def bg2(h n a:Int)(w:aI):
 Calls prog 304 #[.int .u64 h,.int .i64 n,.int .i64 a] w λe b=>e=.returned (.func (.func 310) #[] #[.pointer (some ⟨w.heap.size+1,0,none⟩),.pointer (some ⟨w.heap.size,0,none⟩),.pointer (some ⟨w.heap.size+1+1,0,none⟩)])/\
  ((w.alloc (.cells #[.int .u64 h] 23)).alloc (.cells #[.int .i64 n] 3)).alloc (.cells #[.int .i64 a] 3)=b:=by
   go_in;go_wp2;go_ret;exact⟨rfl,rfl⟩
def qW(h B k:Nat):List Nat:=(List.range k).map fun i=>prN h i B
@[simp] def bQ9(h B k:Nat):(qW h B k).length=k:=by simp[qW]
def PR(h B k:Nat):qW h B (k+1)=qW h B k++[prN h k B]:=by simp[qW,r8]
abbrev VB(B:Nat):={b:Nat // b<B}
def RO(a:List (VB n)):List Nat:=a.map Subtype.val
def RN(a:List (VB n))(x:VB n):RO (a++[x])=RO a++[x.1]:=by simp[RO]
def TF(a b c:Nat)(W d:aI):Prop:=d.heap[a]?=W.heap[a]?/\d.heap[b]?=W.heap[b]?/\d.heap[c]?=W.heap[c]?
def bR7(h:TF n k m w x)(a:TF n k m x y):TF n k m w y:=⟨a.1.trans h.1,a.2.1.trans h.2.1,a.2.2.trans h.2.2⟩
def bR8(b:n<w.heap.size)(c:k<w.heap.size)(d:m<w.heap.size)(W:aI)(l:Nat)(o a:Obj)(f:w.heap.size<=l)(_:W.heap[l]?=some o)(_:o.isCells=false)(_:o.isWalk=false):TF n k m W (W.putObj l a):=
 ⟨World.putObj_heap_other (λe=>by omega),World.putObj_heap_other (λe=>by omega),World.putObj_heap_other (λe=>by omega)⟩
def aO0(n:Nat)(hn:1<=n)(l A z y:Nat)(h:Nat)(hh:h<18446744073709551616)(m:Int)(hm:-9223372036854775808<=m/\m<=9223372036854775807)(B:Nat)(S:0<B)(Y:(B:Int)<=9223372036854775807)(J Q:List (VB B)->aI->Prop)
 (W:aI) (hJ:AbidesFrom W.heap.size J)
 (hY:∀pre x G,J pre G->pre.length<64->YieldAt Fence.wide (n-1) prog l #[.int .i64 ((x.1:Nat):Int)] G λe j=>
  (e=.returned (.bool true)/\J (pre++[x]) j/\TF A z y G j)\/(e=.returned (.bool false)/\Q (pre++[x]) j))
 (O:Boxed W A 3 (.int .i64 m)) (N:Boxed W z 23 (.int .u64 h)) (L:Boxed W y 3 (.int .i64 B)) (X:J [] W) :
 CallsIn Fence.wide n prog 310 #[.func (.yield l) #[] #[],.pointer (some ⟨A,0,none⟩),.pointer (some ⟨z,0,none⟩),.pointer (some ⟨y,0,none⟩)] W λe j=>(∃v,e=.returned v)/\
  ((∃V:List (VB B),RO V=qW h B (IH m)/\J V j)\/(∃pre:List (VB B),(∃k,k<=IH m/\RO pre=qW h B k)/\Q pre j)):=by
   obtain⟨h2,h3⟩:=hm;obtain⟨M,Z⟩:∃M:Int,(if(64:Int)<m then(64:Int)else m)=M:=⟨_,rfl⟩;have K:M<=64/\(IH m:Int)=(if M<0 then 0 else M):=by
    unfold IH;rw[<-Z];constructor
    .split<;>omega
    split<;>split<;>omega
   obtain⟨h1,d⟩:=K;refine callsIn_of_wp func310 rfl trivial ?_ rfl;simp only[ntmps310,rE,cF,jU,Nat.reduceAdd,Nat.reduceSub,G4,G0,MX,IS,pD,kM]
   gi_wp2
   gi_loopw [5] (λp wr=>∃(pre:List (VB B)) (k:Nat),p=.int .i64 k/\k<=IH m/\RO pre=qW h B k/\Boxed wr A 3 (.int .i64 m)/\Boxed wr z 23 (.int .u64 h)/\Boxed wr y 3 (.int .i64 B)/\J pre wr) (λp wr=>64-(intOf p).toNat)
   .exact⟨[],0,rfl,bO _,rfl,O,N,L,X⟩
   obtain⟨pre,k,rfl,hk,c,w,u,s,o⟩:=hrel;have c1:=w.cell;have c2:=u.cell;have c3:=s.cell;have h4:pre.length=k:=(by have:=gQ List.length c;simpa[RO]using this);have a:=aH c;clear c;by_cases r:(k:Int)<M
   .have i:k<IH m:=(by split at d<;>omega);have T:k<64:=(by omega);have H:=ap3 h k B S;obtain⟨b,D⟩:∃b,b=prN h k B:=⟨_,rfl⟩;have f:b<B:=(by rw[D];exact aY0 h k S);rw[<-D]at H;have⟨P,E⟩:=aA D H;clear D H d
    gi_wp2_with fail
    refine⟨trivial,?_⟩;refine(callsIn_wide.2 (QV _ _ _ _ hh (by omega) (by omega))).mono ?_;rintro e w1 ⟨rfl,rfl⟩;rw[E.out];obtain⟨fn,U,C,R,hy,hR⟩:=hY pre ⟨b,f⟩ _ o (by omega);dsimp only at hy
    gi_wp2
    refine hR.mono ?_;rintro e W3 (⟨rfl,I,g⟩|⟨rfl,q⟩)
    .gi_wp2
     go_roundw
     .exact⟨pre++[⟨b,f⟩],k+1,by go_num,by omega,by rw[RN,a.out,PR];exact gQ (λt=>qW h B k++[t]) P.out,Eq.trans g.1 w,Eq.trans g.2.1 u,Eq.trans g.2.2 s,I⟩
     simp[intOf];omega
    .gi_wp2
     refine bG (results_none rfl _ _ _) rfl ?_;exact⟨⟨_,rfl⟩,.inr ⟨pre++[⟨b,f⟩],⟨k+1,by omega,by rw[RN,a.out,PR];exact gQ (λt=>qW h B k++[t]) P.out⟩,q⟩⟩
   have i:k=IH m:=(by split at d<;>omega);have hd:decide ((k:Int)<M)=false:=(by rw[cN];exact r);have F:=aH i;clear d r i
   gi_wp2
   go_end0;exact⟨⟨_,rfl⟩,.inl ⟨pre,by rw[a.out,F.out],o⟩⟩
def aN9(n:Nat)(u:1<=n)(c b a:Nat)(h:Nat)(s:h<18446744073709551616)(m:Int)(t:-9223372036854775808<=m/\m<=9223372036854775807)(B:Nat)(p:0<B)(g:(B:Int)<=9223372036854775807)(w:aI)
 (f:Boxed w c 3 (.int .i64 m)) (e:Boxed w b 23 (.int .u64 h)) (d:Boxed w a 3 (.int .i64 B)) :
 SeqStopsK Fence.wide n prog 310 #[.pointer (some ⟨c,0,none⟩),.pointer (some ⟨b,0,none⟩),.pointer (some ⟨a,0,none⟩)] (λx:VB B=>#[Value.int .i64 ((x.1:Nat):Int)]) (TF c b a)
  (λv=>RO v=qW h B (IH m)) (λpre=>∃k,k<=IH m/\RO pre=qW h B k) 64 w:=λl J j W i q _ r o=>
 aO0 n u l c b a h s m t B p g J j W q r ((i.block c f.lt).trans f) ((i.block b e.lt).trans e) ((i.block a d.lt).trans d) o
end
end Go.Proofs.YtpopikndggffaaaGreatDoor
