/- TOP, part 8. -/
import Derived.LoopIn
import Derived.LoopNIn
import Derived.OwnWalkIn
import Derived.RangeFuncBound
import Derived.RangeFuncBox
import Derived.RangeFuncCalls
import Derived.RangeFuncKeeps
import Derived.RangeFuncLeaves
import Derived.RangeFuncNested
import Derived.Shelf.Abstract
import Derived.Shelf.RegionOpen
import Derived.TacticsInMore
import Derived.Test.YtpopikndggffaaaGreatDoorGt6
import Derived.Test.YtpopikndggffaaaGreatDoorGt7
namespace Go.Proofs.YtpopikndggffaaaGreatDoor
set_option linter.all false
set_option maxRecDepth 100000
set_option maxHeartbeats 16000000
open Go.RowKit Tryz
variable{l:List Ev}{k m n:Nat}{w x y:aI}{v:aN}
section
open Go.Shelf
def Reads.each{I:Type}{f:I->List aN}(z:∀x,(f x)=n){w:aI}{A:Option Addr}{k m:Nat}{l:List I}(h:Reads w (.slice A k m) n l (l.flatMap f)):k=l/\k<=m/\m<=maxLen/\(0<l.length->∃b a,A=zp b a/\b<w.heap.size/\∀(i:Nat)(x:I),l[i]?=x->∀o:aI,aR w w o->∀j (q:j<n),o.cell? (zp b (a+(i*n+j)))=(f x)[j]?):=by
 have⟨G,H,E,s,t,C,y⟩:=h;obtain⟨rfl,rfl,rfl⟩:=eJ E;refine⟨rfl,s,t,λr=>?_⟩;have⟨b,a,u,g,d⟩:=y r;refine⟨b,a,u,g,λi x B o v j q=>?_⟩;have⟨e,F⟩:=aQ.1 B;have D:=EU f n z l i j e q;have c:i*n+j<(l.flatMap f):=by rw[C];have:(i+1)*n<=l*n:=af6 _ e;rw[UP]at this;omega
 rw[v.cell (p:=zp b (a+(i*n+j))) g,d _ c,<-F,<-D,aJ c]
def SG(e:Ev):(evL e).length=3:=rfl
def Y2(w:aI)(v:aN)(l:List Ev):Prop:=Reads w v 3 l.length (l.flatMap evL)/\∀e∈l,okV e
def Y2.next{w:aI}{v:aN}(h:Y2 w v l)(a:aR w w x):Y2 x v l:=⟨h.1.next a,h.2⟩
def Y2.ok{l:List Ev}(h:Y2 w v l){n:Nat}{e:Ev}(a:l[n]?=e):okV e:=h.2 e (bC a)
def Y2.later{w:aI}{A:Option Addr}{n c:Nat}{l:List Ev}(h:Y2 w (.slice A n c) l)(g:0<l.length):∃b a,A=zp b a/\b<w.heap.size/\∀(i:Nat)(e:Ev),l[i]?=e->∀d:aI,aR w w d->d.cell? (zp b (a+i*3))=e.1/\d.cell? (zp b (a+i*3+1))=e.2.1/\d.cell? (zp b (a+i*3+2))=some (.float .f64 e.2.2):=by have⟨b,a,j,f,m⟩:=(Reads.each SG h.1).2.2.2 g;refine⟨b,a,j,f,λi e o d k=>?_⟩;have h:=m i e o d k;exact⟨by simpa[evL]using h 0 (by omega),by simpa[evL,gC]using h 1 (by omega),by simpa[evL,gC]using h 2 (by omega)⟩
end
variable{b:kM}
def cI5(w:aI)(a b c:aN)(t:cC)(e:aI)(f:aR (w.alloc (.cells #[a,b,c] t)) (w.alloc (.cells #[a,b,c] t)) e):e.cell? (zp w)=a/\e.cell? (zp w 1)=b/\e.cell? (zp w 2)=c:=by
 have d:(w.alloc (.cells #[a,b,c] t)).heap[w.heap.size]?=some (.cells #[a,b,c] t (0,0)):=heap_alloc_new w _;have h:∀j v,(#[a,b,c]:Array aN)[j]?=some v->e.cell? ⟨w.heap.size,j,none⟩=some v:=λj v h=>by refine(f.cell (p:=⟨w.heap.size,j,none⟩) (fG.1 d).1).trans ?_;unfold World.cell?;rw[d];simpa using h
 exact⟨h 0 _ rfl,h 1 _ rfl,h 2 _ rfl⟩
def MU(w:aI)(v:aN)(b:kM):Prop:=∃A c,v=.agg #[.string b.1,.int .i64 b.2.1,.slice A b.2.2.length c]/\Y2 w (.slice A b.2.2.length c) b.2.2/\b.1.size<=maxLen/\-9223372036854775808<=b.2.1/\b.2.1<=9223372036854775807
def MU.next{w:aI}{v:aN}{b:kM}(h:MU w v b)(f:aR w w x):MU x v b:=by have⟨A,c,a,d,e⟩:=h;exact⟨A,c,a,d.next f,e⟩
def MU.okB(h:MU w v b):okB b:=by obtain⟨A,c,g,a,d,e,f⟩:=h;exact⟨d,⟨e,f⟩,a.2⟩
def FV(v:aN)(b:kM)(w:aI)(h:MU w v b):Calls prog 90 #[v] w λe w'=>e=(eP b)/\aR w w w':=by
 obtain⟨s,f,l⟩:=b;obtain⟨A,c,rfl,hE,hs,hf1,hf2⟩:=h;simp only[]at hE hs hf1 hf2|-;obtain⟨-,hc1,hc2,-⟩:=Reads.each SG hE.1;unfold maxLen at hc2 hs;have hz:=cD w (.cells #[.string s,.int .i64 f,.slice A l.length c] 129);have hL:=fun h0=>hE.later h0;have ok:=hE.2;by_cases z:s.size=0
 .have e1:(s.toList==[])=true:=by rw[toList_nil z];rfl
  have hr:eP (s,f,l)=2:=by unfold eP;rw[aV (.inl z)]
  rw[hr];clear hr;go_in;go_wp2_with fail
  go_step3;go_wp2;try rw[eU]
  go_ret;exact⟨rfl,hz⟩
 have e1:(s.toList==[])=false:=by rw[bA];exact GD z
 by_cases z2:l.length=0
 .have e2:(l.length:Int)=0:=by omega
  have hr:eP (s,f,l)=2:=by unfold eP;rw[aV (.inr z2)]
  rw[hr];clear hr;go_in;go_wp2_with fail
  go_step3;go_wp2;try rw[eU]
  go_ret;exact⟨rfl,by rw[z2]at hz;exact hz⟩
 have e2:¬(l.length:Int)=0:=by omega
 have e2':((l.length:Int)==0)=false:=by rw[bA];exact e2
 by_cases z3:32<s.size
 .have e3:(32:Int)<s.size:=by omega
  have hr:eP (s,f,l)=3:=by unfold eP;rw[aP (by simp only[];omega),aV (.inl z3)]
  rw[hr];clear hr;go_in;go_wp2_with fail
  go_step3;go_wp2;try rw[eU]
  go_ret;exact⟨rfl,hz⟩
 have e3:¬(32:Int)<s.size:=by omega
 by_cases z4:8<l.length
 .have e4:(8:Int)<l.length:=by omega
  have hr:eP (s,f,l)=3:=by unfold eP;rw[aP (by simp only[];omega),aV (.inr z4)]
  rw[hr];clear hr;go_in;go_wp2_with fail
  go_step3;go_wp2;try rw[eU]
  go_ret;exact⟨rfl,hz⟩
 have e4:¬(8:Int)<l.length:=by omega
 by_cases z5:f<0
 .have hr:eP (s,f,l)=2:=by unfold eP;rw[aP (by simp only[];omega),aP (by simp only[];omega),aV (.inl z5)]
  rw[hr];clear hr;go_in;go_wp2_with fail
  go_step3;go_wp2;try rw[eU]
  go_ret;exact⟨rfl,hz⟩
 by_cases z6:1073741824-(l.length:Int)<f
 iterate 2
  ·(first|(have hr:eP (s,f,l)=2:=by unfold eP;rw[aP (by simp only[];omega),aP (by simp only[];omega),aV (.inr z6)])|(have hr:eP (s,f,l)=BS l:=by unfold eP;rw[aP (by simp only[];omega),aP (by simp only[];omega),aP (by simp only[];omega)]));have w1:IntKind.i64.wrap (1073741824-(l.length:Int))=1073741824-(l.length:Int):=by rw[cQ];omega
   rw[hr];clear hr;(try (obtain⟨n,hN⟩:∃n,n=l.length:=⟨_,rfl⟩;rw[<-hN]at e2 e2' e4 z4 z2 z6 w1 hc1 hz|-;have⟨Hn,HL,Hok⟩:=aB hN hL ok;clear hN hL ok hE));go_in;(go_wp2_with fail);go_step3
   first
    |go_wp2
     (try rw[eU]);go_ret;exact⟨rfl,hz⟩
    |go_wp2_with fail
     go_step3;(go_wp2_with fail);go_loopw [2,36] (fun r i wr=>∃k:Nat,k<=n/\i=.int .i64 (k:Int)/\r=.int .i64 0/\BS (l.take k)=0/\aR w.heap.size w wr) (fun _ i _=>n-(intOf i).toNat)
     .exact⟨0,by omega,rfl,rfl,rfl,hz⟩
     obtain⟨k,hk,rfl,rfl,hbad,hbr⟩:=hrel;have Hbad:=aH hbad;clear hbad;by_cases hlt:k<n
     .obtain⟨e,he⟩:∃e,l[k]?=some e:=⟨_,aJ (by have:=Hn.out;omega)⟩;obtain⟨b,off,rfl,-,hc⟩:=HL.out (by have:=Hn.out;omega);obtain⟨c0,c1,c2⟩:=hc k e he wr hbr;have hk2:=fun w=>IY e w (Hok.out e (bC he));have hm:=at0 Hbad.out he;have hbx:=aA9 wr e 44;have hz2:=cD wr (.cells (KG e) 44);have i1:(k:Int)<n:=(by omega);generalize kA e=ck at hk2 hm;obtain⟨e1,e2,e3⟩:=e;unfold KG at hk2 hbx hz2;simp only[]at c0 c1 c2 hk2 hbx hz2;have Hm:=aH hm;clear he hc hm;obtain⟨x0,x1,x2⟩:=hbx _ (bR _ _);by_cases h0:ck=0
      iterate 2
       .first|have hnext:=Hm.out.1 h0;subst h0;have Hnext:=aH hnext;clear hnext|(have hend:=Hm.out.2 h0;(have h0':(ck==0)=false:=by rw[bA];exact h0);have Hend:=aH hend;clear hend)
        (go_wp2_with fail);refine(hk2 _).mono ?_;rintro y w2 ⟨rfl,hb2⟩;go_wp2;first|(go_roundw;(case rel=>exact⟨k+1,by omega,by go_num,rfl,Hnext.out,aK hbr (aK hz2 hb2)⟩);(case measure=>simp[intOf];omega))|try rw[eU];go_ret;exact⟨mJ Hend.out.symm,aK hbr (aK hz2 hb2)⟩
     have i1:¬(k:Int)<n:=(by omega);have h0:BS l=0:=by have:=Hbad.out;rwa [aT (by have:=Hn.out;omega)]at this
     have H0:=aH h0;clear h0;go_wp2;(try rw[eU]);go_ret;exact⟨mJ H0.out.symm,hbr⟩
def YO(v:aN)(b:kM)(w:aI)(h:MU w v b):Calls prog 68 #[v] w λe w'=>e=(eP b)/\aR w w w':=by
 obtain⟨s,f,l⟩:=b;obtain⟨A,c,rfl,hE,hs,hf1,hf2⟩:=h;simp only[]at hE hs hf1 hf2|-;obtain⟨-,hc1,hc2,-⟩:=Reads.each SG hE.1;unfold maxLen at hc2 hs;have hz:=cD w (.cells #[.string s,.int .i64 f,.slice A l.length c] 129);have hL:=fun h0=>hE.later h0;have ok:=hE.2;by_cases z:s.size=0
 .have e1:(s.size:Int)=0:=by omega
  have hr:eP (s,f,l)=2:=by unfold eP;rw[aV (.inl z)]
  rw[hr];clear hr;go_in;go_wp2;go_ret;exact⟨rfl,hz⟩
 have e1:¬(s.size:Int)=0:=by omega
 have e1':((s.size:Int)==0)=false:=by rw[bA];exact e1
 by_cases z2:l.length=0
 .have e2:(l.length:Int)=0:=by omega
  have hr:eP (s,f,l)=2:=by unfold eP;rw[aV (.inr z2)]
  rw[hr];clear hr;go_in;go_wp2;go_ret;exact⟨rfl,by rw[z2]at hz;exact hz⟩
 have e2:¬(l.length:Int)=0:=by omega
 have e2':((l.length:Int)==0)=false:=by rw[bA];exact e2
 by_cases z3:32<s.size
 .have e3:(32:Int)<s.size:=by omega
  have hr:eP (s,f,l)=3:=by unfold eP;rw[aP (by simp only[];omega),aV (.inl z3)]
  rw[hr];clear hr;go_in;go_wp2;go_ret;exact⟨rfl,hz⟩
 have e3:¬(32:Int)<s.size:=by omega
 by_cases z4:8<l.length
 .have e4:(8:Int)<l.length:=by omega
  have hr:eP (s,f,l)=3:=by unfold eP;rw[aP (by simp only[];omega),aV (.inr z4)]
  rw[hr];clear hr;go_in;go_wp2;go_ret;exact⟨rfl,hz⟩
 have e4:¬(8:Int)<l.length:=by omega
 by_cases z5:f<0
 .have hr:eP (s,f,l)=2:=by unfold eP;rw[aP (by simp only[];omega),aP (by simp only[];omega),aV (.inl z5)]
  rw[hr];clear hr;go_in;go_wp2;go_ret;exact⟨rfl,hz⟩
 by_cases z6:1073741824-(l.length:Int)<f
 iterate 2
  ·(first|(have hr:eP (s,f,l)=2:=by unfold eP;rw[aP (by simp only[];omega),aP (by simp only[];omega),aV (.inr z6)])|(have hr:eP (s,f,l)=BS l:=by unfold eP;rw[aP (by simp only[];omega),aP (by simp only[];omega),aP (by simp only[];omega)]));have w1:IntKind.i64.wrap (1073741824-(l.length:Int))=1073741824-(l.length:Int):=by rw[cQ];omega
   rw[hr];clear hr;(try (obtain⟨n,hN⟩:∃n,n=l.length:=⟨_,rfl⟩;rw[<-hN]at e2 e2' e4 z4 z2 z6 w1 hc1 hz|-;have⟨Hn,HL,Hok,HB⟩:=aC hN hL ok (cI5 w (.string s) (.int .i64 f) (.slice A n c) 129);clear hN hL ok hE));go_in
   first
    |go_wp2
     go_ret;exact⟨rfl,hz⟩
    |go_wp2_with fail
     go_loopw [3] (fun i wr=>∃k:Nat,k<=n/\i=.int .i64 (k:Int)/\BS (l.take k)=0/\aR (w.alloc (.cells #[.string s,.int .i64 f,.slice A n c] 129)).heap.size (w.alloc (.cells #[.string s,.int .i64 f,.slice A n c] 129)) wr) (fun i _=>n-(intOf i).toNat)
     .exact⟨0,by omega,rfl,rfl,bR _ _⟩
     obtain⟨k,hk,rfl,hbad,hbr0⟩:=hrel;have hbr:=aK hz hbr0;obtain⟨-,-,g2⟩:=HB.out wr hbr0;have Hbad:=aH hbad;clear hbad;by_cases hlt:k<n
     .obtain⟨e,he⟩:∃e,l[k]?=some e:=⟨_,aJ (by have:=Hn.out;omega)⟩;obtain⟨b,off,rfl,-,hc⟩:=HL.out (by have:=Hn.out;omega);obtain⟨c0,c1,c2⟩:=hc k e he wr hbr;have hk2:=fun w=>am7 e w (Hok.out e (bC he));have hm:=at0 Hbad.out he;have i1:(k:Int)<n:=(by omega);generalize kA e=ck at hk2 hm;obtain⟨e1,e2,e3⟩:=e;unfold KG at hk2;simp only[]at c0 c1 c2 hk2;have Hm:=aH hm;clear he hc hm;by_cases h0:ck=0
      iterate 2
       .first|have hnext:=Hm.out.1 h0;subst h0;have Hnext:=aH hnext;clear hnext|(have hend:=Hm.out.2 h0;(have h0':(ck==0)=false:=by rw[bA];exact h0);have Hend:=aH hend;clear hend)
        (go_wp2_with fail);refine(hk2 _).mono ?_;rintro y w2 ⟨rfl,hb2⟩;go_wp2;first|(go_roundw;(case rel=>exact⟨k+1,by omega,by go_num,Hnext.out,aK hbr0 hb2⟩);(case measure=>simp[intOf];omega))|go_ret;exact⟨mJ Hend.out.symm,aK hbr hb2⟩
     have i1:¬(k:Int)<n:=(by omega);have h0:BS l=0:=by have:=Hbad.out;rwa [aT (by have:=Hn.out;omega)]at this
     have H0:=aH h0;clear h0;go_wp2;go_ret;exact⟨mJ H0.out.symm,hbr⟩
variable{e:Int}
def bi8(n:Nat)(w:aI)(b:n<18446744073709551616):Calls prog 138 #[zu n,(1:Int)] w λe a=>e=(bs [UInt8.ofNat (n%256)])/\aR w w a:=by have c:=tM n 1 w (by omega) (by omega);have e:qY n 1=[UInt8.ofNat (n%256)]:=(by unfold qY;rw[aP (by omega)];rfl);rwa[bW,e]at c
def bt7{s b:aS}{a:Int}(h:s=b)(c:e=a):Ending.returned (.tuple #[s,e])=.returned (.tuple #[b,a]):=by rw[h,c]
def ofNat_mod(n:Nat):UInt8.ofNat (n%256)=UInt8.ofNat n:=by apply AR.1;simp
def aW8(v:aN)(b:kM)(w:aI)(h:MU w v b):Calls prog 91 #[v] w λe P=>e=.returned (.tuple #[bs (jG b),eP b])/\aR w w P:=by
 have g:=λP (hb:aR w.heap.size w P)=>FV v b P (h.next hb);have a:=j8 (b:=b);have hy:eP b=0->jG b=wS b:=λh=>(by unfold jG;rw[aV h]);have z:eP b≠0->jG b=[]:=λh=>(by unfold jG;rw[aP h]);obtain⟨s,f,l⟩:=b;obtain⟨A,c,rfl,hE,hs,h6,h7⟩:=h;simp only[]at hE hs h6 h7 g a|-;obtain⟨-,h4,h5,-⟩:=Reads.each SG hE.1;unfold maxLen at h5 hs;have L:=cD w (.cells #[.string s,.int .i64 f,.slice A l.length c] 129);have hL:=λm=>hE.later m;have ok:=hE.2;have j:=cI5 w (.string s) (.int .i64 f) (.slice A l.length c) 129;by_cases m:eP (s,f,l)=0
 .obtain⟨p1,p2,p3,p4,p5,p6,-⟩:=a m;obtain⟨f,rfl⟩:=cR p5;rw[hy m];have q:wS (s,(f:Int),l)=(oU (lb s)++be 8 f++[UInt8.ofNat l.length])++rF l:=(by unfold wS aq0;simp);rw[q];rw[m]at g|-;have Z:=λw=>TY s w (by omega);have lT:(oU (lb s)).length<=1000:=(by rw[oJ _ (by rw[bI];omega),bI];omega);generalize oU (lb s)=T at Z lT|-;obtain⟨n,Y⟩:∃n,n=l.length:=⟨_,rfl⟩;rw[<-Y]at p3 p4 p6 h4 L g j|-;have⟨U,HL,V,R⟩:=aC Y hL ok g;have F:=λk (hk:k<=n)=>aT3 (l:=l.take k) 8 (by rw[b8];omega);have Q:=aH F;clear Y hL ok hE hy z a m q g F;have u1:IntKind.u64.wrap (f:Int)=(f:Int):=(by rw[eE];omega);have u2:IntKind.u64.wrap (n:Int)=(n:Int):=(by rw[eE];omega);have E:=λw=>bi8 n w (by omega);rw[ofNat_mod]at E;go_in;(go_wp2_with fail);refine(R.out _ L).mono ?_;rintro e w1 ⟨rfl,d⟩;have o:=λx:dR w1=>j x.it (aK d x.ok);have h3:=λx=>(o x).1;have I:=λx=>(o x).2.1;have J:=λx=>(o x).2.2;have h2:=aK L d;clear o;(go_wp2_with fail);refine cI (by kernel_rfl) (by kernel_rfl) ?_;repeat (first|go_big_quiet_skip|(go_big_quiet_want;go_big_quiet_op;go_big_quiet_on)|(go_big_quiet_want;go_big_quiet_op;apply Exists.intro;refine⟨λx=>?_,?_⟩;(first|(go_at_call 137;exact eL x (Z _))|(go_at_call 138;with_reducible exact eL x (Z9 f _ (by omega)))|(go_at_call 138;with_reducible exact eL x (E _)));go_big_quiet_on))
  refine wpQuiet_nil ?_;intro _ hx;obtain⟨⟨w2,r⟩,rfl⟩:=hx;rename_i w2;have G:=aK h2 r;obtain⟨-,-,g2⟩:=j w2 (aK d r);clear h3 I J j d r Z;rw[jX,jX];obtain⟨H,M⟩:∃H,H=T++be 8 f++[UInt8.ofNat n]:=⟨_,rfl⟩;have h8:H.length<=2000:=(by rw[M];simp;omega);rw[<-M];have HH:=aH M;clear M;go_wp2_with fail
  go_loopw [5,30] (λs i wr=>∃k:Nat,k<=n/\i=.int .i64 (k:Int)/\s=.string (bs (H++rF (l.take k)))/\aR w.heap.size w wr) (λ_ i _=>n-(intOf i).toNat)
  .exact⟨0,by omega,rfl,by simp[rF],G⟩
  obtain⟨k,hk,rfl,rfl,t⟩:=hrel;by_cases ha:k<n
  .obtain⟨e,O⟩:∃e,l[k]?=some e:=⟨_,aJ (by have:=U.out;omega)⟩;obtain⟨b,hf,rfl,-,hc⟩:=HL.out (by have:=U.out;omega);obtain⟨c0,c1,c2⟩:=hc k e O wr t;have p:=λw=>aA8 e w (V.out e (bC O));have K:=aq6 O;have u:=aA9 wr e 44;have D:=cD wr (.cells (KG e) 44);have l1:=Q.out k hk;have l2:=yW e;have i1:(k:Int)<n:=(by omega);have hd:¬(n:Int)<=k:=(by omega);obtain⟨S,N⟩:∃S,S=H++rF (l.take k):=⟨_,rfl⟩;have h9:S.length<=5000:=(by rw[N,aO];omega);rw[<-N];have C:H++rF (l.take (k+1))=S++mW e:=(by rw[K,N,bT]);generalize mW e=B at p l2 C;obtain⟨e1,e2,e3⟩:=e;unfold KG at p u D;simp only[]at c0 c1 c2 p u D;have W:=aH C;clear O hc K C N;obtain⟨x0,x1,x2⟩:=u _ (bR _ _);(go_wp2_with fail);refine(p _).mono ?_;rintro y w3 ⟨rfl,h1⟩;go_wp2;go_roundw
   .exact⟨k+1,by omega,by go_num,by rw[W.out,jX],aK t (aK D h1)⟩
   simp[intOf];omega
  have i1:¬(k:Int)<n:=(by omega);have ht:rF (l.take k)=rF l:=(by rw[aT (by have:=U.out;omega)]);have Ht:=aH ht;clear ht;go_wp2;refine bE (v:=.tuple #[.string (bs (H++rF (l.take k))),.int .i64 0]) (by simp[results,results91,go_sem]) rfl ⟨bt7 (by rw[Ht.out,HH.out];simp) rfl,t⟩
 rw[z m];clear hy z a;have X:(eP (s,f,l)==0)=false:=(by rw[bA];exact m);generalize eP (s,f,l)=ck at g m X;go_in;(go_wp2_with fail);refine(g _ L).mono ?_;rintro e w1 ⟨rfl,d⟩;go_wp2;refine bE (v:=.tuple #[.string (⟨#[]⟩:aS),.int .i64 ck]) (by simp[results,results91,go_sem]) rfl ⟨rfl,aK L d⟩
section
open Go.Shelf
attribute [local go_sem] Oper.semAt_some
def bZ2(s:aS)(a:Int)(w:aI):Calls prog 236 #[s,a] w λe b=>e=.returned (.func (.func 277) #[] #[zp (w+1),zp w])/\(w.alloc (.cells #[s] 9)).alloc (.cells #[a] 3)=b:=by go_in;go_wp2;go_ret;exact⟨rfl,rfl⟩
def cA7(l:List bB)(f:Nat)(pre:List (Nat×Nat))(a:Nat):Prop:=BU l (f:Int) (pre.map Prod.fst) a/\((pre.getLast?).map Prod.snd).getD f=a
def au0(l:List bB)(f:Nat)(a:List (Nat×Nat)):Prop:=wAt l (f:Int)=a.map Prod.fst/\QR l (f:Int)=((a.getLast?).map Prod.snd).getD f
def AO(b:Nat)(W a:aI):Prop:=a.heap[b]?=W.heap[b]?
def bl4(h:AO n w x)(k:AO n x y):AO n w y:=Eq.trans k h
def bl5(b:n<w)(W:aI)(l:Nat)(o a:Obj)(c:w<=l)(_:W.heap[l]?=o)(_:o.isCells=false)(_:o.isWalk=false):AO n W (W.putObj l a):=World.putObj_heap_other (λe=>by omega)
def aW6(h:aR w w x):w.grownBy x none:=⟨h.os,h.tape,h.output,h.size,λk a _=>h.block k a⟩
def bF4(n:Nat)(hn:1<=n)(l g N:Nat)(s:aS)(f:Nat)(hs:s.size<=1000000000000)(Z:f<=s)(J O:List (Nat×Nat)->aI->Prop) (W:aI) (X:AbidesFrom W J) (E:∀pre x A,J pre A->pre<s.size->YieldAt Fence.wide (n-1) prog l #[((x.1:Nat):Int),((x.2:Nat):Int)] A λe i=>(e=true/\J (pre++[x]) i/\AO g A i)\/(e=false/\O (pre++[x]) i)) (j:Boxed W g 9 s) (B:Boxed W N 3 f) (V:J [] W) :CallsIn Fence.wide n prog 277 #[.func (.yield l) #[] #[],zp N,zp g] W λe i=>(∃v,e=.returned v)/\((∃T,au0 (lb s) f T/\J T i)\/(∃pre:List (Nat×Nat),True/\O pre i)):=by
 have F:=B.cell;have G:=j.cell;refine callsIn_of_wp func277 rfl trivial ?_ rfl;simp only[ntmps277,sH,cE,kG,Nat.reduceAdd,Nat.reduceSub,IF,IE,OM,JU,qA,l8]
 gi_wp2
 gi_loopw [4] (λp wr=>∃(pre:List (Nat×Nat)) (a:Nat),p=.int .i64 a/\cA7 (lb s) f pre a/\Boxed wr g 9 (.string s)/\J pre wr) (λp wr=>s.size-(intOf p).toNat)
 .exact⟨[],f,rfl,⟨BU.start _ _ (by rw[bI];exact Z),rfl⟩,j,V⟩
 obtain⟨pre,a,rfl,w,d,D⟩:=hrel;have Q:=d.cell;have I:=w.1.le;have t:=w.1.yG;rw[bI]at I;rw[gK]at t;have z:=aH w;clear w F G
 gi_wp2_with fail
 refine⟨trivial,?_⟩;refine(callsIn_wide.2 (L1 _ _ _ (by omega) (by omega))).mono ?_;rintro e M ⟨rfl,q⟩;have k:J pre M:=X pre wr M none D (aW6 q) (by simp);rcases y:UB (lb s) (a:Int)with _|_
 .have b:=z.zz.1.stop y;have c:=aH b;clear y b E
  gi_wp2
  refine⟨λ_ h=>(by cases h),?_⟩
  gi_wp2
  refine bE (results_none rfl _ _ _) rfl ?_;exact⟨⟨_,rfl⟩,.inl ⟨pre,⟨c.1,by rw[c.zz.2,z.zz.2]⟩,k⟩⟩
 have b:=z.zz.1.step y;have⟨m,K⟩:=fR (gN (lb s) (a:Int));rw[<-K]at b;rw[<-K];have L:=b.1.le;rw[bI]at L;have R:=b.2;have⟨fn,S,u,P,hy,Y⟩:=E pre (a,m) M k (by omega);dsimp only at hy;have c:=aH b;clear y b K E
 gi_wp2
 refine Y.mono ?_;rintro e U (⟨rfl,C,H⟩|⟨rfl,o⟩)
 .have r:Boxed U g 9 (.string s):=Eq.trans H ((q.block g d.lt).trans d)
  gi_wp2
  go_roundw
  .exact⟨pre++[(a,m)],m,rfl,⟨by rw[iC];exact c.1,by simp⟩,r,C⟩
  simp[intOf];omega
 .gi_wp2
  refine bE (results_none rfl _ _ _) rfl ?_;exact⟨⟨_,rfl⟩,.inr ⟨pre++[(a,m)],trivial,o⟩⟩
def bF3(n:Nat)(m:1<=n)(a d:Nat)(s:aS)(f:Nat)(o:s.size<=1000000000000)(k:f<=s)(w:aI) (c:Boxed w a 9 s) (b:Boxed w d 3 f) :SeqStopsK Fence.wide n prog 277 #[zp d,zp a] (λx:Nat×Nat=>#[Value.int .i64 ((x.1:Nat):Int),((x.2:Nat):Int)]) (AO a) (au0 (lb s) f) (λ_=>True) s w:=λl J g W e i _ j h=>
 bF4 n m l a d s f o k J g W i j ((e.block a c.lt).trans c) ((e.block d b.lt).trans b) h
end
section
open Go.Shelf
attribute [local go_sem] Oper.semAt_some
def aZ4(w:aI)(f:Nat)(pre:List (Nat×Nat))(W:aI):Prop:=(∃v,Boxed W w.heap.size 33 v/\W.ownsRow (w.heap.size+4) 3 1 v pre.length (fJ (pre.map Prod.fst))/\True)/\
 Boxed W (w.heap.size+1) 3 (.int .i64 (((pre.getLast?).map Prod.snd).getD f:Nat))/\aR w.heap.size w W/\w.heap.size+4<=W.heap.size
def aA0(w:aI)(f:Nat):OwnFrom (w+4) (aZ4 w f):=OwnFrom.and (Own.from (holdsRow_own (w+4) w 33 3 1 (λpre:List (Nat×Nat)=>pre.length) (λpre=>fJ (pre.map Prod.fst)) (λ_ _=>True)) _)
 (OwnFrom.and (Own.from (boxed_own (w+1) 3 (λpre:List (Nat×Nat)=>.int .i64 (((pre.getLast?).map Prod.snd).getD f:Nat))) _) (OwnFrom.and (ownFrom_below dQ (by omega)) (λ_ _ _ _ b a _=>aM b a.size)))
def ai6{u z u':aN}{X Y:List aN}{b:Obj}(C:Boxed w n 33 v)(d:w.ownsRow (n+4) 3 1 v m X)(A:Boxed w (n+1) 3 z)(B:n+4<=w) (f:x.ownsRow (n+4) 3 1 u k Y) (a:(w.alloc b).grownBy x v.ownBlock) :(Boxed x n 33 v/\Boxed x (n+1) 3 z)/\Boxed (x.setCell (zp n) u) (n+1) 3 z/\(Boxed ((x.setCell (zp n) u).setCell (zp (n+1)) u') n 33 u/\((x.setCell (zp n) u).setCell (zp (n+1)) u').ownsRow (n+4) 3 1 u k Y/\Boxed ((x.setCell (zp n) u).setCell (zp (n+1)) u') (n+1) 3 u'/\(∀K,KeepsFrom K w ((x.setCell (zp n) u).setCell (zp (n+1)) u'))/\AO (n+1+1) w ((x.setCell (zp n) u).setCell (zp (n+1)) u')/\aR n w ((x.setCell (zp n) u).setCell (zp (n+1)) u')):=by
 have c:=dH d;have D:some n≠v.ownBlock:=λe=>(by have:=c n e.symm;omega);have E:some (n+1)≠v.ownBlock:=λe=>(by have:=c _ e.symm;omega);have F:some (n+1+1)≠v.ownBlock:=λe=>(by have:=c _ e.symm;omega);have i:Boxed x n 33 v:=(C.alloc b).kept a D;have l:Boxed x (n+1) 3 z:=(A.alloc b).kept a E;have q:Boxed (x.setCell (zp n) u) (n+1) 3 z:=l.other (by omega) u;refine⟨⟨i,l⟩,q,(i.set u).other (by omega) u',ownsRow_setCell_below (ownsRow_setCell_below f (by show n<n+4;omega) _) (by show n+1<n+4;omega) _,q.set u',λK=>?_,?_,?_⟩
 .refine((((KeepsOthers.alloc w b).trans (KeepsOthers.of_grownBy a λj o r s=>?_)).trans (KeepsOthers.setCell _ _ _)).trans (KeepsOthers.setCell _ _ _)).from K;rcases(d.alloc b).2 with⟨rfl,_⟩|⟨g,t,y,rfl,_,h,_⟩
  .simp[Value.ownBlock]at r
  obtain rfl:g=j:=(by simpa[Value.ownBlock]using r);rw[h]at s;cases s;rfl
 .unfold AO;rw[aU _ _ _ _ (by show n+1+1≠n+1;omega),aU _ _ _ _ (by show n+1+1≠n;omega)];exact(a.block _ (by simp;omega) F).trans (n8 w b _ (by omega))
 exact(((((bR n w).alloc (by omega) b).grown a (by simp;omega) (λG e=>by have:=c G e;omega)).setCell (p:=zp n) dQ u).setCell (p:=zp (n+1)) (by show n<=n+1;omega) u')
def ah7(s:aS)(a:Int)(w:aI)(hs:s.size<=1000000000000)(ha:-9223372036854775808<=a/\a<=9223372036854775807):Calls prog 168 #[s,a] w (bR8 (lb s) a w):=by
 obtain⟨ha1,ha2⟩:=ha;by_cases hsh:a<0\/(s.size:Int)<a
 .have h1:wAt (lb s) a=[]:=by unfold wAt;rw[aV (by rw[bI];exact hsh)]
  have h2:QR (lb s) a=0:=by unfold QR;rw[aV (by rw[bI];exact hsh)]
  have H1:=aH h1;have H2:=aH h2;clear h1 h2;rcases(show a<0\/(¬a<0/\(s.size:Int)<a)from by omega)with h|⟨h,h'⟩
  all_goals
   clear hsh;go_in;go_wp2;refine bE (v:=.tuple #[.slice none 0 0,.int .i64 0]) (by simp[results,results168,go_sem]) rfl ⟨_,bX4 (by rw[H2.out];rfl),?_,((bR _ _).alloc (cV _) _).alloc (by simp) _⟩;rw[H1.out];exact Reads.nil _ _
 obtain⟨f,rfl⟩:=cR (a:=a) (by omega);have hf:f<=s.size:=by omega
 have hk1:decide (s.size<f)=false:=by rw[cN];omega
 have hk0:decide ((f:Int)<0)=false:=by rw[cN];omega
 obtain⟨i0,hi0,hz0,hz1,hz2⟩:=info_parts cg5;refine(callsIn_wide (n:=5)).1 ?_;refine callsIn_of_wp_marks func168 rfl trivial ?_ rfl;simp only[ntmps168,sH,cE,kG,Nat.reduceAdd,Nat.reduceSub,IF,IE,OM,JU,qA,l8];clear hsh
 gi_wp2_with fail
 refine⟨trivial,?_⟩;refine(callsIn_wide.2 (bZ2 _ _ _)).mono ?_;rintro e w1 ⟨rfl,rfl⟩
 gi_wp2_with fail
 obtain⟨W0,hW0⟩:∃W0,W0=((((w.alloc (Obj.cells #[Value.slice none 0 0] 33)).alloc (Obj.cells #[Value.int IntKind.i64 (f:Int)] 3)).alloc (Obj.cells #[Value.string s] 9)).alloc (Obj.cells #[Value.int IntKind.i64 (f:Int)] 3)):=⟨_,rfl⟩;have b4:Boxed W0 w.heap.size 33 (.slice none 0 0):=by rw[hW0];exact(((Boxed.new w _ _).alloc _).alloc _).alloc _
 have b5:Boxed W0 (w.heap.size+1) 3 (.int .i64 (f:Int)):=by
  rw[hW0];have:=Boxed.new (w.alloc (Obj.cells #[Value.slice none 0 0] 33)) 3 (.int .i64 (f:Int));rw[bD]at this;exact(this.alloc _).alloc _
 have bS:Boxed W0 (w.heap.size+1+1) 9 (.string s):=by
  rw[hW0];have:=Boxed.new ((w.alloc (Obj.cells #[Value.slice none 0 0] 33)).alloc (Obj.cells #[Value.int IntKind.i64 (f:Int)] 3)) 9 (.string s);rw[bD,bD]at this;exact this.alloc _
 have bF:Boxed W0 (w.heap.size+1+1+1) 3 (.int .i64 (f:Int)):=by
  rw[hW0];have:=Boxed.new (((w.alloc (Obj.cells #[Value.slice none 0 0] 33)).alloc (Obj.cells #[Value.int IntKind.i64 (f:Int)] 3)).alloc (Obj.cells #[Value.string s] 9)) 3 (.int .i64 (f:Int));rw[bD,bD,bD]at this;exact this
 have hB0:aR w.heap.size w W0:=by
  rw[hW0];exact((((bR _ w).alloc (cV _) _).alloc (by simp) _).alloc (by simp;omega) _).alloc (by simp;omega) _
 have hsz:W0.heap.size=w.heap.size+4:=by rw[hW0];simp
 rw[<-hW0];clear hW0;refine wpIn_rangeFunc_ownG rfl (by omega) (gf:=277) (lb:=#[.pointer (some ⟨w.heap.size+1+1+1,0,none⟩),.pointer (some ⟨w.heap.size+1+1,0,none⟩)]) rfl trivial (enters_of func277 (by kernel_rfl) rfl)
  (bF3 _ (by omega) (w.heap.size+1+1) (w.heap.size+1+1+1) s f hs hf W0 bS bF) bl4 (bl5 (by omega)) (bR _ _) (fun _=>rfl)
  (aZ4 w f) (fun _ _ _=>False)
  ?own (fun _ _ _ _ _ hs _ _=>hs)
  ⟨⟨_,b4,bM _ _ _ _,trivial⟩,b5,hB0,by omega⟩
  (fun x=>{tmps:=#[.string s,.int .i64 (f:Int),undef,undef,.pointer (some ⟨w.heap.size,0,none⟩),.pointer (some ⟨w.heap.size+1,0,none⟩),.int .i64 ((x.1:Nat):Int),.int .i64 ((x.2:Nat):Int),.int .i64 (f:Int),.bool false,.bool false,.int .i64 (f:Int),.string s,.int .i64 (s.size:Int),.bool false,.bool false,.int .i64 (f:Int),.string s,.int .i64 (f:Int),
   .func (.func 277) #[] #[.pointer (some ⟨w.heap.size+1+1+1,0,none⟩),.pointer (some ⟨w.heap.size+1+1,0,none⟩)],.int .i64 ((x.1:Nat):Int),.int .i64 ((x.2:Nat):Int),undef,undef,undef,undef,undef,undef,undef],defers:=[]}) ?assign ?body ?done ?stop
 case own=>rw[hsz];exact aA0 w f
 case assign=>
  intro l x W K hK
  gi_wp2
  exact hK
 case body=>
  rintro l pre x W ⟨⟨v,hv,hrow,-⟩,h5,hB,hszW⟩ hlt;have hc:=hv.cell
  gi_wp2_with (gi_at_builtin;refine wpListIn_append_own _ rfl _ _ 33 rfl (w.heap.size+4) 3 i0 (.int .i64 0) 1 8 underlying33 hi0 hz0 hz1 hz2 rfl (by decide) _ _ _ rfl (hrow.alloc _) ⟨W.heap.size,0,none⟩ 1 1 [.int .i64 ((x.1:Nat):Int)] rfl rfl (cl2 _ _ _) (by intro u hu;simp at hu;subst hu;rfl) (by unfold maxLen;omega) (by omega) (by simp;omega) ?_;intro v' w1 hown' hgrow _;obtain⟨g',cap',rfl⟩:=ownsRow_succ hown';obtain⟨⟨hv1,h51⟩,h52,hfin⟩:=ai6 (u':=.int .i64 ((x.2:Nat):Int)) hv hrow h5 hszW hown' hgrow;have hc1:=hv1.cell;have hf1:=hv1.frozen;have hc2:=h52.cell;have hf2:=h52.frozen)
  obtain⟨g1,g2,g3,g4,g5,g6⟩:=hfin;refine⟨g4 _,g5,⟨_,g1,by rw[iC,dU,xY,yM,aO];exact g2,trivial⟩,by simpa using g3,hB.trans g6,aM hszW (g4 0).size⟩
 case done=>
  rintro D ys W hD hS ⟨⟨v,hv,hrow,-⟩,h5,hB,hszW⟩ hK;have hc:=hv.cell;have hc5:=h5.cell;have hf:=hv.frozen;have hf5:=h5.frozen;obtain⟨A,c,rfl⟩:∃A c,v=.slice A ys.length c:=by
   rcases hrow.2 with⟨rfl,hn⟩|⟨g,cap,cur,rfl,_⟩
   .exact⟨none,0,by rw[hn]⟩
   exact⟨_,_,rfl⟩
  have Hrow:=aH hrow;have HS:=aH hS;have HK:=aH hK;clear hrow hS hK
  gi_wp2
  gi_region
  gi_wp2
  obtain⟨u,hu⟩:∃u:Nat,u=((ys.getLast?).map Prod.snd).getD f:=⟨_,rfl⟩;rw[<-hu]at h5 hc5|-;have b1:=(hv.set (.slice A ys.length c)).other (B':=w.heap.size+1) (by omega) (.int .i64 (u:Int));have b2:=(h5.other (B':=w.heap.size) (by omega) (.slice A ys.length c)).set (.int .i64 (u:Int));have hK2:((W.setCell ⟨w.heap.size,0,none⟩ (.slice A ys.length c)).setCell ⟨w.heap.size+1,0,none⟩ (.int .i64 (u:Int))).drew.heap[D]?=some (.deferred (some [])):=
   (((KeepsOthers.setCell W ⟨w.heap.size,0,none⟩ (.slice A ys.length c)).trans (KeepsOthers.setCell _ ⟨w.heap.size+1,0,none⟩ (.int .i64 (u:Int)))).trans (KeepsOthers.drew _)).same D _ HK.out rfl
  have hr2:((W.setCell ⟨w.heap.size,0,none⟩ (.slice A ys.length c)).setCell ⟨w.heap.size+1,0,none⟩ (.int .i64 (u:Int))).ownsRow (w.heap.size+4) 3 1 (.slice A ys.length c) ys.length (fJ (ys.map Prod.fst)):=
   ownsRow_setCell_below (ownsRow_setCell_below Hrow.out (by show w.heap.size<w.heap.size+4;omega) _) (by show w.heap.size+1<w.heap.size+4;omega) _
  have hB2:aR w.heap.size w ((W.setCell ⟨w.heap.size,0,none⟩ (.slice A ys.length c)).setCell ⟨w.heap.size+1,0,none⟩ (.int .i64 (u:Int))):=(hB.setCell (p:=⟨w.heap.size,0,none⟩) (cV _) _).setCell (p:=⟨w.heap.size+1,0,none⟩) (by show w.heap.size<=w.heap.size+1;omega) _;generalize ((W.setCell ⟨w.heap.size,0,none⟩ (.slice A ys.length c)).setCell ⟨w.heap.size+1,0,none⟩ (.int .i64 (u:Int)))=W2 at b1 b2 hK2 hr2 hB2|-;have hD4:w.heap.size+4<=D:=by omega
  have q0:∀o,(W2.drew.putObj D o).cell? ⟨w.heap.size,0,none⟩=some (.slice A ys.length c):=fun o=>(dK (World.putObj_heap_other (by show w.heap.size≠D;omega))).trans b1.cell;have q1:∀o,(W2.drew.putObj D o).cell? ⟨w.heap.size+1,0,none⟩=some (.int .i64 (u:Int)):=fun o=>(dK (World.putObj_heap_other (by show w.heap.size+1≠D;omega))).trans b2.cell;have e1:wAt (lb s) (f:Int)=ys.map Prod.fst:=HS.out.1;have e2:QR (lb s) (f:Int)=u:=by rw[HS.out.2,hu]
  refine⟨by simp,.inl ⟨_,_,rfl,run_takeDeferred hK2,?_⟩⟩;refine⟨.tuple #[.slice A ys.length c,.int .i64 (u:Int)],by simp[results,results168,go_sem,q0,q1],?_⟩;refine⟨_,bX4 (by rw[e2]),?_,hB2.trans ((below_drewN (bR _ _) 1).trans (belowK_b (w:=w) (cV _) W2.drew D _ _ (by omega) hK2 rfl rfl))⟩;rw[e1,gK];exact Reads.cX (ownsRow_putObj hr2.drew _ hK2 rfl)
 case stop=>
  rintro D c pre W _ _ h _;exact h.elim
end
def tR(w:aI)(o:Obj):aR w.heap.size w (w.alloc o):=(bR _ _).alloc (cV _) _
def WJ(n:Int)(w:aI)(r:-9223372036854775808<=n/\n<=9223372036854775807):Calls prog 166 #[n] w λe s=>e=(bs (fC n))/\aR w w s:=by
 have⟨j,l⟩:=r;by_cases h:n<0\/199<n
 .rw[aa1 h];rcases(show n<0\/(¬n<0/\(200:Int)<=n)from by omega)with h|⟨h,t⟩
  all_goals
   go_in;go_wp2;go_ret;exact⟨rfl,iH⟩
 obtain⟨k,rfl⟩:=cR (a:=n) (by omega);have u:decide ((200:Int)<=k)=false:=(by rw[cN];omega);have p:decide ((k:Int)<0)=false:=(by rw[cN];omega);rw[ap9 (by omega)];have q:(k:Int)<=9223372036854775807:=(by omega);clear h j l;go_in;go_wp2_with fail
 go_call tM _ _ _ (by omega) (by omega) as e w1 ⟨rfl,m⟩;have f:qY ((k:Nat):Int).toNat 4=be 4 k:=bG0 _;rw[f];clear f;have⟨X,b⟩:=fR (bs (be 4 k));have c:X.size=4:=(by rw[b,eO];simp);rw[<-b];have g:=aH b;clear b;go_wp2_with fail
 go_call C2 _ _ (by rw[XI,c];decide) as e w2 ⟨rfl,o⟩;have⟨Y,d⟩:=fR (bs (kU (lb (⟨#[99,104,110,107]⟩++X))));rw[<-d];have i:=aH d;clear d;go_wp2;go_ret;refine⟨zI ?_,?_⟩
 .rw[i.zz,g.zz];rfl
 repeat (first|assumption|exact bR _ _|(refine aK (by assumption) ?_))
def aa3(a b:aS)(w:aI)(d:a<=maxLen)(f:b<=maxLen):Calls prog 235 #[a,b] w λe g=>e=(pre (lb a) (lb b))/\w=g:=by
 unfold maxLen at d f;by_cases h:b.size<=a.size
 .have c:(b.size:Int)<=a.size:=by omega
  have e:((a.extract 0 b.size).toList==b.toList)=pre (lb a) (lb b):=by unfold pre;rw[bI,bI,bZ h,fQ,dY,GF,mQ,uN,jL]
  have E:=aH e;clear e;go_in;go_wp2;go_ret;exact⟨aI9 E,rfl⟩
 have c:¬(b.size:Int)<=a.size:=(by omega);have e:false=pre (lb a) (lb b):=(by unfold pre;rw[bI,bI,bN h];rfl);have E:=aH e;clear e;go_in;go_wp2;go_ret;exact⟨aI9 E,rfl⟩
def hasPrefix(a b:aS)(w:aI)(d:a<=maxLen)(f:b<=maxLen):Calls prog 167 #[a,b] w λe c=>e=(pre (lb a) (lb b))/\w=c:=by
 go_in;go_wp2_with fail
 go_call aa3 _ _ _ d f as e c ⟨rfl,rfl⟩;go_wp2;go_ret;exact⟨rfl,rfl⟩
variable{Q:List bB}
def DB(l:List bB)(n:Int)(w:aI)(e:eY)(a:aI):Prop:=∃v,e=.returned (.tuple #[v,.int .i64 (aj8 l n),.bool (cOk l n)])/\Reads a v 1 (cAt l n).length (fJ (cAt l n))/\aR w.heap.size w a
def am2{b:Bool}(h:WL Q e=false)(f:cOk Q e=b)(d:aR w w x):DB Q e w (.returned (.tuple #[zs,(),b])) x:=by have a:cAt Q e=[]:=(by unfold cAt;rw[h];rfl);have c:aj8 Q e=0:=(by unfold aj8;rw[h];rfl);unfold DB;rw[a,c,f];exact⟨_,rfl,Reads.nil _ _,d⟩
def bD4(h:WL Q e=true)(f:Reads x v 1 (wAt Q 12) (fJ (wAt Q 12)))(d:aR w w x):DB Q e w (.returned (.tuple #[v,QR Q 12,true])) x:=by
 have a:cAt Q e=wAt Q 12:=(by unfold cAt;rw[h];rfl);have b:aj8 Q e=QR Q 12:=by unfold aj8;rw[h];rfl
 have c:cOk Q e=true:=by unfold WL at h;unfold cOk;rw[bL]at h;rw[h.1,h.2];rfl
 unfold DB;rw[a,b,c];exact⟨_,rfl,f,d⟩
def WI(s:aS)(n:Int)(w:aI)(G:s.size<=1000000000000)(F:-9223372036854775808<=n/\n<=9223372036854775807):Calls prog 111 #[s,n] w (DB (lb s) n w):=by
 have j:fC n=[]\/(fC n).length=12:=by
  by_cases h:n<0\/199<n
  .exact .inl (aa1 h)
  obtain⟨k,rfl⟩:=cR (a:=n) (by omega);exact .inr (jZ (by omega))
 have u:WL (lb s) n=((fC n != [])&&pre (lb s) (fC n)):=rfl;have x:cOk (lb s) n=((fC n != [])&&(pre (lb s) (fC n)||pre (fC n) (lb s))):=rfl;have r:=WJ n w F;generalize fC n=H at j u x r;have⟨q,A,p⟩:=aB u x r;clear u x r;have m:s<=maxLen:=(by unfold maxLen;omega);rcases j with rfl|v
 .go_in;go_wp2_with fail
  go_call p as e E ⟨rfl,b⟩;go_wp2;go_ret3;exact am2 (by rw[q.zz];rfl) (by rw[A.zz];rfl) b
 have l:(H != [])=true:=(by rw[sW];rintro rfl;simp at v);have C:(H==[])=false:=(by rw[bA];rintro rfl;simp at v);have i:(bs H)<=maxLen:=(by rw[eO,v];decide);have⟨g,d,c⟩:=aB l m i;clear l m i;rcases o:pre (lb s) H with _|_
 .rcases B:pre H (lb s)with _|_
  all_goals
   have⟨f,z⟩:=aA o B;clear o B;go_in;(go_wp2_with fail);go_call p as e E ⟨rfl,b⟩;(go_wp2_with fail);go_call hasPrefix _ _ _ d c as e D ⟨rfl,rfl⟩;rw[gP,f.zz];(go_wp2_with fail);go_call hasPrefix _ _ _ c d as e D ⟨rfl,rfl⟩;rw[gP,z.zz];go_wp2;go_ret3;exact am2 (by rw[q.zz,f.zz];simp) (by rw[A.zz,g.zz,f.zz,z.zz];rfl) b
 have f:=aH o;clear o;go_in;go_wp2_with fail
 go_call p as e E ⟨rfl,b⟩;go_wp2_with fail
 go_call hasPrefix _ _ _ d c as e D ⟨rfl,rfl⟩;rw[gP,f.zz];go_wp2_with fail
 go_call ah7 _ _ _ G (by decide) as e w2 ⟨I,rfl,y,t⟩;go_wp2;go_ret3;exact bD4 (by rw[q.zz,f.zz,g.zz];rfl) y (aK b t)
def aV1(n:Int)(s:aS)(w:aI)(l:-9223372036854775808<=n/\n<=9223372036854775807)(j:s<=maxLen):Calls prog 141 #[n,s] w λe m=>e=(yF n s)/\w=m:=by
 unfold maxLen at j;have⟨c,d⟩:=l;by_cases a:0<=n
 .obtain⟨k,rfl⟩:=cR a;by_cases f:k<=4096
  .by_cases i:s.size<=2000
   iterate 2
    ·(try (have e:yF k s=false:=by unfold yF;rw[cN];omega));have b:decide ((k:Int)<=4096)=true:=by rw[decide_eq_true_iff];omega
     (first|((have g:decide ((s.size:Int)<=2000)=true:=by rw[decide_eq_true_iff];omega);(have h:decide ((s.size:Int)+12<=4096-k)=yF k s:=by unfold yF;rw[decide_eq_decide];omega);(have o:(k:Int)<=4096:=by omega);(have p:(s.size:Int)<=2000:=by omega);generalize yF k s=F at h|-;clear a f i c d j)|((have g:decide ((s.size:Int)<=2000)=false:=by rw[cN];omega);(rw[e];clear e a f i c d)));go_in;go_wp2;go_ret;exact⟨rfl,rfl⟩
  have e:yF k s=false:=(by unfold yF;rw[cN];omega);have b:decide ((k:Int)<=4096)=false:=(by rw[cN];omega);rw[e];clear e a f c d;go_in;go_wp2;go_ret;exact⟨rfl,rfl⟩
 have e:yF n s=false:=(by unfold yF;rw[cN];omega);have b:decide ((0:Int)<=n)=false:=(by rw[cN];omega);rw[e];clear e a c d;go_in;go_wp2;go_ret;exact⟨rfl,rfl⟩
section
open Go.Shelf
attribute [local go_sem] Oper.semAt_some
def bq0(h n a:Int)(w:aI):Calls prog 304 #[zu h,n,a] w λe b=>e=.returned (.func (.func 310) #[] #[zp (w+1),zp w,zp (w+1+1)])/\((w.alloc (.cells #[zu h] 23)).alloc (.cells #[n] 3)).alloc (.cells #[a] 3)=b:=by go_in;go_wp2;go_ret;exact⟨rfl,rfl⟩
def s7(h B k:Nat):List Nat:=(List.range k).map fun i=>prN h i B
@[simp] def cf0(h B k:Nat):(s7 h B k)=k:=by simp[s7]
def RG(h B k:Nat):s7 h B (k+1)=s7 h B k++[prN h k B]:=by simp[s7,sD]
abbrev WV(B:Nat):={b:Nat // b<B}
def TD(a:List (WV n)):List Nat:=a.map Subtype.val
def TC(a:List (WV n))(x:WV n):TD (a++[x])=TD a++[x.1]:=by simp[TD]
def UU(a b c:Nat)(W d:aI):Prop:=d.heap[a]?=W.heap[a]?/\d.heap[b]?=W.heap[b]?/\d.heap[c]?=W.heap[c]?
def cf8(h:UU n k m w x)(a:UU n k m x y):UU n k m w y:=⟨a.1.trans h.1,a.2.1.trans h.2.1,a.2.2.trans h.2.2⟩
def cf9(b:n<w)(c:k<w)(d:m<w)(W:aI)(l:Nat)(o a:Obj)(f:w<=l)(_:W.heap[l]?=o)(_:o.isCells=false)(_:o.isWalk=false):UU n k m W (W.putObj l a):=⟨World.putObj_heap_other (λe=>by omega),World.putObj_heap_other (λe=>by omega),World.putObj_heap_other (λe=>by omega)⟩
def aW3(n:Nat)(hn:1<=n)(l A z y:Nat)(h:Nat)(hh:h<18446744073709551616)(m:Int)(hm:-9223372036854775808<=m/\m<=9223372036854775807)(B:Nat)(S:0<B)(Y:(B:Int)<=9223372036854775807)(J Q:List (WV B)->aI->Prop) (W:aI) (hJ:AbidesFrom W J) (hY:∀pre x G,J pre G->pre.length<64->YieldAt Fence.wide (n-1) prog l #[((x.1:Nat):Int)] G λe j=>(e=true/\J (pre++[x]) j/\UU A z y G j)\/(e=false/\Q (pre++[x]) j)) (O:Boxed W A 3 m) (N:Boxed W z 23 (zu h)) (L:Boxed W y 3 B) (X:J [] W) :CallsIn Fence.wide n prog 310 #[.func (.yield l) #[] #[],zp A,zp z,zp y] W λe j=>(∃v,e=.returned v)/\((∃V:List (WV B),TD V=s7 h B (JK m)/\J V j)\/(∃pre:List (WV B),(∃k,k<=JK m/\TD pre=s7 h B k)/\Q pre j)):=by
 have⟨h2,h3⟩:=hm;obtain⟨M,Z⟩:∃M:Int,(if(64:Int)<m then(64:Int)else m)=M:=⟨_,rfl⟩;have K:M<=64/\(JK m:Int)=(if M<0 then 0 else M):=by
  unfold JK;rw[<-Z];constructor
  .split<;>omega
  split<;>split<;>omega
 have⟨h1,d⟩:=K;refine callsIn_of_wp func310 rfl trivial ?_ rfl;simp only[ntmps310,sH,cE,kG,Nat.reduceAdd,Nat.reduceSub,IF,IE,OM,JU,qA,l8]
 gi_wp2
 gi_loopw [5] (λp wr=>∃(pre:List (WV B)) (k:Nat),p=.int .i64 k/\k<=JK m/\TD pre=s7 h B k/\Boxed wr A 3 (.int .i64 m)/\Boxed wr z 23 (.int .u64 h)/\Boxed wr y 3 (.int .i64 B)/\J pre wr) (λp wr=>64-(intOf p).toNat)
 .exact⟨[],0,rfl,bK _,rfl,O,N,L,X⟩
 obtain⟨pre,k,rfl,hk,c,w,u,s,o⟩:=hrel;have c1:=w.cell;have c2:=u.cell;have c3:=s.cell;have h4:pre.length=k:=(by have:=gQ List.length c;simpa[TD]using this);have a:=aH c;clear c;by_cases r:(k:Int)<M
 .have i:k<JK m:=(by split at d<;>omega);have T:k<64:=(by omega);have H:=aw9 h k B S;have⟨b,D⟩:=fR (prN h k B);have f:b<B:=(by rw[D];exact bh3 h k S);rw[<-D]at H;have⟨P,E⟩:=aA D H;clear D H d
  gi_wp2_with fail
  refine⟨trivial,?_⟩;refine(callsIn_wide.2 (SP _ _ _ _ hh (by omega) (by omega))).mono ?_;rintro e w1 ⟨rfl,rfl⟩;rw[E.zz];have⟨fn,U,C,R,hy,hR⟩:=hY pre ⟨b,f⟩ _ o (by omega);dsimp only at hy
  gi_wp2
  refine hR.mono ?_;rintro e W3 (⟨rfl,I,g⟩|⟨rfl,q⟩)
  .gi_wp2
   go_roundw
   .exact⟨pre++[⟨b,f⟩],k+1,by go_num,by omega,by rw[TC,a.zz,RG];exact gQ (λt=>s7 h B k++[t]) P,Eq.trans g.1 w,Eq.trans g.2.1 u,Eq.trans g.2.2 s,I⟩
   simp[intOf];omega
  .gi_wp2
   refine bE (results_none rfl _ _ _) rfl ?_;exact⟨⟨_,rfl⟩,.inr ⟨pre++[⟨b,f⟩],⟨k+1,by omega,by rw[TC,a.zz,RG];exact gQ (λt=>s7 h B k++[t]) P⟩,q⟩⟩
 have i:k=JK m:=(by split at d<;>omega);have hd:decide ((k:Int)<M)=false:=(by rw[cN];exact r);have F:=aH i;clear d r i
 gi_wp2
 go_end0;exact⟨⟨_,rfl⟩,.inl ⟨pre,by rw[a.zz,F.zz],o⟩⟩
def aW2(n:Nat)(u:1<=n)(c b a:Nat)(h:Nat)(s:h<18446744073709551616)(m:Int)(t:-9223372036854775808<=m/\m<=9223372036854775807)(B:Nat)(p:0<B)(g:(B:Int)<=9223372036854775807)(w:aI) (f:Boxed w c 3 m) (e:Boxed w b 23 (zu h)) (d:Boxed w a 3 B) :SeqStopsK Fence.wide n prog 310 #[zp c,zp b,zp a] (λx:WV B=>#[Value.int .i64 ((x.1:Nat):Int)]) (UU c b a) (λv=>TD v=s7 h B (JK m)) (λpre=>∃k,k<=JK m/\TD pre=s7 h B k) 64 w:=λl J j W i q _ r o=>
 aW3 n u l c b a h s m t B p g J j W q r ((i.block c f.lt).trans f) ((i.block b e.lt).trans e) ((i.block a d.lt).trans d) o
end
end Go.Proofs.YtpopikndggffaaaGreatDoor
