/- TOP, part 20. -/
import Derived.Lib.SmallJoins
import Derived.Test.YtpopikndggffaaaGreatDoorGt18
namespace Go.Proofs.YtpopikndggffaaaGreatDoor
set_option linter.all false
set_option maxRecDepth 100000
set_option maxHeartbeats 16000000
open Go.RowKit Go.Maps Tryz
variable{c i j k m n:Nat}{w x:aI}
structure cQ9 where
 kind:Nat
 s:aS
 a:Int
 b:Int
 l:List Ev
abbrev ag6:=aN×cQ9
def aX7(p:ag6):List aN:=[.int .u8 (p.2.kind:Int),.string p.2.s,.int .i64 p.2.a,.int .i64 p.2.b,p.1]
def cm8(p:ag6):(aX7 p).length=5:=rfl
def by9(w:aI)(p:ag6):Prop:=Y2 w p.1 p.2.l/\p.2.kind<256/\p.2.s.size<=maxLen/\(-9223372036854775808<=p.2.a/\p.2.a<=9223372036854775807)/\(-9223372036854775808<=p.2.b/\p.2.b<=9223372036854775807)
def ag5(w:aI)(v:aN)(X:List ag6):Prop:=Reads w v 5 X.length (X.flatMap aX7)/\∀p∈X,by9 w p
def by9.next{w:aI}{p:ag6}(h:by9 w p)(a:aR w w x):by9 x p:=⟨h.1.next a,h.2⟩
def ag5.next{w:aI}{v:aN}{X:List ag6}(h:ag5 w v X)(a:aR w w x):ag5 x v X:=⟨h.1.next a,λp b=>(h.2 p b).next a⟩
def ag5.later{w:aI}{A:Option Addr}{n c:Nat}{X:List ag6}(h:ag5 w (.slice A n c) X)(g:0<X.length):∃b a,A=zp b a/\b<w.heap.size/\∀(i:Nat)(p:ag6),X[i]?=p->∀d:aI,aR w w d->d.cell? (zp b (a+i*5))=some (.int .u8 (p.2.kind:Int))/\d.cell? (zp b (a+i*5+1))=p.2.s/\d.cell? (zp b (a+i*5+2))=p.2.a/\d.cell? (zp b (a+i*5+3))=p.2.b/\d.cell? (zp b (a+i*5+4))=p.1:=by have⟨b,a,j,f,l⟩:=(Reads.each cm8 h.1).2.2.2 g;refine⟨b,a,j,f,λi e m d k=>?_⟩;have h:=l i e m d k;exact⟨by simpa[aX7]using h 0 (by omega),by simpa[aX7,gC]using h 1 (by omega),by simpa[aX7,gC]using h 2 (by omega),by simpa[aX7,gC]using h 3 (by omega),by simpa[aX7,gC]using h 4 (by omega)⟩
def bd5(p:ag6):Prop:=p.2.s.size<=300/\p.2.l.length<=20
def bw4(h:wrap64 ((k:Int)+1)=(k:Int)+1)(a:k<n):n-(intOf (wrap64 ((k:Int)+1))).toNat<n-(intOf k).toNat:=by rw[h];show n-((k:Int)+1).toNat<n-((k:Int)).toNat;omega
def cJ7(X:List ag6)(a:Nat)(e:eY):Prop:=∃b,e=.returned (.bool b)/\(b=false->X.length<=a/\∀p∈X,bd5 p)
def bL5(v:aN)(X:List ag6)(a:Nat)(w:aI)(h:ag5 w v X)(U:a<=1000):Calls prog 9 #[v,a] w λe w'=>w=w'/\cJ7 X a e:=by
 obtain⟨A,c,rfl,y,z,-⟩:=id h.1;have⟨n,M⟩:=fR X.length;have⟨I,H⟩:=aA M h;unfold maxLen at z;have G:n<=9223372036854775807:=(by omega);rw[<-M]at y|-;clear h M;have J:=aH G;have h1:(a:Int)<=1000:=(by omega);clear G y z;go_in;go_wp2_with fail
 go_loopw [5] (λi wr=>∃k:Nat,k<=n/\i=.int .i64 k/\(∀m p,m<k->X[m]?=some p->bd5 p)/\wr=w) (λi _=>n-(intOf i).toNat)
 .exact⟨0,by omega,rfl,λm p U=>by omega,rfl⟩
 obtain⟨k,hk,rfl,l,rfl⟩:=hrel;have g:=aH l;clear l;by_cases E:k<n
 .have i1:(k:Int)<n:=(by omega);obtain⟨p,f⟩:∃p,X[k]?=some p:=⟨_,aJ (by have:=I.zz;omega)⟩;obtain⟨b,h2,rfl,x,d⟩:=H.later (by have:=I.zz;omega);obtain⟨-,c1,-,-,S⟩:=d k p f _ iH;have N:=H.zz.2 p (bC f);obtain⟨pv,⟨pk,P,pa,pb,u⟩⟩:=p;dsimp only at c1 S;obtain⟨s,-,t,-⟩:=N;dsimp only at s t;obtain⟨Ae,ce,rfl,C,o,-⟩:=id s.1;have⟨W,Z⟩:=aA s f;unfold maxLen at o t;have D:u.length<=9223372036854775807:=(by omega);have Y:=aH D;clear d s f C o D x t;by_cases g1:300<P.size
  .have j1:(300:Int)<P.size:=(by omega);go_wp2;go_ret;exact⟨rfl,true,rfl,λh=>by cases h⟩
  have j1:¬(300:Int)<P.size:=(by omega);by_cases g2:20<u.length
  .have V:(20:Int)<u.length:=(by omega);go_wp2;go_ret;exact⟨rfl,true,rfl,λh=>by cases h⟩
  have V:¬(20:Int)<u.length:=(by omega);have⟨q,O⟩:=fR u.length;rw[<-O]at V S;have R:=aH O;clear O;go_wp2_with fail
  go_loopw [6] (λi Q=>∃j:Nat,j<=q/\i=.int .i64 j/\Q=wr) (λi _=>q-(intOf i).toNat)
  .exact⟨0,by omega,rfl,rfl⟩
  obtain⟨j,hj,rfl,rfl⟩:=hrel;by_cases h0:j<q
  .have j3:(j:Int)<q:=(by omega);obtain⟨e,s⟩:∃e,u[j]?=some e:=⟨_,aJ (by have:=R.zz;omega)⟩;obtain⟨be,oe,rfl,-,B⟩:=W.later (by have:=R.zz;omega);obtain⟨d0,d1,-⟩:=B j e s _ iH;clear B s;have⟨K,L,e3⟩:=e;dsimp only at d0 d1;by_cases g3:300<K.size
   .have j4:(300:Int)<K.size:=(by omega);go_wp2;go_ret;exact⟨rfl,true,rfl,λh=>by cases h⟩
   have j4:¬(300:Int)<K.size:=(by omega);by_cases g4:300<L.size
   .have j5:(300:Int)<L.size:=(by omega);go_wp2;go_ret;exact⟨rfl,true,rfl,λh=>by cases h⟩
   have j5:¬(300:Int)<L.size:=(by omega);go_wp2;go_roundw
   .exact⟨j+1,by omega,by go_num,trivial⟩
   simp[intOf];omega
  obtain rfl:j=q:=(by omega);have hw:wrap64 ((k:Int)+1)=(k:Int)+1:=(by have:=J.zz;unfold wrap64;omega);go_wp2;go_roundw
  .
   refine⟨k+1,by omega,by go_num,λm p U f=>?_,trivial⟩;rcases cK m k with T|T
   .exact g m p T f
   obtain rfl:m=k:=(by omega);rw[Z.zz]at f;cases f;exact⟨by simp only[];omega,by simp only[];omega⟩
  exact bw4 hw E
 obtain rfl:k=n:=by omega
 have r:∀p∈X,bd5 p:=λp f=>by obtain⟨m,F,rfl⟩:=fH f;exact g m _ (by rw[I.zz];exact F) (aJ F)
 have HR:=aH r;clear r E hk;go_wp2;go_ret;refine⟨rfl,_,rfl,λh=>⟨by rw[<-I.zz];simp at h;omega,HR⟩⟩
variable{v:aN}
def al8(p:wN):(BD p).length=7:=rfl
def J8.later{w:aI}{A:Option Addr}{n c:Nat}{X:List wN}(h:J8 w (.slice A n c) X)(g:0<X.length):∃b a,A=zp b a/\b<w.heap.size/\∀(i:Nat)(p:wN),X[i]?=p->∀d:aI,aR w w d->d.cell? (zp b (a+i*7))=p.2.kind/\d.cell? (zp b (a+i*7+1))=p.2.name/\d.cell? (zp b (a+i*7+2))=p.2.a/\d.cell? (zp b (a+i*7+3))=p.2.b/\d.cell? (zp b (a+i*7+4))=p.1.1/\d.cell? (zp b (a+i*7+5))=p.1.2/\d.cell? (zp b (a+i*7+6))=p.2.text:=by have⟨b,a,j,f,l⟩:=(Reads.each al8 h.1).2.2.2 g;refine⟨b,a,j,f,λi e m d k=>?_⟩;have h:=l i e m d k;exact⟨by simpa[BD]using h 0 (by omega),by simpa[BD,gC]using h 1 (by omega),by simpa[BD,gC]using h 2 (by omega),by simpa[BD,gC]using h 3 (by omega),by simpa[BD,gC]using h 4 (by omega),by simpa[BD,gC]using h 5 (by omega),by simpa[BD,gC]using h 6 (by omega)⟩
def cA6{l:List Ev}{st:aS}(e:Y2 w v l)(h:st<=maxLen):ag5 (w.alloc (.cells #[.int .u8 0,st,(),(),v] 37)) (.slice (zp w) 1 1) [(v,⟨0,st,0,0,l⟩)]:=by
 have b:=Row.new w #[.int .u8 0,st,(),(),v] 37;have d:=cD w (.cells #[.int .u8 0,st,(),(),v] 37);refine⟨⟨_,_,rfl,dQ,by unfold maxLen;omega,rfl,λ_=>⟨w,0,rfl,b.lt,λj f=>?_⟩⟩,λp g=>?_⟩
 .have a:j<5:=(by simpa[aX7]using f);have c:=b.cell j (by simpa using a);rw[jC];rw[c];rfl
 rw[bP.1 g];exact⟨e.next d,by simp only;omega,h,by simp only;omega,by simp only;omega⟩
def cJ8(X:List wN)(a:Nat)(e:eY):Prop:=∃b,e=.returned (.bool b)/\(b=false->X.length<=a/\∀p∈X,UN p)
def aQ4(v:aN)(X:List wN)(most:Nat)(w:aI)(h:J8 w v X)(hm:most<=1000):Calls prog 6 #[v,most] w λe w'=>aR w w w'/\cJ8 X most e:=by
 obtain⟨A,c,rfl,hc1,hc2,-⟩:=id h.1;obtain⟨n,hn⟩:∃n,n=X.length:=⟨_,rfl⟩;have HN:=aH hn;have H:=aH h;unfold maxLen at hc2;have hnn:n<=9223372036854775807:=by omega
 rw[<-hn]at hc1|-;clear h hn;have HNN:=aH hnn;have hms:(most:Int)<=1000:=by omega
 clear hnn hc1 hc2;go_in;go_wp2_with fail
 go_loopw [5] (fun i wr=>∃k:Nat,k<=n/\i=.int .i64 (k:Int)/\(∀m p,m<k->X[m]?=some p->UN p)/\aR w.heap.size w wr) (fun i _=>n-(intOf i).toNat)
 .exact⟨0,by omega,rfl,fun m p hm=>by omega,bR _ _⟩
 obtain⟨k,hk,rfl,hall,hbw⟩:=hrel;have Hall:=aH hall;have HBW:=aH hbw;clear hall hbw;by_cases hlt:k<n
 .have i1:(k:Int)<n:=by omega
  obtain⟨p,hp⟩:∃p,X[k]?=some p:=⟨_,aJ (by have:=HN.out;omega)⟩;obtain⟨b,off,rfl,hblt,hcell⟩:=H.out.later (by have:=HN.out;omega);have hc9:=fun(x:dR wr)=>hcell k p hp x.it (aK HBW.out x.ok);have hok:=(H.out.2 p (bC hp)).next HBW.out;obtain⟨⟨pe,pk⟩,⟨kd,nm,pa,pb,pl,kp,tx⟩⟩:=p;dsimp only at hc9;obtain⟨he,hkp,-,-,hnm,-,-,htx⟩:=hok;dsimp only at he hkp hnm htx;obtain⟨Ae,ce,rfl,hce1,hce2,-⟩:=id he.1;obtain⟨Ak,ck,rfl,hck1,hck2,-⟩:=id hkp;have c1:=fun x=>(hc9 x).2.1;have c4:=fun x=>(hc9 x).2.2.2.2.1;have c5:=fun x=>(hc9 x).2.2.2.2.2.1;have c6:=fun x=>(hc9 x).2.2.2.2.2.2;have HE:=aH he;have HP:=aH hp;have HNM:=aH hnm;obtain⟨N5,hN5⟩:∃N5,N5=pl.length:=⟨_,rfl⟩;obtain⟨N6,hN6⟩:∃N6,N6=kp.length:=⟨_,rfl⟩;rw[<-hN5]at c4;rw[<-hN6]at c5;have H5:=aH hN5;have H6:=aH hN6;clear hcell hc9 he hp hce1 hce2 hck1 hck2 hblt hnm htx hkp hN5 hN6;have HS:=aH (fun(y:aI) (hy:aR wr.heap.size wr y)=>show y.cell? ⟨b,off+k*7+1,none⟩=some (.string nm)/\y.cell? ⟨b,off+k*7+4,none⟩=some (.slice Ae N5 ce)from⟨c1 ⟨y,hy⟩,c4 ⟨y,hy⟩⟩);have j5:∀(x:aI),aR wr.heap.size wr x->x.cell? ⟨b,off+k*7+5,none⟩=some (.slice Ak N6 ck):=fun x hx=>c5 ⟨x,hx⟩;have j6:∀(x:aI),aR wr.heap.size wr x->x.cell? ⟨b,off+k*7+6,none⟩=some (.string tx):=fun x hx=>c6 ⟨x,hx⟩;have J5:=aH j5;have J6:=aH j6;clear c1 c4 c5 c6 j5 j6;go_wp2_with fail
  have D0:aR wr.heap.size wr wr.drew:=(bR _ _).drew;go_region_held3 (fun z=>z.cell? ⟨b,off+k*7+1,none⟩=some (.string nm)/\z.cell? ⟨b,off+k*7+4,none⟩=some (.slice Ae N5 ce)) (first|(with_reducible exact HS.out _ (bR _ _))|(with_reducible exact HS.out _ D0)|(with_reducible exact HS.out _ (cD _ _))|(with_reducible exact HS.out _ (D0.alloc D0.size _))|(with_reducible exact HS.out _ (cD _ _).drew)|trace_state) (fail)
  go_wp2_with fail
  have hbz1:=cD wr (.cells #[.int .u8 0,.string nm,.int .i64 0,.int .i64 0,.slice Ae N5 ce] 37);have he2:=HE.out;rw[<-H5.out]at he2;have hGR:=bL5 _ _ 1 _ ((cA6 (st:=nm) (he2.next hbz1) HNM.out).next (bR _ _).drew) (by omega);rw[bD]at hGR;have hbz2:=(aK hbz1 (cD (wr.alloc (.cells #[.int .u8 0,.string nm,.int .i64 0,.int .i64 0,.slice Ae N5 ce] 37)) (.cells #[.int .u8 0,.string nm,.int .i64 0,.int .i64 0,.slice Ae N5 ce] 37))).drew;have k5:=J5.out _ hbz2;have k6:=J6.out _ hbz2;generalize hz2:((wr.alloc (.cells #[.int .u8 0,.string nm,.int .i64 0,.int .i64 0,.slice Ae N5 ce] 37)).alloc (.cells #[.int .u8 0,.string nm,.int .i64 0,.int .i64 0,.slice Ae N5 ce] 37)).drew=z2 at hGR hbz2 k5 k6|-;have HBZ:=aH (aK HBW.out hbz2);have hw:wrap64 ((k:Int)+1)=(k:Int)+1:=by have:=HNN.out;unfold wrap64;omega
  have HWR:=aH hw;clear hw hz2 hbz1 hbz2 he2 D0;refine hGR.mono ?_;rintro e w' ⟨rfl,bb,rfl,hbb⟩;have HBB:=aH hbb;clear hbb hGR;cases bb with
  |true=>
   go_wp2;go_ret;exact⟨HBZ.out,true,rfl,fun h=>by cases h⟩
  |false=>
   by_cases g1:300<tx.size
   .have j1:(300:Int)<tx.size:=(by omega);go_wp2;go_ret;exact⟨HBZ.out,true,rfl,fun h=>by cases h⟩
   have j1:¬(300:Int)<tx.size:=(by omega);by_cases g2:60<N6
   .have j2:(60:Int)<N6:=(by omega);go_wp2;go_ret;exact⟨HBZ.out,true,rfl,fun h=>by cases h⟩
   have j2:¬(60:Int)<N6:=(by omega);go_wp2;go_roundw
   .
    have hw:=HWR.out;refine⟨k+1,by omega,by go_num,fun m p hm hp=>?_,HBZ.out⟩;rcases cK m k with h9|h9
    .exact Hall.out m p h9 hp
    obtain rfl:m=k:=(by omega);rw[HP.out]at hp;cases hp;obtain⟨-,hsm⟩:=HBB.out trivial;obtain⟨q1,q2⟩:=hsm _ (bP.2 rfl);exact⟨q1,q2,by simp only;omega,by simp only;rw[<-H6.out];omega⟩
   exact bw4 HWR.out hlt
 obtain rfl:k=n:=by omega
 have hres:∀p∈X,UN p:=fun p hp=>by
  obtain⟨m,hm2,rfl⟩:=fH hp;exact Hall.out m _ (by rw[HN.out];exact hm2) (aJ hm2)
 have HR:=aH hres;clear hres hlt hk;go_wp2;go_ret;refine⟨HBW.out,_,rfl,fun h=>⟨by rw[<-HN.out];simp at h;omega,HR.out⟩⟩
variable{D:aL}{I:aZ}{G:cS}
structure J9(D:aL)(G:cS)(I:aZ)(aX:Nat)(C:List (List bH))(a:List kM):Prop where
 up:D.down=false
 whole:MH D.files C
 ok:KH C
 bV:G.bV=fB C
 ix:∃s P,sK D.files I aX s (dF C) P
 mU:lG a
 same:C.flatten=a.map jG
 yG:a.length<=1000
 KT:aX<18446744073709551616
def jJ.stP{aX k:Nat}{B:List kM}(h:jJ n aX k D G I (B.map jG) m)(d:lG B)(e:B.length<=1000)(f:aX<18446744073709551616):∃C,J9 D G I aX C B:=by have⟨C,P,c,a,b⟩:=h.st;exact⟨C,h.up,c.whole,c.log.ok,c.bV,⟨k,P,b⟩,d,a,e,f⟩
section
variable {D:aL}{G:cS}{I:aZ}{aX:Nat}{C:List (List bH)}{Bs:List kM}
def J9.told(h:J9 D G I aX C Bs):yZ (dF C)=Bs/\AZ (dF C)=Bs.flatMap dO:=cz6 h.mU h.same
def J9.GV(h:J9 D G I aX C Bs):(∀e∈fZ aX (dF C),wC e/\qF e=true)/\(∀r∈dF C,r.1<kF (fB C)/\rN r.2=true):=⟨(AD h.ok h.same (rG h.mU.uW) aX).1,(AD h.ok h.same (rG h.mU.uW) aX).2.2⟩
def J9.ab6(h:J9 D G I aX C Bs):(fZ aX (dF C)).length<=8000:=by have b:=CU (aX:=aX) (R:=dF C) λr a=>(h.GV.2 r a).2;have c:(dF C).length=Bs:=(by rw[sA,h.same,gK]);have d:=h.yG;omega
def J9.bu0(h:J9 D G I aX C Bs){r:lW}(d:r∈dF C):r.2.length<=2000:=by have a:r.2∈C.flatten:=(by rw[<-tZ];exact ak3 d);have⟨e,b,c⟩:=tS.1 a;exact h.ok.2.1 e b _ c
def J9.bu1(h:J9 D G I aX C Bs){r:lW}(a:r∈dF C):r.1+r.2+12<=1000000:=by have b:=GM h.ok a;have c:=h.ok.1;omega
def J9.ZN(h:J9 D G I aX C Bs):I.mem.length<=8000/\∀e∈I.mem,wC e/\qF e=true:=by have⟨s,P,b⟩:=h.ix;refine⟨aM (uS (vK b.PQ) λe a=>(b.all e).1 (.inl a)) h.ab6,λe a=>h.GV.1 e ((b.all e).1 (.inl a))⟩
def J9.cE6(h:J9 D G I aX C Bs){n:Nat}(b:n∈I.cZ.fP.flatten):n<=999999/\∃L,I.fI n=some L/\nJ D.files n L/\L.length<=8000:=by have⟨s,P,c⟩:=h.ix;have⟨L,d,f⟩:=c.fI n b;obtain⟨⟨j,k⟩,l,i⟩:=mM.1 c.cZ;have a:=f.may;unfold tN at a;simp only[bL]at a;exact⟨by have:=i n b;omega,L,d,f,aM (uS (vK a.1) λe g=>(c.all e).1 (.inr ⟨n,b,L,d,g⟩)) h.ab6⟩
def J9.place(h:J9 D G I aX C Bs){o:dB}{n:Nat}{a e:Int}(g:o∈FE I n a e):∃r∈dF C,o.2.2=(r.1:Int)/\L2 (dF C) o.2.2=r.2/\wC o/\∃i:Nat,i<(lH r.2).2.2/\o.2.1=(lH r.2).2.1+(i:Int):=by have⟨s,P,k⟩:=h.ix;have⟨l,f⟩:=TU k n a e;obtain⟨b,-⟩:=(f o).1 g;have⟨r,d,c⟩:=oC.1 b;unfold uY at c;obtain⟨i,j,rfl⟩:=dS.1 c;exact⟨r,d,rfl,am9 (rZ h.ok) d,(h.GV.1 _ b).1,i,gB.1 j,rfl⟩
def J9.bL7(h:J9 D G I aX C Bs)(a:aS){e:Int}(M:((dJ (Bs.flatMap dO) a):Int)-1<=e):(yE I (mA aX (lb a)) e=-1/\(dJ (Bs.flatMap dO) a).length=0)\/(0<=yE I (mA aX (lb a)) e/\yE I (mA aX (lb a)) e<=e/\yE I (mA aX (lb a)) e<=1073741824/\((nI (dF C) I aX a (yE I (mA aX (lb a)) e) (yE I (mA aX (lb a)) e)≠[]/\yE I (mA aX (lb a)) e=((dJ (Bs.flatMap dO) a):Int)-1)\/(nI (dF C) I aX a (yE I (mA aX (lb a)) e) (yE I (mA aX (lb a)) e)=[]/\((dJ (Bs.flatMap dO) a):Int)-1<=yE I (mA aX (lb a)) e-1))):=by
 have⟨s,P,k⟩:=h.ix;have⟨A,w⟩:=h.told;have B:=λN y=>(h.GV.1 N y).2;have i:=h.mU;have J:=rZ h.ok;have H:br6 (yZ (dF C)):=(by rw[A];exact i.ord);have j:=λv=>MD k J H a v v;have m:=bL8 k B (mA aX (lb a)) e;rw[w]at j;have d:0<(dJ (Bs.flatMap dO) a).length->∃N∈fZ aX (dF C),N.1=mA aX (lb a)/\N.2.1=((dJ (Bs.flatMap dO) a):Int)-1:=λg=>by
  have c:(dJ (Bs.flatMap dO) a).length-1<(dJ (Bs.flatMap dO) a):=(by omega);have l:=i.row a _ _ (aJ c);have⟨N,q,r,u⟩:=cp9 (R:=dF C) (aX:=aX) (s:=a) (t:=(dJ (Bs.flatMap dO) a)[(dJ (Bs.flatMap dO) a).length-1]) (by rw[w];exact dC c);exact⟨N,q,r,by rw[u,l];omega⟩
 have b:∀t∈dJ (Bs.flatMap dO) a,0<=t.2.1/\t.2.1<1073741824:=λt n=>vH i n;generalize yE I (mA aX (lb a)) e=v at m|-;rcases m with⟨rfl,m⟩|⟨N,y,q,r,u,L,z⟩
 .refine .inl ⟨rfl,?_⟩;rcases dP (dJ (Bs.flatMap dO) a) with g|g
  .exact g
  have⟨x,o,p,K⟩:=d g;have c:(dJ (Bs.flatMap dO) a).length-1<(dJ (Bs.flatMap dO) a):=(by omega);have l:=i.row a _ _ (aJ c);have:=b _ (dC c);exact absurd (by omega) (m x o p)
 refine .inr ⟨by omega,by omega,by omega,?_⟩;have E:((dJ (Bs.flatMap dO) a):Int)-1<=v:=by
  rcases dP (dJ (Bs.flatMap dO) a) with g|g
  .omega
  have⟨x,o,p,K⟩:=d g;have c:(dJ (Bs.flatMap dO) a).length-1<(dJ (Bs.flatMap dO) a):=(by omega);have l:=i.row a _ _ (aJ c);have:=b _ (dC c);have:=z x o p (by omega);omega
 by_cases F:v<((dJ (Bs.flatMap dO) a):Int)
 .refine .inl ⟨?_,by omega⟩;rw[j v];intro f;rw[iD]at f;have c:v.toNat<(dJ (Bs.flatMap dO) a):=(by omega);have l:=i.row a _ _ (aJ c);have:=f _ (dC c);simp at this;omega
 refine .inr ⟨?_,by omega⟩;rw[j v,iD];intro t n;have:=YE i n;simp;omega
end
variable{S T:List jU}
def aG5(T:List jU)(u:jU):∀(i:Nat),i<T->((((((fU T).set (i*5) u.1).set (i*5+1) u.2.1).set (i*5+2) u.2.2.1).set (i*5+3) u.2.2.2.1).set (i*5+4) (.float .f64 u.2.2.2.2))=fU (T.set i u):=by
 induction T with
 |nil=>intro i h;simp at h
 |cons a T b=>
  intro i h;cases i with
  |zero=>rfl
  |succ i=>have:=b i (by simpa using h);rw[oS];show _=E8 a++fU (T.set i u);rw[<-this,show(i+1)*5=i*5+5 from by omega,show i*5+5+1=i*5+1+5 from by omega,show i*5+5+2=i*5+2+5 from by omega,show i*5+5+3=i*5+3+5 from by omega,show i*5+5+4=i*5+4+5 from by omega];rfl
def aY2(T:List jU)(k:Nat)(S:List jU):Prop:=S.length=T.length/\∀m,m<T.length->S[m]?=if m<k\/T.length<=m+k then T[T.length-1-m]? else T[m]?
def aI8(T:List jU):aY2 T 0 T:=⟨rfl,λm a=>by rw[aP (by omega)]⟩
def be7(h:aY2 T n S)(l:n+n+1<T){a b:jU}(i:S[n]?=a)(j:S[T.length-1-n]?=b):aY2 T (n+1) ((S.set n b).set (T-1-n) a):=by
 refine⟨by simp[h.1],λm k=>?_⟩;have f:=h.2 n (by omega);rw[aP (by omega),i]at f;have g:=h.2 (T-1-n) (by omega);rw[aP (by omega),j]at g;by_cases d:m=T-1-n
 .subst d;rw[gU (by rw[mV,h.1];omega),aV (.inr (by omega)),show T-1-(T-1-n)=n from by omega,<-f]
 rw[jP (λc=>d c.symm)];by_cases e:m=n
 .subst e;rw[gU (by rw[h.1];omega),aV (.inl (by omega)),<-g]
 rw[jP (λc=>e c.symm),h.2 m k];by_cases c:m<n\/T<=m+n
 .rw[aV c,aV (by omega)]
 rw[aP c,aP (by omega)]
def bE0(h:aY2 T n S)(c:¬n+n+1<T):S=T.reverse:=by
 apply pS;intro m;rcases cK m T with a|a
 .rw[h.2 m a,cK5 a];by_cases b:m<n\/T<=m+n
  .rw[aV b]
  rw[aP b,show T-1-m=m from by omega]
 rw[kD (by rw[h.1];exact a),kD (by simpa using a)]
def bB1{a:jU}(h:S[k]?=some a):(fU S)[k*5]?=some (.string a.1)/\(fU S)[k*5+1]?=some (.int .i64 a.2.1)/\(fU S)[k*5+2]?=some (.string a.2.2.1)/\(fU S)[k*5+3]?=some (.string a.2.2.2.1)/\(fU S)[k*5+4]?=some (.float .f64 a.2.2.2.2):=by
 induction S generalizing k with
 |nil=>simp at h
 |cons x S ih=>
  cases k with
  |zero=>simp at h;subst h;exact⟨rfl,rfl,rfl,rfl,rfl⟩
  |succ k=>
   obtain⟨h0,h1,h2,h3,h4⟩:=ih (k:=k) (by simpa using h);have e:fU (x::S)=E8 x++fU S:=rfl;rw[e,show(k+1)*5=k*5+5 from by omega,show k*5+5+1=k*5+1+5 from by omega,show k*5+5+2=k*5+2+5 from by omega,show k*5+5+3=k*5+3+5 from by omega,show k*5+5+4=k*5+4+5 from by omega];exact⟨h0,h1,h2,h3,h4⟩
def aM0{i:Nat}(h:w.ownsRow n 133 5 (.slice (zp k) m j) m (fU T))(a:i<T)(u:jU):(((((w.setCell (zp k (i*5)) u.1).setCell (zp k (i*5+1)) u.2.1).setCell (zp k (i*5+2)) u.2.2.1).setCell (zp k (i*5+3)) u.2.2.2.1).setCell (zp k (i*5+4)) (.float .f64 u.2.2.2.2)).ownsRow n 133 5 (.slice (zp k) m j) m (fU (T.set i u)):=by rw[<-aG5 T u i a];exact(((((h.stored (i*5) _).1.stored (i*5+1) _).1.stored (i*5+2) _).1.stored (i*5+3) _).1.stored (i*5+4) _).1
def az3(w:aI)(r:Option Nat):w.grownBy w r:=⟨rfl,rfl,rfl,dQ,λk b a=>rfl⟩
def az4(w:aI)(r:Option Nat):w.grownBy w.drew r:=⟨(bR w w).drew.os,(bR w w).drew.tape,(bR w w).drew.output,(bR w w).drew.size,λk a _=>(bR w w).drew.block k a⟩
def nD{y:aI}{r:Option Nat}(a:w.grownBy x r)(b:x.grownBy y r):w.grownBy y r:=⟨b.os.trans a.os,b.tape.trans a.tape,b.output.trans a.output,aM a.size b.size,λk d c=>(b.block k (aW d a.size) c).trans (a.block k d c)⟩
def aa6(w:aI)(b i:Nat)(u:jU):w.grownBy (((((w.setCell (zp b (i*5)) u.1).setCell (zp b (i*5+1)) u.2.1).setCell (zp b (i*5+2)) u.2.2.1).setCell (zp b (i*5+3)) u.2.2.2.1).setCell (zp b (i*5+4)) (.float .f64 u.2.2.2.2)) b:=nD (nD (nD (nD (jI w (zp b (i*5)) _) (jI _ (zp b (i*5+1)) _)) (jI _ (zp b (i*5+2)) _)) (jI _ (zp b (i*5+3)) _)) (jI _ (zp b (i*5+4)) _)
def Z3{i:Nat}{a:jU}(h:w.ownsRow k 133 5 (.slice (zp n) m i) m (fU T))(p:T[j]?=a):(w.cell? (zp n (j*5))=a.1/\w.cell? (zp n (j*5+1))=a.2.1/\w.cell? (zp n (j*5+2))=a.2.2.1/\w.cell? (zp n (j*5+3))=a.2.2.2.1/\w.cell? (zp n (j*5+4))=some (.float .f64 a.2.2.2.2))/\(w.frozen? (zp n (j*5))=false/\w.frozen? (zp n (j*5+1))=false/\w.frozen? (zp n (j*5+2))=false/\w.frozen? (zp n (j*5+3))=false/\w.frozen? (zp n (j*5+4))=false):=by
 have d:=dX h (by simp[Value.ownBlock]:(Value.slice (zp n) m i).ownBlock=n);have⟨e,f,g,l,o⟩:=bB1 p;have c:∀{q:Nat} {x:aN},(fU T)[q]?=x->q<(fU T):=λh=>(aQ.1 h).1;have b:∀{q:Nat} {x:aN},(fU T)[q]?=x->w.cell? (zp n q)=some x:=λh=>by rw[d.cell _ (c h),<-h,aJ (c h)]
 exact⟨⟨b e,b f,b g,b l,b o⟩,d.frozen _ (c e),d.frozen _ (c f),d.frozen _ (c g),d.frozen _ (c l),d.frozen _ (c o)⟩
def WY(h:w.ownsRow n 133 5 v k (fU T))(D:k=T)(O:k<=1000000):Calls prog 97 #[v] w λe E=>e=zt/\E.ownsRow n 133 5 v k (fU T.reverse)/\w.grownBy E v.ownBlock:=by
 obtain⟨A,c,rfl,-⟩:=id (Reads.cX h);have⟨G,p⟩:=aA h D;clear h D;go_in;go_wp2_with fail
 go_loopw [2,3] (λi j wr=>∃(h0:Nat)(S:List jU),h0<=k/\i=.int .i64 (h0:Int)/\j=.int .i64 ((k:Int)-1-(h0:Int))/\aY2 T h0 S/\wr.ownsRow n 133 5 (.slice A k c) k (fU S)/\w.grownBy wr (Value.slice A k c).ownBlock) (λi _ _=>k-(intOf i).toNat)
 .exact⟨0,T,bK _,rfl,by simp,aI8 T,G.out,az3 _ _⟩
 obtain⟨h0,S,hk,rfl,rfl,m,f,q⟩:=hrel;by_cases d:h0+h0+1<k
 .obtain⟨b,rfl⟩:∃b,A=some ⟨b,0,none⟩:=by
   rcases f.2 with⟨C,h8⟩|⟨g,K,L,C,-⟩
   .omega
   cases C;exact⟨g,rfl⟩
  obtain⟨J,s⟩:∃J:Nat,(k:Int) - 1 - (h0:Int)=(J:Int):=⟨k - 1 - h0,by omega⟩;rw[s];have a:J=T.length-1-h0:=(by rw[<-p.out];omega);have t:S.length=k:=(by rw[m.1,p.out]);obtain⟨x,u⟩:∃x,S[h0]?=some x:=⟨_,aJ (by omega)⟩;obtain⟨y,z⟩:∃y,S[J]?=some y:=⟨_,aJ (by omega)⟩;obtain⟨⟨Q,R,U,V,W⟩,f0,f1,f2,f3,f4⟩:=Z3 f u;obtain⟨⟨X,Y,Z,y3,y4⟩,g0,g1,g2,g3,g4⟩:=Z3 f z;have P:(h0:Int)<(J:Int):=(by omega);have l:=be7 m (by rw[<-p.out];exact d) u (by rw[<-a];exact z);rw[<-a]at l;obtain⟨H,B,o⟩:=aB l (aM0 (aM0 f (i:=h0) (by omega) y) (i:=J) (by rw[mV];omega) x) (nD q (nD (aa6 wr b h0 y) (aa6 _ b J x)));have N:h0<J:=(by omega);have M:J<k:=(by omega);have F:=aH (And.intro s a);obtain⟨p1,p2,p3,p4,p5⟩:=x;obtain⟨q1,q2,q3,q4,q5⟩:=y;simp only at Q R U V W X Y Z y3 y4 B o;clear f m q u z a t s d l;(go_wp2_with fail);go_region;go_wp2;go_roundw
  .
   refine⟨h0+1,_,by omega,by go_num,?_,H.out,bY B.out (bR _ _).drew,nD o.out (az4 _ _)⟩;have:=F.out.1;congr 1;omega
  simp[intOf];omega
 have P:¬(h0:Int)<(k:Int)-1-(h0:Int):=(by omega);obtain⟨I,r,o⟩:=aB (bE0 m (by rw[<-p.out];exact d)) f q;clear m f q;go_wp2;go_end0;rw[<-I.out];exact⟨rfl,r.out,o.out⟩
variable{r:Int×aL}
structure Calm(D:aL):Prop where
 up:D.down=false
 uW:D.sC=false
 kV:tB D.files
structure vC(k:Nat)(D:aL)(r:Int×aL):Prop where
 calm:Calm r.2
 cap:r.2.cap=D.cap
 used:dZ r.2.files<=dZ D.files+k
 err:r.1≠61
def vC.stay(h:Calm D){e:Int}(a:e≠61)(k:Nat):vC k D (e,D):=⟨h,rfl,SZ _ _,a⟩
def vC.mono{a:Nat}(h:vC a D r)(b:a<=n):vC n D r:=⟨h.calm,h.cap,by have:=h.used;omega,h.err⟩
def Calm.rU(h:Calm D):D.rU=false:=by unfold aL.rU;rw[h.uW];rfl
def AJ(h:Calm D){l:cA}(a:tB l){n:Nat}(b:dZ l<=dZ D.files+n):vC n D (D.change l):=by unfold aL.change;rw[h.rU,aP (by simp)];exact⟨⟨h.up,h.uW,a⟩,rfl,b,by simp⟩
def EY(h:Calm D)(n:bH):vC 0 D (D.create n):=by
 unfold aL.create;rw[h.up,aP (by simp)];by_cases a:jR n=false
 .rw[aV a];exact .stay h (by simp) _
 rw[aP a];by_cases b:(bO D.files n).isSome
 .rw[aV b];exact .stay h (by simp) _
 rw[aP b];by_cases c:400<=D.files.length
 .rw[aV c];exact .stay h (by simp) _
 rw[aP c];exact AJ h (vX h.kV _ _) (by have:=lB h.kV n ⟨[],0⟩;simp at this;omega)
def AM(h:Calm D)(n s:bH):vC s D (D.append n s):=by
 unfold aL.append;rw[h.up,aP (by simp)];cases b:bO D.files n with
 |none=>exact .stay h (by simp) _
 |some f=>
  simp only;by_cases a:D.cap<dZ D.files+s
  .rw[aV a];exact .stay h (by simp) _
  rw[aP a,h.rU,aP (by simp)];refine⟨⟨h.up,h.uW,vX h.kV _ _⟩,rfl,?_,by simp⟩;have:=lB h.kV n ⟨f.data++s,f.sync⟩;rw[b]at this;simp at this;show dZ (eC D.files n ⟨f.data++s,f.sync⟩)<=_;omega
def GJ(h:Calm D)(n:bH):vC 0 D (D.sync n):=by
 unfold aL.sync;rw[h.up,aP (by simp)];cases a:bO D.files n with
 |none=>exact .stay h (by simp) _
 |some f=>refine AJ h (vX h.kV _ _) ?_;have:=lB h.kV n ⟨f.data,f.data⟩;rw[a]at this;simp at this;omega
def rV(h:Calm D)(n:bH):vC 0 D (D.delete n):=by
 unfold aL.delete;rw[h.up,aP (by simp)];cases a:bO D.files n with
 |none=>exact .stay h (by simp) _
 |some f=>exact AJ h (wK h.kV _) (by have:=yJ h.kV n;omega)
def aJ0(h:Calm D)(a b:bH):vC 0 D (D.rename a b):=by
 unfold aL.rename;rw[h.up,aP (by simp)];cases k:bO D.files a with
 |none=>exact .stay h (by simp) _
 |some f=>
  simp only;by_cases d:jR b=false
  .rw[aV d];exact .stay h (by simp) _
  rw[aP d];by_cases c:a=b
  .rw[aV c];exact AJ h h.kV dQ
  rw[aP c];have g:=wK h.kV b;have i:=wK g a;refine AJ h (vX i _ _) ?_;have l:=yJ h.kV b;have j:=yJ g a;have m:=lB i b f;rw[iK,aP (λe=>c e.symm),k]at j;simp at j;omega
def qN{k:aL->Int×aL}(h:vC n D r)(c:Calm r.2->vC m r.2 (k r.2)):vC (n+m) D (kS r k):=by
 unfold kS;by_cases b:r.1=0
 .rw[aV b];have a:=c h.calm;exact⟨a.calm,a.cap.trans h.cap,by have:=a.used;have:=h.used;omega,a.err⟩
 rw[aP b];exact h.mono (SZ _ _)
def at7(h:Calm D)(n s:bH):vC s D (D.GZ n s):=by unfold aL.GZ;have:=qN (k:=λD=>kS (D.append dI s) λD=>kS (D.sync dI) λD=>D.rename dI n) (EY h dI) λa=>qN (k:=λD=>kS (D.sync dI) λD=>D.rename dI n) (AM a dI s) λb=>qN (k:=λD=>D.rename dI n) (GJ b dI) λc=>aJ0 c dI n;exact this.mono (by omega)
def aQ3(h:Calm D)(n s:bH):vC s D (D.lay n s):=by unfold aL.lay;have:=qN (k:=λD=>kS (D.append n s) λD=>D.sync n) (EY h n) λa=>qN (k:=λD=>D.sync n) (AM a n s) λb=>GJ b n;exact this.mono (by omega)
def OS(h:Calm D):vC 0 D D.gS:=by
 unfold aL.gS;split
 .exact rV h _
 exact .stay h (by simp) _
def UY(h:Calm D)(n:Nat)(l:List dB)(f:bH):vC (f+(lU l)) D (o8 D n l f):=by
 unfold o8;rw[h.up,aP (by simp)];by_cases a:D.free-(lU l)-f<6000
 .rw[aV a];exact .stay h (by simp) _
 rw[aP a];exact qN (k:=λD=>D.lay (nN n) (lU l)) (aQ3 h _ f) λb=>aQ3 b _ _
def bc5(h:Calm D)(m:jD):vC (iS m) D (qV D m):=by
 unfold qV;rw[h.up,aP (by simp)];refine(qN (OS h) λa=>?_:vC (0+(iS m)) D _).mono (by omega);split
 .exact .stay a (by simp) _
 exact at7 a _ _
def Q0(h:Calm D)(n:Nat):vC 0 D (pG D n):=by unfold pG;have a:=rV h (nN n);have b:=rV a.calm (wE n);rw[aP a.err,aP b.err];exact⟨b.calm,b.cap.trans a.cap,by have:=a.used;have:=b.used;simp only;omega,by simp⟩
def aU0:∀(l:List Nat) {I:aZ} {D:aL},Calm D->vC 0 D ((lE I D l).1,(lE I D l).2.2):=λl=>by
 induction l with
 |nil=>intro I D h;unfold lE;exact .stay h (by simp) _
 |cons n l c=>
  intro I D h;have a:=Q0 h n;unfold lE;split
  .exact⟨a.calm,a.cap,a.used,a.err⟩
  have b:=c (I:={I with fI:=jM I.fI n none}) a.calm;exact⟨b.calm,b.cap.trans a.cap,by have:=a.used;have:=b.used;simp only at *;omega,b.err⟩
def Z7(h:Calm D)(n:Nat):(kX D n).1≠61:=by
 unfold kX;rw[h.up,aP (by simp)];split
 .simp
 split<;>simp
def OW{G:cS}(h:Calm D):vC 0 D ((gO G D).1,(gO G D).2.2):=by
 unfold gO;split
 .exact .stay h (by simp) _
 have:=GJ h (iJ (G.bV-1));exact⟨this.calm,this.cap,this.used,this.err⟩
def OT{I:aZ}(h:Calm D)(m:jD)(n:Nat)(l:List dB)(f:bH):vC (f+(lU l)+(iS m)) D ((nR I D m n l f).1,(nR I D m n l f).2.2):=by
 have a:=qN (k:=λD=>qV D m) (UY h n l f) λc=>bc5 c m;unfold nR;simp only;split
 .have b:=Q0 a.calm n;exact⟨b.calm,b.cap.trans a.cap,by have:=a.used;have:=b.used;simp only at *;omega,a.err⟩
 split
 .exact⟨a.calm,a.cap,a.used,Z7 a.calm n⟩
 exact⟨a.calm,a.cap,a.used,by simp⟩
def aS6{I:aZ}{G:cS}(h:Calm D)(f:bH):vC (f+(lU I.mem)+(iS ⟨I.cZ.next+1,kF G.bV,I.cZ.aX,pY I.cZ.fP I.cZ.next⟩)) D ((jS I G D f).1,(jS I G D f).2.2.2):=by
 have a:=OW (G:=G) h;unfold jS;split
 .exact a.mono (bK _)
 split
 .exact⟨a.calm,a.cap,by have:=a.used;simp only at *;omega,by simp⟩
 split
 .exact⟨a.calm,a.cap,by have:=a.used;simp only at *;omega,by simp⟩
 have b:=OT (I:=I) a.calm ⟨I.cZ.next+1,kF G.bV,I.cZ.aX,pY I.cZ.fP I.cZ.next⟩ I.cZ.next I.mem f;exact⟨b.calm,b.cap.trans a.cap,by have:=a.used;have:=b.used;simp only at *;omega,b.err⟩
def aO8{I:aZ}(h:Calm D)(k:Int)(f:bH):vC (f+(lU (kI ((I.cZ.fP.getD k.toNat []).map λn=>(I.fI n).getD [])))+(iS ⟨I.cZ.next+1,I.cZ.check,I.cZ.aX,mZ I.cZ.fP k.toNat I.cZ.next⟩)) D ((lK I D k f).1,(lK I D k f).2.2):=by
 unfold lK;split
 .exact .stay h (by simp) _
 split
 .exact .stay h (by simp) _
 have a:=OT (I:=I) h ⟨I.cZ.next+1,I.cZ.check,I.cZ.aX,mZ I.cZ.fP k.toNat I.cZ.next⟩ I.cZ.next (kI ((I.cZ.fP.getD k.toNat []).map λn=>(I.fI n).getD [])) f;simp only;split
 .exact a
 have b:=aU0 (I.cZ.fP.getD k.toNat []) (I:=(nR I D ⟨I.cZ.next+1,I.cZ.check,I.cZ.aX,mZ I.cZ.fP k.toNat I.cZ.next⟩ I.cZ.next (kI ((I.cZ.fP.getD k.toNat []).map λn=>(I.fI n).getD [])) f).2.1) a.calm;exact⟨b.calm,b.cap.trans a.cap,by have:=a.used;have:=b.used;simp only at *;omega,b.err⟩
def aC9{G:cS}(h:Calm D)(p:bH):vC (p+24) D ((iE G D p).1,(iE G D p).2.2.2):=by
 have f:=nG p;unfold iE;split
 .exact .stay h (by simp) _
 split
 .unfold pM;split
  .exact .stay h (by simp) _
  have a:=AM h (iJ (G.bV-1)) (kE p);split
  .exact a.mono (by omega)
  exact⟨a.calm,a.cap,by have:=a.used;simp only at *;omega,by simp⟩
 unfold pX;split
 .exact .stay h (by simp) _
 rename_i c;have a:=OW (G:=G) h;split
 .exact a.mono (bK _)
 have e:(fC (G.bV:Int)++kE p).length=p+24:=by rw[aO,jZ (by omega),f];omega
 have b:vC (p+24) (gO G D).2.2 (FT (gO G D).2.2 G.bV (kE p)):=by unfold FT;have:=qN (k:=λD=>D.append (iJ G.bV) (fC (G.bV:Int)++kE p)) (EY a.calm (iJ G.bV)) λd=>AM d (iJ G.bV) (fC (G.bV:Int)++kE p);exact this.mono (by rw[e];omega)
 split
 .exact⟨b.calm,b.cap.trans a.cap,by have:=a.used;have:=b.used;simp only at *;omega,b.err⟩
 exact⟨b.calm,b.cap.trans a.cap,by have:=a.used;have:=b.used;simp only at *;omega,by simp⟩
def cn8(D:aL)(r:Int×aL):Prop:=∃k,vC k D r
def bj5(h:Calm D)(n:Nat)(s:bH)(e:Nat)(a:List Nat):cn8 D ((wF D n s e a).1,(wF D n s e a).2.2):=by
 unfold wF;split
 .exact⟨_,rV h _⟩
 split
 .exact⟨_,at7 h _ _⟩
 exact⟨_,GJ h _⟩
def bL1(D:aL)(n:Nat):(D.load n).2≠61:=by
 unfold aL.load;split
 .simp
 split<;>simp
def bg5(h:Calm D)(b:Nat):∀(k n:Nat)(a:List Nat),cn8 D ((nF D b k n a).1,(nF D b k n a).2.2):=λk=>by
 induction k with
 |zero=>intro n a;unfold nF;exact⟨0,.stay h (by simp) _⟩
 |succ k c=>
  intro n a;unfold nF;split
  .exact⟨0,.stay h (bL1 D n) _⟩
  split
  .exact bj5 h _ _ _ _
  split
  .exact⟨0,.stay h (by simp) _⟩
  exact c _ _
def Z8(h:Calm D):Calm (kB D).2.2/\(kB D).1≠61:=by
 have a:=OS h;have⟨k,b⟩:=bg5 a.calm D.gS.2.count.1 D.gS.2.count.1 0 [];unfold kB;rw[h.up,aP (by simp)];split
 .exact⟨a.calm,a.err⟩
 split
 .exact⟨a.calm,by simp⟩
 split
 .exact⟨b.calm,b.err⟩
 exact⟨b.calm,by simp⟩
def bP4:∀(l:List bH) {D:aL},Calm D->vC 0 D (D.XB l):=λl=>by
 induction l with
 |nil=>intro D h;exact .stay h (by simp) _
 |cons n l b=>
  intro D h;unfold aL.XB;exact(qN (k:=λD=>D.XB l) (rV h n) λa=>b a:vC (0+0) D _)
def aN0(h:Calm D):∀(l:List Nat) (t:Nat->Option (List dB)),(pU D l t).1≠61:=λl=>by
 induction l with
 |nil=>intro t;exact(by simp:(0:Int)≠61)
 |cons n l a=>
  intro t;unfold pU;split
  .exact Z7 h n
  exact a _
def bk5(h:Calm D):(pP D).1≠61:=by
 unfold pP;rw[h.up,aP (by simp)];cases bO D.files fE with
 |none=>simp
 |some f=>simp only;unfold UC;split<;>simp
def aP4(h:Calm D)(G:cS)(a:Nat):(lC D G a).1≠61:=by
 have b:∀m,(xF D m).1≠61:=λm=>by
  unfold xF;rw[h.up,aP (by simp)];split
  .exact aN0 h _ _
  simp
 unfold lC;split
 .exact bk5 h
 split
 .simp
 exact b _
def WH(h:Calm D)(I:aZ)(a:Nat)(c:Nat->List lW):(qQ D I a c).1≠61:=by
 have b:vC 0 D (mE D I.cZ):=by unfold mE;rw[h.up,aP (by simp)];exact bP4 _ h
 unfold qQ;split
 .exact b.err
 simp
def ah9(h:Calm D)(G:cS)(a:Nat)(c:Nat->List lW):(fY D G a c).1≠61:=by
 have b:=rV h fE;unfold fY;rw[aP (aP4 h G a)];split
 .exact WH h _ _ _
 rw[aP b.err];exact WH b.calm _ _ _
variable{l:cA}
def CG{k:aL->Int×aL}(h:(kS r k).1=0):r.1=0/\kS r k=k r.2:=by
 unfold kS at h|-;by_cases a:r.1=0
 .rw[aV a];exact⟨a,rfl⟩
 rw[aP a]at h;exact absurd h a
def NQ(h:Calm D)(l:cA):(D.change l).2.files=l:=by unfold aL.change;rw[h.rU,aP (by simp)]
def bP6(h:Calm D){s:bH}(a:(D.create s).1=0):(D.create s).2.files=eC D.files s ⟨[],0⟩:=by
 unfold aL.create at a|-;rw[h.up,aP (by simp)]at a|-;by_cases b:jR s=false
 .rw[aV b]at a;exact absurd a (by simp)
 rw[aP b]at a|-;by_cases c:(bO D.files s).isSome
 .rw[aV c]at a;exact absurd a (by simp)
 rw[aP c]at a|-;by_cases d:400<=D.files.length
 .rw[aV d]at a;exact absurd a (by simp)
 rw[aP d];exact NQ h _
def bR3(h:Calm D){l s:bH}(a:(D.append l s).1=0):∃f,bO D.files l=some f/\(D.append l s).2.files=eC D.files l ⟨f.data++s,f.sync⟩:=by
 unfold aL.append at a|-;rw[h.up,aP (by simp)]at a|-;cases c:bO D.files l with
 |none=>rw[c]at a;exact absurd a (by simp)
 |some f=>
  rw[c]at a;simp only at a|-;by_cases b:D.cap<dZ D.files+s
  .rw[aV b]at a;exact absurd a (by simp)
  rw[aP b,h.rU,aP (by simp)];exact⟨f,rfl,rfl⟩
def cq8(h:Calm D){s:bH}(a:(D.sync s).1=0):∃f,bO D.files s=some f/\(D.sync s).2.files=eC D.files s ⟨f.data,f.data⟩:=by
 unfold aL.sync at a|-;rw[h.up,aP (by simp)]at a|-;cases b:bO D.files s with
 |none=>rw[b]at a;exact absurd a (by simp)
 |some f=>exact⟨f,rfl,NQ h _⟩
def bE3(h:Calm D){s l:bH}(b:s≠l)(a:(D.rename s l).1=0):∃f,bO D.files s=some f/\(D.rename s l).2.files=eC (kN (kN D.files l) s) l f:=by
 unfold aL.rename at a|-;rw[h.up,aP (by simp)]at a|-;cases d:bO D.files s with
 |none=>rw[d]at a;exact absurd a (by simp)
 |some f=>
  rw[d]at a;simp only at a|-;by_cases c:jR l=false
  .rw[aV c]at a;exact absurd a (by simp)
  rw[aP c,aP b];exact⟨f,rfl,NQ h _⟩
def ac2(h:Calm D)(n k:bH)(a:n≠k):bO (D.delete n).2.files k=bO D.files k:=by
 unfold aL.delete;rw[h.up,aP (by simp)];cases b:bO D.files n with
 |none=>rfl
 |some f=>simp only;rw[NQ h,iK,aP a]
def cA3(h:Calm D){l s:bH}(m:dI≠l)(a:(D.GZ l s).1=0):bO (D.GZ l s).2.files l=some ⟨s,s⟩:=by unfold aL.GZ at a|-;have⟨r,i⟩:=CG a;rw[i]at a|-;have b:=(EY h dI).calm;have n:=bP6 h r;have⟨t,j⟩:=CG a;rw[j]at a|-;have c:=(AM b dI s).calm;have⟨v,d,o⟩:=bR3 b t;have⟨u,k⟩:=CG a;rw[k]at a|-;have g:=(GJ c dI).calm;have⟨w,e,p⟩:=cq8 c u;have⟨x,f,q⟩:=bE3 g m a;rw[n,fF,aV rfl]at d;cases d;rw[o,fF,aV rfl]at e;cases e;rw[p,fF,aV rfl]at f;cases f;rw[q,fF,aV rfl];rfl
def bV6(h:Calm D){M:jD}(a:(qV D M).1=0):bO (qV D M).2.files fE=some ⟨iS M,iS M⟩:=by
 unfold qV at a|-;rw[h.up,aP (by simp)]at a|-;have⟨d,c⟩:=CG a;rw[c]at a|-;by_cases b:D.gS.2.free-(iS M)<6000
 .rw[aV b]at a;exact absurd a (by simp)
 rw[aP b]at a|-;exact cA3 (OS h).calm xH a
def aF9{I:aZ}(h:Calm D){M:jD}{n:Nat}{L:List dB}{s:bH}(b:(nR I D M n L s).1=0):(nR I D M n L s).2.1.cZ=M/\(nR I D M n L s).2.1.mem=I.mem/\bO (nR I D M n L s).2.2.files fE=some ⟨iS M,iS M⟩:=by
 have e:=UY h n L s;unfold nR at b|-;simp only at b|-;split at b
 .rename_i a;exact absurd b a
 rename_i a;have a:(kS (o8 D n L s) λD=>qV D M).1=0:=Classical.not_not.1 a;rw[aP (by rw[a];simp)];split at b
 .rename_i c;exact absurd b c
 rename_i c;rw[aP c];have⟨f,d⟩:=CG a;refine⟨rfl,rfl,?_⟩;rw[d]at a|-;exact bV6 e.calm a
def bN6(h:Calm D){s:bH}(f:I.mem≠[])(d:(jS I G D s).1=0):(jS I G D s).2.1.cZ=⟨I.cZ.next+1,kF G.bV,I.cZ.aX,pY I.cZ.fP I.cZ.next⟩/\bO (jS I G D s).2.2.2.files fE=some ⟨iS (jS I G D s).2.1.cZ,iS (jS I G D s).2.1.cZ⟩:=by
 have i:=OW (G:=G) h;have g:(gO G D).1=0:=by
  by_cases e:(gO G D).1=0
  .exact e
  unfold jS at d;rw[aV e]at d;exact absurd d e
 have j:¬40<=I.cZ.fP.flatten.length:=λk=>by unfold jS at d;rw[aP (by simp[g]),aP f,aV k]at d;simp at d
 unfold jS at d|-;rw[aP (by simp[g]),aP f,aP j]at d|-;simp only at d|-;have⟨a,b,c⟩:=aF9 (I:=I) i.calm d;rw[aV d];simp only;rw[a];exact⟨rfl,c⟩
def bO7(h:Calm D)(n:Nat){s:bH}(c:nN n≠s)(d:wE n≠s):bO (pG D n).2.files s=bO D.files s:=by have a:=rV h (nN n);have b:=rV a.calm (wE n);unfold pG;rw[aP a.err,aP b.err];simp only;rw[ac2 a.calm _ _ d,ac2 h _ _ c]
def bo1:∀(l:List Nat) {I:aZ} {D:aL},Calm D->∀k:bH,(∀n∈l,nN n≠k/\wE n≠k)->bO (lE I D l).2.2.files k=bO D.files k/\(lE I D l).2.1.cZ=I.cZ/\(lE I D l).2.1.mem=I.mem:=λl=>by
 induction l with
 |nil=>intro I D h k d;exact⟨rfl,rfl,rfl⟩
 |cons n l i=>
  intro I D h k d;have f:=Q0 h n;have⟨j,m⟩:=d n B9;have e:=bO7 h n j m;unfold lE;split
  .exact⟨e,rfl,rfl⟩
  have⟨a,b,c⟩:=i (I:={I with fI:=jM I.fI n none}) f.calm k λx g=>d x (iU _ g);exact⟨a.trans e,b,c⟩
def bK0(h:Calm D){e:Int}{s:bH}(o:¬(e<0\/5<=e))(k:I.cZ.fP.getD e.toNat []≠[])(i:∀n∈I.cZ.fP.getD e.toNat [],n<=999999)(j:(lK I D e s).1=0):(lK I D e s).2.1.cZ=⟨I.cZ.next+1,I.cZ.check,I.cZ.aX,mZ I.cZ.fP e.toNat I.cZ.next⟩/\(lK I D e s).2.1.mem=I.mem/\bO (lK I D e s).2.2.files fE=some ⟨iS (lK I D e s).2.1.cZ,iS (lK I D e s).2.1.cZ⟩:=by
 unfold lK at j|-;rw[aP o,aP k]at j|-;simp only at j|-;split at j
 .rename_i f;exact absurd j f
 rename_i f;rw[aP f];have f:=Classical.not_not.1 f;have⟨a,b,c⟩:=aF9 (I:=I) h f;have m:=(OT (I:=I) h ⟨I.cZ.next+1,I.cZ.check,I.cZ.aX,mZ I.cZ.fP e.toNat I.cZ.next⟩ I.cZ.next (kI ((I.cZ.fP.getD e.toNat []).map λn=>(I.fI n).getD [])) s).calm;have⟨d,p,g⟩:=bo1 (I.cZ.fP.getD e.toNat []) (I:=(nR I D ⟨I.cZ.next+1,I.cZ.check,I.cZ.aX,mZ I.cZ.fP e.toNat I.cZ.next⟩ I.cZ.next (kI ((I.cZ.fP.getD e.toNat []).map λn=>(I.fI n).getD [])) s).2.1) m fE λn l=>⟨AV (i n l),ZF (i n l)⟩;rw[d,p,g,a,b];exact⟨rfl,rfl,c⟩
def bj8(c:D.down=false){n:Nat}(d:n<18446744073709551616){M:jD}(w:wU M=true)(q:M.aX=n)(f:bO l fE=some ⟨iS M,iS M⟩)(j:∀O∈M.fP.flatten,O<=999999/\∃L,nJ l O L)(i:iW VW l D.files){G:cS}(K:M.check<=kF G.bV):∃I,lC D G n=(0,some I)/\I.cZ.next=M.next:=by
 obtain⟨g,s,p,-⟩:=i.sure NL f dQ;have⟨E,F⟩:=RW w (by rw[q];exact d);simp only at p;have v:pP D=(0,DY M):=by unfold pP;rw[c,aP (by simp),s];simp only;rw[p,F];unfold UC;rw[aV E]
 unfold lC;rw[v];simp only[ne_eq,not_true_eq_false,dW];have r:¬(¬(DY M).aX=n\/kF G.bV<(DY M).check):=by
  rintro (m|m)
  .exact m q
  have:(DY M).check=M.check:=rfl;omega
 rw[aP r];unfold xF;rw[c,aP (by simp)];rcases PG c (DY M).fP.flatten (λ_=>none)with⟨a,b,-⟩|a
 .rw[aP (by simpa using a)];exact⟨_,rfl,rfl⟩
 exfalso;have e:∀(k:List Nat) (t:Nat->Option (List dB)),(∀O∈k,(kX D O).1=0)->(pU D k t).1=0:=λk=>by
  induction k with
  |nil=>intro t _;rfl
  |cons O k C=>intro t h;unfold pU;rw[aP (by rw[h O B9];simp)];exact C _ λx A=>h x (iU _ A)
 have:=e (DY M).fP.flatten (λ_=>none) λO y=>by
  have o:O∈M.fP.flatten:=by obtain⟨z,B,-⟩:=VB M.fP;rw[B,iO];exact sI _ y
  have⟨m,L,u⟩:=j O o;obtain⟨N,H,J,-⟩:=(u.stay m i).rY;unfold kX;rw[c,aP (by simp),H];simp only;rw[aV J]
 rw[this]at a;exact absurd a (by decide)
def aV0{a:Nat->List lW}{J:aZ}(h:(qQ D I n a).2.1=J):J.cZ=I.cZ:=by
 unfold qQ at h;split at h
 .cases h
 cases h;rfl
def aw5(e:D.down=false){n:Nat}(a:n<18446744073709551616){M:jD}(j:wU M=true)(k:M.aX=n)(b:bO l fE=some ⟨iS M,iS M⟩)(c:∀p∈M.fP.flatten,p<=999999/\∃L,nJ l p L)(d:iW VW l D.files){G:cS}(i:M.check<=kF G.bV){m:Nat->List lW}{I:aZ}(h:(fY D G n m).2.1=I):I.cZ.next=M.next:=by have⟨o,f,g⟩:=bj8 e a j k b c d i;unfold fY at h;rw[f]at h;simp only at h;rw[aP (by decide)]at h;rw[aV0 h];exact g
variable{M:List Nat}
def bC1{M:List Nat}{k:Nat}(h:M<=k):JX M (k+1)=JX M k:=by unfold JX;rw[aT (by omega),aT h]
def bF0{u:aN}(h:xV w n k v u T M m)(vl:aN)(l:List jU)(hl:wL w vl l)(hn:l.length<=1000000)(hT:T.length<=1000000)(hM:M.length<=1000000)(hS:∀xw,JX M xw<=T.length):Calls prog 45 #[.pointer (some ⟨k,0,none⟩),vl] w λe L=>aY4 w T M m l e L\/af2 w n k v u T M m l e L:=by
 obtain⟨A,c,rfl,x9,xs,-⟩:=id h.2.2.1.reads;obtain⟨A',c',rfl,x8,xr,-⟩:=id h.2.2.2.1.reads;obtain⟨Al,cl,rfl,-⟩:=id hl.1;obtain⟨xy,hN⟩:∃xy,xy=M.length:=⟨_,rfl⟩;obtain⟨tn,O⟩:∃tn,tn=T.length:=⟨_,rfl⟩;obtain⟨t,N⟩:∃t,t=l.length:=⟨_,rfl⟩;have⟨p,q,f,H,HL,HS⟩:=aE hN O N h hl hS;have ha:∀L,aR w.heap.size w L->L.cell? ⟨k,0,none⟩=some (.slice A tn c)/\L.cell? ⟨k,1,none⟩=some (.slice A' xy c')/\L.cell? ⟨k,2,none⟩=some (.int .i64 m):=λL hb=>by have:=(h.r.next hb).cells;rwa[<-hN,<-O]at this
 have h3:=aH ha;rw[<-O]at hT x9;rw[<-hN]at hM x8;rw[<-N]at hn;rw[show l.length=t from N.symm];have hf:=aH ha;clear h hl hN O N ha hS hf;go_in;go_wp2_with fail
 go_loopw [5,6] (λal i wr=>∃xw:Nat,xw<=xy+1/\i=.int .i64 xw/\al=.int .i64 ((JX M xw:Nat):Int)/\(∀s,s<xw->¬T7 T M m l s)/\aR w.heap.size w wr) (λ_ i _=>xy+1-(intOf i).toNat)
 .exact⟨0,by omega,rfl,by rw[al4];rfl,λs D=>by omega,bR _ _⟩
 obtain⟨xw,hk,rfl,rfl,J,h6⟩:=hrel;have⟨hi,o⟩:=aA J h6;obtain⟨z0,z1,z2⟩:=h3.out _ h6;clear J h6;by_cases xd:xw<=xy
 .have i1:(xw:Int)<=xy:=(by omega);obtain⟨K,d⟩:∃K,K=JX M xw:=⟨_,rfl⟩;have xt:K<=tn:=(by rw[d,q.out];exact HS.out xw);rw[<-d];have F:=aH d;clear d;by_cases r:m<=xw/\K=t
  .obtain⟨x6,x7⟩:=r;have i2:(m:Int)<=xw:=(by omega);have e1:((K:Int)==t)=true:=(by rw[gH];omega);have e2:(K:Int)=t:=(by omega);obtain⟨wo,rfl⟩:∃x,x=wr:=⟨_,rfl⟩;have⟨xj,xi,xh,h0⟩:=aC (show wL wo (.slice A T.length c) T from(H.out.r.next o.out).2.1) (HL.out.next o.out) x6 x7;clear x6 x7;(go_wp2_with fail);go_loopw [7] (λi wr=>∃j:Nat,j<=t/\i=.int .i64 j/\(∀xx,xx<j->l[xx]?=T[xx]?)/\aR wo.heap.size wo wr) (λi _=>t-(intOf i).toNat)
   .exact⟨0,by omega,rfl,λxx hm=>by omega,bR _ _⟩
   obtain⟨j,hj,rfl,W,g⟩:=hrel;have⟨V,hg⟩:=aA W g;clear W;by_cases xc:j<t
   .have i3:(j:Int)<t:=(by omega);have i4:(j:Int)<tn:=(by have:=h0.out;omega);obtain⟨x,hx⟩:∃x,l[j]?=some x:=⟨_,aJ (by have:=f.out;omega)⟩;obtain⟨y,hy⟩:∃y,T[j]?=some y:=⟨_,aJ (by have:=q.out;omega)⟩;have P:=xi.out;have Q:=xj.out;rw[show l.length=t from f.out.symm]at P;rw[show T.length=tn from q.out.symm]at Q;obtain⟨bx,ox,rfl,-,xa⟩:=P.later (by have:=f.out;omega);obtain⟨xu,oy,rfl,-,xb⟩:=Q.later (by have:=q.out;omega);have cx:=λz:dR wr=>xa j x hx z.it (aK g z.ok);have cy:=λz:dR wr=>xb j y hy z.it (aK g z.ok);have cz:=λz:dR wr=>(h3.out z.it (aK o.out (aK g z.ok))).1;have hp:=λz=>(cx z).1;have hq:=λz=>(cx z).2.1;have hr:=λz=>(cx z).2.2.1;have hs:=λz=>(cx z).2.2.2.1;have ht:=λz=>(cx z).2.2.2.2;have hu:=λz=>(cy z).1;have hv:=λz=>(cy z).2.1;have hw:=λz=>(cy z).2.2.1;have hz:=λz=>(cy z).2.2.2.1;have x0:=λz=>(cy z).2.2.2.2;have d:=λL=>am8 x y L (P.2 x (bC hx)) (Q.2 y (bC hy));have⟨Hx,Hy⟩:=aA hx hy;clear cx cy xa xb hx hy g P Q;by_cases E:x=y
    .have X:decide (x=y)=true:=(by simp[E]);simp only[X]at d;have xk:=aH E;obtain⟨x1,x2,x3,x4,x5⟩:=x;obtain⟨y1,y2,y3,y4,y5⟩:=y;dsimp only[pB]at d hp hq hr hs ht hu hv hw hz x0;have G:=aH d;clear d X E;(go_wp2_with fail);refine cI (by kernel_rfl) (by kernel_rfl) ?_;(repeat go_big_quiet_step ((go_at_call 72;exact eL _ (G.out _))));refine wpQuiet_nil ?_;intro _ hx;obtain⟨⟨w4,h5⟩,rfl⟩:=hx;go_wp2;go_roundw
     .
      refine⟨j+1,by omega,by go_num,λxx hm=>?_,aK hg.out h5⟩;rcases cK xx j with B|B
      .exact V.out xx B
      obtain rfl:xx=j:=(by omega);rw[Hx.out,Hy.out,xk.out]
     simp[intOf];omega
    have X:decide (x=y)=false:=(by simp[E]);simp only[X]at d;have Z:∀s,¬T7 T M m l s:=λs D=>by have h8:=Hx.out;rw[<-D.2.2.2,iV (by rw[<-f.out];exact xc),Hy.out]at h8;exact E (cJ h8).symm
    have ho:=aH Z;obtain⟨x1,x2,x3,x4,x5⟩:=x;obtain⟨y1,y2,y3,y4,y5⟩:=y;dsimp only[pB]at d hp hq hr hs ht hu hv hw hz x0;have G:=aH d;clear d X E Z;(go_wp2_with fail);refine cI (by kernel_rfl) (by kernel_rfl) ?_;(repeat go_big_quiet_step ((go_at_call 72;exact eL _ (G.out _))));refine wpQuiet_nil ?_;intro _ hx;obtain⟨⟨w4,h5⟩,rfl⟩:=hx;go_wp2;go_ret;exact .inl ⟨rfl,ho.out,aK o.out (aK hg.out h5)⟩
   obtain rfl:j=t:=(by omega);have xf:T.take l.length=l:=by
    apply pS;intro xx;rcases cK xx j with B|B
    .rw[iV (by rw[<-f.out];exact B),V.out xx B]
    rw[List.getElem?_take_eq_none (by rw[<-f.out];exact B),kD (by rw[<-f.out];exact B)]
   have C:=aK o.out g;have Y:T7 T M m l xw:=⟨by rw[<-p.out];exact xd,xh.out,by rw[<-F.out,<-f.out];exact h0.out,xf⟩;have I:=cs0 (k:=xw) (a:=l.length) H.out C (by rw[<-p.out];exact xd) (by rw[<-f.out,<-q.out];have:=h0.out;omega) (by rw[<-q.out];exact hT) (by rw[<-p.out];exact hM);rw[show l.length=j from f.out.symm]at I;have f0:=(H.out.1.next C).frozen 0 (by simp);have f1:=(H.out.1.next C).frozen 1 (by simp);have f2:=(H.out.1.next C).frozen 2 (by simp);obtain⟨y0,y1,y2⟩:=h3.out _ C;have xl:K<=c:=(by omega);have xm:xw<=c':=(by omega);have⟨hh,S⟩:=aA Y I;clear xf C Y I g z0 z1 z2 hj xc;(go_wp2_with fail);go_region;go_wp2;go_ret;refine .inr ⟨xw,.slice A j j,.slice A' xw xw,rfl,hh.out,?_,kP.trans S.out.2 (kP.cT (bR _ _).drew _ _),NC _ _ _ _ _,NC _ _ _ _ _⟩;rw[show l.length=j from f.out.symm];exact S.out.1.next (bR _ _).drew
  have J:¬T7 T M m l xw:=λX=>r ⟨X.2.1,by rw[F.out,X.2.2.1,f.out]⟩;have U:=aH (show∀s,s<xw+1->¬T7 T M m l s from λs D=>by
   rcases cK s xw with B|B
   .exact hi.out s B
   obtain rfl:s=xw:=(by omega);exact J)
  have xn:¬(m:Int)<=xw\/((m:Int)<=xw/\((K:Int)==t)=false):=by
   rcases(show¬m<=xw\/(m<=xw/\K≠t)from by omega)with B|⟨B,h8⟩
   .exact .inl (by omega)
   exact .inr ⟨by omega,by rw[bA];omega⟩
  clear J r;by_cases xv:xw<xy
  iterate 2
   .first
     |obtain⟨xx,hm⟩:∃xx,M[xw]?=some xx:=⟨_,aJ (by have:=p.out;omega)⟩
      have he:=al5 hm;have xe:JX M (xw+1)<=tn:=by rw[q.out];exact HS.out (xw+1)
      have h7:∃b R,A'=some ⟨b,R,none⟩/\wr.cell? ⟨b,R+xw,none⟩=some (.int .i64 xx):=by
       obtain⟨A9,c9,xq,-,-,-,hc⟩:=(H.out.r.next o.out).2.2;obtain⟨rfl,-,rfl⟩:=eJ xq;obtain⟨b,R,rfl,-,xo⟩:=hc (by have:=p.out;omega);refine⟨b,R,rfl,?_⟩;rw[xo xw (by rw[ay0];have:=p.out;omega)];unfold rQ;rw[tT];have xp:=(aQ.1 hm).2;rw[xp]
      obtain⟨b9,o9,rfl,c9⟩:=h7;have i5:(xw:Int)<xy:=(by omega);have h4:=aH he;have q1:(K:Int)+xx<=1000000:=(by rw[he,<-F.out]at xe;omega);clear hm he xe
     |have i5:¬(xw:Int)<xy:=by omega
      have h4:=aH (bC1 (M:=M) (k:=xw) (by rw[<-p.out];omega))
    rcases xn with h1|⟨h1,h2⟩
    all_goals
     go_wp2;go_roundw;(first|(case rel=>exact⟨xw+1,by omega,by go_num,by rw[h4.out,<-F.out];first|rfl|go_num|(congr 1;omega),U.out,o.out⟩)|(case rel=>exact⟨xw+1,by omega,by go_num,by rw[h4.out,<-F.out],U.out,o.out⟩));simp[intOf];omega
 obtain rfl:xw=xy+1:=(by omega);have i1:¬(((xy+1:Nat):Int))<=xy:=(by omega);go_wp2;go_ret;refine .inl ⟨rfl,λs D=>hi.out s (by have:=D.1;have:=p.out;omega) D,o.out⟩
variable{b:Bool}{p:List MemPlace}{X:List aN}{a:Nat->Bool}{A:Program}{H:Type}
section
open Go.ChangeShapes Go.WideShapes
def aG1{c:cC×aN->H}{T:cC}{x:DataW H×List MemPlace}(f:A.underlying T=some (.float .f64))(h:DataW.trod c A w n a b k T X=x):∃g,X=[.float .f64 g]/\g<18446744073709551616:=by
 cases k with
 |zero=>simp[DataW.trod]at h
 |succ g=>unfold DataW.trod at h;rw[f]at h;split at h<;>simp_all;rename_i e;subst e;have d:=h.1;simp only[Lit.wf,bG]at d;omega
def Z5{α:Type}{B:cC×aN->H}{U T:cC}{v:aN}{y:DataW H×List MemPlace}(ht:A.underlying U=some (.slice T))(c:Nat)(r:0<c)(Y:A.cellsOf T=c) (f:α->List aN) (e:∀x,(f x)=c) (I:α->Prop) (hx:∀h3 J y,J.length=c->DataW.trod B A w 0 (λ_=>true) true h3 T J=some y->∃x,I x/\J=f x) (hf:DataW.trod B A w 0 (λ_=>true) true n U [v]=y):∃l:List α,Reads w v c l (l.flatMap f)/\∀x∈l,I x:=by
 rcases Deep.open_slice ht hf with⟨k,-⟩|⟨a,p,P,m,h3,D,Pl,k,_,hl,hm,F,-,C⟩
 .simp at k;subst k;exact⟨[],Reads.nil _ _,by simp⟩
 simp at k;subst k;simp only[eH]at F;subst F;have z:∀i,i<p->∃x,I x/\∀j,(E:j<c)->w.cell? ((a.add (i*c)).add j)=(f x)[j]?:=by
  intro i hi;have⟨K,Q,X⟩:=C i (by omega);rw[Y]at Q;have⟨_,L,s⟩:=World.cells?_some Q;obtain⟨x,N,rfl⟩:=hx h3 K _ L X;refine⟨x,N,λj E=>?_⟩;rw[s j (by omega)]
 have d:∀i:Fin p,∃x,I x/\∀j,(E:j<c)->w.cell? ((a.add (i.1*c)).add j)=(f x)[j]?:=λi=>z i.1 i.2;refine⟨List.ofFn λi=>Classical.choose (d i),?_,?_⟩
 .have q:(List.ofFn λi=>Classical.choose (d i)).length=p:=List.length_ofFn;rw[q];refine⟨some a,_,rfl,hl,hm,by rw[ET f c e,q],λW=>?_⟩;have⟨b,o,G⟩:=a;have u:=(Classical.choose_spec (d ⟨0,W⟩)).2 0 r;have t:G=none:=by rw[aJ (by rw[e];exact r)]at u;simpa[Addr.add]using World.cell?_spot u
  subst t;refine⟨b,o,rfl,?_,λj E=>?_⟩
  .rcases cK b w with h|h
   .exact h
   rw[aJ (by rw[e];exact r)]at u;unfold World.cell? at u;simp[Addr.add,DP h]at u
  have M:j<p*c:=(by rwa[ET f c e,q]at E);have R:j/c<p:=cN4 (by rw[oX];exact M);have S:j%c<c:=G0 _ r;have Z:j/c*c+j%c=j:=(by rw[oX];exact WT j c);have V:=(Classical.choose_spec (d ⟨j/c,R⟩)).2 (j%c) S;have g:=EU f c e (List.ofFn λi=>Classical.choose (d i)) (j/c) (j%c) (by rw[q];exact R) S;rw[Z,aJ E,List.getElem_ofFn]at g;rw[g,<-V,Addr.add_lit,Addr.add_lit];congr 2;simp only[];omega
 intro x O;obtain⟨i,rfl⟩:=List.mem_ofFn.1 O;exact(Classical.choose_spec (d i)).1
def bQ1:prog.cellsOf 44=3:=by kernel_rfl
def ad4:prog.cellsOf 9=1:=by kernel_rfl
def ad5:prog.cellsOf 3=1:=by kernel_rfl
def ad6:prog.cellsOf 24=1:=by kernel_rfl
def bp5:prog.cellsOf 32=1:=by kernel_rfl
def ce6{d:Type}(l:List d)(h:l.length=3):∃a b c,l=[a,b,c]:=by
 match l,h with
 |[a,b,c],_=>exact⟨a,b,c,rfl⟩
def cq1{d:cC×aN->H}(D:Nat)(c:List aN)(y:DataW H×List MemPlace)(o:c.length=3)(h:DataW.trod d prog w n a b D 44 c=y):∃e:Ev,okV e/\c=evL e:=by obtain⟨v,x,z,rfl⟩:=ce6 c o;obtain⟨A,B,C,m,-,-,j,k,l⟩:=Deep.trod_struct3 underlying44 h;simp only[ad4,ad6]at j k l;obtain⟨p,f,-,r⟩:=DataW.trod_string underlying9 j;obtain⟨q,g,-,s⟩:=DataW.trod_string underlying9 k;have⟨u,i,t⟩:=aG1 underlying24 l;simp at f g i;subst f g i;exact⟨(p,q,u),⟨r,s,t⟩,rfl⟩
def aV3:prog.cellsOf 35=7:=by kernel_rfl
def aV4:prog.cellsOf 33=1:=by kernel_rfl
def bp3:prog.cellsOf 23=1:=by kernel_rfl
def bp4:prog.cellsOf 25=1:=by kernel_rfl
def bp6:prog.cellsOf 27=3:=by kernel_rfl
def cG9{i:Type}(l:List i)(h:l.length=7):∃a b c d e f g,l=[a,b,c,d,e,f,g]:=by
 match l,h with
 |[a,b,c,d,e,f,g],_=>exact⟨a,b,c,d,e,f,g,rfl⟩
def au8{c:cC×aN->H}{T:cC}{e f g i j l m:Field}{x:DataW H×List MemPlace}(y:A.underlying T=some (.struct #[e,f,g,i,j,l,m]))(h:DataW.trod c A w n a b k T X=x):∃p q r s t u v C,DataW.trod c A w n a b C e.type ((X.drop e.offset).take (A.cellsOf e.type))=some p/\DataW.trod c A w n a b C f.type ((X.drop f.offset).take (A.cellsOf f.type))=some q/\DataW.trod c A w n a b C g.type ((X.drop g.offset).take (A.cellsOf g.type))=some r/\DataW.trod c A w n a b C i.type ((X.drop i.offset).take (A.cellsOf i.type))=some s/\DataW.trod c A w n a b C j.type ((X.drop j.offset).take (A.cellsOf j.type))=some t/\DataW.trod c A w n a b C l.type ((X.drop l.offset).take (A.cellsOf l.type))=some u/\DataW.trod c A w n a b C m.type ((X.drop m.offset).take (A.cellsOf m.type))=some v:=by
 obtain⟨z,C,_,rfl,B,o,d⟩:=DataW.trod_struct y h;match z,o with
 |[p,q,r,s,t,u,v],_=>exact⟨p,q,r,s,t,u,v,C,by simpa using d 0 e rfl,by simpa using d 1 f rfl,by simpa using d 2 g rfl,by simpa using d 3 i rfl,by simpa using d 4 j rfl,by simpa using d 5 l rfl,by simpa using d 6 m rfl⟩
def bN8(l:List Int):(l.flatMap λz=>[Value.int .i64 z])=rT l:=by
 induction l with
 |nil=>rfl
 |cons a l b=>rw[eN,b];rfl
def bb6{enc:cC×aN->H}{W:aI}(n:Nat)(cs:List aN)(y:DataW H×List MemPlace)(hl:cs.length=7)(h:DataW.trod enc prog W 0 (λ_=>true) true n 35 cs=y):∃p:wN,QG W p/\cs=BD p:=by
 obtain⟨c0,c1,c2,c3,c4,c5,c6,rfl⟩:=cG9 cs hl;obtain⟨y0,y1,y2,y3,y4,y5,y6,m,h0,h1,h2,h3,h4,h5,h6⟩:=au8 underlying35 h;simp only[ad4,ad5,bp5,aV4]at h0 h1 h2 h3 h4 h5 h6;obtain⟨x0,e0,-,w0⟩:=DataW.trod_int underlying3 h0;obtain⟨s1,e1,-,w1⟩:=DataW.trod_string underlying9 h1;obtain⟨x2,e2,-,w2⟩:=DataW.trod_int underlying3 h2;obtain⟨x3,e3,-,w3⟩:=DataW.trod_int underlying3 h3;obtain⟨l,hr,hok⟩:=Z5 underlying32 3 (by omega) bQ1 evL (fun _=>rfl) okV (fun n cs y hl h=>cq1 n cs y hl h) (v:=c4) (by simpa using h4);obtain⟨k,kr,kok⟩:=Z5 underlying33 1 (by omega) ad5 (fun z:Int=>[Value.int .i64 z]) (fun _=>rfl) DI (fun n cs y hl h=>by
  obtain⟨x,ex,-,wx⟩:=DataW.trod_int underlying3 h;exact⟨x,bounds_i64 wx,ex⟩) (v:=c5) (by simpa using h5)
 obtain⟨s6,e6,-,w6⟩:=DataW.trod_string underlying9 h6;simp at e0 e1 e2 e3 e6;subst e0 e1 e2 e3 e6;rw[bN8]at kr;exact⟨((c4,c5),⟨x0,s1,x2,x3,l,k,s6⟩),⟨⟨hr,hok⟩,kr,kok,bounds_i64 w0,w1,bounds_i64 w2,bounds_i64 w3,w6⟩,rfl⟩
def open_SliceOfscriptStep{b:cC×aN->H}{d:DataW H}(a:Value.okWide prog w .any n 22 v)(h:DataW.Trod b prog w 0 (λ_=>true) true 22 v d p):∃X:List wN,J8 w v X:=bH8 underlying22 7 (by omega) aV3 BD (λ_=>rfl) (QG w) (λf c y e h=>bb6 f c y e h) a h
structure cO1 where
 aX:Nat
 cF:Nat
 room:Nat
def cE0(v:aN)(a:cO1):Prop:=v=.agg #[.int .u64 (a.aX:Nat),.float .f64 a.cF,.int .u16 (a.room:Nat)]/\a.aX<18446744073709551616/\a.room<=65535
def open_annalistlaw26How{f:cC×aN->H}{d:DataW H}(e:Value.okWide prog w .any n 27 v)(h:DataW.Trod f prog w 0 (λ_=>true) true 27 v d p):∃a,cE0 v a:=by
 obtain⟨b,rfl,c,_⟩:∃b,v=.agg b/\b=prog.cellsOf 27/\Row.okWide prog w .any n 27 b:=by
  simpa[Value.okWide,underlying27]using e
 rw[bp6]at c;have⟨o,t⟩:=h;have⟨b⟩:=b;simp only[Value.cells]at t;have⟨E,F,G,y⟩:=ce6 b (by simpa using c);subst y;obtain⟨J,K,L,m,-,-,q,r,s⟩:=Deep.trod_struct3 underlying27 t;simp only[bp3,bp4,ad6]at q r s;obtain⟨g,j,-,z⟩:=DataW.trod_int underlying23 q;have⟨B,k,I⟩:=aG1 underlying24 r;obtain⟨i,l,-,A⟩:=DataW.trod_int underlying25 s;simp at j k l;subst j k l;have C:=bounds_u64 z;have D:=bounds_u16 A;refine⟨⟨g.toNat,B,i.toNat⟩,?_,by simp only;omega,by simp only;omega⟩;have u:((g.toNat:Nat):Int)=g:=(by omega);have x:((i.toNat:Nat):Int)=i:=(by omega);simp only[u,x]
end
end Go.Proofs.YtpopikndggffaaaGreatDoor
