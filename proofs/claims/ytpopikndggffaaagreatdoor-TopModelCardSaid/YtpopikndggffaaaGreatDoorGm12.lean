/- TOP, part 12. -/
import Derived.Test.YtpopikndggffaaaGreatDoorGm8
import Derived.Test.YtpopikndggffaaaGreatDoorGm10
namespace Go.Proofs.YtpopikndggffaaaGreatDoor
set_option linter.all false
set_option maxRecDepth 100000
set_option maxHeartbeats 16000000
open Go.RowKit Tryz
variable{X:List aN}{w x:aI}{T:cD}
def rd1{n k:Nat}(h:Row w n T X)(a:X.length=k):Reads w (.slice (some ⟨n,0,none⟩) 1 1) k 1 X:=
 Reads.DX h (by rw[a,Nat.one_mul]) (aO _) (by unfold maxLen;omega)
section
variable {P:Program}{ops:Array Oper}{rest:List Oper}{o:Oper}{a:Act}{Q:Exit->Act->aI->Prop}{s x:Operand}{t e:cD}{base size bytes n m:Nat}{z v v2:aN}{xs news:List aN}
def bh0(q:(P.info? e).map (λi=>(i.zero,i.size,i.bytes))=some (some z,size,bytes))(B:P.underlying t=some (.slice e))(d:w.ownsRow base e size v n xs)(y:Reads w v2 size m news)
 (g:o.guard=none) (u:o.op=.call {callee:=.builtin .append,args:=#[s,x],argTypes:=#[t,t]}) (A:a.eval s=v) (C:a.eval x=v2) (p:(z.cells.size==size&&decide (0<size)&&decide (0<bytes)&&news.all Value.oneCell')=true)
 (b:(n+m)*bytes<=140737488355328) (c:base<=w.heap.size)
 (h:∀f l,l.ownsRow base e size f (n+m) (xs++news)->w.grownBy l v.ownBlock->(f.ownBlock=v.ownBlock\/f.ownBlock=some w.heap.size)->wpList P ops Q rest (a.put o.dst f) l):wpList P ops Q (o::rest) a w:=by
  obtain⟨i,r,D,j,k⟩:=info_parts q;simp only[bL,gG,bH,dL]at p;obtain⟨⟨⟨E,F⟩,G⟩,H⟩:=p;exact qF w g s x t u base e i z size bytes B r D j k E F v n xs A d v2 m news C y H (by
   have:=aL (Nat.le_mul_of_pos_right (n+m) G) b;unfold maxLen;omega) b c h
def R7(l:(P.info? e).map (λi=>(i.zero,i.size,i.bytes))=some (some z,size,bytes))(r:P.underlying t=some (.slice e))(c:w.ownsRow base e size v n xs)
 (g:o.guard=none) (m:o.op=.call {callee:=.builtin .append,args:=#[s,x],argTypes:=#[t,t]}) (q:a.eval s=v) (u:a.eval x=.slice (some ⟨w.heap.size,0,none⟩) 1 1) (j:(z.cells.size==size&&decide (0<size)&&decide (0<bytes)&&news.all Value.oneCell'&&news.length==size)=true)
 (b:(n+1)*bytes<=140737488355328) (f:base<=w.heap.size)
 (h:∀d k,k.ownsRow base e size d (n+1) (xs++news)->(w.alloc (.cells news.toArray T)).grownBy k v.ownBlock->(d.ownBlock=v.ownBlock\/d.ownBlock=some (w.alloc (.cells news.toArray T)).heap.size)->wpList P ops Q rest (a.put o.dst d) k):wpList P ops Q (o::rest) a (w.alloc (.cells news.toArray T)):=by rw[bL,gG]at j;have p:Reads (w.alloc (.cells news.toArray T)) (.slice (some ⟨w.heap.size,0,none⟩) 1 1) size 1 news:=rd1 (Row.new w news.toArray T) j.2;exact bh0 l r (cA c (dO _ _)) p g m q u j.1 b (by rw[bC];omega) h
end
variable{M:List Nat}{L:List cZ}{i k m n:Nat}{v:aN}{o:cZ}
def bw3(h:w.ownsRow n T i v m X)(e:k<=n):w.ownsRow k T i v m X:=by
 refine⟨h.1,?_⟩;rcases h.2 with f|⟨g,b,c,j,d,a⟩
 .exact .inl f
 exact .inr ⟨g,b,c,j,aL e d,a⟩
def bK1{c:Type}{l:List c}{a:c}(h:l[n]?=a):l.set n a=l:=by
 apply p7;intro i;rw[List.getElem?_set];by_cases b:n=i
 .subst b;have:=(aR.1 h).1;rw[aU rfl,aU this,h]
 rw[aQ b]
def bU5{z:cZ}(h:o≠z):decide (o.1=z.1/\o.2.1=z.2.1/\o.2.2=z.2.2)=false:=by rw[cN];rintro ⟨a,b,c⟩;exact h (Prod.ext a (Prod.ext b c))
def bK7{u z:aN}(h:Row w n T [v,u,z]):w.cell? (zp n)=some v/\w.cell? (zp n 1)=some u/\w.cell? (zp n 2)=z:=⟨h.rY,h.xD,h.G8⟩
def aO8(h:Row w n T (asC M))(b:M=k)(a:M[m]?=i):((aO9 w n k)[m]?).getD 0=i:=by subst b;rw[ZK h,a];rfl
def cg2(a:k=i)(b:m=i+1)(h:i<n):n-m<n-k:=by omega
def bS4:(prog.info? 152).map (λi=>(i.zero,i.size,i.bytes))=some (some (.agg #[zu 0,(),()]),3,24):=by kernel_rfl
def YW(l:List cZ):∀u∈fX l,u.oneCell'=true:=by intro u b;have⟨e,_,a⟩:=lG.1 b;simp only[IX,cX,qC,or_false]at a;rcases a with rfl|rfl|rfl<;>rfl
def MT(a b:List cZ):fX (a++b)=fX a++fX b:=dU
def ak4(w:aI)(e:cZ):Reads (w.alloc (.cells #[zu (e.1:Nat),e.2.1,e.2.2] 152)) (.slice (zp w) 1 1) 3 1 (fX [e]):=
 Reads.DX (Row.new w #[zu (e.1:Nat),e.2.1,e.2.2] 152) rfl gC (by unfold maxLen;omega)
def T7{n:Nat}(h:Row w k T (asC M))(a:M=n):aO9 w k n=M:=by subst a;exact ZK h
def am1(w:aI)(o:Obj):aS w w (w.alloc o):=(aY w w).alloc gC o
def bq5{P:List (List cZ)}(h:L∈P):L<=p8 P:=by
 induction P with
 |nil=>cases h
 |cons x P a=>
  unfold p8 at a|-;simp only[dN,kL];rcases cX.1 h with rfl|h
  .omega
  have:=a h;omega
def PY(v:aN)(g:List (List cZ))(w:aI)(h:co1 w v g)(hn:g.length<=1000)(ht:p8 g<=1000000):
 Calls prog 161 #[v] w λe w'=>∃A c,e=.returned (.slice A (jV g) c)/\w'.ownsRow w 152 3 (.slice A (jV g) c) (jV g) (fX (jV g))/\(∀e∈jV g,wN e)/\aS w w w':=by
  have⟨vs,yr,hr,F⟩:=h;obtain⟨A,c,rfl,ze,up,-,x7⟩:=id hr;have⟨n,h9⟩:=kX g.length;rw[yr,<-h9]at ze;rw[<-h9]at hn;have xw:∀(k:Nat)(l:List cZ),g[k]?=l->l.length<=1000000:=λk l R=>by have h1:l∈g:=bD R;have h2:=bq5 h1;omega
  have xa:∀(k:Nat)(l:List cZ),g[k]?=l->∃bb hh A' c',A=zp bb hh/\(∀w':aI,aS w w w'->w'.cell? (zp bb (hh+k))=some (.slice A' l c'))/\l.length<=c'/\c'<=maxLen/\(∀e∈l,wN e)/\
   (0<l.length->∃b' H,A'=some ⟨b',H,none⟩/\∀(a:Nat)(e:cZ),l[a]?=e->∀w':aI,aS w w w'->w'.cell? (zp b' (H+a*3))=zu (e.1:Nat)/\w'.cell? (zp b' (H+a*3+1))=e.2.1/\w'.cell? (zp b' (H+a*3+2))=e.2.2):=by
   intro k l R;have hk:=(aR.1 R).1;have⟨bb,hh,hA,yi,hc⟩:=x7 (by omega);have zl:k<vs:=(by omega);have hE:=F k vs[k] l (aK zl) R;obtain⟨⟨A',c',u3,-,-,-,-⟩,uw⟩:=id hE;have yd:=hE;rw[u3]at yd;obtain⟨-,q1,q2,-⟩:=yd.cells;refine⟨bb,hh,A',c',hA,λw' hb=>?_,q1,q2,uw,λh0=>?_⟩
   .rw[<-u3,<-hc k zl];exact hb.cell (p:=zp bb (hh+k)) yi
   obtain⟨b',H,um,-,xo⟩:=yd.later h0;exact⟨b',H,um,λa e he w' hb=>xo a e he w' hb⟩
  have uu:n<=maxLen:=(by unfold maxLen;omega);have⟨w1,ut,xg,uo,xp⟩:=by8 w n (by omega);have ho:av5 g (List.replicate n 0):=⟨by rw[List.length_replicate,h9],λk l a h1 h2=>by have:=List.eq_of_mem_replicate (bD h2);omega⟩;have O:CW g (List.replicate n 0)=g:=(by rw[h9];exact bz6 g);have xe:w1.ownsRow w1 152 3 zs 0 (fX []):=bQ _ _ _ _;have⟨J,hi,t⟩:=aB xa xw h9;rw[yr,<-h9];clear xa xw h9 F x7 hr yr;go_in;(go_wp2_with fail);go_step3;(go_wp2_with fail);go_step3;(go_wp2_with fail);have⟨G,hG⟩:=kX w.heap.size;go_loopw [3] (λyv wr=>∃(Y:List Nat)(o:List cZ)(A':Option Addr)(c':Nat),av5 g Y/\yv=.slice A' o c'/\wr.ownsRow w1 152 3 (.slice A' o c') o (fX o)/\Row wr w 3 (asC Y)/\aS w w wr/\w1.heap.size<=wr/\AM (CW g Y) o=jV g/\(∀e∈o,wN e)/\o+p8 (CW g Y)<=1000000) (λ_ wr=>p8 (CW g (aO9 wr w n)))
  .exact⟨List.replicate n 0,[],none,0,ho,rfl,xe,xg,uo,gC,by rw[O];rfl,by simp,by rw[O];simpa using ht⟩
  obtain⟨Y,o,A0,c0,zj,rfl,U,xz,yf,uy,u2,zz,v9⟩:=hrel;have⟨x2,u,hs,z3,xl⟩:=aD U xz zj u2 zz;clear U xz zj u2 zz xe xg ut ho O;(go_wp2_with fail);obtain⟨wo,rfl⟩:=kX wr;go_loopw [5,17] (λz5 i wi=>∃(k:Nat)(j:Int),k<=n/\i=.int .i64 k/\z5=.int .i64 j/\OW g Y k j/\aS wo wo wi) (λ_ i _=>n-(intOf i).toNat)
  .exact⟨0,-1,bO _,rfl,rfl,bE6 _ _,mE⟩
  obtain⟨k,j,hk,rfl,rfl,M,q⟩:=hrel;by_cases yi:k<n
  .have i1:(k:Int)<n:=(by omega);obtain⟨l,R⟩:∃l,g[k]?=some l:=⟨_,aK (by have:=t.zz;omega)⟩;obtain⟨a,ha⟩:∃a,Y[k]?=some a:=⟨_,aK (by have:=hs.zz.1;have:=t.zz;omega)⟩;have za:=hs.zz.2 k l a R ha;have us:=hi k l R;obtain⟨bb,hh,A',c',rfl,hv,uq,yh,xq,x9⟩:=J k l R;have z:=aJ yf q;have f0:=hv wr z;have f1:=λx:dY wr=>hv x.it (aJ z x.ok);have hR:=u.next q;have f2:=λx:dY wr=>(NI (hR.next x.ok) ha).1;have⟨y4,uc,HR⟩:=aB x9 xq hR;unfold maxLen at yh;clear hv x9 xq hR;by_cases hj:a<l
   .have i2:(a:Int)<l:=(by omega);obtain⟨e,he⟩:∃e,l[a]?=some e:=⟨_,aK hj⟩;have oe:=uc e (bD he);rcases M with⟨rfl,B⟩|⟨b,P,ab,f,ye,rfl,g1,g2,g3,C⟩
    iterate 2
     .first|((have ur:decide ((b:Int)<0)=false:=cC (by omega));(have zk:(0:Int)<=(b:Int):=by omega);(have zd:(b:Int)<n:=by omega);have z9:ab<P:=(aR.1 g3).1;(have xu:(ab:Int)<P:=by omega);have zm:=hi b P g1;have⟨uf,u9,A2,c2,yc,hy,u8,xr,xi,xj⟩:=J b P g1;cases yc;(obtain⟨q1,r1,rfl,hq⟩:=y4 (by omega));(obtain⟨q2,r2,rfl,hw⟩:=xj (by omega));have yu:=xi f (bD g3);unfold maxLen at xr;have m1:=λx:dY wr=>hy x.it (aJ z x.ok);have m2:=λx:dY wr=>(NI (HR.next x.ok) g2).1;have ca:=λx:dY wr=>hq a e he x.it (aJ z x.ok);have cb:=λx:dY wr=>hw ab f g3 x.it (aJ z x.ok);have ug:=λx=>(ca x).1;have uh:=λx=>(ca x).2.1;have ui:=λx=>(ca x).2.2;have z6:=λx=>(cb x).1;have z7:=λx=>(cb x).2.1;have z8:=λx=>(cb x).2.2;have x3:=aH C;clear C ca cb hq hw hy xi xj)|have y6:=aH B;clear B
      (go_wp2_with fail);refine cU (by kernel_rfl) (by kernel_rfl) ?_;(first|(repeat go_big_quiet_step (first|(go_at_call 212;exact eP _ (wC e f _ oe yu))))|(repeat go_big_quiet_step (fail)));refine wpQuiet_nil ?_;intro _ F;obtain⟨⟨w2,x4⟩,rfl⟩:=F
      first
       |rcases N:iA e f with _|_
        iterate 2
         .go_wp2;go_roundw;(first|(case rel=>exact⟨k+1,b,by omega,rfl,rfl,bE8 x3 ye g1 g2 g3 R ha he N,aJ q x4⟩)|(case rel=>exact⟨k+1,k,by omega,rfl,rfl,bE9 x3 R ha he N,aJ q x4⟩));simp[intOf];omega
       |go_wp2
        go_roundw
        .exact⟨k+1,k,by omega,rfl,rfl,bg3 y6 R ha he,aJ q x4⟩
        simp[intOf];omega
   have i2:¬(a:Int)<l:=(by omega);have Hb:=aH M;clear M;(go_wp2_with fail);refine cU (by kernel_rfl) (by kernel_rfl) ?_;(repeat go_big_quiet_step (fail));refine wpQuiet_nil ?_;intro _ F;obtain⟨⟨w2,x4⟩,rfl⟩:=F;go_wp2;go_roundw
   .exact⟨k+1,j,by omega,rfl,rfl,bE7 Hb R ha (by omega),aJ q x4⟩
   simp[intOf];omega
  obtain rfl:k=n:=(by omega);have i1:¬(k:Int)<k:=(by omega);have S:=cq0 hs.1;rw[<-t.zz]at S;rcases M with⟨rfl,B⟩|⟨b,P,ab,f,ye,rfl,g1,g2,g3,C⟩
  .have hm:=GR (out:=o) (S.symm.trans B);have zg:o=jV g:=hm.symm.trans z3;subst zg;have U:=bw3 (cA x2 q) (tH xp);have y8:=aH U;clear U S B hm;go_wp2;go_ret;exact⟨A0,c0,rfl,y8,xl,aJ yf q⟩
  have xh:=PZ (out:=o) (S.symm.trans C);have xc:=bz7 (e:=f) hs;have ur:decide ((b:Int)<0)=false:=cC (by omega);have zk:(0:Int)<=(b:Int):=(by omega);have zd:(b:Int)<k:=(by omega);have z9:ab<P:=(aR.1 g3).1;have xu:(ab:Int)<P:=(by omega);have zm:=hi b P g1;have z:=aJ yf q;obtain⟨bb,hh,A2,c2,rfl,hy,u8,xr,xi,xj⟩:=J b P g1;obtain⟨q2,r2,rfl,hw⟩:=xj (by omega);have yu:=xi f (bD g3);unfold maxLen at xr;have m1:=hy wr z;have m2:=(NI (u.next q) g2).1;have⟨z6,z7,z8⟩:=hw ab f g3 wr z;have al:=λo=>(aY wr wr).alloc gC o;have n1:=λo=>hy _ (aJ z (al o));have n2:=λo=>(NI ((u.next q).next (al o)) g2).1;have nb:=λo=>hw ab f g3 _ (aJ z (al o));have uz:=λo=>(nb o).1;have v0:=λo=>(nb o).2.1;have v6:=λo=>(nb o).2.2;clear nb al;have⟨yb,y5⟩:=aA xh xc;clear xh xc S C hw hy xi xj;(go_wp2_with fail);go_region;clear m1 m2 z6 z7 z8 n1 n2 uz v0 v6;have xf:=(Row.new wr #[zu (f.1:Nat),f.2.1,f.2.2] 152).drew;have x5:=((aY wr wr).alloc gC (.cells #[zu (f.1:Nat),f.2.1,f.2.2] 152)).drew;have hg:=(u.next q).next x5;have hd:=cA (cA x2 q) x5;have xv:=aJ z x5;have zh:w.heap.size<wr:=(u.next q).lt;have u4:w1.heap.size<=wr:=aL uy q.size;have⟨E,hE⟩:=kX wr.heap.size;rw[<-hE]at xf zh u4|-;generalize (wr.alloc (.cells #[zu (f.1:Nat),f.2.1,f.2.2] 152)).drew=W3 at xf x5 hg hd xv|-;have un:E<W3:=xf.lt;clear x5 hE;have ym:=hs.zz.1;have L:=aH ym;have zr:aO9 wo w k=Y:=by have h1:=ZK u;rwa[ym,<-t.zz]at h1
  have yw:=aH zr;clear zr;have⟨i0,zi,u5,u6,u7⟩:=info_parts bS4;have⟨ue,ub,ua⟩:=aB hg hd xf;clear ym hg hd xf u x2;go_wp2_with fail
  go_loopw [69] (λi wj=>∃m:Nat,m<=k/\i=.int .i64 m/\Row wj w 3 (asC (NZ f g Y m))/\Row wj E 152 [zu (f.1:Nat),f.2.1,f.2.2]/\wj.ownsRow w1 152 3 (.slice A0 o c0) o (fX o)/\aS w w wj/\W3.heap.size<=wj) (λi _=>k-(intOf i).toNat)
  .exact⟨0,bO _,rfl,by rw[bP2];exact ue,ua,ub,xv,gC⟩
  obtain⟨wj,rfl⟩:=kX wr;obtain⟨m,hm,rfl,u1,zf,zx,hu,ux⟩:=hrel;have⟨yz,x0,x1⟩:=aB u1 zf zx;clear u1 zf zx;by_cases xb:m<k
  .have j1:(m:Int)<k:=(by omega);obtain⟨l,R⟩:∃l,g[m]?=some l:=⟨_,aK (by have:=t.zz;omega)⟩;obtain⟨a,ha⟩:∃a,Y[m]?=some a:=⟨_,aK (by have:=L.zz;have:=t.zz;omega)⟩;have za:=hs.zz.2 m l a R ha;have us:=hi m l R;have⟨uf,u9,A',c',yc,hv,uq,yh,xq,x9⟩:=J m l R;cases yc;unfold maxLen at yh;have f0:=hv wj hu;have zo:=(cf5 (e:=f) L m (by have:=t.zz;omega)).trans ha;have⟨y4,ud⟩:=aA x9 zo;have zq:(NZ f g Y m)=k:=(by rw[cf4 L.zz m (by have:=t.zz;omega),t.zz]);have xk:=aH zq;clear hv x9 xq zo zq;(go_wp2_with fail);go_loopw [91] (λ_ wl=>∃D:Nat,a<=D/\D<=l/\wX f l D=wX f l a/\Row wl w 3 (asC ((NZ f g Y m).set m D))/\Row wl E 152 [zu (f.1:Nat),f.2.1,f.2.2]/\wl.ownsRow w1 152 3 (.slice A0 o c0) o (fX o)/\aS w w wl/\W3.heap.size<=wl) (λ_ wl=>l.length-((aO9 wl w k)[m]?.getD 0))
   .exact⟨a,gC,za,rfl,by rw[bK1 ud.zz];exact yz,x0,x1,hu,ux⟩
   have⟨D,ve,zb,yk,yo,yg,zy,xn,yq⟩:=hrel;have x8:((NZ f g Y m).set m D)[m]?=some D:=(by rw[gI (by rw[xk.zz];exact xb)]);have f2:=λx:dY wr=>(NI (yo.next x.ok) x8).1;have fe:=λx:dY wr=>bK7 (yg.next x.ok);have uj:=λx=>(fe x).1;have uk:=λx=>(fe x).2.1;have ul:=λx=>(fe x).2.2;have⟨xm,y3,y7,xs⟩:=aC yo yg zy x8;clear yo yg zy fe x8;by_cases hj:D<l
   .have i2:(D:Int)<l:=(by omega);obtain⟨x,F⟩:∃x,l[D]?=some x:=⟨_,aK hj⟩;obtain⟨q1,r1,rfl,hq⟩:=y4 (by omega);have ca:=λy:dY wr=>hq D x F y.it (aJ xn y.ok);have ug:=λy=>(ca y).1;have uh:=λy=>(ca y).2.1;have ui:=λy=>(ca y).2.2;have Hx:=aH F;clear ca hq F;by_cases yt:x=f
    .subst yt;have i3:IntKind.i64.wrap ((D:Int)+1)=((D+1:Nat):Int):=(by rw[dM];omega);(go_wp2_with fail);refine cU (by kernel_rfl) (by kernel_rfl) ?_;(repeat go_big_quiet_step (fail));refine wpQuiet_nil ?_;intro _ F;obtain⟨⟨w4,d⟩,rfl⟩:=F;have s:=xm.next d;have⟨s0,s1⟩:=NI s xs;have⟨P1,P2,P3,P4⟩:=aC (s.set m ((D+1:Nat):Int)) ((y3.next d).far (p:=zp w m) (by show E≠w;omega) ((D+1:Nat):Int)) (ownsRow_setCell_below (cA y7 d) (a:=zp w m) xp ((D+1:Nat):Int)) ((aJ xn d).setCell (p:=zp w m) gC ((D+1:Nat):Int));have P5:=aL yq d.size;clear s;go_wp2;go_roundw
     .exact⟨D+1,by omega,by omega,(bv5 Hx).trans yk,(by have:=P1.zz;rwa[bo2,List.set_set]at this),P2,P3,P4,by simpa using P5⟩
     have e1:=aO8 xm (by rw[nJ,xk.zz]) xs;have z4:=P1.zz;rw[bo2,List.set_set]at z4;have e2:=aO8 z4 (by rw[nJ,xk.zz]) (show _=some (D+1)by rw[gI (by rw[xk.zz];exact xb)]);exact cg2 e1 e2 hj
    have vg:=bU5 yt;(go_wp2_with fail);have yl:wX f l a=D:=yk.symm.trans (bv4 Hx yt);refine cU (by kernel_rfl) (by kernel_rfl) ?_;(repeat go_big_quiet_step (fail));refine wpQuiet_nil ?_;intro _ F;obtain⟨⟨w4,d⟩,rfl⟩:=F;have s:=xm.next d;have h5:=bl7 (e:=f) L R ha;rw[yl]at h5;rw[h5]at s;have P1:=aH s;have P5:=aL yq d.size;clear s h5;go_wp2;go_roundw
    .exact⟨m+1,by omega,by go_num,P1,y3.next d,cA y7 d,aJ xn d,P5⟩
    simp[intOf];omega
   have i2:¬(D:Int)<l:=(by omega);(go_wp2_with fail);have yl:wX f l a=D:=yk.symm.trans (bN6 (by omega) zb);refine cU (by kernel_rfl) (by kernel_rfl) ?_;(repeat go_big_quiet_step (fail));refine wpQuiet_nil ?_;intro _ F;obtain⟨⟨w4,d⟩,rfl⟩:=F;have s:=xm.next d;have h5:=bl7 (e:=f) L R ha;rw[yl]at h5;rw[h5]at s;have P1:=aH s;have P5:=aL yq d.size;clear s h5;go_wp2;go_roundw
   .exact⟨m+1,by omega,by go_num,P1,y3.next d,cA y7 d,aJ xn d,P5⟩
   simp[intOf];omega
  obtain rfl:m=k:=(by omega);have j1:¬(m:Int)<m:=(by omega);have yn:=yz.zz;have e0:=cf6 (e:=f) L;rw[<-t.zz]at e0;rw[e0]at yn;have⟨zv,zw⟩:=y5.zz;have⟨s1,s2⟩:=yb.zz;rw[<-zv]at s1 s2;have⟨HT,hz,HN,ya⟩:=aC (s1.symm.trans z3) s2 zw yn;have yj:qD wj (.slice A0 o c0) o:=⟨Reads.dC x1,xl⟩;have xx:∀e∈o++[f],wN e:=λe he=>by
   rcases cE.1 he with h|h
   .exact xl e h
   rw[bT.1 h];exact yu
  have xt:=aH xx;have zc:=hu.size;have ys:w1.heap.size<=wj:=(by omega);clear yn e0 zv zw s1 s2 xx;have⟨z0,z1,z2⟩:=bK7 x0;clear zk zd z9 xu g1 g2 g3 zm u8 xr u4 zh un ye i1 yi hk hm xb j1 uu ze hn zc up ht;rcases h4:o.getLast? with _|V
  .obtain rfl:o=[]:=ca7.1 h4;have xd:XL [] f=[]++[f]:=rfl;have⟨K,yx⟩:=aA xd (show wj.ownsRow w1 152 3 (.slice A0 0 c0) 0 (fX [])from x1);clear xd yj;(go_wp2_with fail);refine cU (by kernel_rfl) (by kernel_rfl) ?_;(repeat go_big_quiet_step (fail));refine wpQuiet_nil ?_;intro _ F;obtain⟨⟨w4,d⟩,rfl⟩:=F;rename_i w4;have T:=aJ hu d;have W:=cA yx d;have X:=ya.next d;have v7:=aL ys d.size;have⟨I,Z,y9⟩:=aB T W X;clear T W X;have⟨y0,y1,y2⟩:=bK7 (x0.next d);go_wp2_with (first
    |(at_builtin;refine iZ _ rfl _ _ 113 rfl w1 152 i0 _ 3 24 underlying113 zi u5 u6 u7 rfl (by decide) _ 0 _ rfl (cA Z (am1 _ _)) _ 1 (fX [f]) rfl (ak4 _ f) (YW _) (by unfold maxLen;omega) (by omega) (by simp only[bC];omega) ?_;intro v5 w5 r h3;obtain⟨A5,c5,rfl,-,-,-,-⟩:=Reads.dC r))
   have x6:=(I.alloc I.size (.cells #[zu (f.1:Nat),f.2.1,f.2.2] 152)).grown h3 (I.alloc I.size _).size (λk hk=>aL (tH xp) (dE Z k hk));have hf:=(y9.alloc (.cells #[zu (f.1:Nat),f.2.1,f.2.2] 152)).grown h3 (λh=>by have:=dE Z _ h.symm;omega);have yp:w1.heap.size<=w5:=(by have:=h3.size;simp only[bC]at this;omega);have⟨H5,H6,H7,H8⟩:=aC (T7 (n:=m) hf (by rw[vT L.zz];exact t.symm)) hf x6 r;clear hf x6 r;go_wp2;go_roundw
   .exact⟨IG f g Y,XL [] f,A5,c5,HN,by rw[K.zz];simp,by rw[K.zz,MT];simpa using H8.zz,H6,H7,yp,HT,by rw[K.zz];exact xt,by rw[K.zz,aP];have:=hz.zz;simp only[uL];simp only[jU]at *;omega⟩
   (have h6:=hz.zz);(have h7:=yw.zz);(have h8:=H5.zz);rw[h7,h8];exact h6
  have xd:∀h:V≠f,XL o f=o++[f]:=λh=>(by unfold XL;rw[h4,aQ (by simpa using h)]);have xy:V=f->XL o f=o:=λh=>(by unfold XL;rw[h4,aU (by rw[h])]);have uv:o≠[]:=λh=>(by rw[h]at h4;cases h4);have u0:=pM.2 uv;obtain⟨p,hp⟩:∃p,o.length=p+1:=⟨o.length - 1,by omega⟩;rw[ca8,hp,Nat.add_sub_cancel]at h4;obtain⟨b0,va,rfl,vf,xo⟩:=yj.later u0;have v1:IntKind.i64.wrap ((o:Int)-1)=(p:Int):=(by rw[dM];omega);have v2:(0:Int)<=(p:Int):=(by omega);have v3:(p:Int)<o:=(by omega);have v4:(0:Int)<o:=(by omega);have fo:=λx:dY wj=>xo p V h4 x.it x.ok;have fe:=λx:dY wj=>bK7 (x0.next x.ok);have vb:=λx=>(fo x).1;have vc:=λx=>(fo x).2.1;have vd:=λx=>(fo x).2.2;have uj:=λx=>(fe x).1;have uk:=λx=>(fe x).2.1;have ul:=λx=>(fe x).2.2;have⟨K,yy,Hp⟩:=aB xd xy hp;clear fo fe xd xy xo yj hp;by_cases N:V=f
  iterate 2
   ·(first|have v8:=bU5 N|subst N);(go_wp2_with fail);refine cU (by kernel_rfl) (by kernel_rfl) ?_;(repeat go_big_quiet_step (fail));refine wpQuiet_nil ?_;intro _ F;obtain⟨⟨w4,d⟩,rfl⟩:=F;rename_i w4
    first
     |have T:=aJ hu d
      have W:=cA x1 d;have X:=ya.next d;have v7:=aL ys d.size;have⟨I,Z,y9⟩:=aB T W X;clear T W X;have⟨y0,y1,y2⟩:=bK7 (x0.next d);go_wp2_with (first
       |(at_builtin;refine iZ _ rfl _ _ 113 rfl w1 152 i0 _ 3 24 underlying113 zi u5 u6 u7 rfl (by decide) _ o _ rfl (cA Z (am1 _ _)) _ 1 (fX [f]) rfl (ak4 _ f) (YW _) (by unfold maxLen;omega) (by omega) (by simp only[bC];omega) ?_;intro v5 w5 r h3;obtain⟨A5,c5,rfl,-,-,-,-⟩:=Reads.dC r))
      have x6:=(I.alloc I.size (.cells #[zu (f.1:Nat),f.2.1,f.2.2] 152)).grown h3 (I.alloc I.size _).size (λk hk=>aL (tH xp) (dE Z k hk));have hf:=(y9.alloc (.cells #[zu (f.1:Nat),f.2.1,f.2.2] 152)).grown h3 (λh=>by have:=dE Z _ h.symm;omega);have yp:w1.heap.size<=w5:=(by have:=h3.size;simp only[bC]at this;omega);have⟨H5,H6,H7,H8⟩:=aC (T7 (n:=m) hf (by rw[vT L.zz];exact t.symm)) hf x6 r;clear hf x6 r
     |have s:=ya.next d
      have⟨H5,H4⟩:=aA (T7 (n:=m) s (by rw[vT L.zz];exact t.symm)) s;clear s
    go_wp2;go_roundw;(first|(case rel=>exact⟨IG f g Y,XL o f,A5,c5,HN,by rw[K.zz N];simp,by rw[K.zz N,MT];simpa using H8.zz,H6,H7,yp,HT,by rw[K.zz N];exact xt,by rw[K.zz N,aP];have:=hz.zz;simp only[uL];omega⟩)|(case rel=>exact⟨IG V g Y,o,_,c0,HN,rfl,cA x1 d,H4,aJ hu d,aL ys d.size,by have:=HT.zz;rw[yy.zz trivial]at this;exact this,xl,by have:=hz.zz;omega⟩));(have h6:=hz.zz);(have h7:=yw.zz);(have h8:=H5.zz);rw[h7,h8];exact h6
def cn9(b:aI)(a:Nat)(v:aN)(l:List cZ):Prop:=b.ownsRow a 152 3 v l.length (fX l)/\∀e∈l,wN e
def xG(w:aI)(a:Nat):cn9 w a zs []:=⟨bQ _ _ _ _,by simp⟩
def WN(s:aT)(w:aI)(hs:s.size<=1000000000):
 Calls prog 232 #[s] w λe w'=>∃v,e=.returned (.tuple #[v,PG (lb s)])/\cn9 w' w v (uE (lb s))/\aS w w w':=by
  have⟨a,d⟩:=az9 (s:=lb s) (by rw[bN];exact hs);go_in;go_wp2_with fail
  go_call LJ s w (by omega) as e w1 ⟨rfl,r⟩;rcases ho:kP (lb s)with _|_
  .have c:pJ (lb s)=false:=(by rw[<-a];unfold NH;rw[ho];simp);go_wp2;refine bG (v:=.tuple #[zs,(90:Int)]) (by simp[results,results232,go_sem]) rfl ⟨zs,by unfold PG;rw[c];rfl,by unfold uE;rw[c];exact xG _ _,r⟩
  have hA:kV (lb s)=(lb s).take ((lb s)-4):=(by unfold kV;rw[ho,aU rfl]);rw[hA];have hp:((lb s).take ((lb s)-4)).length<=1000000000:=(by simp;omega);unfold NH at a;rw[ho]at a;generalize (lb s).take ((lb s)-4)=t at a d hp|-;have I:((bs t).extract 0 4).toList=t.take 4:=(by rw[eB,gF,EY];simp);by_cases c2:t.length<8
  .have hg:(t:Int)<8:=(by omega);have c:pJ (lb s)=false:=(by rw[<-a];simp;intros;omega);clear a d;go_wp2;refine bG (v:=.tuple #[zs,(90:Int)]) (by simp[results,results232,go_sem]) rfl ⟨zs,by unfold PG;rw[c];rfl,by unfold uE;rw[c];exact xG _ _,r⟩
  have hg:¬(t:Int)<8:=(by omega);have hy:(4:Int)<=(t:Int):=(by omega);have hz:(8:Int)<=(t:Int):=(by omega);rcases Z:(t.take 4==[112,116,97,98])with _|_
  .have c:pJ (lb s)=false:=(by rw[<-a,Z];simp);have h4:(((bs t).extract 0 4).toList==[112,116,97,98])=false:=(by rw[I];exact Z);clear a d Z I;go_wp2;refine bG (v:=.tuple #[zs,(90:Int)]) (by simp[results,results232,go_sem]) rfl ⟨zs,by unfold PG;rw[c];rfl,by unfold uE;rw[c];exact xG _ _,r⟩
  have h4:(((bs t).extract 0 4).toList==[112,116,97,98])=true:=(by rw[I];exact Z);rw[Z]at a;clear Z I;have h9:((t.drop 4).take 4).length=4:=by simp;omega
  have V:qA (lb ((bs t).extract 4 8))=num ((t.drop 4).take 4):=by rw[eB,gF,gF];unfold qA;rw[aX (by simp;omega)]
  have ha:=DY ((t.drop 4).take 4);rw[h9]at ha;generalize num ((t.drop 4).take 4)=m at a d V ha;have hr:(bs t).extract 8 t=bs (t.drop 8):=by
   rw[eB,gF];congr 1;exact aX (by simp)
  have h7:(t.drop 8).length=t-8:=(by simp);generalize hR:t.drop 8=R at a d hr h7;have hx:m<4294967296:=(by omega);have wm:IntKind.u64.wrap ((m:Int)*24)=(m:Int)*24:=(by rw[eR];omega);have hv:IntKind.u64.wrap ((R:Nat):Int)=(R:Int):=(by rw[eR];omega);have⟨g,h0⟩:=aA a d;clear a d hR h9;go_wp2_with fail
  go_call vR _ _ (by rw[eB,eK];simp[maxLen];omega) as e w' ⟨rfl,rfl⟩;rw[V];clear V h4;have⟨i0,hn,hq,ht,hu⟩:=info_parts VX;by_cases c4:R=m*24
  .have h5:(R:Int)=(m:Int)*24:=(by omega);have x1:m<=100000000:=(by omega);have⟨Hr,q⟩:=aA hr c4;have hw:((bs R).size:Int)=(m:Int)*24:=(by rw[eK];exact h5);clear c4 h7;(go_wp2_with fail);clear hr hv hw;go_loopw [7,8] (λx b wr=>∃k:Nat,k<=m/\x=.string (bs (R.drop (24*k)))/\qX R k=true/\wr.ownsRow w 152 3 b k (fX (iC R k))/\aS w w wr) (λx _ _=>match x with|.string y=>y.size|_=>0)
   .exact⟨0,by omega,by first|rfl|(rw[Hr.zz];rfl),rfl,bQ _ _ _ _,r⟩
   obtain⟨k,hk,rfl,hb,N,U⟩:=hrel;have⟨P,K⟩:=aA hb N;clear hb N;have G:(R.drop (24*k))=24*(m-k):=(by rw[fF,q.zz];omega);by_cases x0:k<m
   .have n:(R.drop (24*k)).take 24=zZ R k:=rfl;have l:(R.drop (24*k)).drop 24=R.drop (24*(k+1)):=(by rw[n6];congr 1);generalize hX:R.drop (24*k)=X at G n l|-;have x3:(X==[])=false:=by
     cases X
     .simp at G;omega
     rfl
    have x2:(24:Int)<=(X:Int):=(by omega);have f:=λw=>UK ((bs X).extract 0 24) w (by rw[eB,eK];simp[maxLen];omega);have h8:lb ((bs X).extract 0 24)=zZ R k:=(by rw[eB,gF,gF,<-n];simp);rw[h8]at f;have hl:(bs X).extract 24 X=bs (R.drop (24*(k+1))):=by
     rw[eB,gF,<-l];congr 1;exact aX (by simp)
    have H:okG (zZ R k)=true->wN (QH (zZ R k)):=λh=>(aC3 h).2.2;have o:=AJ R k;have Y:=AI R k;generalize QH (zZ R k)=e at f H o;generalize okG (zZ R k)=og at f H Y;have⟨C,D,E⟩:=e;unfold iX at f;have⟨hf,Q,h1,he,hd⟩:=aD H o Y hl G;clear hX n l H o Y h8 G;cases og
    .have c:pJ (lb s)=false:=by
      rw[<-g.zz];have:qX R m=false:=by
       rw[<-lH];intro h;unfold qX at h;have h2:=h1.zz;rw[bZ3]at h2;have h3:qX R (k+1)=true:=by unfold qX;rw[dL]at h|-;exact λi hi=>h i (gB.2 (by have:=gB.1 hi;omega))
       rw[h2]at h3;cases h3
      rw[this];simp
     (go_wp2_with fail);go_call f _ as y J ⟨rfl,p⟩;go_wp2;refine bG (v:=.tuple #[zs,(90:Int)]) (by simp[results,results232,go_sem]) rfl ⟨zs,by unfold PG;rw[c];rfl,by unfold uE;rw[c];exact xG _ _,dK U (aJ p (dO _ _)) gC⟩
    (go_wp2_with fail);go_call f _ as y J ⟨rfl,p⟩;have k3:=aJ p (dO J (.cells #[zu C,D,E] 152));have F:=dK U k3 gC;have z:=cA K k3;have oe:=hf (by first|rfl|trivial);have T:=dK F (dO (J.alloc (.cells #[zu C,D,E] 152)) (.cells #[zu C,D,E] 152)) gC;have hh:qD ((J.alloc (.cells #[zu C,D,E] 152)).alloc (.cells #[zu C,D,E] 152)) (.slice (zp (J+1)) 1 1) [(C,D,E)]:=by have h:=vZ (J.alloc (.cells #[zu C,D,E] 152)) (C,D,E) oe;have e:(J.alloc (.cells #[zu C,D,E] 152)).heap.size=J+1:=(by simp);rwa[e]at h
    have h6:=hh.1;go_wp2_with (first
     |(at_builtin;refine iZ _ rfl _ _ 113 rfl w 152 i0 _ 3 24 underlying113 hn hq ht hu rfl (by decide) _ k _ rfl (cA z (dO _ _)) _ 1 (fX [(C,D,E)]) rfl h6 (nH _) (by unfold maxLen;omega) (by omega) T.size ?_;intro v3 w5 W hm))
    have hj:=T.grown hm T.size (dE z);go_wp2;go_roundw
    .refine⟨k+1,by omega,by first|rfl|(rw[he.zz]),by rw[h1.zz,P.zz];rfl,?_,hj⟩;rw[Q.zz,GZ];exact W
    have:=hd.zz;simp[eK];omega
   obtain rfl:k=m:=(by omega);have M:R.drop (24*k)=[]:=TE (by rw[q.zz];omega);rw[M];clear M;have xz:(([]:List bB)==[])=true:=rfl;have S:∀e∈iC R k,wN e:=(GM P).2.2;have u:=K.zz;have L:=aH (show k=(iC R k) from(qI R k).symm);(go_wp2_with fail);go_call KL _ (iC R k) _ ⟨by have:=Reads.dC u;rw[<-L.zz];exact this,S⟩ as y J ⟨rfl,p⟩;have F:=dK U p gC;rcases hc:fB (iC R k)with _|_
   .have c:pJ (lb s)=false:=(by rw[<-g.zz,hc];simp);go_wp2;refine bG (v:=.tuple #[zs,(90:Int)]) (by simp[results,results232,go_sem]) rfl ⟨zs,by unfold PG;rw[c];rfl,by unfold uE;rw[c];exact xG _ _,F⟩
   have B:pJ (lb s)=true:=by rw[<-g.zz,hc,P.zz];simp;refine⟨?_,q⟩;omega
   have hP:iC R k=uE (lb s):=by unfold uE;rw[B,aU rfl];refine h0 ?_;rw[(az9 (s:=lb s) (by rw[bN];exact hs)).1];exact B
   have A:=cA u p;have j:=L.zz;rw[hP]at A S j;have O:=aH j;clear j;go_wp2;refine bG (v:=.tuple #[u8,()]) (by simp[results,results232,go_sem]) rfl ⟨u8,by unfold PG;rw[B];rfl,⟨by rw[<-O.zz];exact A,S⟩,F⟩
  have c:pJ (lb s)=false:=(by rw[<-g.zz];simp[c4]);have h5:¬(R:Int)=(m:Int)*24:=(by omega);clear c4;go_wp2;refine bG (v:=.tuple #[zs,(90:Int)]) (by simp[results,results232,go_sem]) rfl ⟨zs,by unfold PG;rw[c];rfl,by unfold uE;rw[c];exact xG _ _,r⟩
def Reads.bn5{w:aI}(h:Reads w v n k X):Reads w.drew v n k X:=h
def bm6(h:tN o L=n)(a:¬L[n]?=some o):oV L o=L.take n++o::L.drop n:=by unfold oV;rw[h,aQ a]
def bc3(h:tN o L=n)(a:L[n]?=some o):oV L o=L:=by unfold oV;rw[h,aU a]
def cc9(a:qD w (.slice (some ⟨n,0,none⟩) k m) L)(l:L.length=k)(j:i<=k)(b:aI)(f:aS w.heap.size w b):Reads b (.slice (some ⟨n,0,none⟩) i m) 3 i (fX (L.take i)):=by
 have g:=a.cells;have h:=(qD.sliced a 0 i m (bO _) (by omega) (by omega) (aO _)).1.next f;have e:(List.take (i-0) (List.drop 0 L))=L.take i:=(by simp);rw[e]at h;have c:(L.take i).length=i:=(by simp;omega);rw[c]at h;have d:Go.sliced (some ⟨n,0,none⟩) 0 i m 3=.slice (some ⟨n,0,none⟩) i m:=by unfold Go.sliced;split<;>simp[Addr.add_lit]
 rwa[d]at h
def cd0(a:qD w (.slice (some ⟨n,0,none⟩) k m) L)(l:L.length=k)(j:i<k)(b:aI)(f:aS w.heap.size w b):Reads b (.slice (some ⟨n,i*3,none⟩) (k-i) (m-i)) 3 (k-i) (fX (L.drop i)):=by
 have g:=a.cells;have h:=(qD.sliced a i k m (by omega) (by omega) (by omega) (aO _)).1.next f;have e:(List.take (k-i) (List.drop i L))=L.drop i:=aX (by simp;omega);rw[e]at h;have c:(L.drop i).length=k-i:=(by simp;omega);rw[c]at h;have d:Go.sliced (some ⟨n,0,none⟩) i k m 3=.slice (some ⟨n,i*3,none⟩) (k-i) (m-i):=by unfold Go.sliced;rw[aQ (by omega)];simp[Addr.add_lit]
 rwa[d]at h
def XA(w:aI)(A:Option Addr)(c:Nat)(a:c<=maxLen):Reads w (.slice A 0 c) 3 0 []:=⟨A,c,rfl,bO _,a,rfl,λh=>absurd h (by omega)⟩
def zS(w:aI)(a g:Nat)(v:aN)(l:List cZ):Prop:=Row w g 267 [.bool true,v]/\w.ownsRow a 152 3 v l.length (fX l)/\(∀e∈l,wN e)/\fB l=true
def zS.next{w:aI}{base g:Nat}{v:aN}(h:zS w base g v L)(a:aS w.heap.size w x):zS x base g v L:=⟨h.1.next a,cA h.2.1 a,h.2.2⟩
def zS.FI(h:zS w n k v L):qD w v L:=⟨Reads.dC h.2.1,h.2.2.1⟩
def zS.cells{w:aI}{base n:Nat}{v:aN}{l:List cZ}(h:zS w base n v l):∀a,aS w.heap.size w a->a.cell? ⟨n,0,none⟩=some (.bool true)/\a.cell? ⟨n,1,none⟩=some v:=λa b=>
 ⟨(h.1.next b).cell 0 (by simp),(h.1.next b).cell 1 (by simp)⟩
def Below.J9(h:aS w.heap.size w x)(r:Option Nat):w.grownBy x r:=⟨h.os,h.tape,h.output,h.size,λk a _=>h.block k a⟩
def BL(w:aI)(p:Addr)(v:aN):w.grownBy (w.setCell p v) (some p.block):=
 ⟨rfl,rfl,rfl,by simp,λk b a=>aV w p v k (λe=>a (by rw[e]))⟩
def oB{y:aI}{r:Option Nat}(a:aS w.heap.size w x)(b:x.grownBy y r):w.grownBy y r:=
 ⟨b.os.trans a.os,b.tape.trans a.tape,b.output.trans a.output,aL a.size b.size,λk d c=>(b.block k (aW d a.size) c).trans (a.block k d)⟩
def uO(h:zS w n k v L):
 Calls prog 210 #[.pointer (some ⟨k,0,none⟩)] w λe a=>e=.returned (.bool false)/\w=a:=by
  obtain⟨b,c⟩:=h.cells w (aY _ _);go_in;go_wp2;go_ret;exact⟨rfl,rfl⟩
def cc0(w:aI):
 Calls prog 180 #[] w λe a=>e=.returned (.pointer (some ⟨w.heap.size,0,none⟩))/\zS a w.heap.size w.heap.size (.slice none 0 0) []/\aS w.heap.size w a:=by
  go_in;go_wp2;go_ret;refine⟨rfl,⟨Row.new w #[.bool true,.slice none 0 0] _,bQ _ _ _ _,by simp,rfl⟩,dO _ _⟩
def cc1(h:zS w n k v L):
 Calls prog 153 #[.pointer (some ⟨k,0,none⟩)] w λe a=>e=.returned (.int .i64 (L.length:Nat))/\w=a:=by
  obtain⟨b,d⟩:=h.cells w (aY _ _);obtain⟨⟨A,c,rfl,-,-,-,-⟩,-⟩:=h.FI;go_in;(go_wp2_with fail);refine(uO h).mono ?_;rintro e a ⟨rfl,rfl⟩;go_wp2;go_ret;exact⟨rfl,rfl⟩
def br1(h:zS w n k v L)(l:L.length<=1000000000)(x:Nat)(f t:Int)(j:x<18446744073709551616)
 (i:-9223372036854775808<=f/\f<=9223372036854775807) (m:-9223372036854775808<=t/\t<=9223372036854775807) :
 Calls prog 213 #[.pointer (some ⟨k,0,none⟩),.int .u64 x,.int .i64 f,.int .i64 t] w λe c=>∃b,e=.returned b/\c.ownsRow w.heap.size 152 3 b (kF L x f t).length (fX (kF L x f t))/\aS w.heap.size w c:=by
  obtain⟨o,p⟩:=h.cells w (aY _ _);have g:=h.FI;go_in;(go_wp2_with fail);refine(uO h).mono ?_;rintro e c ⟨rfl,rfl⟩;(go_wp2_with fail);refine(ad2 _ L x f t _ g h.2.2.2 l j i m).mono ?_;rintro e q ⟨b,rfl,a,d⟩;go_wp2;go_ret;exact⟨_,rfl,a,d⟩
def bJ1(h:zS w n k v L)(g:L.length<=1000000000):
 Calls prog 156 #[.pointer (some ⟨k,0,none⟩)] w λe c=>∃b,e=.returned b/\c.ownsRow w.heap.size 152 3 b L.length (fX L)/\aS w.heap.size w c:=by
  obtain⟨i,j⟩:=h.cells w (aY _ _);have f:=h.FI;go_in;(go_wp2_with fail);refine(uO h).mono ?_;rintro e c ⟨rfl,rfl⟩;(go_wp2_with fail);refine(yC _ L _ f g).mono ?_;rintro e l ⟨b,rfl,a,d⟩;go_wp2;go_ret;exact⟨_,rfl,a,d⟩
def br2(h:zS w n k v L):
 Calls prog 157 #[.pointer (some ⟨k,0,none⟩)] w λe a=>e=.returned (.tuple #[])/\zS a n k (.slice none 0 0) []/\w.grownBy a (some k):=by
  obtain⟨b,c⟩:=h.cells w (aY _ _);have d:=h.1.frozen 1 (by simp);go_in;(go_wp2_with fail);refine(uO h).mono ?_;rintro e a ⟨rfl,rfl⟩;go_wp2;go_end0;exact⟨rfl,⟨h.1.set 1 _,bQ _ _ _ _,by simp,rfl⟩,BL w ⟨k,1,none⟩ _⟩
def bJ0(h:zS w n k v L)(x:Nat)(t:Int)(q:x<18446744073709551616)(r:-9223372036854775808<=t/\t<=9223372036854775807):
 Calls prog 149 #[.pointer (some ⟨k,0,none⟩),.int .u64 x,.int .i64 t] w λe o=>e=.returned (.tuple #[.agg (iX (bC6 (jY L x t))),.bool (jY L x t).isSome])/\aS w.heap.size w o:=by
  have i:=dO w (.cells #[.int .u64 0,.int .i64 0,.int .i64 0] 152);have f:=h.next i;obtain⟨C,D⟩:=f.cells _ (aY _ _);have p:=f.FI;have d:=λw s=>at1 v L x t w s h.2.2.2 q r;generalize bC6 (jY L x t)=z at d|-;generalize (jY L x t).isSome=B at d|-;obtain⟨u,y,A⟩:=z;unfold iX at d|-;have c:Row (w.alloc (.cells #[.int .u64 0,.int .i64 0,.int .i64 0] 152)) w.heap.size 152 [.int .u64 0,.int .i64 0,.int .i64 0]:=Row.new w #[.int .u64 0,.int .i64 0,.int .i64 0] 152;go_in;(go_wp2_with fail);refine(uO f).mono ?_;rintro e o ⟨rfl,rfl⟩;(go_wp2_with fail);refine(d _ p).mono ?_;rintro e H ⟨rfl,b⟩;have a:=c.next b;have j:=a.cell 0 (by simp);have l:=a.cell 1 (by simp);have m:=a.cell 2 (by simp);have E:=a.frozen 0 (by simp);have F:=a.frozen 1 (by simp);have G:=a.frozen 2 (by simp);simp only[bE,bX]at j l m;have g:=aJ i b;clear a;go_wp2;refine bG (v:=.tuple #[.agg #[.int .u64 u,.int .i64 y,.int .i64 A],.bool B]) (by simp[results,results149,go_sem,j,l,m]) rfl ⟨rfl,((g.setCell (aO _) _).setCell (aO _) _).setCell (aO _) _⟩
end Go.Proofs.YtpopikndggffaaaGreatDoor
