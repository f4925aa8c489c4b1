/- TOP, part 14. -/
import Derived.Deep.RegionLaw
import Derived.Test.YtpopikndggffaaaGreatDoorGm12
namespace Go.Proofs.YtpopikndggffaaaGreatDoor
set_option linter.all false
set_option maxRecDepth 100000
set_option maxHeartbeats 16000000
open Go.RowKit Tryz
variable{X:List aN}{L:List cZ}{i k m n:Nat}{w:aI}{v:aN}{T:cD}{o:cZ}
def bY1(l:List cZ)(e:cZ):Bool:=!decide (l[tN e l]?=some e)
def av0(b:fB L=true)(e:cZ):∀i,(a:i<L.length)->i<kA L e.1 e.2.1->iA L[i] e=true:=by intro i a h;have:=(qO b e.1 e.2.1 i a).2 h;rw[pR]at this;rw[pG];omega
def bh6(h:tN o L=n)(a:L[n]?=o):bY1 L o=false:=by unfold bY1;rw[h];simp[a]
def aP4(h:tN o L=n)(a:¬L[n]?=o):bY1 L o=true:=by unfold bY1;rw[h];simp[a]
def GD{x:aI}{u:aN}(d:Row w k 267 [true,v])(A:aS w w x)
 (a:x.ownsRow n 152 3 u (i+1+(m-i)) (fX (L.take i)++fX [o]++fX (L.drop i))) (F:i<=m) (G:L=m) (c:oV L o=L.take i++o::L.drop i) (t:∀I∈o::L,wN I) (D:fB L=true) :
 zS (x.setCell (zp k 1) u) n k u (oV L o):=by
  have s:∀H,u.ownBlock=some H->H≠k:=by
   intro H p q;subst q;rcases a.2 with⟨rfl,_⟩|⟨b,e,f,rfl,_,j,_⟩
   .cases p
   have⟨C,E,z,_⟩:=d.next A;simp only[Value.ownBlock,vD]at p;subst p;rw[j]at z;cases z
  have g:(oV L o)=i+1+(m-i):=by rw[c];simp;omega
  have B:fX (oV L o)=fX (L.take i)++fX [o]++fX (L.drop i):=by rw[c,GZ,BR,BR];simp[fX]
  refine⟨(d.next A).set 1 u,?_,λI y=>t I ?_,UD D o⟩
  .rw[g,B];refine⟨a.1,?_⟩;rcases a.2 with r|⟨b,e,f,rfl,l,j,h⟩
   .exact .inl r
   refine .inr ⟨b,e,f,rfl,l,?_,h⟩;rw[aV x (zp k 1) _ b (s b rfl)];exact j
  rcases aG1.1 y with rfl|y
  .exact zV ..
  exact iG _ y
def QB{wi:aI}{e a:Int}(i:w≠n)(f:w.heap.size<wi)(h:wi.cell? (zp w)=some (.int .u64 k)/\wi.cell? (zp w 1)=some (.int .i64 e)/\wi.cell? (zp w 2)=a):
 ∀b,wi.grownBy b n->wi.grownBy b n/\b.cell? (zp w)=some (.int .u64 k)/\b.cell? (zp w 1)=some (.int .i64 e)/\b.cell? (zp w 2)=a:=λb c=>by
 have g:=c.block w f (λj=>i (by cases j;rfl));have d:∀o,b.cell? (zp w o)=wi.cell? (zp w o):=λo=>dH (w:=wi) g;exact⟨c,(d 0).trans h.1,(d 1).trans h.2.1,(d 2).trans h.2.2⟩
def uU(h:w.ownsRow n T i v k X)(a:m=k):w.ownsRow n T i v m X:=by rw[a];exact h
def PV(h:w.ownsRow n T m v k X)(f:k≠0):∃b c,v=.slice (zp b) k c:=by
 rcases h.2 with⟨_,e⟩|⟨b,a,d,g,_⟩
 .exact absurd e f
 exact⟨b,a,g⟩
def WW(g:qD w (.slice (zp n) k m) L)(l:L=k)(j:i<=k)(a:aI)(h:aS w w a):Reads a (.slice (zp n) i i) 3 i (fX (L.take i)):=by have⟨A,c,o,b,d,e,f⟩:=cc9 g l j a h;obtain⟨rfl,-,rfl⟩:=eV o;exact⟨_,i,rfl,gC,aL b d,e,f⟩
def aq5(w:aI)(o:Obj):w.heap.size<(w.alloc o):=by simp
def cc2(h:zS w n k v L)(e:cZ)(he:wN e)(hn:L.length<=1000000)(N:n<=w):
 Calls prog 146 #[zp k,.agg (iX e)] w λr l=>r=.returned (.bool (bY1 L e))/\∃v',zS l n k v' (oV L e)/\w.grownBy l k/\(v'=v\/∀y0,v'.ownBlock=some y0->w.heap.size<=y0):=by
  have hz:=dO w (.cells (iX e) 152);have h1:=h.next hz;have hm:=λl z=>at5 w e 152 l z;have h6:=h1.cells;have hh:w≠k:=Nat.ne_of_gt h.1.lt;have⟨i0,Q,T,U,V⟩:=info_parts VX;have hE:=h1.FI;have hs:=h.2.2.2;have xg:=h.2.2.1;have xb:=av0 hs e;have xh:=sH L e.1 e.2.1;obtain⟨⟨A,c,hv,xr,xs,-,-⟩,-⟩:=id hE;unfold maxLen at xs;have⟨y4,hN⟩:=kX L.length;rw[<-hN]at hn hv xr;have h9:=h1.2.1;rw[<-hN]at h9;subst hv;have⟨X,HE,HR,HC,h5,ha,hl,x8,H0⟩:=cC5 hN.symm hE h1.1 h6 hs (show∀x∈e::L,wN x from λx hx=>(cX.1 hx).elim (λh=>h▸he) (xg x)) h9 xb h;have⟨D,E,M⟩:=e;have oe:=he;have HB:=aH hm;have xk:=λx:dY (w.alloc (.cells (iX (D,E,M)) 152))=>(HC x.it x.ok).2;have xl:=λx:dY (w.alloc (.cells (iX (D,E,M)) 152))=>(HB x.it x.ok).1;have xm:=λx:dY (w.alloc (.cells (iX (D,E,M)) 152))=>(HB x.it x.ok).2.1;clear xg xb h6 hm hE hs h h9 hN;go_in;go_wp2_with fail
  go_call uO h1 as e' l ⟨rfl,rfl⟩;clear h1;(go_wp2_with fail);refine cU (by kernel_rfl) (by kernel_rfl) ?_;repeat go_big_quiet_step ((rename_i x;first|(go_at_call 211;exact eP x (BS _ L D E _ (by have:=HE.next x.ok;exact this) h5 oe.1 oe.2.1))))
  refine wpQuiet_nil ?_;intro _ hx;obtain⟨⟨W,xa⟩,rfl⟩:=hx;clear xk xl xm;rename_i W;have x5:kA L D E<=y4:=(by rw[<-X.zz];exact xh);have h3:=aH (show∀i,(hi:i<L.length)->i<kA L D E->iA L[i] (D,E,M)=true from x8);generalize kA L D E=s at x5 h3|-;clear xh x8;go_wp2_with fail
  go_loopw [5] (λi wr=>∃j:Nat,j<=y4/\i=.int .i64 j/\(∀i,(hi:i<L.length)->i<j->iA L[i] (D,E,M)=true)/\aS (w.alloc (.cells (iX (D,E,M)) 152)) (w.alloc (.cells (iX (D,E,M)) 152)) wr) (λi _=>y4-(intOf i).toNat)
  .exact⟨s,x5,rfl,h3,xa⟩
  obtain⟨j,hj,rfl,hp,d⟩:=hrel;have h4:=aH hp;clear hp h3 xa x5;have hc:=λx:dY wr=>(HC x.it (aJ d x.ok)).2;have hd:=λx:dY wr=>(HB x.it (aJ d x.ok)).1;have hf:=λx:dY wr=>(HB x.it (aJ d x.ok)).2.1;have hg:=λx:dY wr=>(HB x.it (aJ d x.ok)).2.2;by_cases xt:j<y4
  .obtain⟨y,hy⟩:∃y,L[j]?=some y:=⟨_,aK (by have:=X.zz;omega)⟩;have oy:=HE.ok hy;obtain⟨b,xu,rfl,-,xf⟩:=HE.later (by have:=X.zz;omega);have h8:=xf j y hy;have xo:=λx:dY wr=>(h8 x.it (aJ d x.ok)).1;have xp:=λx:dY wr=>(h8 x.it (aJ d x.ok)).2.1;have xq:=λx:dY wr=>(h8 x.it (aJ d x.ok)).2.2;have j1:(j:Int)<y4:=(by omega);have⟨E1,Hy,xj⟩:=aB (aR.1 hy) hy h8;clear xf hy h8;(go_wp2_with fail);refine cU (by kernel_rfl) (by kernel_rfl) ?_;(repeat go_big_quiet_step (first|(go_at_call 212;exact eP _ (wC y (D,E,M) _ oy oe))));refine wpQuiet_nil ?_;intro _ hx;obtain⟨⟨w1,q⟩,rfl⟩:=hx;rename_i wj;rcases xe:iA y (D,E,M)with _|_
   .have h2:tN (D,E,M) L=j:=bk5 (by have:=X.zz;omega) h4 (λP=>by rw[E1.zz.2];exact xe);have⟨y1,y2,y3⟩:=y;have⟨c0,c1,c2⟩:=HB wj (aJ d q);obtain⟨-,e1⟩:=HC wj (aJ d q);have⟨d0,d1,d2⟩:=xj wj (aJ d q);simp only[]at d0 d1 d2 c0 c1 c2;clear hc hd hf hg xo xp xq;by_cases xd:y1=D/\y2=E/\y3=M
    .obtain⟨rfl,rfl,rfl⟩:=xd;have xi:=bc3 h2 Hy;have I:=bh6 h2 Hy;have kf:=aJ hz (aJ d q);(go_wp2_with fail);go_quiet (fail);go_wp2;go_ret;refine⟨by rw[I];rfl,_,?_,Below.J9 (below_drewN kf _) _,.inl rfl⟩;rw[xi];exact H0.next (below_drewN kf _)
    have xz:(decide (y1=D)&&(decide (y2=E)&&decide (y3=M)))=false:=by simp;omega
    have S:¬L[j]?=some (D,E,M):=(by rw[Hy.zz];intro h;exact xd (by simpa using h));have R:=bm6 h2 S;have I:=aP4 h2 S;have s1:(j:Int)<=c:=(by omega);have s2:¬c=j:=(by omega);obtain⟨rfl⟩:xu=0:=by
     rcases hl.zz.2 with⟨h',_⟩|⟨g',xv,xn,h',_⟩
     .simp at h'
     simp only[Value.slice.injEq,vD,Addr.mk.injEq]at h';exact h'.1.2.1
    simp only[jB]at d0 d1 d2;(go_wp2_with fail);go_quiet (fail);(go_wp2_with fail);clear c0 c1 c2 d0 d1 d2 e1;have g:=below_drewN q nq;generalize wj.drewN nq=a at g|-;clear q;have J:w.heap.size<=a:=aL (dO w _).size (aJ d g).size;have hw:aS w w a:=aJ hz (aJ d g);have hE:=HE.next (aJ d g);have⟨t,F⟩:=aA (HR.next (aJ d g)) (λl (z:aS a a l)=>HC l (aJ (aJ d g) z));have HF:=aH (λl (z:aS a a l)=>(t.next z).J3);have⟨g0,g1⟩:=F a mE;have⟨t0,t1⟩:=F a.drew mE.drew;have HS:=aH (QB (wi:=a) hh (aW (aq5 w _) (aJ d g).size) (HB a (aJ d g)));have m:aS a a a.drew:=mE.drew;have C:aS a a (a.alloc (.cells #[zu D,E,M] 152)):=dO a _;have⟨l0,l1⟩:=F _ C;obtain⟨-,x0,x6,x7⟩:=HS a.drew (Below.J9 m _);have⟨HT,HD⟩:=aA (show∀l,aS a a l->Reads l (.slice (zp b) j j) 3 j (fX (L.take j))from λl z=>WW hE X hj l z) (show∀l,aS a a l->Reads l (.slice (zp b (j*3)) (y4-j) (c-j)) 3 (y4-j) (fX (L.drop j))from λl z=>cd0 hE X xt l z);go_region_law (first|(refine rU rfl _ _ 113 rfl a 152 i0 _ 3 24 underlying113 Q T U V rfl (by decide) v1 _ _ rfl (fO o (l9 (B:=a.heap.size) (w:=a) (by first|exact m.alloc m.size _|exact C.drew))) _ (y4-j) _ rfl (HD _ K) (nH _) (by unfold maxLen;omega) (by omega) K.size ?_;intro v2 W p Z;have O:aS a a W:=K.grown Z K.size (dE (fO o (l9 (B:=a.heap.size) (w:=a) (by first|exact m.alloc m.size _|exact C.drew))));have⟨ht,hu⟩:=F W O;have hr:=HF W O;have⟨N2,u⟩:=kX (j+1+(y4-j));have G:=aH u;have f:=uU p u;clear u p;obtain⟨b2,H,rfl⟩:=PV f (by have:=G.zz;omega))|(refine qH rfl _ _ 113 rfl 152 i0 _ 3 24 underlying113 Q T U V rfl _ j _ rfl (HT _ (by first|exact m.alloc m.size _|exact C.drew)) (nH _) _ 1 (fX [(D,E,M)]) rfl (by first|exact(vZ _ _ oe).1|exact Reads.bn5 (vZ _ _ oe).1) (nH _) (by unfold maxLen;omega) (by omega) ?_;intro v1 w1 x4 h0 Y;have o:=h0 (by omega);have K:aS a a w1:=bp3 (w:=_) (by first|exact m.alloc m.size _|exact C.drew) Y (l9 (B:=a.heap.size) (w:=a) (by first|exact m.alloc m.size _|exact C.drew)) (by intro y0 P;cases P);have⟨g0,g1⟩:=F w1 K))
    all_goals
     go_wp2;go_ret;refine⟨?_,.slice (zp b2) N2 H,?_,?_,?_⟩
     .rw[I];rfl
     .exact GD t O (fO (uU f G.symm) (aL N J)) hj X R (ha) h5
     .exact oB hw (oB O (BL _ (zp k 1) _))
     exact .inr λy0 P=>aL J (dE f y0 P)
   go_wp2;go_roundw
   .
    refine⟨j+1,by omega,by go_num,λi hi xx=>?_,aJ d q⟩;rcases cR i j with h7|h7
    .exact h4 i hi h7
    obtain rfl:i=j:=(by omega);rw[E1.zz.2];exact xe
   simp[intOf];omega
  obtain rfl:j=y4:=(by omega);have h2:tN (D,E,M) L=j:=bk5 (by have:=X.zz;omega) h4 (λP=>absurd P (by have:=X.zz;omega));have S:¬L[j]?=some (D,E,M):=(by rw[jS (by have:=X.zz;omega)];simp);have R:=bm6 h2 S;have I:=aP4 h2 S;have xc:L.drop j=[]:=TE (by have:=X.zz;omega);have ho:fX (L.drop j)=[]:=(by rw[xc];rfl);have hq:=aH ho;clear xc ho;have x9:=HE.zz;rcases hl.zz.2 with⟨hv,xy⟩|⟨b,xw,xn,hv,-⟩
  .obtain⟨rfl,rfl,rfl⟩:=eV hv;have Hv:=aH hv;clear hv x9;(go_wp2_with fail);refine cU (by kernel_rfl) (by kernel_rfl) ?_;(repeat go_big_quiet_step (fail));refine wpQuiet_nil ?_;intro _ hx;obtain⟨⟨w1,q⟩,rfl⟩:=hx;rename_i wj;obtain⟨-,e1⟩:=HC wj (aJ d q);clear hc hd hf hg;(go_wp2_with fail);go_quiet (fail);(go_wp2_with fail);clear e1;have g:=below_drewN q nq;generalize wj.drewN nq=a at g|-;clear q;have J:w.heap.size<=a:=aL (dO w _).size (aJ d g).size;have hw:aS w w a:=aJ hz (aJ d g);have hE:=HE.next (aJ d g);have⟨t,F⟩:=aA (HR.next (aJ d g)) (λl (z:aS a a l)=>HC l (aJ (aJ d g) z));have HF:=aH (λl (z:aS a a l)=>(t.next z).J3);have⟨g0,g1⟩:=F a mE;have⟨t0,t1⟩:=F a.drew mE.drew;have HS:=aH (QB (wi:=a) hh (aW (aq5 w _) (aJ d g).size) (HB a (aJ d g)));have m:aS a a a.drew:=mE.drew;have C:aS a a (a.alloc (.cells #[zu D,E,M] 152)):=dO a _;have⟨l0,l1⟩:=F _ C;obtain⟨-,x0,x6,x7⟩:=HS a.drew (Below.J9 m _);have⟨HT,HD⟩:=aA (show∀l,aS a a l->Reads l zs 3 0 (fX (L.take 0))from λl z=>by rw[show L.take 0=[]from rfl];exact Reads.nil _ _) (show∀l,aS a a l->Reads l zs 3 0 (fX (L.drop 0))from λl z=>by rw[hq.zz];exact Reads.nil _ _);go_region_law (first|(refine rU rfl _ _ 113 rfl a 152 i0 _ 3 24 underlying113 Q T U V rfl (by decide) v1 _ _ rfl (fO o (l9 (B:=a.heap.size) (w:=a) (by first|exact m.alloc m.size _|exact C.drew))) _ 0 _ rfl (HD _ K) (nH _) (by unfold maxLen;omega) (by omega) K.size ?_;intro v2 W p Z;have O:aS a a W:=K.grown Z K.size (dE (fO o (l9 (B:=a.heap.size) (w:=a) (by first|exact m.alloc m.size _|exact C.drew))));have⟨ht,hu⟩:=F W O;have hr:=HF W O;have⟨N2,u⟩:=kX (0+1+0);have G:=aH u;have f:=uU p u;clear u p;obtain⟨b2,H,rfl⟩:=PV f (by have:=G.zz;omega))|(refine qH rfl _ _ 113 rfl 152 i0 _ 3 24 underlying113 Q T U V rfl _ 0 _ rfl (HT _ (by first|exact m.alloc m.size _|exact C.drew)) (nH _) _ 1 (fX [(D,E,M)]) rfl (by first|exact(vZ _ _ oe).1|exact Reads.bn5 (vZ _ _ oe).1) (nH _) (by unfold maxLen;omega) (by omega) ?_;intro v1 w1 x4 h0 Y;have o:=h0 (by omega);have K:aS a a w1:=bp3 (w:=_) (by first|exact m.alloc m.size _|exact C.drew) Y (l9 (B:=a.heap.size) (w:=a) (by first|exact m.alloc m.size _|exact C.drew)) (by intro y0 P;cases P);have⟨g0,g1⟩:=F w1 K))
   all_goals
    go_wp2;go_ret;refine⟨?_,.slice (zp b2) N2 H,?_,?_,?_⟩
    .rw[I];rfl
    .exact GD t O (fO (uU f G.symm) (aL N J)) hj X R (ha) h5
    .exact oB hw (oB O (BL _ (zp k 1) _))
    exact .inr λy0 P=>aL J (dE f y0 P)
  obtain⟨rfl,-,rfl⟩:=eV hv;clear hv x9;by_cases s2:c=j
  ·(go_wp2_with fail);refine cU (by kernel_rfl) (by kernel_rfl) ?_;(repeat go_big_quiet_step (fail));refine wpQuiet_nil ?_;intro _ hx;obtain⟨⟨w1,q⟩,rfl⟩:=hx;rename_i wj;obtain⟨-,e1⟩:=HC wj (aJ d q);clear hc hd hf hg;(go_wp2_with fail);go_quiet (fail);(go_wp2_with fail);clear e1;have g:=below_drewN q nq;generalize wj.drewN nq=a at g|-;clear q;have J:w.heap.size<=a:=aL (dO w _).size (aJ d g).size;have hw:aS w w a:=aJ hz (aJ d g);have hE:=HE.next (aJ d g);have⟨t,F⟩:=aA (HR.next (aJ d g)) (λl (z:aS a a l)=>HC l (aJ (aJ d g) z));have HF:=aH (λl (z:aS a a l)=>(t.next z).J3);have⟨g0,g1⟩:=F a mE;have⟨t0,t1⟩:=F a.drew mE.drew;have HS:=aH (QB (wi:=a) hh (aW (aq5 w _) (aJ d g).size) (HB a (aJ d g)));have m:aS a a a.drew:=mE.drew;have C:aS a a (a.alloc (.cells #[zu D,E,M] 152)):=dO a _;have⟨l0,l1⟩:=F _ C;obtain⟨-,x0,x6,x7⟩:=HS a.drew (Below.J9 m _);have⟨HT,HD⟩:=aA (show∀l,aS a a l->Reads l (.slice (zp b) j j) 3 j (fX (L.take j))from λl z=>WW hE X hj l z) (show∀l,aS a a l->Reads l (.slice (zp b) 0 0) 3 (j-j) (fX (L.drop j))from λl z=>by rw[gM,hq.zz];exact XA _ _ _ (by unfold maxLen;omega));go_region_law (first|(refine rU rfl _ _ 113 rfl a 152 i0 _ 3 24 underlying113 Q T U V rfl (by decide) v1 _ _ rfl (fO o (l9 (B:=a.heap.size) (w:=a) (by first|exact m.alloc m.size _|exact C.drew))) _ (j-j) _ rfl (HD _ K) (nH _) (by unfold maxLen;omega) (by omega) K.size ?_;intro v2 W p Z;have O:aS a a W:=K.grown Z K.size (dE (fO o (l9 (B:=a.heap.size) (w:=a) (by first|exact m.alloc m.size _|exact C.drew))));have⟨ht,hu⟩:=F W O;have hr:=HF W O;have⟨N2,u⟩:=kX (j+1+(j-j));have G:=aH u;have f:=uU p u;clear u p;obtain⟨b2,H,rfl⟩:=PV f (by have:=G.zz;omega))|(refine qH rfl _ _ 113 rfl 152 i0 _ 3 24 underlying113 Q T U V rfl _ j _ rfl (HT _ (by first|exact m.alloc m.size _|exact C.drew)) (nH _) _ 1 (fX [(D,E,M)]) rfl (by first|exact(vZ _ _ oe).1|exact Reads.bn5 (vZ _ _ oe).1) (nH _) (by unfold maxLen;omega) (by omega) ?_;intro v1 w1 x4 h0 Y;have o:=h0 (by omega);have K:aS a a w1:=bp3 (w:=_) (by first|exact m.alloc m.size _|exact C.drew) Y (l9 (B:=a.heap.size) (w:=a) (by first|exact m.alloc m.size _|exact C.drew)) (by intro y0 P;cases P);have⟨g0,g1⟩:=F w1 K))
   all_goals
    go_wp2;go_ret;refine⟨?_,.slice (zp b2) N2 H,?_,?_,?_⟩
    .rw[I];rfl
    .exact GD t O (fO (uU f G.symm) (aL N J)) hj X R (ha) h5
    .exact oB hw (oB O (BL _ (zp k 1) _))
    exact .inr λy0 P=>aL J (dE f y0 P)
  have s1:(j:Int)<=c:=(by omega);(go_wp2_with fail);refine cU (by kernel_rfl) (by kernel_rfl) ?_;repeat go_big_quiet_step (fail)
  refine wpQuiet_nil ?_;intro _ hx;obtain⟨⟨w1,q⟩,rfl⟩:=hx;rename_i wj;obtain⟨-,e1⟩:=HC wj (aJ d q);clear hc hd hf hg;go_wp2_with fail
  go_quiet (fail);(go_wp2_with fail);clear e1;have g:=below_drewN q nq;generalize wj.drewN nq=a at g|-;clear q;have J:w.heap.size<=a:=aL (dO w _).size (aJ d g).size;have hw:aS w w a:=aJ hz (aJ d g);have hE:=HE.next (aJ d g);have⟨t,F⟩:=aA (HR.next (aJ d g)) (λl (z:aS a a l)=>HC l (aJ (aJ d g) z));have HF:=aH (λl (z:aS a a l)=>(t.next z).J3);have⟨g0,g1⟩:=F a mE;have⟨t0,t1⟩:=F a.drew mE.drew;have HS:=aH (QB (wi:=a) hh (aW (aq5 w _) (aJ d g).size) (HB a (aJ d g)));have m:aS a a a.drew:=mE.drew;have C:aS a a (a.alloc (.cells #[zu D,E,M] 152)):=dO a _;have⟨l0,l1⟩:=F _ C;obtain⟨-,x0,x6,x7⟩:=HS a.drew (Below.J9 m _);have⟨HT,HD⟩:=aA (show∀l,aS a a l->Reads l (.slice (zp b) j j) 3 j (fX (L.take j))from λl z=>WW hE X hj l z) (show∀l,aS a a l->Reads l (.slice (zp b (j*3)) 0 (c-j)) 3 (j-j) (fX (L.drop j))from λl z=>by rw[gM,hq.zz];exact XA _ _ _ (by unfold maxLen;omega));go_region_law (first|(refine rU rfl _ _ 113 rfl a 152 i0 _ 3 24 underlying113 Q T U V rfl (by decide) v1 _ _ rfl (fO o (l9 (B:=a.heap.size) (w:=a) (by first|exact m.alloc m.size _|exact C.drew))) _ (j-j) _ rfl (HD _ K) (nH _) (by unfold maxLen;omega) (by omega) K.size ?_;intro v2 W p Z;have O:aS a a W:=K.grown Z K.size (dE (fO o (l9 (B:=a.heap.size) (w:=a) (by first|exact m.alloc m.size _|exact C.drew))));have⟨ht,hu⟩:=F W O;have hr:=HF W O;have⟨N2,u⟩:=kX (j+1+(j-j));have G:=aH u;have f:=uU p u;clear u p;obtain⟨b2,H,rfl⟩:=PV f (by have:=G.zz;omega))|(refine qH rfl _ _ 113 rfl 152 i0 _ 3 24 underlying113 Q T U V rfl _ j _ rfl (HT _ (by first|exact m.alloc m.size _|exact C.drew)) (nH _) _ 1 (fX [(D,E,M)]) rfl (by first|exact(vZ _ _ oe).1|exact Reads.bn5 (vZ _ _ oe).1) (nH _) (by unfold maxLen;omega) (by omega) ?_;intro v1 w1 x4 h0 Y;have o:=h0 (by omega);have K:aS a a w1:=bp3 (w:=_) (by first|exact m.alloc m.size _|exact C.drew) Y (l9 (B:=a.heap.size) (w:=a) (by first|exact m.alloc m.size _|exact C.drew)) (by intro y0 P;cases P);have⟨g0,g1⟩:=F w1 K))
  all_goals
   go_wp2;go_ret;refine⟨?_,.slice (zp b2) N2 H,?_,?_,?_⟩
   .rw[I];rfl
   .exact GD t O (fO (uU f G.symm) (aL N J)) hj X R (ha) h5
   .exact oB hw (oB O (BL _ (zp k 1) _))
   exact .inr λy0 P=>aL J (dE f y0 P)
end Go.Proofs.YtpopikndggffaaaGreatDoor
