/- TOP, part 16. -/
import Derived.Deep.RegionLaw
import Derived.Test.YtpopikndggffaaaGreatDoorGt15
namespace Go.Proofs.YtpopikndggffaaaGreatDoor
set_option linter.all false
set_option maxRecDepth 100000
set_option maxHeartbeats 16000000
open Go.RowKit Tryz
variable{X:List aN}{L:List dB}{i k m n:Nat}{w:aI}{v:aN}{T:cC}{o:dB}
def cm7(l:List dB)(e:dB):Bool:=!decide (l[uQ e l]?=some e)
def aC6(b:fD L=true)(e:dB):∀i,(a:i<L.length)->i<kQ L e.1 e.2.1->iB L[i] e=true:=by intro i a h;have:=(rO b e.1 e.2.1 i a).2 h;rw[qR]at this;rw[qC];omega
def br4(h:uQ o L=n)(a:L[n]?=o):cm7 L o=false:=by unfold cm7;rw[h];simp[a]
def aX6(h:uQ o L=n)(a:¬L[n]?=o):cm7 L o=true:=by unfold cm7;rw[h];simp[a]
def bc4{x:aI}{u:aN}(d:Row w k 267 [true,v])(A:aR w w x) (a:x.ownsRow n 152 3 u (i+1+(m-i)) (gV (L.take i)++gV [o]++gV (L.drop i))) (F:i<=m) (G:L=m) (c:pW L o=L.take i++o::L.drop i) (t:∀I∈o::L,wC I) (D:fD L=true) :B3 (x.setCell (zp k 1) u) n k u (pW L o):=by
 have s:∀H,u.ownBlock=some H->H≠k:=by
  intro H p q;subst q;rcases a.2 with⟨rfl,_⟩|⟨b,e,f,rfl,_,j,_⟩
  .cases p
  have⟨C,E,z,_⟩:=d.next A;simp only[Value.ownBlock,wO]at p;subst p;rw[j]at z;cases z
 have g:(pW L o)=i+1+(m-i):=by rw[c];simp;omega
 have B:gV (pW L o)=gV (L.take i)++gV [o]++gV (L.drop i):=by rw[c,BO,CV,CV];simp[gV]
 refine⟨(d.next A).set 1 u,?_,λI y=>t I ?_,VX D o⟩
 .rw[g,B];refine⟨a.1,?_⟩;rcases a.2 with r|⟨b,e,f,rfl,l,j,h⟩
  .exact .inl r
  refine .inr ⟨b,e,f,rfl,l,?_,h⟩;rw[aU x (zp k 1) _ b (s b rfl)];exact j
 rcases aO9.1 y with rfl|y
 .exact B9 ..
 exact iU _ y
def cg9{wi:aI}{e a:Int}(i:w≠n)(f:w.heap.size<wi)(h:wi.cell? (zp w)=some (.int .u64 k)/\wi.cell? (zp w 1)=some (.int .i64 e)/\wi.cell? (zp w 2)=a):∀b,wi.grownBy b n->wi.grownBy b n/\b.cell? (zp w)=some (.int .u64 k)/\b.cell? (zp w 1)=some (.int .i64 e)/\b.cell? (zp w 2)=a:=λb c=>by
 have g:=c.block w f (λj=>i (by cases j;rfl));have d:∀o,b.cell? (zp w o)=wi.cell? (zp w o):=λo=>dK (w:=wi) g;exact⟨c,(d 0).trans h.1,(d 1).trans h.2.1,(d 2).trans h.2.2⟩
def ao0(h:w.ownsRow n T i v k X)(a:m=k):w.ownsRow n T i v m X:=by rw[a];exact h
def bH5(h:w.ownsRow n T i v (k+1+m) X):∃N b c,v=.slice (zp b) N c/\Hid (N=k+1+m)/\w.ownsRow n T i (.slice (zp b) N c) N X:=by
 have⟨N,d⟩:=fR (k+1+m);have h:=ao0 h d;rcases id h.2 with⟨_,f⟩|⟨b,a,e,rfl,_⟩
 .omega
 exact⟨N,b,a,rfl,aH d,h⟩
def ci7{A:Option Addr}(h:pJ w (.slice A n k) L)(a:aI)(f:aR w w a):Reads a (.slice A n n) 3 n (gV (L.take n)):=by have⟨i,j,g,b,c,d,e⟩:=h.1.next f;obtain⟨rfl,rfl,rfl⟩:=eJ g;rw[eX];exact⟨A,_,rfl,dQ,aM b c,d,e⟩
def bW0(g:pJ w (.slice (zp n) k m) L)(l:L=k)(j:i<=k)(a:aI)(h:aR w w a):Reads a (.slice (zp n) i i) 3 i (gV (L.take i)):=by have⟨A,c,o,b,d,e,f⟩:=cr5 g l j a h;obtain⟨rfl,-,rfl⟩:=eJ o;exact⟨_,i,rfl,dQ,aM b d,e,f⟩
def cG8(w:aI)(o:Obj):w.heap.size<(w.alloc o):=by simp
def cq6(h:B3 w n k v L)(e:dB)(he:wC e)(hn:L.length<=1000000)(T:n<=w.heap.size):Calls prog 146 #[.pointer (some ⟨k,0,none⟩),.agg (iT e)] w λr u=>r=.returned (.bool (cm7 L e))/\∃v',B3 u n k v' (pW L e)/\w.grownBy u (some k)/\(v'=v\/∀xz,v'.ownBlock=some xz->w.heap.size<=xz):=by
 have hz:=eA w (.cells (iT e) 152);have Y:=h.next hz;have P:=λu K=>XR w e 152 u K;have F:=Y.cells;have xl:w.heap.size≠k:=Nat.ne_of_gt h.1.lt;obtain⟨i0,hg,hr,ht,hu⟩:=info_parts RU;have hE:=Y.GV;have hs:=h.2.2.2;have hm:=h.2.2.1;have hc:=aC6 hs e;have ho:=tI L e.1 e.2.1;obtain⟨⟨A,c,hv,xh,xi,-,-⟩,-⟩:=id hE;unfold maxLen at xi;obtain⟨y0,hN⟩:∃y0,y0=L.length:=⟨_,rfl⟩;rw[<-hN]at hn hv xh;have H:=Y.2.1;rw[<-hN]at H;subst hv;have⟨z,X,HR,HC,h3,x8,M,h2,H0⟩:=cT1 hN.symm hE Y.1 F hs (show∀x∈e::L,wC x from λx V=>(cY.1 V).elim (λh=>h▸he) (hm x)) H hc h;obtain⟨f,g,o⟩:=e;have oe:=he;have S:=aH P;have xa:=λx:dR (w.alloc (.cells (iT (f,g,o)) 152))=>(HC.out x.it x.ok).2;have xb:=λx:dR (w.alloc (.cells (iT (f,g,o)) 152))=>(S.out x.it x.ok).1;have xc:=λx:dR (w.alloc (.cells (iT (f,g,o)) 152))=>(S.out x.it x.ok).2.1;clear hm hc F P hE hs h H hN;go_in;(go_wp2_with fail);refine(vT Y).mono ?_;rintro e' u ⟨rfl,rfl⟩;clear Y;(go_wp2_with fail);refine cI (by kernel_rfl) (by kernel_rfl) ?_;repeat go_big_quiet_step ((rename_i x;first|(go_at_call 211;exact eL x (CW _ L f g _ (by have:=X.out.next x.ok;exact this) h3.out oe.1 oe.2.1))))
 refine wpQuiet_nil ?_;intro _ V;obtain⟨⟨w2,ha⟩,rfl⟩:=V;clear xa xb xc;rename_i w2;have U:kQ L f g<=y0:=(by rw[<-z.out];exact ho);have D:=aH (show∀i,(hi:i<L.length)->i<kQ L f g->iB L[i] (f,g,o)=true from h2.out);generalize kQ L f g=s at U D|-;clear ho h2;go_wp2_with fail
 go_loopw [5] (λi wr=>∃j:Nat,j<=y0/\i=.int .i64 j/\(∀i,(hi:i<L.length)->i<j->iB L[i] (f,g,o)=true)/\aR (w.alloc (.cells (iT (f,g,o)) 152)).heap.size (w.alloc (.cells (iT (f,g,o)) 152)) wr) (λi _=>y0-(intOf i).toNat)
 .exact⟨s,U,rfl,D.out,ha⟩
 obtain⟨j,hj,rfl,R,d⟩:=hrel;have E:=aH R;clear R D ha U;have h5:=λx:dR wr=>(HC.out x.it (aK d x.ok)).2;have h6:=λx:dR wr=>(S.out x.it (aK d x.ok)).1;have h8:=λx:dR wr=>(S.out x.it (aK d x.ok)).2.1;have h9:=λx:dR wr=>(S.out x.it (aK d x.ok)).2.2;by_cases xm:j<y0
 focus
  obtain⟨y,hy⟩:∃y,L[j]?=some y:=⟨_,aJ (by have:=z.out;omega)⟩;have oy:=X.out.ok hy;obtain⟨b,xo,rfl,-,hl⟩:=X.out.later (by have:=z.out;omega);have G:=hl j y hy;have xe:=λx:dR wr=>(G x.it (aK d x.ok)).1;have xf:=λx:dR wr=>(G x.it (aK d x.ok)).2.1;have xg:=λx:dR wr=>(G x.it (aK d x.ok)).2.2;have j1:(j:Int)<y0:=(by omega);have⟨E1,Hy,x9⟩:=aB (aQ.1 hy) hy G;clear hl hy G;(go_wp2_with fail);refine cI (by kernel_rfl) (by kernel_rfl) ?_;repeat go_big_quiet_step (first|(go_at_call 212;exact eL _ (xO y (f,g,o) _ oy oe)))
  refine wpQuiet_nil ?_;intro _ V;obtain⟨⟨w1,l⟩,rfl⟩:=V;rename_i wj;rcases hh:iB y (f,g,o)with _|_;rotate_left
  .go_wp2;go_roundw
   .
    refine⟨j+1,by omega,by go_num,λi hi xu=>?_,aK d l⟩;rcases cK i j with h7|h7
    .exact E.out i hi h7
    obtain rfl:i=j:=(by omega);rw[E1.out.2];exact hh
   simp[intOf];omega
  have p:uQ (f,g,o) L=j:=bu8 (by have:=z.out;omega) E.out (λZ=>by rw[E1.out.2];exact hh);obtain⟨y1,y2,y3⟩:=y;obtain⟨c0,c1,c2⟩:=S.out wj (aK d l);obtain⟨-,e1⟩:=HC.out wj (aK d l);obtain⟨d0,d1,d2⟩:=x9.out wj (aK d l);simp only[]at d0 d1 d2 c0 c1 c2;clear h5 h6 h8 h9 xe xf xg;by_cases hf:y1=f/\y2=g/\y3=o
  .obtain⟨rfl,rfl,rfl⟩:=hf;have hp:=bl7 p Hy.out;have q:=br4 p Hy.out;have kf:=aK hz (aK d l);(go_wp2_with fail);go_quiet (fail);go_wp2;go_ret;refine⟨by rw[q];rfl,_,?_,Below.aG6 (below_drewN kf _) _,.inl rfl⟩;rw[hp];exact H0.out.next (below_drewN kf _)
  have xv:(decide (y1=f)&&(decide (y2=g)&&decide (y3=o)))=false:=by simp;omega
  have m:¬L[j]?=some (f,g,o):=(by rw[Hy.out];intro h;exact hf (by simpa using h));have Q:=bx4 p m;have q:=aX6 p m;have s1:(j:Int)<=c:=(by omega);have s2:¬c=j:=by omega
  obtain⟨rfl⟩:xo=0:=by
   rcases M.out.2 with⟨h',_⟩|⟨g',xp,xd,h',_⟩
   .simp at h'
   simp only[Value.slice.injEq,wO,Addr.mk.injEq]at h';exact h'.1.2.1
  simp only[jC]at d0 d1 d2;have⟨h0,x6⟩:=aA (λu K=>bW0 X.out z.out hj u K) (λu K=>cr6 X.out z.out xm u K)
 rotate_left
 focus
  obtain rfl:j=y0:=(by omega);have p:uQ (f,g,o) L=j:=bu8 (by have:=z.out;omega) E.out (λZ=>absurd Z (by have:=z.out;omega));have m:¬L[j]?=some (f,g,o):=(by rw[kD (by have:=z.out;omega)];simp);have Q:=bx4 p m;have q:=aX6 p m;have hd:L.drop j=[]:=UT (by have:=z.out;omega);obtain⟨x5,h0⟩:=aA (show∀(w:aI) A c,c<=maxLen->Reads w (.slice A 0 c) 3 0 (gV (L.drop j))from λw A c h=>by rw[hd];exact bg2 w A c h) (ci7 X.out);clear hd;have hD:(A=none/\j=0/\c=0)\/(∃b,A=some ⟨b,0,none⟩/\c=j)\/∃b,A=some ⟨b,0,none⟩/\¬c=j/\(j:Int)<=c:=by
   rcases M.out.2 with⟨hv,-⟩|⟨b,xq,xd,hv,-⟩
   .obtain⟨rfl,rfl,rfl⟩:=eJ hv;exact .inl ⟨rfl,rfl,rfl⟩
   obtain⟨rfl,-,rfl⟩:=eJ hv;by_cases s2:c=j
   .exact .inr (.inl ⟨b,rfl,s2⟩)
   exact .inr (.inr ⟨b,rfl,s2,by omega⟩)
  rcases hD with⟨rfl,rfl,rfl⟩|⟨b,rfl,s2⟩|⟨b,rfl,s2,s1⟩
  all_goals
   (go_wp2_with fail);refine cI (by kernel_rfl) (by kernel_rfl) ?_;(repeat go_big_quiet_step (fail));refine wpQuiet_nil ?_;intro _ V;obtain⟨⟨w1,l⟩,rfl⟩:=V;rename_i wj;obtain⟨-,e1⟩:=HC.out wj (aK d l);clear h5 h6 h8 h9
 all_goals
  go_wp2_with fail
  go_quiet (fail);(go_wp2_with fail);clear e1;try clear c0 c1 c2 d0 d1 d2
  have x4:=below_drewN l nq;generalize wj.drewN nq=a at x4|-;clear l;have O:=aK d x4;have hq:w.heap.size<=a.heap.size:=aM (eA w _).size O.size;have hw:aR w.heap.size w a:=aK hz O;have⟨N,HG⟩:=aA (HR.out.next O) (λu (K:aR a.heap.size a u)=>HC.out u (aK O K));have HF:=aH (λu (K:aR a.heap.size a u)=>(N.out.next K).frozen 1 (by simp));obtain⟨g0,g1⟩:=HG.out a (bR _ _);obtain⟨t0,t1⟩:=HG.out a.drew (bR _ _).drew;have HS:=aH (cg9 (wi:=a) xl (aW (cG8 w _) O.size) (S.out a O));have C:aR a.heap.size a a.drew:=(bR _ _).drew;have W:aR a.heap.size a (a.alloc (.cells #[.int .u64 f,.int .i64 g,.int .i64 o] 152)):=eA a _;obtain⟨l0,l1⟩:=HG.out _ W;obtain⟨-,x0,xx,xy⟩:=HS.out a.drew (Below.aG6 C _);go_region_law (first|(refine QY rfl _ _ 113 rfl a.heap.size 152 i0 _ 3 24 underlying113 hg hr ht hu rfl (by decide) v1 _ _ rfl (iI I (xU (B:=a.heap.size) (w:=a) (by first|exact C.alloc C.size _|exact W.drew))) _ _ _ rfl (by first|exact x6.out _ (aK O k1)|exact x5.out _ _ _ (by unfold maxLen;omega)) (C5 _) (by unfold maxLen;omega) (by omega) k1.size ?_;intro v2 w2 J xk;have k2:aR a.heap.size a w2:=k1.grown xk k1.size (dH (iI I (xU (B:=a.heap.size) (w:=a) (by first|exact C.alloc C.size _|exact W.drew))));obtain⟨xs,xt⟩:=HG.out w2 k2;have xr:=HF.out w2 k2;obtain⟨N2,b2,h4,rfl,x7,t⟩:=bH5 J;clear J)|(refine GL rfl _ _ 113 rfl 152 i0 _ 3 24 underlying113 hg hr ht hu rfl _ _ _ rfl (h0.out _ (aK O (by first|exact C.alloc C.size _|exact W.drew))) (C5 _) _ 1 (gV [(f,g,o)]) rfl (by first|exact(SI _ _ oe).1|exact Reads.cL8 (SI _ _ oe).1) (C5 _) (by unfold maxLen;omega) (by omega) ?_;intro v1 w1 xw xn xj;have I:=xn (by omega);have k1:aR a.heap.size a w1:=Below.grown (w:=_) (by first|exact C.alloc C.size _|exact W.drew) xj (xU (B:=a.heap.size) (w:=a) (by first|exact C.alloc C.size _|exact W.drew)) (by intro xz Z;cases Z);obtain⟨g0,g1⟩:=HG.out w1 k1))
  all_goals
   go_wp2;go_ret;refine⟨?_,.slice (some ⟨b2,0,none⟩) N2 h4,?_,?_,?_⟩
   .rw[q];rfl
   .exact bc4 N.out k2 (iI (ao0 t (by have:=x7.out;have:=z.out;omega)) (aM T hq)) hj z.out Q (x8.out) h3.out
   .exact EP hw (EP k2 (aa4 _ ⟨k,1,none⟩ _))
   exact .inr λxz Z=>aM hq (dH t xz Z)
end Go.Proofs.YtpopikndggffaaaGreatDoor
