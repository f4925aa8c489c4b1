/- TOP, part 24. -/
import Derived.Test.YtpopikndggffaaaGreatDoorGm22
namespace Go.Proofs.YtpopikndggffaaaGreatDoor
set_option linter.all false
set_option maxRecDepth 100000
set_option maxHeartbeats 16000000
open Go.RowKit Go.Maps Tryz
variable{i j k m n:Nat}{a w x y:aI}{D:aM}{u v:aN}{K:bK->Nat}{H:bK->aN}{G:cT}
def LOp.from{n k:Nat}{v:aN}{a:Int}{D:aM}{w:aI}{e:eT}(b:aS w.heap.size w x)(h:LOp n k m i j v u a G D x e y):LOp n k m i j v u a G D w e y:=by obtain⟨d,f,⟨r,c,g,l,o⟩,p⟩:=h;exact⟨d,f,⟨r,c,g,λs q=>(l s q).imp id (λh=>aL b.size h),o⟩,(sA.cQ b n m i v).trans (kI.refl _ _) p⟩
def bb0(h:kD w k n i G D.bP false v)(J:bM w k n m D K H)(ha:D.down=false)(hb:k<=w.heap.size)(p:aT)(hp:p.size<=2000):
 Calls prog 92 #[.pointer (some ⟨i,0,none⟩),.string p] w (LOp k n m i D.bP v (.tuple #[.int .i64 ((gU G D (lb p)).2.1:Nat),.int .i64 (gU G D (lb p)).1]) (gU G D (lb p)).1 (gU G D (lb p)).2.2.1 (gU G D (lb p)).2.2.2 w):=by
  have f:=LW h J ha;have j:=λx:aI=>aB5 p x (by omega);have e1:aX3 (lb p)=jT (lb p):=(by unfold aX3;rw[aQ (by rw[bN];omega)]);have e2:aX6 (lb p)=0:=(by unfold aX6;rw[aQ (by rw[bN];omega)]);rw[e1,e2]at j;clear e1 e2;have Q:(bs (jT (lb p))).size=p.size+12:=(by rw[eK,mU,bN]);have C:lb (bs (jT (lb p)))=jT (lb p):=(by simp[lb,bs]);obtain⟨A,c,rfl,hg,h4,-⟩:=id (Reads.dC h.own);unfold maxLen at h4;have h6:=h.many;have⟨HH,HD⟩:=aA h J;obtain⟨ST,M⟩:∃s,s=D.bP:=⟨_,rfl⟩;by_cases F:G.bW=[]
  .have S:gU G D (lb p)=pB G D 0 (jT (lb p)):=by unfold gU;rw[aQ (by rw[bN];omega),aQ (by rw[F];simp),F];rfl
   rw[S];have a:=λ(x:aI)(y:aS w.heap.size w x)=>ai6 (h.next y) (J.next y) (aL hb y.size) 0 (by rw[F];rfl) (bs (jT (lb p))) (by omega);rw[C]at a;have W:G.bW.length=0:=(by rw[F];rfl);have N:=λ(x:aI)(y:aS w.heap.size w x)=>(h.next y).row.cell 3 (by simp);simp only[bX,bE,W]at N;obtain⟨⟨e,Z,G',D'⟩,P⟩:∃q,q=pB G D 0 (jT (lb p)):=⟨_,rfl⟩;rw[<-P]at a|-;rw[<-M]at a|-;generalize bs (jT (lb p))=R at j a;rw[W]at a|-;clear S P C h J F Q;go_in;(go_wp2_with fail);refine f.mono ?_;rintro x w1 ⟨rfl,z⟩;(go_wp2_with fail);refine(j w1).mono ?_;rintro x w2 ⟨rfl,B⟩;have d:=aJ z B;have c3:=N _ d;have o:=a _ d;have U:=aH d;clear N a j f z B d;(go_wp2_with fail);refine o.mono ?_;rintro x w3 L;have V:=aH (L.from U.out);obtain⟨rfl,-⟩:=L;clear o;go_wp2;go_ret2;exact V.out
  obtain⟨hj,T⟩:∃hj,G.bW.length=hj+1:=⟨G.bW.length - 1,by have:=pM.2 F;omega⟩;obtain⟨q,P⟩:∃q,G.bW.getD hj 0=q:=⟨_,rfl⟩;have hi:q<=1048576:=by rw[<-P,b8,aK (by omega)];exact h.small _ (cY _)
  have t:∀x,aS w.heap.size w x->x.cell? ⟨i,3,none⟩=some (.slice A (hj+1) c)/\∃b,A=some ⟨b,0,none⟩/\x.cell? ⟨b,hj,none⟩=some (.int .i64 q):=λx y=>by
   have h7:=Reads.dC (h.next y).own;obtain⟨b,hc,rfl,-,-,-,O⟩:=h7.W1 (by omega);obtain⟨b',X⟩:∃b',(some (⟨b,hc,none⟩:Addr))=some ⟨b',0,none⟩:=by
    rcases h.own.2 with⟨h9,h8⟩|⟨g,he,hf,h9,-⟩
    .exact absurd h8 (by omega)
    exact⟨g,by cases h9;rfl⟩
   cases X;have h5:G.bW[hj]'(by omega)=q:=(by rw[<-P,b8,aK (by omega)];rfl);refine⟨?_,b,rfl,?_⟩
   .have:=(h.next y).row.cell 3 (by simp);simp only[bX,bE,T]at this;exact this
   have:=O x (aY _ _) hj (by simp;omega);rwa[yO,h5,jB]at this
  obtain⟨-,b,rfl,-⟩:=t w (aY _ _);have I:∀x,aS w.heap.size w x->x.cell? ⟨i,3,none⟩=some (.slice (some ⟨b,0,none⟩) (hj+1) c)/\x.cell? ⟨b,hj,none⟩=some (.int .i64 q):=λx y=>by obtain⟨h1,b',h2,h3⟩:=t x y;cases h2;exact⟨h1,h3⟩
  have S:gU G D (lb p)=if xB q p.size=true then oU G D hj (jT (lb p))else pB G D (hj+1) (jT (lb p)):=by
   unfold gU;rw[aQ (by rw[bN];omega),T,show hj+1-1=hj from rfl,P,bN];by_cases l:xB q p.size=true
   .rw[aU ⟨F,l⟩,aU l]
   rw[aQ (λh=>l h.2),aQ l]
  rw[S];have u:=λx:aI=>aM6 (q:Int) p x ⟨by omega,by omega⟩ (by unfold maxLen;omega);by_cases l:xB q p.size=true
  .rw[aU l];have hh:q+p.size+12<=4096:=by unfold xB at l;simp only[bH]at l;omega
   have a:=λ(x:aI)(y:aS w.heap.size w x)=>ba9 (h.next y) (J.next y) (aL hb y.size) hj q T P (bs (jT (lb p))) (by omega);rw[C]at a;rw[l]at u;obtain⟨⟨e,Z,G',D'⟩,Y⟩:∃r,r=oU G D hj (jT (lb p)):=⟨_,rfl⟩;rw[<-Y]at a|-;rw[<-M]at a|-;rw[T]at a|-;generalize bs (jT (lb p))=R at j a;clear S Y C h J F Q t l;go_in;(go_wp2_with fail);refine f.mono ?_;rintro x w1 ⟨rfl,z⟩;(go_wp2_with fail);refine(j w1).mono ?_;rintro x w2 ⟨rfl,B⟩;have d:=aJ z B;obtain⟨c3,c4⟩:=I _ d;have o:=a _ d;have E:=u w2;have U:=aH d;clear I a j f z B d u;(go_wp2_with fail);refine E.mono ?_;rintro x w' ⟨rfl,rfl⟩;(go_wp2_with fail);refine o.mono ?_;rintro x w3 L;have V:=aH (L.from U.out);obtain⟨rfl,-⟩:=L;clear o;go_wp2;go_ret2;exact V.out
  rw[aQ l];have l:xB q p.size=false:=(by simpa using l);have a:=λ(x:aI)(y:aS w.heap.size w x)=>ai6 (h.next y) (J.next y) (aL hb y.size) (hj+1) T (bs (jT (lb p))) (by omega);rw[C]at a;rw[l]at u;obtain⟨⟨e,Z,G',D'⟩,Y⟩:∃r,r=pB G D (hj+1) (jT (lb p)):=⟨_,rfl⟩;rw[<-Y]at a|-;rw[<-M]at a|-;rw[T]at a|-;generalize bs (jT (lb p))=R at j a;clear S Y C h J F Q t l;go_in;(go_wp2_with fail);refine f.mono ?_;rintro x w1 ⟨rfl,z⟩;(go_wp2_with fail);refine(j w1).mono ?_;rintro x w2 ⟨rfl,B⟩;have d:=aJ z B;obtain⟨c3,c4⟩:=I _ d;have o:=a _ d;have E:=u w2;have U:=aH d;clear I a j f z B d u;(go_wp2_with fail);refine E.mono ?_;rintro x w' ⟨rfl,rfl⟩;(go_wp2_with fail);refine o.mono ?_;rintro x w3 L;have V:=aH (L.from U.out);obtain⟨rfl,-⟩:=L;clear o;go_wp2;go_ret2;exact V.out
variable{s:bK}
def cd5(h:recAt s n=true):gA ((s.drop n).take (kN s n+12)) 0=gA s (n:Int)/\SQ ((s.drop n).take (kN s n+12)) 0=true/\(gA s (n:Int)).length=kN s n:=by have i:=nU h;have b:=h;unfold recAt at b;simp only[bL,bH,gG]at b;have e:=b.2.2.2;have d:SQ s (n:Int)=true:=(by unfold SQ;rw[cJ (by omega),fI,cB];exact h);have c:gA s (n:Int)=(s.drop (n+4)).take (kN s n):=(by unfold gA;rw[d,aU rfl,cB]);have a:((s.drop (n+4)).take (kN s n)).length=kN s n:=(by simp;omega);rw[e,c];have f:=bn0 [] ((s.drop (n+4)).take (kN s n)) [] (by rw[a];exact i.2.1);have g:=QI [] ((s.drop (n+4)).take (kN s n)) [] (by rw[a];exact i.2.1);simp only[pD,fU,jU]at f g;exact⟨f,g,a⟩
def aW9(e:n<k)(d:12<=m)(a:m+12<=i)(b:m+j+12<=i)(c:j<=2000)(f:Nat):decide ((f:Int)<0)=false/\decide ((k:Int)<=(n:Int))=false/\decide ((m:Int)<12)=false/\decide ((i:Int)-12<(m:Int))=false/\decide ((i:Int)-12-(m:Int)<(j:Int))=false/\decide ((2000:Int)<(j:Int))=false:=by simp only[cN];omega
def wrap_small(h:n<=200):wrap64 (n:Int)=(n:Int):=by unfold wrap64;omega
def bQ3(h:kD w k n i G D.bP false v)(hd:bM w k n m D K H)(W:D.down=false)(hb:k<=w.heap.size)(xb xc a:Nat)(x1:xb/4096=xc)(x0:xb%4096=a)(X:xc<G.bW.length){f:fM}(hf:bR D.files (gZ xc)=some f)(t:f.data.length=G.bW.getD xc 0)(ha:12<=a)(hr:recAt f.data a=true):
 Calls prog 215 #[.pointer (some ⟨i,0,none⟩),.int .i64 xb] w λe w'=>e=.returned (.tuple #[.string (bs (gA f.data (a:Int))),.int .i64 0])/\bM w' k n m D K H/\kD w' k n i G D.bP false v/\gS k m w w':=by
  have d:=LW h hd W;have u:=h.many;have V:xc<=200:=aL (tH X) u;have hk:xb<=1000000000:=(by clear d;omega);have x8:a<4096:=(by clear d;omega);have q1:Int.tdiv (xb:Int) 4096=(xc:Int):=(by rw[n7 (by omega)];omega);have q2:Int.tmod (xb:Int) 4096=(a:Int):=(by rw[LD (by omega)];omega);have hv:=aH (And.intro q1 q2);clear q1 q2 x1 x0;obtain⟨C,E,r⟩:=nU hr;obtain⟨g1,g2,g3⟩:=cd5 hr;have U:f.data.length<=1048576:=(hd.data hf).2;have HC:=λx:aI=>qR (xc:Int) x ⟨by omega,by omega⟩;have HR:=λ(x:aI) (z:bM x k n m D K H) (j:Int) hk=>AY z (lD 99 (xc:Int)) (jM _ _) (a:Int) j ⟨by omega,by omega⟩ hk;rw[tQ]at HR;unfold MW at HR;have r1:D.read (gZ xc) (a:Int) 4=((f.data.drop a).take 4,0):=by unfold aM.read;rw[W,hf];simp;omega
  have r2:D.read (gZ xc) (a:Int) ((kN f.data a:Int)+12)=((f.data.drop a).take (kN f.data a+12),0):=by unfold aM.read;rw[W,hf,aQ (by simp)];simp only;rw[aQ (by omega),cB,show((kN f.data a:Int)+12).toNat=kN f.data a+12 from by omega]
  have B:=λx z=>HR x z 4 ⟨by omega,by omega⟩;have p:=λx z=>HR x z ((kN f.data a:Int)+12) ⟨by omega,by omega⟩;simp only[r1]at B;simp only[r2]at p;clear HR r1 r2;obtain⟨N,hN⟩:∃N,N=kN f.data a:=⟨_,rfl⟩;have y:=λx:aI=>vR (bs ((f.data.drop a).take 4)) x (by rw[eK];simp;unfold maxLen;omega);have L:qA (lb (bs ((f.data.drop a).take 4)))=N:=by rw[gF,hN];unfold qA kN;rw[kJ];rfl
  rw[L]at y;have o:=λx:aI=>JG (bs ((f.data.drop a).take (kN f.data a+12))) 0 x (by rw[eK];simp;omega) ⟨by omega,by omega⟩;rw[gF,g1,g2]at o;obtain⟨T1,h6⟩:∃T,T=bs ((f.data.drop a).take 4):=⟨_,rfl⟩;obtain⟨T2,h7⟩:∃T,T=bs ((f.data.drop a).take (kN f.data a+12)):=⟨_,rfl⟩;rw[<-h6]at B y;rw[<-h7]at p o;rw[<-hN]at p E r;generalize gN ((f.data.drop a).take (kN f.data a+12)) 0=N2 at o;generalize gA f.data (a:Int)=PL at o|-;obtain⟨q,hq⟩:∃q,G.bW.getD xc 0=q:=⟨_,rfl⟩;rw[hq]at t;rw[t]at C r U;obtain⟨A,c,rfl,hw,hy,-⟩:=id (Reads.dC h.own);clear hw hy;have l:∀x,kD x k n i G D.bP false (.slice A G.bW.length c)->x.cell? ⟨i,3,none⟩=some (.slice A G.bW.length c)/\∃b,A=some ⟨b,0,none⟩/\x.cell? ⟨b,xc,none⟩=some (.int .i64 q):=λx z=>by
   have x2:=Reads.dC z.own;obtain⟨b,x3,rfl,-,-,-,Q⟩:=x2.W1 (by omega);obtain⟨b',hh⟩:∃b',(some (⟨b,x3,none⟩:Addr))=some ⟨b',0,none⟩:=by
    rcases h.own.2 with⟨h9,h8⟩|⟨g,x4,x5,h9,-⟩
    .exact absurd h8 (by omega)
    exact⟨g,by cases h9;rfl⟩
   cases hh;have hz:G.bW[xc]'(by omega)=q:=(by rw[<-hq,b8,aK (by omega)];rfl);refine⟨?_,b,rfl,?_⟩
   .have:=z.row.cell 3 (by simp);simp only[bX,bE]at this;exact this
   have:=Q x (aY _ _) xc (by simp;omega);rwa[yO,hz,jB]at this
  obtain⟨-,b,rfl,-⟩:=l w h;have hc:∀x,kD x k n i G D.bP false (.slice (some ⟨b,0,none⟩) G.bW.length c)->x.cell? ⟨i,3,none⟩=some (.slice (some ⟨b,0,none⟩) G.bW.length c)/\x.cell? ⟨b,xc,none⟩=some (.int .i64 q)/\x.cell? ⟨i,0,none⟩=some (.pointer (some ⟨n,0,none⟩)):=λx z=>by obtain⟨h1,b',h2,h3⟩:=l x z;cases h2;exact⟨h1,h3,z.row.cell 0 (by simp)⟩
  have⟨O,HH,HD⟩:=aB hc h hd;obtain⟨ST,x7⟩:∃s,s=D.bP:=⟨_,rfl⟩;obtain⟨M,hM⟩:∃M,M=G.bW.length:=⟨_,rfl⟩;have w9:=wrap_small V;have P:=aH hM;rw[<-hM]at X;obtain⟨j0,j1,j2,j3,j4,j5⟩:=aW9 X ha (show a+12<=q from C) (show a+N+12<=q from r) E xb;have x9:xc<M:=X;have xa:q<=1048576:=U;have x6:N<=2000:=E;have HX:=aH (And.intro C (And.intro r (And.intro X hk)));clear l hc h hd hr hf hq hN h6 h7 L g1 g2 g3 hM C r X u ha U E t;obtain⟨q1,q2⟩:=hv.out;go_in;(go_wp2_with fail);refine d.mono ?_;rintro x w1 ⟨rfl,J⟩;have⟨h0,hi⟩:=aA (HH.out.next J) (HD.out.next J);obtain⟨c3,c4,c0⟩:=O.out _ h0.out;rw[<-P.out]at c3;clear d;(go_wp2_with fail);refine(HC w1).mono ?_;rintro x w2 ⟨rfl,I⟩;have⟨h4,Y⟩:=aA (h0.out.next I) (hi.out.next I);obtain⟨c3,c4,c0⟩:=O.out _ h4.out;rw[<-P.out]at c3;have hm:=aH (gS.cQ (aJ J I) k m);clear J I;(go_wp2_with fail);refine(B _ Y.out).mono ?_;rintro x w3 ⟨rfl,he,R⟩;have⟨h5,ho,Z⟩:=aB (h4.out.xC Y.out R) (hm.out.trans R) he;obtain⟨c3,c4,c0⟩:=O.out _ h5.out;rw[<-P.out]at c3;clear he R B;(go_wp2_with fail);refine(y w3).mono ?_;rintro x w' ⟨rfl,rfl⟩;(go_wp2_with fail);refine(p _ Z.out).mono ?_;rintro x w4 ⟨rfl,hg,S⟩;have⟨ht,hp,hj⟩:=aB (h5.out.xC Z.out S) (ho.out.trans S) hg;clear hg S p;(go_wp2_with fail);refine(o w4).mono ?_;rintro x w5 ⟨rfl,F⟩;have⟨hu,hs,hl⟩:=aB (ht.out.next F) (hp.out.trans (gS.cQ F k m)) (hj.out.next F);clear F o;go_wp2;go_ret2;exact⟨rfl,hl.out,hu.out,hs.out⟩
variable{f:FuncId}{A:Program}
structure CB(a d m L:Nat)(G:cT)(e:Nat)(v:aN)(D:aM)(b:bK->Nat)(c:bK->aN)(w:aI) where
 it:aI
 fr:gS a m w it
 eD:bM it a d m D b c
 log:kD it a d L G e false v
def WH{id:Nat}{Q:Exit->Act->aI->Prop}{a:Act}{l:List Oper}(g:kD w j k m G i false v)(f:bM w j k n D K H)(o:A.follows .mixedOrders=true)(e:Region.lexB .any l.toArray=true)
 (h:wpQuiet A l.toArray (λb=>∃x:CB j k n m G i v D K H w,b=x.it) (λd=>∀b,(∃x:CB j k n m G i v D K H w,b=x.it)->Q .normal d b) l a):(Code.region id l.toArray true).wp A Q a w:=by have c:aS w w w.drew:=mE.drew;exact wp_region_quiet (C:=λb=>∃x:CB j k n m G i v D K H w,b=x.it) o e ⟨⟨w.drew,gS.cQ c _ _,f.next c,g.next c⟩,rfl⟩ (by simpa using h)
def PK{b:Func}{t u v x:Tmp}(h:b.results=#[.tmp t,.tmp u,.tmp v,.tmp x])(a:Array aN)(P:Program)(w:aI):
 (results b a).run P w=.ok (.tuple #[a.getD t undef,a.getD u undef,a.getD v undef,a.getD x undef]) w:=by simp[results,h]
def aN4{a:Array aN}(x:CB m k n i G j v D K H w)
 (h:Calls A f a x.it λe b=>e=.returned u/\aS x.it x.it b):Calls A f a x.it λe b=>e=.returned u/\∃y:CB m k n i G j v D K H w,b=y.it:=
 h.mono λ_ _ ⟨d,c⟩=>⟨d,⟨_,x.fr.trans (gS.cQ c _ _),x.eD.next c,x.log.next c⟩,rfl⟩
def aN3{b:Array aN}(x:CB m k n i G j v D K H w)
 (h:Calls A f b x.it λe a=>e=.returned u/\bM a m k n D K H/\gS m n x.it a):Calls A f b x.it λe a=>e=.returned u/\∃y:CB m k n i G j v D K H w,a=y.it:=
 h.mono λ_ _ ⟨g,d,c⟩=>⟨g,⟨_,x.fr.trans c,d,x.log.xC x.eD c⟩,rfl⟩
def aS2(l:bK):∀k a x,x∈(qG l k a).1->recAt l x=true:=by
 intro k;induction k with
 |zero=>intro a x h;cases h
 |succ k c=>
  intro a x h;by_cases b:recAt l a=true
  .rw[B8 b]at h;rcases cX.1 h with rfl|h
   .exact b
   exact c _ _ h
  rw[pI (by simpa using b)]at h;cases h
def ck0{e:Int}(h:n∈cAt s e):recAt s n=true:=by
 unfold cAt at h;split at h
 .unfold wAt at h;split at h
  .cases h
  exact aS2 _ _ _ _ h
 cases h
def aV0{b:Bool}{A:Option Addr}(h:kD w k n m G i b (.slice A G.bW j))(u:Nat)(p:u<G.bW):∃t,A=zp t/\∀y,kD y k n m G i b (.slice A G.bW j)->y.cell? (zp t u)=(G.bW.getD u 0:Nat):=by
 have c:∃t,A=some ⟨t,0,none⟩:=by
  rcases h.own.2 with⟨e,o⟩|⟨g,f,l,e,-⟩
  .exact absurd o (by omega)
  exact⟨g,by cases e;rfl⟩
 obtain⟨t,rfl⟩:=c;refine⟨t,rfl,λy q=>?_⟩;have d:=Reads.dC q.own;obtain⟨s,r,c,-,-,-,a⟩:=d.W1 (by omega);cases c;have:=a y mE u (by simp;omega);rw[yO,jB]at this;rw[b8,aK p];exact this
def aH0(h:kD w k n i G D.bP false v)(hd:bM w k n m D K H)(xc:D.down=false)(hb:k<=w)(hw:∀y0,y0<G.bW.length->∃f,bR D.files (gZ y0)=some f/\f.data=G.bW.getD y0 0/\f.data.length<=4096)(a:Nat)(xo:a<=1000000000):
 Calls prog 73 #[zp i,a] w λe w'=>e=.returned (.tuple #[bs (CU G D (a:Int)).2.1,((CU G D (a:Int)).2.2.1:Nat),((CU G D (a:Int)).2.2.2:Nat),(CU G D (a:Int)).1])/\bM w' k n m D K H/\kD w' k n i G D.bP false v/\gS k m w w':=by
  have r:=LW h hd xc;have h7:=h.many;have HC:=λ(y0:Nat)(hn:y0<=200)(x:aI)=>qR (y0:Int) x ⟨by omega,by omega⟩;have HR:=λ(y0:Nat) (f:fM) (hn:y0<=200) (S:bR D.files (gZ y0)=some f) (hl:f.data.length<=4096) (x:aI) (g:bM x k n m D K H)=>AY g (lD 99 (y0:Int)) (jM _ _) 0 (f.data.length:Nat) ⟨by omega,by omega⟩ ⟨by omega,by omega⟩;have hv:∀(y0:Nat) (f:fM) (hn:y0<=200) (S:bR D.files (gZ y0)=some f) (hl:f.data.length<=4096) (x:aI) (g:bM x k n m D K H),Calls prog 31 #[.pointer (some ⟨n,0,none⟩),.string (lD 99 (y0:Int)),.int .i64 0,.int .i64 (f.data.length:Nat)] x λe w'=>e=.returned (.tuple #[.string (bs f.data),.int .i64 0])/\bM w' k n m D K H/\gS k m x w':=λy0 f hn S hl x g=>by
   have:=HR y0 f hn S hl x g;rw[tQ]at this;unfold MW at this;have r1:D.read (gZ y0) 0 (f.data.length:Nat)=(f.data,0):=by unfold aM.read;rw[xc,S];simp
   rwa[r1]at this
  clear HR;obtain⟨A,c,rfl,xu,xj,-⟩:=id (Reads.dC h.own);unfold maxLen at xj;have⟨M,hM⟩:=kX G.bW.length;have xh:=hM;have h8:CU G D (a:Int)=E4 G D (a:Int) (M-a/4096) (a/4096):=by unfold CU;rw[show max (a:Int) 0=(a:Int)from by omega,<-hM,show((a:Int)/4096).toNat=a/4096 from by omega]
  have⟨R,hR⟩:=kX (CU G D (a:Int));rw[<-hR]at h8|-;have⟨hu,HW,HH,HD,ht⟩:=aD h8 hw h hd hM;have⟨ST,xt⟩:=kX D.bP;have q1:Int.tdiv (a:Int) 4096=((a/4096:Nat):Int):=(by rw[n7 (by omega)];omega);have q2:max (a:Int) 0=(a:Int):=by omega
  have x3:∀x,kD x k n i G D.bP false (.slice A G.bW.length c)->x.cell? ⟨i,3,none⟩=some (.slice A M c):=λx g=>by have:=g.row.zc3;rw[hM];exact this
  have he:=aH x3;have⟨pq,ha⟩:=kX (a/4096);rw[<-ha]at q1 hu;have xp:pq<=1000000:=(by omega);have xr:=aH ha;rw[<-hM]at h7;clear x3 h hd h8 hw hR hM xh ha;go_in;(go_wp2_with fail);go_step3;go_wp2_with fail
  go_call r as x w1 ⟨rfl,N⟩;have⟨xg,xd,xe⟩:=aB (HH.next N) (HD.next N) (gS.cQ N k m);clear r N;(go_wp2_with fail);go_step3;go_wp2_with fail
  go_loopw [9,10,11,12,13,14,15,17,18,19,20] (λxy _ _ _ _ _ _ _ _ _ _ wr=>∃(xz:Nat),pq<=xz/\xy=.int .i64 xz/\R=E4 G D (a:Int) (M-xz) xz/\kD wr k n i G D.bP false (.slice A G.bW.length c)/\bM wr k n m D K H/\gS k m w wr) (λxy _ _ _ _ _ _ _ _ _ _ _=>M-(intOf xy).toNat)
  .exact⟨pq,gC,rfl,hu,xg,xd,xe⟩
  obtain⟨xz,hk,rfl,l,O,h2,h4⟩:=hrel;have c3:=he wr O;have⟨F,X,hm⟩:=aB O h2 h4;by_cases x9:xz<M
  .have i1:(xz:Int)<M:=(by omega);have y:xz<=200:=(by omega);have⟨f,S,h3,xk⟩:=HW xz (by rw[<-ht.zz];exact x9);obtain⟨j9,x8⟩:∃j,M - xz=j+1:=⟨M - xz - 1,by omega⟩;rw[x8,E4,S]at l;simp only at l;rw[<-h3,eQ]at l;have⟨q,hq⟩:=kX f.data.length;have⟨b,u⟩:=aV0 F xz (by rw[<-ht.zz];exact x9);obtain⟨rfl,u⟩:=u;rw[<-h3,<-hq]at u;have P:=hv xz f y S xk;rw[<-hq]at P;have x4:=HC xz y;have⟨J,L⟩:=kX (cAt f.data (xz:Int));have U:∀p∈J,recAt f.data p=true/\p+12<=4096:=λp B=>by rw[L]at B;have:=ck0 B;exact⟨this,by have:=nU this;omega⟩
   rw[<-L]at l;have Q:=λx:aI=>UP (bs f.data) (xz:Int) x (by rw[eK];omega) ⟨by omega,by omega⟩;unfold C4 at Q;rw[gF,<-L]at Q;have h6:=λ(p:Nat)(B:p<=4096)(x:aI)=>JG (bs f.data) (p:Int) x (by rw[eK];omega) ⟨by omega,by omega⟩;rw[gF]at h6;have x7:M-(xz+1)=j9:=(by omega);have⟨hz,hs,ho,Z,xf⟩:=aD l U h6 Q x7;have⟨T,hT⟩:=kX (bs f.data);rw[<-hT]at P ho Z;have z0:∀x:CB k n m i G D.bP (.slice (some ⟨b,0,none⟩) G.bW.length c) D K H wr,x.it.cell? ⟨i,0,none⟩=some (.pointer (some ⟨n,0,none⟩)):=λx=>x.log.row.rY;have z3:∀x:CB k n m i G D.bP (.slice (some ⟨b,0,none⟩) G.bW.length c) D K H wr,x.it.cell? ⟨i,3,none⟩=some (.slice (some ⟨b,0,none⟩) M c):=λx=>he x.it x.log;have z4:∀x:CB k n m i G D.bP (.slice (some ⟨b,0,none⟩) G.bW.length c) D K H wr,x.it.cell? ⟨b,xz,none⟩=some (.int .i64 q):=λx=>u x.it x.log;clear l O h2 h4 S h3 U h6 Q x7 L u hT hv HC x8 hq;haveI:Nonempty (CB k n m i G D.bP (.slice (some ⟨b,0,none⟩) G.bW.length c) D K H wr):=⟨⟨wr,gS.refl _ _ _,X,F⟩⟩;(go_wp2_with fail);refine WH F X (by kernel_rfl) (by kernel_rfl) ?_;(repeat go_big_quiet_step ((rename_i x;first|(go_at_call 109;exact aN4 x (x4 x.it))|(go_at_call 31;exact aN3 x (P x.it x.eD)))));refine wpQuiet_nil ?_;rintro _ ⟨⟨wq,x6,x5,xa⟩,rfl⟩;clear z0 z3 z4 P x4;have⟨hh,hr,hi⟩:=aB x5 xa (hm.trans x6);clear x6 x5 xa;(go_wp2_with fail);go_call Z _ as x w4 ⟨v4,rfl,C,x1⟩;obtain⟨A4,c4,rfl,xb,V,-⟩:=id C;have xm:J.length<=9223372036854775807:=(by unfold maxLen at V;omega);clear xb V;have⟨hy,hc⟩:=aA C x1;have⟨NP,h0⟩:=kX J.length;rw[<-h0]at hy xm|-;have s:=aH h0;clear C x1 h0 Z;(go_wp2_with fail);go_loopw [17,18,19,20,72] (λ_ _ _ _ xy w5=>∃j:Nat,j<=NP/\xy=.int .i64 j/\(∀x∈J.take j,¬(a:Int)<=((xz*4096+x:Nat):Int))/\aS w4.heap.size w4 w5) (λ_ _ _ _ xy _=>NP-(intOf xy).toNat)
   .exact⟨0,bO _,rfl,by simp,mE⟩
   obtain⟨j,hj,rfl,z,t⟩:=hrel;have⟨W,Y⟩:=aA t z;clear z;by_cases xv:j<NP
   .have i2:(j:Int)<NP:=(by omega);obtain⟨p,B⟩:∃p,J[j]?=some p:=⟨_,aK (by have:=s.zz;omega)⟩;have⟨E,xx⟩:=hs p (bD B);have xn:p<=4096:=(by omega);obtain⟨b4,xq,rfl,-,-,-,h1⟩:=hy.W1 (by omega);have cp:=h1 _ t j (by simp;have:=s.zz;omega);rw[yO,show J[j]'(by have:=s.zz;omega)=p from by have:=aR.1 B;exact this.2]at cp;have⟨HP,xs⟩:=aA B E;by_cases xw:a<=xz*4096+p
    .have i3:¬((xz:Int)*4096+(p:Int)<(a:Int)):=(by omega);have h5:SQ f.data (p:Int)=true:=(by unfold SQ;rw[cJ (by omega),fI,cB];exact E);have hg:=ho p xn;rw[h5]at hg;have d:J.find? (λx=>decide ((a:Int)<=((xz*4096+x:Nat):Int)))=some p:=by rw[<-bY j J,aQ8,L8.2 (λx g=>by simpa using Y.zz x g),<-gH (by have:=s.zz;omega),TD (by have h9:=(aR.1 B).2;rw[h9];simp;omega)];exact gQ some (aR.1 B).2
     have I:=aH (show R=(0,gA f.data (p:Int),xz*4096+p,xz*4096+gN f.data (p:Int))from by rw[hz.zz,d]);have xl:gN f.data (p:Int)<=4096:=by have:=nU E;unfold gN;rw[h5,aU rfl,cB];omega
     have⟨GN,x0⟩:=kX (gN f.data (p:Int));rw[<-x0]at hg xl I;clear d h5 E B h1 x0 t;(go_wp2_with fail);go_call hg _ as x w6 ⟨rfl,x2⟩;have o:=aH (aJ hc (aJ W x2));clear x2 hg;go_wp2;(try rw[eJ]);(try simp only[Exit.inBlock,Exit.then]);refine bG (PK rfl _ _ _) rfl ?_;rw[I.zz];exact⟨by simp,hh.next o,hr.next o,hi.trans (gS.cQ o _ _)⟩
    have i3:(xz:Int)*4096+(p:Int)<(a:Int):=(by omega);clear E B h1 t;go_wp2;go_roundw
    .
     refine⟨j+1,by omega,by go_num,λx g=>?_,W⟩;rw[dQ,HP.zz]at g;rcases cE.1 g with g|g
     .exact Y x g
     simp at g;subst g;omega
    simp[intOf];omega
   obtain rfl:j=NP:=(by omega);have i2:¬(j:Int)<j:=(by omega);have d:J.find? (λx=>decide ((a:Int)<=((xz*4096+x:Nat):Int)))=none:=by rw[L8];intro x g;have:=Y x (by rw[s.zz,eQ];exact g);simpa using this
   have⟨I,o⟩:=aA (show R=E4 G D (a:Int) (M-(xz+1)) (xz+1)from by rw[hz.zz,d,xf.zz]) (aJ hc W);clear d t;go_wp2;go_roundw
   .exact⟨xz+1,by omega,by go_num,I,hr.next o,hh.next o,hi.trans (gS.cQ o _ _)⟩
   simp[intOf];omega
  have i1:¬(xz:Int)<M:=(by omega);have xi:=aH (show R=(4,[],0,0)from by rw[l,show M-xz=0 from by omega];rfl);clear l O h2 h4;go_wp2;try simp only[Exit.inBlock,Exit.then]
  refine bG (PK rfl _ _ _) rfl ?_;rw[xi.zz];exact⟨rfl,X,F,hm⟩
variable{N R:Nat->Prop}{r:Option Nat}
def jE(w:aI)(d m k:Nat):Prop:=k=m\/CD w k\/OwnAt w d k
structure oD(a:Nat)(F c:Nat->Prop)(w b:aI):Prop where
 os:b.os=w.os
 tape:b.tape=w.tape
 output:b.output=w.output
 size:w.heap.size<=b.heap.size
 block:∀k,k<w.heap.size->(k<a\/¬F k)->b.heap[k]?=w.heap[k]?
 rC:∀k,k<w.heap.size->c k->F k
def oD.trans{n:Nat}{A:Nat->Prop}{a w x:aI}(b:oD n N R a w)(c:oD n R A w x):oD n N A a x:=
 ⟨c.os.trans b.os,c.tape.trans b.tape,c.output.trans b.output,aL b.size c.size,
  λk d e=>(c.block k (aW d b.size) (e.imp id λh f=>h (b.rC k d f))).trans (b.block k d e),
  λk d h=>b.rC k d (c.rC k (aW d b.size) h)⟩
def oD.below(a:aS n y x)(h:oD n N R x w)(c:n<=y.heap.size):aS n y w:=
 ⟨h.os.trans a.os,h.tape.trans a.tape,h.output.trans a.output,aL a.size h.size,λk b=>(h.block k (by have:=a.size;omega) (.inl b)).trans (a.block k b)⟩
def oD.cQ(h:aS w.heap.size w x)(a:∀k,k<w.heap.size->R k->N k):oD n N R w x:=
 ⟨h.os,h.tape,h.output,h.size,λk b _=>h.block k b,a⟩
def oD.or{n:Nat}(h:oD n N R w x)(T:Nat->Prop):oD n (λk=>N k\/T k) (λk=>R k\/T k) w x:=
 ⟨h.os,h.tape,h.output,h.size,λk b d=>h.block k b (d.imp id λa c=>a (.inl c)),λk b a=>a.imp (h.rC k b) id⟩
def oD.mono{n:Nat}{A d:Nat->Prop}(h:oD n N R w x)(e:∀k,k<w.heap.size->N k->A k)(f:∀k,k<w.heap.size->d k->R k\/A k):oD n A d w x:=
 ⟨h.os,h.tape,h.output,h.size,λk a g=>h.block k a (g.imp id λc b=>c (e k a b)),λk a c=>(f k a c).elim (λb=>e k a (h.rC k a b)) id⟩
def bd5(h:aS w.heap.size w x)(d:CI w n){m:Nat}(e:m<w.heap.size):jE x n k m↔jE w n k m:=by have c:=h.block m e;have b:=h.block n (mV d).lt;unfold jE CD OwnAt;rw[c,dH (a:=⟨n,9,none⟩) b]
def jE.next{w:aI}{base n k:Nat}(h:aS w.heap.size w x)(b:CI w n):oD base (jE w n k) (jE x n k) w x:=.cQ h λd c a=>(bd5 h b c).1 a
def YP(h:gS n m w x)(j:CI w k):∀l,l<w.heap.size->jE x k m l->jE w k m l:=λl d a=>by
 rcases Classical.em (l=m\/CD w l)with b|b
 .exact b.elim .inl λh=>.inr (.inl h)
 have e:=h.block l d (.inr ⟨λc=>b (.inl c),λc=>b (.inr c)⟩);rcases a with a|a|a
 .exact .inl a
 .obtain⟨C,t,f,g,i⟩:=a;exact .inr (.inl ⟨C,t,f,by rw[<-e];exact g,i⟩)
 exact .inr (.inr ((h.kept k j).2 l d a))
def oD.lX(h:gS n m w x)(d:CI w k):oD n (jE w k m) (jE x k m) w x:=
 ⟨h.os,h.tape,h.output,h.size,λf e c=>h.block f e (c.imp id λb=>⟨λa=>b (.inl a),λa=>b (.inr (.inl a))⟩),YP h d⟩
def AE(w:aI)(d m L:Nat)(v:aN)(k:Nat):Prop:=jE w d m k\/k=L\/v.ownBlock=some k
def oD.NV(h:sA n m i v w x)(l:CI w k)(o:kI w v u):oD n (AE w k m i v) (AE x k m i u) w x:=by
 refine⟨h.os,h.tape,h.output,h.size,λp d c=>h.block p d (c.imp id λb=>⟨λa=>b (.inl (.inl a)),λa=>b (.inl (.inr (.inl a))),λa=>b (.inr (.inl a)),λa=>b (.inr (.inr a))⟩),λp d b=>?_⟩;rcases Classical.em (p=m\/CD w p\/p=i\/v.ownBlock=some p)with c|c
 .rcases c with c|c|c|c
  .exact .inl (.inl c)
  .exact .inl (.inr (.inl c))
  .exact .inr (.inl c)
  exact .inr (.inr c)
 have e:=h.block p d (.inr ⟨λa=>c (.inl a),λa=>c (.inr (.inl a)),λa=>c (.inr (.inr (.inl a))),λa=>c (.inr (.inr (.inr a)))⟩);rcases b with(b|b|b)|b|b
 .exact .inl (.inl b)
 .obtain⟨C,t,f,g,j⟩:=b;exact .inl (.inr (.inl ⟨C,t,f,by rw[<-e];exact g,j⟩))
 .exact .inl (.inr (.inr ((h.kept k l).2 p d b)))
 .exact .inr (.inl b)
 rcases o p b with a|a
 .exact .inr (.inr a)
 omega
def Clear(F T:Nat->Prop)(w:aI):Prop:=∀k,T k->k<w.heap.size/\¬F k
def oD.clear{base:Nat}{T:Nat->Prop}(h:oD base N R w x)(b:Clear N T w):Clear R T x/\∀k,T k->x.heap[k]?=w.heap[k]?:=
 ⟨λk a=>⟨aW (b k a).1 h.size,λc=>(b k a).2 (h.rC k (b k a).1 c)⟩,λk a=>h.block k (b k a).1 (.inr (b k a).2)⟩
def CH(w a:aI)(d m k:Nat):Prop:=w.heap.size<=k/\k<a.heap.size/\¬jE a d m k
def bM.FJ(h:bM w k n m D K H):CI w n:=by obtain⟨a,e,c,-⟩:=h.row;obtain⟨C,b,d,-⟩:=c;exact⟨C,b,d⟩
def bM.nE(h:bM w k n m D K H){i:Nat}{T:cD}{X:List aN}(c:Row w i T X)(p:¬(T=103\/T=112\/T=5))(o:T≠3):¬jE w n m i:=by
 rintro (j|⟨C,u,r,a,b⟩|⟨v,b,g⟩)
 .exact h.pX c j
 .obtain⟨q,e,l,-⟩:=c;rw[l]at a;cases a;exact p b
 obtain⟨d,t,f,s,a⟩:=h.row;rw[f.cell 9 (by simp)]at b;cases b;exact o (dI c (a.row g).1)
def bM.ch4(h:bM w k n m D K H){i:Nat}{X:List aN}(c:Row w i 3 X)(g:¬OwnAt w n i):¬jE w n m i:=by
 rintro (a|⟨C,o,l,b,e⟩|a)
 .exact h.pX c a
 .obtain⟨j,d,f,-⟩:=c;rw[f]at b;cases b;exact iE.2.1 e
 exact g a
def bM.cg0(h:bM w k n m D K H){i j:Nat}{A:Program}{T:cD}{R:aN->Option (Du×List MemPlace)}{M:Du}(e:w.ownsMap A T R i j M)(p:i≠m):¬jE w n m i:=by
 rintro (l|⟨C,u,r,a,c⟩|⟨v,c,g⟩)
 .exact p l
 .obtain⟨q,b,o,-⟩:=e;rw[o]at a;cases a
 obtain⟨d,t,f,s,a⟩:=h.row;rw[f.cell 9 (by simp)]at c;cases c;exact fP e (a.row g).1 rfl
def aD6(h:aS w.heap.size w x)(b:CI w n):OwnAt x n k↔OwnAt w n k:=by unfold OwnAt;rw[dH (a:=⟨n,9,none⟩) (h.block n (mV b).lt)]
def bM.ap6(h:bM w k n m D K H){i:Nat}(f:OwnAt w n i):i<w.heap.size:=by obtain⟨a,j,c,g,d⟩:=h.row;obtain⟨l,b,e⟩:=f;rw[c.cell 9 (by simp)]at b;cases b;exact(d.row e).1.lt
def gS.grown{w a:aI}(h:gS k m w a)(b:a.grownBy x r)(p:∀q,r=some q->w.heap.size<=q):gS k m w x:=by have d:∀q,q<w.heap.size->x.heap[q]?=a.heap[q]?:=λq d=>b.block q (aW d h.size) (λj=>by have:=p q j.symm;omega);refine⟨b.os.trans h.os,b.tape.trans h.tape,b.output.trans h.output,aL h.size b.size,λq c l=>(d q c).trans (h.block q c l),λq g=>?_⟩;have e:=h.kept q g;have f:=kC (n:=w.heap.size) (d q (mV g).lt) e.1;exact⟨f.1,λs i o=>e.2 s i (f.2 s i o)⟩
def bM.grown{w:aI}{n:Nat}(h:bM w k n m D K H)(d:w.grownBy x r)(e:∀f,r=some f->¬jE w n m f):bM x k n m D K H:=
 h.far λf a c=>d.block f a (λb=>e f b.symm c)
variable{L:List cZ}{o:cZ}
abbrev VN:=cZ×Nat
def cq4(m:VN):List aN:=[.int .u64 m.1.1,.int .i64 m.1.2.1,.int .i64 m.1.2.2,.int .i64 (m.2:Nat)]
def XZ(l:List VN):List aN:=l.flatMap cq4
def aq4(a b:List VN):XZ (a++b)=XZ a++XZ b:=dU
def ch6:(prog.info? 328).map (λi=>(i.zero,i.size,i.bytes))=some (some (.agg #[zu 0,(),(),()]),4,32):=by kernel_rfl
def pA(l:List cZ)(k:Nat):List VN:=(List.range k).filterMap fun i=>if i%8=0\/i+1=l.length then(l[i]?).map fun e=>(e,i)else none
def aZ9(h:L[n]?=o)(a:n%8=0\/n+1=L):pA L (n+1)=pA L n++[(o,n)]:=by unfold pA;rw[r8,VP];simp[a,h]
def by1{l:List cZ}{k:Nat}(a:¬(k%8=0\/k+1=l)):pA l (k+1)=pA l k:=by unfold pA;rw[r8,VP];simp[a]
def XY(l:List cZ)(k:Nat):(pA l k)<=k:=by unfold pA;exact aL (OT _ _) (by simp)
def by0(v:aN)(l:List cZ)(w:aI)(z:qD w v l)(hn:l.length<=1000000):
 Calls prog 243 #[v] w λe T=>∃S,e=.returned S/\T.ownsRow w 328 4 S (pA l l) (XZ (pA l l))/\aS w w T:=by
  obtain⟨⟨A,c,rfl,-,-,-,-⟩,-⟩:=id z;obtain⟨-,K,L,-⟩:=z.cells;have d:=λq=>z.later q;have⟨n,J⟩:=kX l.length;rw[<-J]at K hn d|-;have⟨D,Y⟩:=aA J d;clear z d J L;go_in;go_wp2_with fail
  go_loopw [3,4,5,8] (λI _ _ i wr=>∃j:Nat,j<=n/\i=.int .i64 j/\wr.ownsRow w 328 4 I (pA l j) (XZ (pA l j))/\aS w w wr) (λ_ _ _ i _=>n-(intOf i).toNat)
  .exact⟨0,bO _,rfl,bQ _ _ _ _,mE⟩
  obtain⟨j,hj,rfl,a,h⟩:=hrel;obtain⟨A1,c1,rfl,-⟩:=id (Reads.dC a);have N:=XY l j;have⟨m,u⟩:=kX ((pA l j).length);rw[<-u]at a N|-;by_cases h1:j<n
  .have i1:(j:Int)<n:=(by omega);obtain⟨e,M⟩:∃e,l[j]?=some e:=⟨_,aK (by have:=D.zz;omega)⟩;obtain⟨b,h2,rfl,-,Q⟩:=Y (by omega);have⟨c0,Z,c2⟩:=Q j e M wr h;have⟨r,R⟩:=kX (j%8);have q1:Int.tmod (j:Int) 8=(r:Int):=(by rw[LD (by omega)];omega);have B:=dO wr (.cells (iX e) 152);have⟨f,p,X,y,P⟩:=aD a h M u R;have⟨U,V,W⟩:=e;unfold iX at B;have⟨H,O⟩:=aA B (dK h B gC);have x:=Row.new (wr.alloc (.cells #[zu U,V,W] 152)) #[zu U,V,W,j] 328;have F:=aH x;clear Q M a h u R B x;by_cases g:r=0\/j+1=n
   .have G:=aH (aZ9 X (by rw[<-P.zz,<-D.zz];exact g));rcases(show r=0\/(r≠0/\j+1=n)from by omega)with q|⟨q,h9⟩
    iterate 2
     .first|subst q;clear g|((have z1:¬(r:Int)=0:=by omega);(have z2:((j:Int)==(n:Int)-1)=true:=by rw[gG];omega);clear g q h9)
      (go_wp2_with (at_builtin;refine bh0 ch6 underlying280 (cA (cA f H) (mE.alloc gC _)) (rd1 (by have:=F.zz;simpa using this) rfl) rfl rfl rfl rfl rfl (by omega) (by have:=p.size;rw[bC,bC];omega) ?_;intro v4 w4 o t s;have⟨E,C⟩:=aA o (pH (cA (cA f H) (mE.alloc gC _)) (dK O (mE.alloc gC _) gC) t (by have:=p.size;rw[bC,bC];omega));clear o t s));go_roundw
      .exact⟨j+1,by omega,by go_num,by rw[G.zz,aP,aq4,<-y.zz];exact E,C⟩
      simp[intOf];omega
   have G:=aH (by1 (l:=l) (k:=j) (by rw[<-P.zz,<-D.zz];exact g));have z1:¬(r:Int)=0:=(by omega);have z2:((j:Int)==(n:Int)-1)=false:=(by rw[N0,ne_eq,gG];omega);clear g;go_wp2;go_roundw
   .exact⟨j+1,by omega,by go_num,by rw[G.zz,<-y.zz];exact cA f H,O⟩
   simp[intOf];omega
  obtain rfl:j=n:=(by omega);have i1:¬(j:Int)<j:=(by omega);have⟨f,p,y⟩:=aB a h u;clear a h u;go_wp2;go_ret;exact⟨_,rfl,by rw[<-y.zz];exact f,p⟩
def bl6{m:VN}(h:m∈pA L n):L[m.2]?=m.1:=by
 unfold pA at h;rw[aw5]at h;obtain⟨i,-,a⟩:=h;split at a
 .cases b:L[i]? with
  |none=>rw[b]at a;cases a
  |some e=>rw[b]at a;simp at a;rw[<-a];exact b
 cases a
def CV(x:cZ)(n:Nat):List VN->Nat->Nat×Nat
 |[],lo=>(lo,max lo n)
 |m::M,lo=>if iA m.1 x then CV x n M (m.2+1)else(lo,max lo m.2)
def aF5{M:List VN}{z:cZ}(h:M[k]?=some (z,i)):CV o n (M.drop k) m=if iA z o then CV o n (M.drop (k+1)) (i+1)else(m,max m i):=by have⟨b,a⟩:=aR.1 h;rw[<-gH b,a];rfl
def bx8{M:List VN}(h:M<=k):CV o n (M.drop k) m=(m,max m n):=by rw[kB h];rfl
def bo9(w:aI)(x:cZ)(M:List VN)(s n:Nat)(e:eT)(c:aI):Prop:=∃b a:Nat,e=.returned (.tuple #[.int .i64 (b:Int),.int .i64 (a:Int)])/\CV x n M 0=(b,a)/\b<=s/\s<=a/\a<=n/\aS w.heap.size w c
def aF8(v:aN)(l:List cZ)(M:List VN)(n s:Nat)(x:cZ)(w:aI)(hr:Reads w v 4 M (XZ M))(hM:∀m∈M,l[m.2]?=m.1)(P:∀e∈l,wN e)(T:wN x)(hn:n=l)(h7:n<=1000000)(h4:M.length<=1000000)
 (hs:s<=n) (p:∀(i:Nat)(e:cZ),l[i]?=e->(iA e x=true↔i<s)) :
 Calls prog 264 #[v,n,.agg (iX x)] w (bo9 w x M s n):=by
  unfold bo9;obtain⟨A,c,rfl,-,-,-,-⟩:=id hr;obtain⟨-,h0,h1,g⟩:=Reads.each (λm=>show(cq4 m).length=4 from rfl) hr;have⟨m,hm⟩:=kX M.length;rw[<-hm]at h0 g h4|-;have⟨q,r,t⟩:=x;have U:=dO w (.cells (iX (q,r,t)) 152);have V:=Row.new w (iX (q,r,t)) 152;unfold iX at U V|-;simp only at U V|-;have m1:max (n:Int) 0=n:=(by omega);have⟨HC,Y,Z,HX,D,HN,HM,K0,R0⟩:=cC5 g hM P T p hn hm U V;clear hr g hM P T p hn hm U V h1;go_in;(go_wp2_with fail);go_step3;(go_wp2_with fail);go_step3;go_wp2_with fail
  go_loopw [6,7,16] (λlo hi i wr=>∃a k:Nat,a<=s/\k<=m/\CV (q,r,t) n M 0=CV (q,r,t) n (M.drop k) a/\lo=.int .i64 a/\hi=.int .i64 n/\i=.int .i64 k/\aS (w.alloc (.cells #[zu q,r,t] 152)) (w.alloc (.cells #[zu q,r,t] 152)) wr) (λ_ _ i _=>m-(intOf i).toNat)
  .exact⟨0,0,bO _,bO _,rfl,rfl,rfl,rfl,mE⟩
  obtain⟨a,k,ha,hk,O,rfl,rfl,rfl,h⟩:=hrel;have y:=aH O;clear O;by_cases h6:k<m
  .have i1:(k:Int)<m:=(by omega);obtain⟨⟨⟨H,I,J⟩,d⟩,S⟩:∃e,M[k]?=some e:=⟨_,aK (by have:=HM.zz;omega)⟩;have j:=Y _ (bD S);simp only at j;have oe:=Z _ (bD j);have h3:=(aR.1 j).1;have N:=D _ _ j;obtain⟨b,h9,rfl,h5,L⟩:=HC (by omega);have z:aS w w wr:=dK K0 h gC;have Q:=L k _ S wr z;have c0:=Q 0 (by omega);have c1:=Q 1 (by omega);have c2:=Q 2 (by omega);have c3:=Q 3 (by omega);simp only[cq4,List.getElem?_cons_succ,List.getElem?_cons_zero,wQ]at c0 c1 c2 c3;have k1:=dO wr (.cells #[zu H,I,J,d] 328);have R:=Row.new wr #[zu H,I,J,d] 328;have f:=wC (H,I,J) (q,r,t) (wr.alloc (.cells #[zu H,I,J,d] 328)) oe HX;unfold iX at f;simp only at f;have m2:max (d:Int) 0=d:=(by omega);have h2:=HN.zz;have m3:min (d:Int) (n:Int)=d:=(by omega);have m4:min (d:Int) ((n:Int)-1)=d:=(by omega);have y0:=R0.next h;have W:=y0.next k1;have x0:=W.rY;have hb:=W.xD;have hc:=W.G8;have z0:=R.rY;have z1:=R.xD;have z2:=R.G8;have z3:=R.zc3;rw[<-fL]at c1 c2 c3;have⟨u,F,E,C,X⟩:=aD h k1 S N z;clear y0 W R Q L S j oe h3 N h k1 z h2;(go_wp2_with fail);go_call f as e' w3 ⟨rfl,K⟩;rcases o:iA (H,I,J) (q,r,t)with _|_
   iterate 2
    ·(first|have h8:d<s:=C.zz.1 o|(have h8:¬d<s:=λT=>by rw[C.zz.2 T]at o;cases o));have⟨B,G⟩:=aA K o;clear f K o;(try (have m5:max (a:Int) (d:Int)=d:=by omega));go_wp2
     first
      |go_roundw
       .refine⟨d+1,k+1,by omega,by omega,by rw[y.zz,aF5 E.zz,G.zz,aU rfl],by congr 1,rfl,by congr 1,dK (dK u F gC) B gC⟩
       simp[intOf];omega
      |try rw[eJ]
       go_ret2;exact⟨a,d,rfl,by rw[y.zz,aF5 E.zz,G.zz,aQ (by simp)];congr 1;omega,ha,by omega,by omega,dK (dK X F gC) B gC⟩
  obtain rfl:k=m:=(by omega);have i1:¬(k:Int)<k:=(by omega);have m5:max (a:Int) (n:Int)=n:=(by omega);have u:=aH h;clear h;go_wp2;try rw[eJ]
  go_ret2;exact⟨a,n,rfl,by rw[y.zz,bx8 (by rw[<-HM.zz];exact aO _)];congr 1;omega,ha,hs,gC,dK K0 u gC⟩
end Go.Proofs.YtpopikndggffaaaGreatDoor
