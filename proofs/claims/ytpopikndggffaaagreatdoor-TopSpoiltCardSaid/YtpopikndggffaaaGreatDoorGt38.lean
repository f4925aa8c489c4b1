/- TOP, part 38. -/
import Derived.Test.YtpopikndggffaaaGreatDoorGt37
namespace Go.Proofs.YtpopikndggffaaaGreatDoor
set_option linter.all false
set_option maxRecDepth 100000
set_option maxHeartbeats 16000000
open Go.RowKit Go.Maps Tryz
variable{F:Gh}{B:List kM}{d g i j k m n q:Nat}{w x z:aI}{D:aL}{u v:aN}{S:dV}
structure UX(w:aI)(a:Nat)(F:Gh)(r W g B d:Nat)(j:List aN)(b c:Nat)(f i:aN)(e:List kM)(S:Nat)(D:aL)(y:aI)(q:Nat)(h:dV):Prop where
 run:jH y a F r W q g h D none b c f i e S false
 box:Row y B 35 j
 out:¬mS y W q h none B
 IG:aR a w y
 dE:h.d=d
section
variable {w y z:aI}{base r W q g B d:Nat}{F:Gh}{h:dV}{xs:List aN}{D D':aL}{cF aX:Nat}{vL vM:aN}{Bs:List kM}{S:Nat}
def UX.to(X:UX w base F r W g B d xs cF aX vL vM Bs S D y q h)(K:oH y base W q h none D' none cF aX z):∃c b,UX w base F r W g B d xs cF aX vL vM Bs S D' z c b:=by have a:=X.run.pN.ME K;have⟨c,b,e,s,v⟩:=K;exact⟨c,b,X.run.eW s v,X.box.of_block (v.block B X.box.lt (.inr X.out)),λi=>X.out (v.rJ B X.box.lt i),⟨a.os.trans X.IG.os,a.tape.trans X.IG.tape,a.output.trans X.IG.output,aM X.IG.size a.size,λk f=>(a.block k f).trans (X.IG.block k f)⟩,e.1.trans X.dE⟩
def UX.next(X:UX w base F r W g B d xs cF aX vL vM Bs S D y q h)(hb:aR y y z):UX w base F r W g B d xs cF aX vL vM Bs S D z q h:=by have hB:base<=y.heap.size:=aM X.run.low (qT X.run.row.lt);exact⟨X.run.next hb,X.box.next hb,fun h9=>X.out ((X.run.pN.next hb).2.rJ B X.box.lt h9),⟨hb.os.trans X.IG.os,hb.tape.trans X.IG.tape,hb.output.trans X.IG.output,aM X.IG.size hb.size,fun k hk=>(hb.block k (by omega)).trans (X.IG.block k hk)⟩,X.dE⟩
def UX.read(X:UX w base F r W g B d xs cF aX vL vM Bs S D y q h)(j:D.down=false)(nm:aS)(u:nm.size<=1000000):Calls prog 31 #[zp d,nm,(),((qJ D (lb nm)):Nat)] y (λe z=>∃(a:Int)(k:Nat)(b:dV),e=.returned (.tuple #[bs (qJ D (lb nm)),a])/\UX w base F r W g B d xs cF aX vL vM Bs S D z k b):=by
 have⟨p,s,t⟩:=X.run.pN.it.eI;have⟨a,c⟩:=bZ7 j (lb nm);have m:(qJ D (lb nm)).length<=1048576:=by
  unfold qJ;cases i:bO D.files (lb nm)with
  |none=>simp
  |some f=>exact X.run.bx9 i
 have l:=wI t nm (by unfold maxLen;omega) 0 ((qJ D (lb nm)):Nat) (by omega) (by omega);rw[c,X.dE]at l;go_call l as e z ⟨rfl,n,i⟩;rw[<-X.dE]at n;have⟨k,b,o⟩:=X.to (X.run.pN.aB6 rfl ⟨_,_,n⟩ i);exact⟨a,k,b,rfl,o⟩
def UX.size(X:UX w base F r W g B d xs cF aX vL vM Bs S D y q h)(c:D.down=false)(nm:aS)(j:nm.size<=1000000):Calls prog 30 #[zp d,nm] y (λe z=>∃a:Int,e=.returned (.tuple #[((qJ D (lb nm)):Nat),a])/\y=z):=by have⟨a,b⟩:=bW2 c (lb nm);have i:=X.run.size nm (by unfold maxLen;omega);rw[b,X.dE]at i;exact i.mono λe z f=>⟨a,f.1,f.2⟩
end
def gW.bD1{E:aL}(P:gW n m k D none B i){s:bH}(p:VW s)(h:sF D s E)(o:qJ E s=qJ D s\/∀f,bO E.files s=some f->aY9 s f.data):gW n m (k+1) E none B i:=by
 have d:∀f g,bO D.files s=some f->bO E.files s=some g->qJ E s=qJ D s->g.data=f.data:=λf g e c b=>by unfold qJ at b;rwa[e,c]at b
 refine P.cE8 p h (λf g e c l a=>?_) (λf g e c j a=>?_)
 iterate 2
  .rcases o with b|b
   .exact d f g e c b
   first|rw[(b g c).2 (cv9 l)]at a;cases a|rw[(b g c).1 j]at a;cases a
def bd2{c p:Nat}(H:jH w m F k n j d S D none q c v u B g false)(hb:m<=w.heap.size)(P:gW p c i D none B g)(xd:Sp)(E:xd.n.size<=1000000)(xa xb:Int)(Y:Bool)(hn:xE (jY (lb xd.n))=.tuple #[.int .u8 xa,.int .i64 xb,.bool Y])(U:Y=false\/(Y=true/\(xa==98)=false))(hr:D.down=false)(hm:lb xd.n=fE\/(lb xd.n≠fE/\isT (lb xd.n)/\Y=true/\(xa==116)=true)) (HD:∀(y:aI)(q':Nat)(h':dV),iY y m n q' h' D none q c->aR m w y->Calls prog 17 #[.pointer (some ⟨n,0,none⟩),.agg xd.c] y (tV m n q' h' none q c (λer xc T A o'=>sF D (lb xd.n) A/\o'=none) y)) :Calls prog 16 #[.pointer (some ⟨k,0,none⟩),.agg xd.c] w (λe z=>(∃bb,e=.returned (.bool bb))/\JA m F k none q c p i w z):=by
 have K:=cD w (.cells xd.c 35);have s:=Row.new w xd.c 35;obtain⟨w1,W⟩:=fR (w.alloc (.cells xd.c 35));have h4:=aH W;rw[<-W]at K s;have hP:=zZ xd.n w1 (by unfold maxLen;omega);rw[hn]at hP;have⟨ha,h0⟩:=aA (show UX w m F k n d w.heap.size S.d xd.c.toList q c v u B g D w1 j S from⟨H.next K,s,H.pN.fresh K s CD.1 (cV _),⟨K.os,K.tape,K.output,K.size,λxb hk=>K.block xb (aW hk hb)⟩,rfl⟩) (λ(y:aI)(q':Nat)(h':dV)(X:UX w m F k n d w.heap.size S.d xd.c.toList q c v u B g D y q' h')=>HD y q' h' X.run.pN X.IG);have hI:VW (lb xd.n):=hm.imp id λS=>S.2.1;have R:(Y=false/\(xd.n.toList==[109,97,112])=true)\/(Y=true/\(xa==98)=false/\(xd.n.toList==[109,97,112])=true)\/(Y=true/\(xa==98)=false/\(xd.n.toList==[109,97,112])=false/\(xa==116)=true):=by
  rcases hm with h1|⟨h1,-,rfl,h2⟩
  .have h3:=cC6 xd.n h1;exact U.imp (λS=>⟨S,h3⟩) λS=>.inl ⟨S.1,S.2,h3⟩
  exact .inr (.inr ⟨rfl,by simpa using U,cd1 xd.n h1,h2⟩)
 obtain⟨kd,l,a,b,EA,En,Ec,KA,Kn,Kc,tx⟩:=xd;dsimp only[Sp.c]at *;have⟨hz,I,hx,x5⟩:=aC P hr hI hb;clear H hb P HD s K W hI hn hr U hm;rcases R with⟨rfl,i1⟩|⟨rfl,i2,i1⟩|⟨rfl,i2,i1,i3⟩
 all_goals
  go_in;(go_wp2_with fail);rw[<-h4.out];refine hP.mono ?_;rintro e w2 ⟨rfl,hi⟩;have J:=ha.out.next hi;have x0:=aH J;have N:=rK J.run.pN;have M:=yI J.run.pN;have O:=(by
   obtain⟨x6,x8,hd⟩:=J.run.pN.it.eI;exact BP hd:Calls prog 29 #[.pointer (some ⟨S.d,0,none⟩)] w2 λe Z=>e=.returned (.bool (!D.down))/\w2=Z)
  rw[I.out]at O;unfold sE at N;have hg:=J.run.row.cell 0 (by simp);have hu:=J.box.cell 1 (by simp);simp only[dA,fA]at hg hu;have⟨hs,ho⟩:=aA (J.size I.out l E) (J.read I.out l E);clear J hi hP h4 ha;(go_wp2_with fail);refine N.mono ?_;rintro e Z ⟨rfl,rfl⟩;(go_wp2_with fail);refine M.mono ?_;rintro e Z ⟨rfl,rfl⟩;(go_wp2_with fail);refine O.mono ?_;rintro e Z ⟨rfl,rfl⟩;(go_wp2_with fail);refine M.mono ?_;rintro e Z ⟨rfl,rfl⟩;(go_wp2_with fail);refine hs.out.mono ?_;rintro e Z ⟨e1,rfl,rfl⟩;(go_wp2_with fail);refine ho.out.mono ?_;rintro e y3 ⟨e2,q3,h3,rfl,X3⟩;have hc:=aH X3;obtain⟨z0,z1,z2,z3,z4,z5,z6,z7⟩:=DoS.all (p:=⟨kd,l,a,b,EA,En,Ec,KA,Kn,Kc,tx⟩) (λy hy=>DoS.of (W:=n) (X3.next hy).run.row (X3.next hy).box);dsimp only at z1 z2 z3 z4 z5 z6 z7;clear X3 hs ho M O N hg hu x0;(go_wp2_with fail);refine nT (by kernel_rfl) (by kernel_rfl) (by kernel_rfl) (by kernel_rfl) ?_;simp only[List.dropLast,List.drop,List.length];repeat go_big_quiet_step (fail)
  refine wpQuiet_nil ?_;rintro _ ⟨⟨wq,hj⟩,rfl⟩;rename_i wq;have X4:=hc.out.next hj;have⟨HC,hf⟩:=aA (h0.out wq q3 h3 X4) X4;clear X4 hj z0 z1 z2 z3 z4 z5 z6 z7 h0 hc;(go_wp2_with fail);refine HC.out.mono ?_;rintro e y5 ⟨er,xc,A9,k9,c9,T9,A,o',rfl,⟨V,rfl⟩,-,hq⟩;obtain⟨q5,h5,X5⟩:=hf.out.to hq;have G:=V.same.1.trans I.out;have L:=aH V;have hv:=X5.box.cell 1 (by simp);simp only[dA,fA]at hv;have⟨ht,hp⟩:=aA (X5.size G l E) (X5.read G l E);clear X5 hq hf HC V;(go_wp2_with fail);refine ht.out.mono ?_;rintro e Z ⟨e5,rfl,rfl⟩;(go_wp2_with fail);refine hp.out.mono ?_;rintro e y7 ⟨e7,q7,h7,rfl,X7⟩;have hw:=X7.box.cell 1 (by simp);have hh:=X7.run.row.cell 2 (by simp);have x1:=X7.run.row.frozen 2 (by simp);simp only[dA,fA]at hw hh;have o:=aH X7;clear X7 ht hp hv;have Q:=bD6 o.out.run (aM o.out.run.low (qT o.out.run.row.lt)) l E G;have h:=aH (λ(x:aI) (bk:Bool) (q8:Nat) (h8:dV) (r:aR m w x) (R8:jH x m F k n q8 d h8 A none q c v u B g false) (he:bk=false->qJ A (lb l)=qJ D (lb l)\/∀f,bO A.files (lb l)=some f->aY9 (lb l) f.data)=>show JA m F k none q c p i w (x.setCell ⟨k,2,none⟩ (.bool bk))from⟨r.setCell R8.low _,A,B,g,bk,⟨n,q8,d,h8,v,u,R8.cz2 bk⟩,λh9=>hz.out.bD1 hx.out L.out (he h9)⟩);by_cases C:qJ A (lb l)=qJ D (lb l)
  iterate 2
   ·(first|(have hZ:=aH (h.out y7 false q7 h7 o.out.IG o.out.run (λ_=>.inl C));(have i8:(qJ A (lb l)==qJ D (lb l))=true:=by rw[C];simp);clear C Q h o L;generalize qJ A (lb l)=Y8 at i8|-;generalize qJ D (lb l)=X8 at i8|-)|((have i8:(qJ A (lb l)==qJ D (lb l))=false:=by rw[bA];exact C);have⟨h6,t⟩:=aA Q o.out.IG;have x4:=o.out.run.low;clear C Q o L;generalize x3:qJ A (lb l)=Y8 at i8 h|-;generalize x2:qJ D (lb l)=X8 at i8 h|-;clear x3 x2;go_wp2_with fail;refine h6.out.mono ?_;rintro e x9 ⟨b9,rfl,hl,r,q9,h9,R9⟩;(have f9:=R9.row.frozen 2 (by simp));(have x7:=R9.row.cell 2 (by simp));have hZ:=aH (h.out x9 b9 q9 h9 ⟨r.os.trans t.out.os,r.tape.trans t.out.tape,r.output.trans t.out.output,aM t.out.size r.size,λxb hk=>(r.block xb hk).trans (t.out.block xb hk)⟩ R9 (λh8=>.inr (hl h8)));clear hl r R9 h h6 t hh x1 hw));go_wp2;go_ret;exact⟨⟨_,rfl⟩,hZ.out⟩
def av6{o:iL}(H:jH w m F k n i j S D o g q v u B d false)(p:Sp)(L:p.k=13\/p.k=14)(t:aI->Prop) (s:∀y,aR w w y->Calls prog 16 #[zp k,.agg p.c] y (λe z=>(∃A,e=.returned (.bool A))/\t z)) :Calls prog 11 #[zp k,.agg p.c] w (λe z=>e=true/\t z):=by
 have l:=cD w (.cells p.c 35);have U:=H.row.lO;have lr:=H.row.lt;have c:=Row.new w p.c 35;obtain⟨r,f⟩:=fR (w.alloc (.cells p.c 35));have h:=aH f;rw[<-f]at l c;obtain⟨p9,E⟩:∃p,Calls prog 12 #[.pointer (some ⟨n,0,none⟩)] r (λe I=>e=.returned (.pointer p)/\r=I):=by
  have C:=rK (H.next l).pN;cases o with
  |none=>exact⟨none,C⟩
  |some x=>exact⟨_,C⟩
 have K:=aH (s r l);have M:=c.lO;have N:=c.qD;have O:=c.tW;have P:=c.JF;have Q:=c.zc4;have R:=c.zc5;have T:=c.zc6;obtain⟨kd,st,a,b,V,X,W,Y,Kn,Z,tx⟩:=p;dsimp only[Sp.c]at *;clear H s c l f;rcases L with rfl|rfl
 all_goals
  go_in;(go_wp2_with fail);rw[<-h.out];refine E.mono ?_;rintro e I ⟨rfl,rfl⟩;clear h U E;(go_wp2_with fail);refine K.out.mono ?_;rintro e z ⟨⟨A,rfl⟩,G⟩;have J:=aH G;clear G M N O P Q R T;go_wp2;go_ret;exact⟨rfl,J.out⟩
variable{e:eY}
def at9(a:Nat)(F:Gh)(r:Nat)(e b f s:Nat)(w:aI)(z:aI):Prop:=aR a w z/\∃g i c h d,UO z a F r g i e b c h d/\(d=false->gW f b (s+1) g i c h)
def cM8(a:Nat)(F:Gh)(r d b g s:Nat)(i:aL->iL->List kM->Nat->Prop)(w z:aI):Prop:=aR a w z/\∃e h c f,UO z a F r e h d b c f false/\gW g b (s+1) e h c f/\i e h c f
def rW(a:Nat)(F:Gh)(r b c d s:Nat)(f:aL->iL->List kM->Nat->Prop)(w:aI)(e:eY)(z:aI):Prop:=e=.returned (.bool true)/\cM8 a F r b c d s f w z
def rW.t{n r k m s:Nat}{o:aL->iL->List kM->Nat->Prop}{w z:aI}{e:eY}(h:rW n F r k m i s o w e z):e=true/\at9 n F r k m i s w z:=by obtain⟨d,f,b,l,a,c,g,j,-⟩:=h;exact⟨d,f,b,l,a,c,false,g,λ_=>j⟩
def tQ{y:aI}(a:aR n x w)(b:aR n w y):aR n x y:=⟨b.os.trans a.os,b.tape.trans a.tape,b.output.trans a.output,aM a.size b.size,λk c=>(b.block k c).trans (a.block k c)⟩
def GY(h:aR x x w)(a:n<=x):aR n x w:=⟨h.os,h.tape,h.output,h.size,λk b=>h.block k (aW b a)⟩
section
variable {w:aI}{base r W q g:Nat}{F:Gh}{h:dV}{D:aL}{G:cS}{I:aZ}{cF aX cap s:Nat}{vL vM:aN}{Bs:List kM}{S:Nat}
def jH.cH4(H:jH w base F r W q g h D (some (G,I)) cF aX vL vM Bs S false)(f:gX base h.m w x):∀k a,F k=some a->x.heap[k]?=a:=λk a d=>by obtain⟨e,-,c⟩:=H.gh k a d;exact(f.block k (H.OF d) (.inr ⟨λb=>c (.inl (.inl (.inl (.inl (.inl b))))),λb=>c (.inl (.inl (.inl (.inl (.inr (.inl b))))))⟩)).trans e
def E9(H:jH w base F r W q g h D (some (G,I)) cF aX vL vM Bs S false)(P:gW cap aX s D (some (G,I)) Bs S)(hs:s<90)(o:base<=w)(p:Sp)(c:p.k=1)(t:p.n.size<=1000000)(V:DI p.a)(l:List Ev)(L:∀Q,aR base w Q->(∀k d,F k=some d->Q.heap[k]?=d)->Y2 Q (.slice p.E p.e p.f) l)(M:l.length<=1000):Calls prog 11 #[zp r,.agg p.c] w (rW base F r cF aX cap s (λv O C S'=>S'=S/\∃U n T,G8 (bS0 D G I aX Bs p.n p.a l) U n T v O/\C=FU Bs p.n p.a l U) w):=by
 have h0:=P.yG;have h6:=aQ1 P.mU.uW p.n;have hE:=L w iH (λk d c=>(H.gh k d c).1);have hf:nP (Bs.flatMap dO) p.n p.a l=0->uV (p.n,(n6 Bs p.n:Int),l):=λh9=>⟨cc0 hE M (by unfold maxLen;omega) (by omega),at5 h9⟩;refine tY H o p (by omega) (G8 (bS0 D G I aX Bs p.n p.a l)) _ (λy B=>bP0 (H.next B).pN P hs (aM o B.size) p c t V l (λy' z u Z=>L z (gX.below (GY (aK B u) o) Z o) (((H.next (aK B u))).cH4 Z)) M) λx a hj=>?_;have⟨T,v,O,q',h',Y,R,b,X⟩:=hj;have i:=P.append hf Y;have m:co3 (Bs.flatMap dO) p.n p.a l a.r a.n v.down:=i.imp (λh=>⟨h.1,h.2.1,h.2.2.1,h.2.2.2.1⟩) λi=>i.imp (λh=>⟨h.1,h.2.1,h.2.2.1,h.2.2.2.1⟩) λi=>i.imp (λh=>⟨h.1,h.2.1,h.2.2.1,h.2.2.2.1⟩) λh=>⟨h.1,h.2.1,h.2.2.1,h.2.2.2.1⟩;have hr:=aI4 R (aM o b.size) P.mU.uW (by omega) p c t V l (L x b (λk d c=>(R.gh k d c).1)) M a m;unfold jf;rw[aV c];go_call hr as e z ⟨rfl,K,N⟩;refine⟨rfl,tQ b K,v,O,_,S,N,?_,rfl,a.r,a.n,T,Y,rfl⟩;rcases i with⟨j,A,E,J,f⟩|⟨j,A,E,J,f⟩|⟨j,A,E,J,f⟩|⟨j,A,E,J,f⟩
 .rw[EZ (.inl j)];exact f
 .rw[EZ (.inr A)];exact f
 iterate 2
  .rw[QC j (by omega)];exact f
def bC3{er0 n0 er n:Int}{T0 T:List jU}{D':aL}{o':iL}(P:gW cap aX s D (some (G,I)) Bs S)(hq:G8 (bz2 D G I er0 n0 T0) er n T D' o')(hbx:aR base w x)(hr:sU base F r D' o' cF aX Bs S x e z):rW base F r cF aX cap s (λD' o' Bs' S'=>D'=D/\o'=some (G,I)/\Bs'=Bs/\S'=S) w e z:=by obtain⟨rfl,hbz,hrs⟩:=hr;obtain⟨-,-,-,h1,h2,hP⟩:=P.read hq;exact⟨rfl,tQ hbx hbz,D',o',Bs,S,hrs,hP,h1,h2,rfl,rfl⟩
def IJ(H:jH w base F r W q g h D (some (G,I)) cF aX vL vM Bs S false)(P:gW cap aX s D (some (G,I)) Bs S)(N:s<90)(l:base<=w)(p:Sp)(m:2<=p.k/\p.k<=5)(i:p.n.size<=1000000)(v:DI p.a)(d:DI p.b):Calls prog 11 #[zp r,.agg p.c] w (rW base F r cF aX cap s (λo C j E=>o=D/\C=some (G,I)/\j=Bs/\E=S) w):=by
 refine tY H l p (by omega) _ _ (λy B=>cy2 (H.next B).pN P N (aM l B.size) p m i v d) λx a L=>?_;have⟨T,o,C,X,V,A,R,f,c⟩:=L;obtain⟨J,K,u,-,-,-⟩:=P.read A;have b:wL x (.slice a.A a.k a.c) (rdA Bs p).2.2:=by
  rw[<-u];obtain⟨Q,U,O,-⟩:=id (Reads.cX c);have n:=(eJ O).2.1;refine⟨by have k:=Reads.cX c;rwa [<-n]at k ⊢,λt b=>?_⟩;rw[u]at b;unfold rdA at b;split at b
  .exact cb2 P.mU _ _ _ _ t b
  .exact cb2 P.mU _ _ _ _ t b
  .cases b
  exact QT P.mU t b
 have M:=bD7 R (aM l f.size) P.mU (by have:=P.yG;omega) p m i v d a (Prod.ext J K) b;unfold jf;rw[aP (by omega),aV m.2];exact M.mono λe z k=>bC3 P A f k
end
variable{a:An}
section
variable {w:aI}{base r W q g:Nat}{F:Gh}{h:dV}{D:aL}{G:cS}{I:aZ}{o:iL}{cF aX cap s:Nat}{vL vM:aN}{Bs:List kM}{S:Nat}
def GK{D':aL}{o':iL}{q':Nat}{h':dV}{p:Sp}{Φ:aL->iL->List kM->Nat->Prop}(R:jH x base F r W q' g h' D' o' cF aX vL vM Bs S false)(hb:base<=w)(hbx:aR base w x)(hk:6<=p.k)(hans:QK p.k p.a a.r D'.down)(hP:gW cap aX (s+1) D' o' Bs (tF Bs S p.k a.r))(hΦ:Φ D' o' Bs (tF Bs S p.k a.r)):Calls prog (jf p.k) #[zp r,.agg p.c,.agg a.v,true] x (rW base F r cF aX cap s Φ w):=by have hr:=aI3 R (aM hb hbx.size) p a hans;unfold jf;rw[aP (by omega),aP (by omega)];go_call hr as e z ⟨rfl,hbz,hrs⟩;exact⟨rfl,tQ hbx hbz,D',o',Bs,_,hrs,hP,hΦ⟩
def bd0(H:jH w base F r W q g h D (some (G,I)) cF aX vL vM Bs S false)(P:gW cap aX s D (some (G,I)) Bs S)(t:s<90)(c:base<=w)(p:Sp)(e:p.k=6):Calls prog 11 #[zp r,.agg p.c] w (rW base F r cF aX cap s (λ_ _ _ _=>True) w):=by
 refine tY H c p (by omega) _ _ (λy i=>cj7 (H.next i).pN P (aM c i.size) p e) λx a l=>?_;have⟨T,n,u,v,o,m,R,b,f⟩:=l;rcases P.flush m with⟨d,-,k⟩|⟨d,j,k⟩
 .exact GK R c b (by omega) (by unfold QK;omega) (by unfold tF;rwa [aV (by omega)]) trivial
 exact GK R c b (by omega) (.inr (.inr (.inr (.inr (.inr (.inl ⟨d,e,j⟩)))))) (by unfold tF;rwa [aP (by omega)]) trivial
def OX(H:jH w base F r W q g h D (some (G,I)) cF aX vL vM Bs S false)(P:gW cap aX s D (some (G,I)) Bs S)(u:s<90)(e:base<=w)(p:Sp)(k:p.k=7):Calls prog 11 #[zp r,.agg p.c] w (rW base F r cF aX cap s (λi l f z=>∃d n T,G8 (bR9 D G I) d n T i l/\f=Bs/\z=tF Bs S 7 d) w):=by
 refine tY H e p (by omega) _ _ (λy v=>cj6 (H.next v).pN P u (aM e v.size) p k) λx a B=>?_;have⟨T,i,l,E,C,t,R,b,o⟩:=B;have c:∃d n T,G8 (bR9 D G I) d n T i l/\Bs=Bs/\tF Bs S p.k a.r=tF Bs S 7 d:=⟨a.r,a.n,T,t,rfl,by rw[k]⟩;rcases P.index u t with⟨j,m⟩|⟨j,m⟩|⟨j,A,m⟩
 .exact GK R e b (by omega) (by unfold QK;omega) (by unfold tF;rwa [aV (by omega)]) c
 .exact GK R e b (by omega) (by unfold QK;omega) (by unfold tF;rwa [aP (by omega)]) c
 exact GK R e b (by omega) (.inr (.inr (.inr (.inr (.inr (.inr (.inl ⟨j,k,A⟩))))))) (by unfold tF;rwa [aP (by omega)]) c
def YJ(H:jH w base F r W q g h D (some (G,I)) cF aX vL vM Bs S false)(P:gW cap aX s D (some (G,I)) Bs S)(o:s<90)(e:base<=w)(p:Sp)(k:p.k=8)(A:DI p.a):Calls prog 11 #[zp r,.agg p.c] w (rW base F r cF aX cap s (λi u d v=>∃z n T,G8 (cn1 D G I p.a) z n T i u/\d=Bs/\v=S) w):=by
 refine tY H e p (by omega) _ _ (λy t=>cj5 (H.next t).pN P o (aM e t.size) p k A) λx a C=>?_;have⟨T,i,u,K,E,m,R,f,l⟩:=C;have⟨B,J⟩:=P.merge o m;have c:tF Bs S p.k a.r=S:=aP (by omega);refine GK R e f (by omega) ?_ (by rwa [c]) ⟨a.r,a.n,T,m,rfl,c⟩;rcases B with b|b|⟨b,j⟩|b|⟨b,j⟩
 iterate 4
  .unfold QK;omega
 exact .inr (.inr (.inr (.inr (.inr (.inr (.inr (.inl ⟨b,k,j⟩)))))))
def ah3(P:gW cap aX s D o Bs S)(K:s<89)(v:base<=w)(H:UW base F r W g cF aX vL vM Bs S (λi n T h m=>n=0/\T=[]/\nY cap aX s (QO D) Bs S i m h) w a x):Calls prog 21 #[zp r,.agg a.v] x (rW base F r cF aX cap s (λh m p B=>∃i,nY cap aX s (QO D) Bs S i m h/\(i=0->∃k,k<=Bs.length/\S<=k/\p=Bs.take k/\B=k)) w):=by
 obtain⟨T,h,m,L,J,⟨-,-,q⟩,R,b,y⟩:=H;have⟨i,n,A,k,c⟩:=a;dsimp only[An.v]at *;rcases P.open_ q with⟨rfl,rfl,C,l⟩|⟨rfl,G,I,j,rfl,l,t,u⟩
 .go_call av5 R (aM v b.size) n A k c C as e z ⟨rfl,d,f⟩;exact⟨rfl,tQ b d,h,none,Bs,S,f,l,61,q,λE=>by cases E⟩
 go_call ah5 R (aM v b.size) n A k c P.mU (by have:=P.yG;omega) l t u (by omega) as e z ⟨rfl,d,f⟩;exact⟨rfl,tQ b d,h,some (G,I),Bs.take j,j,f,u,0,q,λ_=>⟨j,l,t,rfl,rfl⟩⟩
def al7(H:jH w base F r W q g h D o cF aX vL vM Bs S false)(P:gW cap aX s D o Bs S)(c:base<=w)(p:Sp)(m:s<89)(l:p.k=9):Calls prog 11 #[zp r,.agg p.c] w (rW base F r cF aX cap s (λf n b i=>∃d,nY cap aX s (QO D) Bs S d n f/\(d=0->∃k,k<=Bs.length/\S<=k/\b=Bs.take k/\i=k)) w):=be5 H c p (by omega) _ _ (λy e=>cy3 (H.next e).pN (aM c e.size) P.tA P.ad9 (by have:=P.bQ;omega) P.eI P.mU (by have:=P.yG;omega) P.sX p l) (λh=>by omega) (λh=>by omega) λx a j=>⟨λh=>by omega,λ_=>ah3 P m c j,λh=>by omega⟩
def step_end(H:jH w base F r W q g h D o cF aX vL vM Bs S false)(P:gW cap aX s D o Bs S)(hb:base<=w)(p:Sp)(hk:p.k<1\/9<p.k)(hk2:p.k≠13/\p.k≠14)(QQ:Int->Int->List jU->aL->iL->Prop)(Φ:aL->iL->List kM->Nat->Prop) (HD:∀y,aR w w y->Calls prog 17 #[zp W,.agg p.c] y (tV base W q h o cF aX QQ y)) (hQ0:p.k=10\/p.k=11->∀er n T D' o',QQ er n T D' o'->o'=none) (hQ1:p.k<1\/14<p.k->∀er n T D' o',QQ er n T D' o'->er=2\/(o=none/\er=61)) (hQ:∀er n T D' o',QQ er n T D' o'->gW cap aX (s+1) D' o' Bs S/\Φ D' o' Bs S) :Calls prog 11 #[zp r,.agg p.c] w (rW base F r cF aX cap s Φ w):=be5 H hb p hk2 _ _ HD hQ0 hQ1 λx a hj=>⟨λh=>by omega,λh=>by omega,λ_=>by have⟨T,D',o',q',h',hq,R,hbx,hown⟩:=hj;exact⟨hbx,D',o',Bs,S,⟨W,q',g,h',vL,vM,R⟩,(hQ _ _ _ _ _ hq).1,(hQ _ _ _ _ _ hq).2⟩⟩
def bd1(H:jH w base F r W q g h D o cF aX vL vM Bs S false)(P:gW cap aX s D o Bs S)(d:base<=w)(p:Sp)(e:p.k=10):Calls prog 11 #[zp r,.agg p.c] w (rW base F r cF aX cap s (λ_ _ _ _=>True) w):=step_end H P d p (by omega) (by omega) _ _ (λy f=>cj8 (H.next f).pN p e) (λ_ c n T b i a=>a.2.2.2.2) (λh=>by omega) λc n T b i a=>by obtain⟨-,-,-,rfl,rfl⟩:=a;exact⟨P.shut,trivial⟩
end
end Go.Proofs.YtpopikndggffaaaGreatDoor
