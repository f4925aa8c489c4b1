/- TOP, part 36. -/
import Derived.Test.YtpopikndggffaaaGreatDoorGm35
namespace Go.Proofs.YtpopikndggffaaaGreatDoor
set_option linter.all false
set_option maxRecDepth 100000
set_option maxHeartbeats 16000000
open Go.RowKit Go.Maps Tryz
variable{b:Bool}{F:Gh}{B:List kK}{c d g i j k m n q:Nat}{w x:aI}{D:aM}{u v:aN}{S:dW}{o:iP}
def wO.flush{T:List jL}{M:List Nat}(H:wO w n k v u T M m):wO (w.setCell ⟨k,2,none⟩ (.int .i64 (M.length:Nat))) n k v u T M M.length:=by
 have b:∀g t d,Row w g t d->t≠48->(w.setCell ⟨k,2,none⟩ (.int .i64 (M.length:Nat))).heap[g]?=w.heap[g]?:=λg t d e f=>aV _ _ _ _ (λa=>f (by
  have c:g=k:=a;subst c;exact dI e H.1))
 exact⟨H.1.set 2 _,H.2.1,H.2.2.1.eO λg a=>b _ _ _ (H.2.2.1.row a).1 mC.1,H.2.2.2.1.eO λg a=>b _ _ _ (H.2.2.2.1.row a).1 mC.2.1,H.2.2.2.2⟩
def lC.flush(H:lC w m F k n i j S D o g q v u B d b):lC (w.setCell ⟨j,2,none⟩ (.int .i64 ((kH B).length:Nat))) m F k n i j S D o g q v u B B.length b:=by have a:=H.mod.flush;have c:=H.aF7 (Bs':=B) (jN w ⟨j,2,none⟩ (.int .i64 ((kH B).length:Nat))) a rfl rfl;rwa [show(kH B).length=B.length from gR ..]at c|-
def OV(d a c:Int)(b:Bool):Prop:=(c=0/\d=6)\/(c=0/\d=7)\/(c=0/\d=8)\/(c=60/\d=7)\/(c=60/\d=8)\/(c=61/\d=6/\b=true)\/(c=61/\d=7/\b=true)\/(c=61/\d=8/\b=true)\/(c=4/\d=8)\/(c=2/\d=8/\a<0)\/(c=2/\d=8/\¬a<0/\5<=a)
def sD(a:List kK)(S:Nat)(c b:Int):Nat:=if b=0/\c≠8 then a.length else S
def aA1(H:lC w m F k n i j S D o g q v u B d false)(hb:m<=w.heap.size)(p:Sp)(x:An)(hc:OV p.k p.a x.r D.down):
 Calls prog 20 #[.pointer (some ⟨k,0,none⟩),.agg p.c,.agg x.v,.bool true] w (rS m F k D o g q B (sD B d p.k x.r) w):=by
  obtain⟨c,h4,Z,-,s,z⟩:=an5 w p.c x.v;obtain⟨kd,st,a,b,EA,En,Ec,KA,Kn,Kc,tx⟩:=p;obtain⟨E,hf,A9,k9,c9⟩:=x;dsimp only[Sp.c,An.v]at *;have X:=H.next Z;have G:=jN c ⟨j,2,none⟩ (.int .i64 ((kH B).length:Nat));have hF:=X.flush;have M:w.heap.size≠j:=λh=>(by have:=H.mod.1.lt;omega);have N:w.heap.size+1≠j:=λh=>(by have:=H.mod.1.lt;omega);have t:=s.of_block (G.block _ s.lt (λh=>M (cS h)));have f:=z.of_block (G.block _ z.lt (λh=>N (cS h)));have P:=aH (aW5 j v u _ (kH B) d c X.mod.r);have W:∀(x:aI)(S':Nat),lC x m F k n i j S D o g q v u B S' false->∀y:dY x,(y.it.cell? ⟨k,0,none⟩=some (.pointer (some ⟨n,0,none⟩)))/\Calls prog 28 #[.pointer (some ⟨n,0,none⟩)] y.it (λe w'=>e=.returned (.pointer (some ⟨S.d,0,none⟩))/\y.it=w')/\Calls prog 29 #[.pointer (some ⟨S.d,0,none⟩)] y.it (λe w'=>e=.returned (.bool (!D.down))/\y.it=w'):=λx S' HX y=>(by have H9:=HX.next y.ok;obtain⟨h8,ha,hd⟩:=H9.sP.it.eD;exact⟨H9.row.cell 0 (by simp),N1 H9.sP,HY hd⟩);have L:∀x:aI,aS w.heap.size w x->aS m w x:=λx I=>⟨I.os,I.tape,I.output,I.size,λhe hk=>I.block he (aW hk hb)⟩;have h7:m<=j:=H.mod.2.1;have J:∀y:aI,aS c.heap.size c y->rS m F k D o g q B d w (.returned (.bool true)) y:=λy O=>H.RZ hb (aJ Z O);have K:∀y:aI,aS (c.setCell ⟨j,2,none⟩ (.int .i64 ((kH B).length:Nat))).heap.size (c.setCell ⟨j,2,none⟩ (.int .i64 ((kH B).length:Nat))) y->rS m F k D o g q B B.length w (.returned (.bool true)) y:=λy O=>(by have h1:=hF.next O;have h2:=L c Z;refine⟨rfl,⟨O.os.trans (G.os.trans h2.os),O.tape.trans (G.tape.trans h2.tape),O.output.trans (G.output.trans h2.output),aL h2.size (aL G.size O.size),λhe hk=>?_⟩,n,i,j,S,v,u,h1⟩;have h0:he<c.heap.size:=aW hk (aL hb Z.size);exact(O.block he (aW h0 G.size)).trans ((G.block he h0 (λh=>by have:=cS h;simp only at this;omega)).trans (h2.block he hk)));have⟨Y,KF,E0,EF⟩:=aC (W c d X) (W _ _ hF) J K;have z1:w.cell? ⟨k,1,none⟩=some (.pointer (some ⟨j,0,none⟩)):=H.row.cell 1 (by simp);have lr:=H.row.lt;have C:=aH h4;clear G M N W L J K hF h4;have r:=hc;unfold OV at r;clear hc h7;obtain⟨R,hR⟩:∃R,R=rS m F k D o g q B (sD B d kd E) w:=⟨_,rfl⟩;rw[<-hR];have T:E=0/\kd≠8->R=rS m F k D o g q B B.length w:=λh=>(by rw[hR];unfold sD;rw[aU h]);have Q:¬(E=0/\kd≠8)->R=rS m F k D o g q B d w:=λh=>(by rw[hR];unfold sD;rw[aQ h]);clear hR H Z;obtain⟨up,h3⟩:∃up,up=!D.down:=⟨_,rfl⟩;have⟨HD,HU⟩:=aA (λy:dY c=>(Y.out y).2.1) (λy:dY c=>(Y.out y).2.2);rw[<-h3]at HU;have A:=aH (λ(hh:E=60\/E=61/\D.down=true)(y:aI)=>(show Calls prog 39 #[.int .i64 E,.bool up] y (λe w'=>e=.returned (.bool true)/\y=w')from by
   have h:=PN E up y;rwa[show(decide (E=60)||(decide (E=61)&&!up))=true from by rcases hh with S|⟨S,he⟩<;>simp[*]]at h))
  clear h3;rcases r with⟨rfl,rfl⟩|⟨rfl,rfl⟩|⟨rfl,rfl⟩|⟨rfl,rfl⟩|⟨rfl,rfl⟩|⟨rfl,rfl,V⟩|⟨rfl,rfl,V⟩|⟨rfl,rfl,V⟩|⟨rfl,rfl⟩|⟨rfl,rfl,U⟩|⟨rfl,rfl,U,h5⟩
  iterate 2
   .have HE:=aH (T (by decide));have h6:=P.out;have y1:=λy:dY (c.setCell ⟨j,2,none⟩ (.int .i64 ((kH B).length:Nat)))=>(f.next y.ok).rY;have k1:=t.rY;have k2:=f.rY;clear T Q s z t f P Y E0 X HD HU A;go_in;go_wp2_with fail;rw[<-C.out];clear z1 lr C;refine h6.mono ?_;rintro e x1 ⟨rfl,rfl⟩;go_wp2_with fail;refine cU (by kernel_rfl) (by kernel_rfl) ?_
    (repeat go_big_quiet_step (fail));refine wpQuiet_nil ?_;intro _ I;obtain⟨⟨wq,l⟩,rfl⟩:=I;have HQ:=aH (EF.out _ l);clear l;go_wp2;rw[HE.out];exact HQ.out
  all_goals
   (try have i1:=cJ U);(try have i1:=cC U);(try have i2:=cJ h5);(try have HR:=aH (A.out (.inl rfl)));(try have HR:=aH (A.out (.inr ⟨rfl,V⟩)));have HE:=aH (Q (by decide));have y1:=λy:dY c=>(z.next y.ok).rY;have y2:=λy:dY c=>(s.next y.ok).rY;have y3:=λy:dY c=>(Y.out y).1;clear T Q s z t f P KF EF X z1 lr Y A;go_in;go_wp2_with fail;rw[<-C.out];clear C;refine cU (by kernel_rfl) (by kernel_rfl) ?_
   (repeat go_big_quiet_step (first|(go_at_call 28;exact BX _ (HD.out _))|(go_at_call 29;exact BX _ (HU.out _))|(go_at_call 39;exact BX _ (HR.out _))));refine wpQuiet_nil ?_;intro _ I;obtain⟨⟨wq,l⟩,rfl⟩:=I;have HQ:=aH (E0.out _ l);clear l;go_wp2;rw[HE.out];exact HQ.out
variable{I:bA}{G:cT}
def by7(a:List kK)(k:Nat):(kH a).take k=kH (a.take k):=by unfold kH;rw[uC]
def cx8(w:aI)(a W:Nat)(q:Nat)(h:dW)(D:aM)(G:cT)(I:bA)(b d:Nat)(T:List jL)(y:aI)(e:eT)(x:aI):Prop:=
 ∃(A:Option Addr)(c:Nat),e=.returned (.tuple #[.slice A T.length c,.int .i64 0])/\vA x (.slice A T.length c) T/\oO y a W q h (some (G,I)) D (some (G,I)) b d x
def cc6(H:iW w k n i S D (some (G,I)) d g)(P:iI q g m D (some (G,I)) B j)(s:m<90)(o:k<=w.heap.size):
 Calls prog 44 #[.pointer (some ⟨i,0,none⟩)] w (cx8 w k n i S D G I d g (B.flatMap dJ) w):=by have a:nQ w k i S D G I d g:=H.it;obtain⟨f,h,p⟩:=a.sys.eD;obtain⟨C,l⟩:=P.stP s;refine(af8 a p l o).mono ?_;rintro e x ⟨t,rfl,b,r⟩;obtain⟨A,c,rfl,-⟩:=Reads.dC b;exact⟨A,c,rfl,⟨Reads.dC b,PC P.mO⟩,rJ.bk6 H (rJ.kept a r) (show(0:Int)≠61 by decide)⟩
def lC.cut(H:lC w m F k n i j S D o q c v u B d b)(p:kU B)(r:g<=B.length)(J:d<=g){e:eT}
 (K:aQ2 w (B.flatMap dJ) (kH B) d ((B.take g).flatMap dJ) e x\/ZS w m j v u (B.flatMap dJ) (kH B) d ((B.take g).flatMap dJ) e x) :
 e=.returned (.bool true)/\∃a f,lC x m F k n i j S D o q c a f (B.take g) g b:=by
  obtain⟨y,z⟩:=cr5 p r J;rcases K with⟨-,l,-⟩|⟨L,a,f,C,E,t,h,G,I⟩
  .exact absurd y (l g)
  have A:=z L E;subst A;rw[af4,by7]at t;exact⟨C,a,f,H.aF7 ⟨h.os,h.tape,h.output,h.size,λg r s=>h.block g r (λl=>s (by rw[l])) (by simp)⟩ t G I⟩
def ZV(a:Nat)(F:Gh)(r:Nat)(D:aM)(o:iP)(b c:Nat)(f:List kK)(S:Nat)(w:aI)(e:eT)(d:aI):Prop:=
 e=.returned (.bool true)/\aS a w d/\VM d a F r D o b c f S false
def ao2(H:lC w m F k n i j S D none g q v u B d false)(z:m<=w.heap.size)(G:Int)(l:Option Addr)(r p:Nat)(b:D.down=true):
 Calls prog 21 #[.pointer (some ⟨k,0,none⟩),.agg #[.int .i64 61,.int .i64 G,.slice l r p]] w (ZV m F k D none g q B d w):=by
  have h:=cI w (.cells #[.int .i64 61,.int .i64 G,.slice l r p] 63);have c:=H.next h;have s:=N1 c.sP;have a:=yF c.sP;have o:=(by
   obtain⟨x,y,A⟩:=c.sP.it.eD;exact HY A:Calls prog 29 #[.pointer (some ⟨S.d,0,none⟩)] _ λe f=>e=.returned (.bool (!D.down))/\_=f)
  rw[b]at o;have E:w.cell? ⟨k,0,none⟩=some (.pointer (some ⟨n,0,none⟩)):=H.row.cell 0 (by simp);have C:=H.row.lt;have t:=aH (H.RZ z h);unfold sF at a;clear H c h b;go_in;(go_wp2_with fail);refine s.mono ?_;rintro e f ⟨rfl,rfl⟩;(go_wp2_with fail);refine o.mono ?_;rintro e f ⟨rfl,rfl⟩;(go_wp2_with fail);refine a.mono ?_;rintro e f ⟨rfl,rfl⟩;go_wp2;go_ret;exact t.out
def ab6{p r:Nat}(H:lC w m F k n j d S D (some (G,I)) c p v u B g false)(V:m<=w.heap.size)(h8:Int)(X:Option Addr)(k9 Z:Nat)(z:kU B)(Q:B.length<=1000)(b:q<=B.length)(hS:g<=q)(P:iI r p i D (some (G,I)) (B.take q) q)(hs:i<90):
 Calls prog 21 #[.pointer (some ⟨k,0,none⟩),.agg #[.int .i64 0,.int .i64 h8,.slice X k9 Z]] w (ZV m F k D (some (G,I)) c p (B.take q) q w):=by
  have o:=cI w (.cells #[.int .i64 0,.int .i64 h8,.slice X k9 Z] 63);have E:=H.next o;have M:=yF E.sP;have J:=cc6 E.sP P hs (aL V o.size);have z0:w.cell? ⟨k,0,none⟩=some (.pointer (some ⟨n,0,none⟩)):=H.row.cell 0 (by simp);have lr:=H.row.lt;have h0:=BN z.tT;have R:=BN P.mO.tT;have h1:(B.take q).length<=1000:=(by rw[bJ];omega);have h2:(kH B).length=B.length:=gR ..;have t:=WO B;have U:∀h7,IV (kH B) h7<=(B.flatMap dJ).length:=λh7=>by
   rw[t h7];conv=>rhs;rw[<-bY h7 B]
   rw[dU,aP];omega
  have l:=aH (λ(x:aI) (K:oO (w.alloc (.cells #[.int .i64 0,.int .i64 h8,.slice X k9 Z] 63)) m n j S (some (G,I)) D (some (G,I)) c p x) (A:Option Addr) (h6:Nat) (W:vA x (.slice A ((B.take q).flatMap dJ).length h6) ((B.take q).flatMap dJ))=>show x.cell? ⟨k,1,none⟩=some (.pointer (some ⟨d,0,none⟩))/\Calls prog 45 #[.pointer (some ⟨d,0,none⟩),.slice A ((B.take q).flatMap dJ).length h6] x (λe y=>e=.returned (.bool true)/\ZV m F k D (some (G,I)) c p (B.take q) q w (.returned (.bool true)) y)from by
   obtain⟨q',h',Y⟩:=E.to K;have f:=E.sP.aO3 K;have a:aS m w x:=⟨f.os.trans o.os,f.tape.trans o.tape,f.output.trans o.output,aL o.size f.size,λq b=>(f.block q b).trans (o.block q (aW b V))⟩;refine⟨Y.row.cell 1 (by simp),(bt7 Y.mod _ _ W (by omega) (by omega) (by omega) U).mono ?_⟩;intro e y hc;have h:aS m x y:=by
    rcases hc with⟨-,-,C⟩|⟨h7,a1,a2,-,-,-,O,-⟩
    .exact⟨C.os,C.tape,C.output,C.size,λq b=>C.block q (aW b (aL V a.size))⟩
    exact⟨O.os,O.tape,O.output,O.size,λq b=>O.block q (aW b (aL V a.size)) (λC=>by have:=H.mod.2.1;omega) (by simp)⟩
   obtain⟨e1,h3,h5,H3⟩:=Y.cut z b hS hc;exact⟨e1,rfl,⟨h.os.trans a.os,h.tape.trans a.tape,h.output.trans a.output,aL a.size h.size,λq b=>(h.block q b).trans (a.block q b)⟩,n,q',d,h',h3,h5,H3⟩)
  generalize hT:(B.take q).flatMap dJ=T at J l;generalize hN:T.length=N at l;unfold cx8 at J;rw[hN]at J;unfold sF at M;clear H E o z Q b hS P hs h0 R h1 h2 t U hT hN;have L:=aH J;clear J;go_in;(go_wp2_with fail);refine M.mono ?_;rintro e w' ⟨rfl,rfl⟩;(go_wp2_with fail);refine L.out.mono ?_;rintro e x ⟨A,h6,rfl,W,hK⟩;obtain⟨c1,s⟩:=l.out x hK A h6 W;have HC:=aH s;clear hK W s l L;(go_wp2_with fail);refine HC.out.mono ?_;rintro e y ⟨rfl,hE⟩;have HE:=aH hE;clear hE;go_wp2;go_ret;exact HE.out
variable{p:Sp}
def bp8{p q r s t u:Type}{A:Program}{c:Code}{Q:Exit->Act->aI->Prop}{a:Act}(R:p->q->r->s->t->u->aI->Prop)(o:p->q->r->s->t->u->Act)(m:c.wp A (λe l b=>e=.normal/\∃d f g i j k,l=o d f g i j k/\R d f g i j k b) a w)(n:∀d f g i j k b,R d f g i j k b->Q .normal (o d f g i j k) b):c.wp A Q a w:=
 Code.wp_mono (λe l b h=>by obtain⟨rfl,d,f,g,i,j,k,rfl,h⟩:=h;exact n _ _ _ _ _ _ b h) m
section
variable {w x y z:aI}{base r W q g:Nat}{F:Gh}{h:dW}{D D':aM}{o o':iP}{cK aZ:Nat}{vL vM:aN}{Bs:List kK}{S:Nat}{brk:Bool}
def lC.grown{B:Nat}(H:lC x base F r W q g h D o cK aZ vL vM Bs S brk)(e:x.grownBy y B)(n:¬mD x W q h o B)(l:∀k,(k=r\/k=g\/vL.ownBlock=k\/vM.ownBlock=k)->k≠B)(j:∀b,F B≠some b):lC y base F r W q g h D o cK aZ vL vM Bs S brk:=by have⟨s,b⟩:=H.sP.grown e n;have i:∀k,(k=r\/k=g\/vL.ownBlock=k\/vM.ownBlock=k)->y.heap[k]?=x.heap[k]?:=λk c=>e.block k (H.lt k c) (λd=>l k c (cS d));exact⟨H.row.of_block (i r (.inl rfl)),H.low,s,⟨H.mod.1.of_block (i g (.inr (.inl rfl))),H.mod.2.1,H.mod.2.2.1.eO λk c=>i k (.inr (.inr (.inl c))),H.mod.2.2.2.1.eO λk c=>i k (.inr (.inr (.inr c))),H.mod.2.2.2.2⟩,(λk c d=>H.sep k c (b k (H.lt k c) (l k c) d)),λk f a=>⟨(e.block k (H.QE a) (λd=>j f (by rw[<-cS d];exact a))).trans (H.gh k f a).1,(H.gh k f a).2.1,λd=>(H.gh k f a).2.2 (b k (H.QE a) (λm=>j f (by rw[<-m];exact a)) d)⟩⟩
def TG(b:Nat)(F:Gh)(r W g:Nat)(c d:Nat)(k l:aN)(h:List kK)(S:Nat)(Q:Int->Int->List jL->aM->iP->Prop)(m:aI)(a:An)(x:aI):Prop:=
 ∃(T:List jL)(e:aM)(f:iP)(j:Nat)(i:dW),Q a.r a.n T e f/\lC x b F r W j g i e f c d k l h S false/\aS b m x/\x.ownsRow b 133 5 (.slice a.A a.k a.c) T.length (fH T)
def DoS(r W B:Nat)(p:Sp)(z:aI):Prop:=z.cell? ⟨r,0,none⟩=some (.pointer (some ⟨W,0,none⟩))/\z.cell? ⟨B,0,none⟩=some (.int .i64 p.k)/\z.cell? ⟨B,1,none⟩=some (.string p.n)/\z.cell? ⟨B,2,none⟩=some (.int .i64 p.a)/\z.cell? ⟨B,3,none⟩=some (.int .i64 p.b)/\z.cell? ⟨B,4,none⟩=some (.slice p.E p.e p.f)/\z.cell? ⟨B,5,none⟩=some (.slice p.K p.i p.j)/\z.cell? ⟨B,6,none⟩=some (.string p.t)
def DoS.of(h:Row w r k [zp W,v,u])(a:Row w n 35 p.c.toList):DoS r W n p w:=⟨h.rY,a.rY,a.xD,a.G8,a.zc3,a.zc4,a.zc5,a.zc6⟩
def DoS.eO(h:DoS r W n p w)(b:x.heap[r]?=w.heap[r]?)(c:x.heap[n]?=w.heap[n]?):DoS r W n p x:=by have e:∀{i v},w.cell? (zp n i)=some v->x.cell? (zp n i)=some v:=fun {i v} d=>(dH (a:=zp n i) c).trans d;exact⟨(dH (a:=zp r) b).trans h.1,e h.2.1,e h.2.2.1,e h.2.2.2.1,e h.2.2.2.2.1,e h.2.2.2.2.2.1,e h.2.2.2.2.2.2.1,e h.2.2.2.2.2.2.2⟩
end
structure cx5(w b:aI)(c:Nat)(F:Gh)(r W q g:Nat)(h:dW)(o:iP)(d f:Nat)(m n:aN)(l:List kK)(S:Nat)(k:Int->Int->List jL->aM->iP->Prop)(p:Sp):Prop where
 wM:Calls prog 12 #[.pointer (some ⟨W,0,none⟩)] b fun e t=>e=.returned (sF q o)/\b=t
 b1:aS w.heap.size w b
 s:∀(y:aI),aS b.heap.size b y->DoS r W w.heap.size p y
 sx:∀(y x:aI)(i:aM)(j:iP),aS b.heap.size b y->oO y c W q h o i j d f x->DoS r W w.heap.size p x/\b.heap.size<=x.heap.size
 rb:∀(y x:aI)(i:aM)(j:iP),aS b.heap.size b y->Row y b.heap.size 63 uK.toList->oO y c W q h o i j d f x->Row x b.heap.size 63 uK.toList
 e1:∀(y x:aI)(a:An)(T:List jL)(i:aM)(j:iP),aS b.heap.size b y->k a.r a.n T i j->x.ownsRow y.heap.size 133 5 (.slice a.A a.k a.c) T.length (fH T)->oO y c W q h o i j d f x->∀z,z=x.alloc (.cells a.v 63)->TG c F r W g d f m n l S k w a z/\Row z x.heap.size 63 a.v.toList/\Row z w.heap.size 35 p.c.toList
 e2:∀(y x:aI)(a:An)(T:List jL)(i:aM)(j:iP),aS b.heap.size b y->Row y b.heap.size 63 uK.toList->k a.r a.n T i j->x.ownsRow y.heap.size 133 5 (.slice a.A a.k a.c) T.length (fH T)->oO y c W q h o i j d f x->∀z,z=(((x.setCell ⟨b.heap.size,0,none⟩ (.int .i64 a.r)).setCell ⟨b.heap.size,1,none⟩ (.int .i64 a.n)).setCell ⟨b.heap.size,2,none⟩ (.slice a.A a.k a.c))->TG c F r W g d f m n l S k w a z/\Row z b.heap.size 63 a.v.toList/\Row z w.heap.size 35 p.c.toList
 lt:r<b.heap.size/\w.heap.size<b.heap.size
def cr7(H:lC w m F k n i j S D o g q v u B d false)(V:m<=w)(QQ:Int->Int->List jL->aM->iP->Prop)(p:Sp)(h5:x=w.alloc (.cells p.c 35)):cx5 w x m F k n i j S o g q v u B d QQ p:=by
 have A:=cI w (.cells p.c 35);have h4:(w.alloc (.cells p.c 35)).heap.size=w+1:=bC _ _;have f:=Row.new w p.c 35;have lr:=H.row.lt;have G:=yF (H.next A).sP;rw[<-h5]at A h4 f G;have N:∀(y:aI),aS x x y->¬mD y n i S o w:=λy b=>H.sP.fresh (aJ A b) (f.next b) G9.1 gC;have h:∀(y ha:aI)(l:aM)(r:iP),aS x x y->oO y m n i S o l r g q ha->Row ha w 35 p.c.toList/\x.heap.size<=ha/\aS m w ha/\m<=y/\(Row y x 63 uK.toList->Row ha x 63 uK.toList):=λy ha l r b K=>by have c:=aJ A b;have E:=(H.next c).sP.aO3 K;have⟨W,U,e,s,h7⟩:=K;exact⟨(f.next b).of_block (h7.block _ (f.next b).lt (.inr (N y b))),aL b.size h7.size,⟨E.os.trans c.os,E.tape.trans c.tape,E.output.trans c.output,aL c.size E.size,λh6 J=>(E.block h6 J).trans (c.block h6 (aW J V))⟩,aL V c.size,λt=>t.of_block (h7.block _ t.lt (.inr (H.sP.fresh c t uN.1 (by omega))))⟩
 refine⟨G,A,λy b=>DoS.of (H.next (aJ A b)).row (f.next b),λy ha l r b K=>?_,λy ha l r b t K=>(h y ha l r b K).2.2.2.2 t,λy ha a T l r b hq Z K z hz=>?_,λy ha a T l r b t hq Z K z hz=>?_,by omega⟩
 iterate 2
  .have⟨W,U,R⟩:=(H.next (aJ A b)).to K;first|exact⟨DoS.of R.row (h y ha l r b K).1,(h y ha l r b K).2.1⟩|have C:=cI ha (.cells a.v 63);have Q:=Row.new ha a.v 63;rw[<-hz]at C Q;obtain⟨h0,-,c,E,-⟩:=h y ha l r b K;exact⟨⟨T,l,r,W,U,hq,R.next C,⟨C.os.trans c.os,C.tape.trans c.tape,C.output.trans c.output,aL c.size C.size,λh6 J=>(C.block h6 (aW (aW J V) c.size)).trans (c.block h6 J)⟩,cA (fO Z E) C⟩,Q,h0.next C⟩
 obtain⟨hr,-,c,E,h3⟩:=h y ha l r b K;have M:=h3 t;have Y:¬mD y n i S o x:=H.sP.fresh (aJ A b) t uN.1 (by omega);have⟨W,U,e,s,h7⟩:=K;have R:=(H.next (aJ A b)).eO s h7;have I:=ar9 ha x a.r a.n (.slice a.A a.k a.c);have O:=JN (u0:=a.r) (u1:=a.n) (u2:=.slice a.A a.k a.c) Z t.lt;have P:=((M.set 0 a.r).set 1 a.n).set 2 (.slice a.A a.k a.c);rw[<-hz]at I O P;have HG:=R.grown I (λL=>Y (h7.rC _ t.lt L)) (λh6 L h8=>by have:=H.lt h6 L;omega) (λb' X=>by have:=H.QE X;omega);exact⟨⟨T,l,r,W,U,hq,HG,⟨I.os.trans c.os,I.tape.trans c.tape,I.output.trans c.output,aL c.size I.size,λh6 J=>(I.block h6 (aW (aW J V) c.size) (λL=>by have:=cS L;omega)).trans (c.block h6 J)⟩,fO O E⟩,P,hr.of_block (I.block _ hr.lt (λL=>by have:=cS L;omega))⟩
def jf(k:Int):Nat:=if k=1 then 18 else if k<=5 then 19 else 20
def bZ0(o:iP)(r:Nat)(p:Sp)(b:aI->Prop)(x:aI)(a:An):Prop:=
 (1<=p.k/\p.k<=8->Calls prog (jf p.k) #[.pointer (some ⟨r,0,none⟩),.agg p.c,.agg a.v,.bool o.isSome] x (fun e z=>e=.returned (.bool true)/\b z))/\
 (p.k=9->Calls prog 21 #[.pointer (some ⟨r,0,none⟩),.agg a.v] x (fun e z=>e=.returned (.bool true)/\b z))/\(p.k<1\/9<p.k->b x)
def aV7 {w:aI} {base r W q g:Nat} {F:Gh} {h:dW} {D:aM} {o:iP} {cK aZ:Nat} {vL vM:aN} {Bs:List kK} {S:Nat} (H:lC w base F r W q g h D o cK aZ vL vM Bs S false) (hb:base≤w.heap.size) (p:Sp) (hkd:p.k≠13∧p.k≠14) (QQ:Int→Int→List jL→aM→iP→Prop) (PP:aI→Prop)
 (HD:∀y,aS w.heap.size w y→Calls prog 17 #[.pointer (some ⟨W,0,none⟩),.agg p.c] y (wK base W q h o cK aZ QQ y))
 (hQ0:p.k=10∨p.k=11→∀er n T D' o',QQ er n T D' o'→o'=none) (hQ1:p.k<1∨14<p.k→∀er n T D' o',QQ er n T D' o'→er=2∨(o=none∧er=61))
 (HP:∀(x:aI) (a:An),TG base F r W g cK aZ vL vM Bs S QQ w a x→bZ0 o r p PP x a) :
 Calls prog 11 #[.pointer (some ⟨r,0,none⟩),.agg p.c] w (fun e z=>e=.returned (.bool true)∧PP z):=by
 have z0:=H.row.rY;have lr:=H.row.lt;obtain⟨w1,hw1⟩:=kX (w.alloc (.cells p.c 35));have P:=cr7 H hb QQ p hw1;have HST0:=P.wM;have HS:=aH P.s;have HSX:=aH P.sx;have HSA:=aH (fun(x:aI) (hx:DoS r W w.heap.size p x) (h1:r<x.heap.size) (h2:w.heap.size<x.heap.size) (xs:Array aN)=>hx.eO (mM x (.cells xs 63) _ h1) (mM x _ _ h2));have HST:=aH (fun(x:aI) (hx:DoS r W w.heap.size p x) (j:Nat) (u:aN)=>hx.eO (aV x ⟨w1.heap.size,j,none⟩ u r (Nat.ne_of_lt P.lt.1)) (aV x ⟨w1.heap.size,j,none⟩ u _ (Nat.ne_of_lt P.lt.2)));have HPP:=aH HP;obtain⟨kd,st,a,b,EA,En,Ec,KA,Kn,Kc,tx⟩:=p;unfold DoS at HS HSX HSA HST;unfold bZ0 at HPP;dsimp only[Sp.c,An.v]at *;have HW1:=aH hw1;have HPR:=aH P;have HDD:=aH (fun(y:aI) (hy:aS w1.heap.size w1 y)=>HD y (aJ P.b1 hy));have HQ0:=aH hQ0;have HQ1:=aH hQ1;have HKD:=aH (show(1≤kd∧kd≤9)∨(kd=10∨kd=11)∨kd=12∨(kd<1∨14<kd)from by omega);have e13:(kd==13)=false:=by simp;omega
 have e14:(kd==14)=false:=by simp;omega
 clear H hb HD HP hw1 P hQ0 hQ1 hkd;rcases(show o=none∨∃GI,o=some GI from by cases o<;>simp)with ho9|⟨GI,ho9⟩
 all_goals
  rw[ho9]at HST0;unfold sF at HST0;have HO9:=aH ho9;clear ho9;go_in;go_wp2_with fail
  rw[←HW1.out];refine HST0.mono ?_;rintro e w' ⟨rfl,rfl⟩;obtain⟨k0,k1,-⟩:=id (HS.out w1 (aY _ _));clear HST0 HW1 z0;go_wp2_with fail
  apply bp8 (p:=Int) (q:=Int) (r:=Option Addr) (s:=Nat) (t:=Nat) (u:=Nat) (fun er n A k c B w'=>TG base F r W g cK aZ vL vM Bs S QQ w ⟨er,n,A,k,c⟩ w'∧Row w' B 63 [.int .i64 er,.int .i64 n,.slice A k c]∧Row w' w.heap.size 35 [.int .i64 kd,.string st,.int .i64 a,.int .i64 b,.slice EA En Ec,.slice KA Kn Kc,.string tx])
  ·have D0:aS w1.heap.size w1 w1.drew:=(aY _ _).drew;have D1:aS w1.heap.size w1 (w1.drew.alloc (.cells uK 63)):=D0.alloc D0.size _;have D2:aS w1.heap.size w1 (w1.alloc (.cells uK 63)):=cI w1 _;have D3:aS w1.heap.size w1 (w1.alloc (.cells uK 63)).drew:=D2.drew;have A1:=Row.new w1.drew uK 63;have A2:=Row.new w1 uK 63;have A3:Row (w1.alloc (.cells uK 63)).drew w1.heap.size 63 uK.toList:=A2.drew;obtain⟨hl1,hl2⟩:=HPR.out.lt;go_region_held3 (fun z=>z.cell? ⟨r,0,none⟩=some (.pointer (some ⟨W,0,none⟩))∧z.cell? ⟨w.heap.size,0,none⟩=some (.int .i64 kd)∧z.cell? ⟨w.heap.size,1,none⟩=some (.string st)∧z.cell? ⟨w.heap.size,2,none⟩=some (.int .i64 a)∧z.cell? ⟨w.heap.size,3,none⟩=some (.int .i64 b)∧z.cell? ⟨w.heap.size,4,none⟩=some (.slice EA En Ec)∧z.cell? ⟨w.heap.size,5,none⟩=some (.slice KA Kn Kc)∧z.cell? ⟨w.heap.size,6,none⟩=some (.string tx))
    (first|(with_reducible exact HST.out _ (HST.out _ (HST.out _ hx9 0 _) 1 _) 2 _)|(with_reducible exact HST.out _ (HST.out _ (HST.out _ (HSA.out _ hx9 (by omega) (by omega) _) 0 _) 1 _) 2 _)|(with_reducible exact HSA.out _ hx9 (by omega) (by omega) _)|(with_reducible exact hx9)|(with_reducible exact HS.out _ D3)|(with_reducible exact HS.out _ D2)|(with_reducible exact HS.out _ D1)|(with_reducible exact HS.out _ D0)|fail)
    (first
     |(go_at_call 17;(with_reducible refine(HDD.out _ D0).mono ?_);rintro e x1 ⟨er,n,A,k,c,T,D',o',rfl,hq,ho,hto⟩;obtain⟨hx9,hz9⟩:=HSX.out _ _ _ _ D0 hto)
     |(go_at_call 17;(first|((with_reducible refine(HDD.out _ D1).mono ?_);have DD:=D1;have AA:=A1)|((with_reducible refine(HDD.out _ D3).mono ?_);have DD:=D3;have AA:=A3)|((with_reducible refine(HDD.out _ D2).mono ?_);have DD:=D2;have AA:=A2));rintro e x1 ⟨er,n,A,k,c,T,D',o',rfl,hq,ho,hto⟩;obtain⟨hx9,hz9⟩:=HSX.out _ _ _ _ DD hto;have hb9:=HPR.out.rb _ _ _ _ DD AA hto;have r0:=hb9.rY;have r1:=hb9.xD;have r2:=hb9.G8;have f0:=hb9.TI;have f1:=hb9.J3;have f2:=hb9.zf2)
     |fail)
   all_goals
    first
     |have hR:=HPR.out.e1 _ _ ⟨er,n,A,k,c⟩ T D' o' D0 hq ho hto _ rfl
      clear hx9 hz9;revert hR;generalize x1.heap.size=B
     |have hR:=HPR.out.e2 _ _ ⟨er,n,A,k,c⟩ T D' o' DD AA hq ho hto _ rfl
      clear hb9 r0 r1 r2 f0 f1 f2 hx9 hz9;revert hR;generalize w1.heap.size=B
    intro hR;exact⟨rfl,er,n,A,k,c,B,rfl,hR⟩
  rintro er n A k c B w2 ⟨hj,ha,hs⟩;obtain⟨p1,p4,p5⟩:=HPP.out w2 ⟨er,n,A,k,c⟩ hj;simp only[HO9.out,L2,L5]at p1;have a0:=ha.rY;have a1:=ha.xD;have a2:=ha.G8;have s0:=hs.rY;have s1:=hs.xD;have s2:=hs.G8;have s3:=hs.zc3;have s4:=hs.zc4;have s5:=hs.zc5;have s6:=hs.zc6;clear HDD HST HSA HSX HS HPR k0 k1 lr HPP;rcases HKD.out with hk|hk|hk|hk
  ·have hkd:kd=9∨kd∈([1,2,3,4,5,6,7,8]:List Int):=by simp;omega
   clear e13 e14 HQ0 HQ1 HKD HO9 hj ha hs p5 hk;simp only[cX,qC,or_false]at hkd;rcases hkd with rfl|rfl|rfl|rfl|rfl|rfl|rfl|rfl|rfl
   ·have hC:=aH (p4 rfl);clear p1 p4;(go_wp2_with fail);refine hC.out.mono ?_;rintro e z ⟨rfl,hz⟩;have HZ:=aH hz;clear hz;go_wp2;go_ret;exact⟨rfl,HZ.out⟩
   all_goals
    have hC:=p1 (by omega);simp only[jf]at hC;have hC:=aH hC;clear p1 p4;(go_wp2_with fail);refine hC.out.mono ?_;rintro e z ⟨rfl,hz⟩;have HZ:=aH hz;clear hz;go_wp2;go_ret;exact⟨rfl,HZ.out⟩
  ·obtain⟨T,D',o',q',h',hq,HX,-,-⟩:=id hj;have ho':=HQ0.out hk _ _ _ _ _ hq;subst ho';have hS9:=yF HX.sP;unfold sF at hS9;have x0:=HX.row.rY;have hC:=aH (p5 (by omega));clear hj ha hs hq HX HQ0 HQ1 HKD HO9 p1 p4 p5 e13 e14;rcases hk with rfl|rfl
   all_goals
    (go_wp2_with fail);refine hS9.mono ?_;rintro e w' ⟨rfl,rfl⟩;go_wp2;go_ret;exact⟨rfl,hC.out⟩
  ·have hC:=aH (p5 (by omega));subst hk;clear hj ha hs HQ0 HQ1 HKD HO9 p1 p4 p5 e13 e14;go_wp2;go_ret;exact⟨rfl,hC.out⟩
  obtain⟨T,D',o',q',h',hq,-,-,-⟩:=id hj;have her:=HQ1.out hk _ _ _ _ _ hq;have hC:=aH (p5 (by omega));obtain⟨ek1,ek2,ek3,ek4,ek5,ek6,ek7,ek8,ek9,ek10,ek11,ek12⟩:(kd==1)=false∧(kd==2)=false∧(kd==3)=false∧(kd==4)=false∧(kd==5)=false∧(kd==6)=false∧(kd==7)=false∧(kd==8)=false∧(kd==9)=false∧(kd==10)=false∧(kd==11)=false∧(kd==12)=false:=by simp;omega
  obtain rfl|⟨h77,rfl⟩:er=2∨(o=none∧er=61):=her
  all_goals
   first|(rw[HO9.out]at h77;cases h77)|skip
  all_goals
   clear hj ha hs hq HQ0 HQ1 HKD HO9 p1 p4 p5 e13 e14 hk;go_wp2;go_ret;exact⟨rfl,hC.out⟩
def sR(H:lC w m F k n i j S D o g q v u B d false)(l:m<=w)(p:Sp)(s:1<=p.k/\p.k<=8)(c:Int->Int->List jL->aM->iP->Prop)(b:aI->Prop)
 (f:∀y,aS w w y->Calls prog 17 #[zp n,.agg p.c] y (wK m n i S o g q c y))
 (h:∀(x:aI)(a:An),TG m F k n j g q v u B d c w a x->Calls prog (jf p.k) #[zp k,.agg p.c,.agg a.v,o.isSome] x (λe z=>e=true/\b z)) :
 Calls prog 11 #[zp k,.agg p.c] w (λe z=>e=true/\b z):=
 aV7 H l p (by omega) c b f (λS=>by omega) (λS=>by omega) λx a r=>⟨λ_=>h x a r,λS=>by omega,λS=>by omega⟩
end Go.Proofs.YtpopikndggffaaaGreatDoor
