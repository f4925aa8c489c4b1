/- TOP, part 37. -/
import Derived.Test.YtpopikndggffaaaGreatDoorGt36
namespace Go.Proofs.YtpopikndggffaaaGreatDoor
set_option linter.all false
set_option maxRecDepth 100000
set_option maxHeartbeats 16000000
open Go.RowKit Go.Maps Tryz
variable{F:Gh}{B:List kM}{c d g i j k m n q:Nat}{p:Sp}{w x:aI}{D:aL}{u v:aN}{S:dV}{o:iL}
def bA2{p q r s t u:Type}{A:Program}{c:Code}{Q:Exit->Act->aI->Prop}{a:Act}(R:p->q->r->s->t->u->aI->Prop)(o:p->q->r->s->t->u->Act)(m:c.wp A (λe l b=>e=.normal/\∃d f g i j k,l=o d f g i j k/\R d f g i j k b) a w)(n:∀d f g i j k b,R d f g i j k b->Q .normal (o d f g i j k) b):c.wp A Q a w:=Code.wp_mono (λe l b h=>by obtain⟨rfl,d,f,g,i,j,k,rfl,h⟩:=h;exact n _ _ _ _ _ _ b h) m
section
variable {w x y z:aI}{base r W q g:Nat}{F:Gh}{h:dV}{D D':aL}{o o':iL}{cF aX:Nat}{vL vM:aN}{Bs:List kM}{S:Nat}{brk:Bool}
def jH.grown{B:Nat}(H:jH x base F r W q g h D o cF aX vL vM Bs S brk)(e:x.grownBy y B)(n:¬mS x W q h o B)(l:∀k,(k=r\/k=g\/vL.ownBlock=k\/vM.ownBlock=k)->k≠B)(j:∀b,F B≠some b):jH y base F r W q g h D o cF aX vL vM Bs S brk:=by have⟨s,b⟩:=H.pN.grown e n;have i:∀k,(k=r\/k=g\/vL.ownBlock=k\/vM.ownBlock=k)->y.heap[k]?=x.heap[k]?:=λk c=>e.block k (H.lt k c) (λd=>l k c (cJ d));exact⟨H.row.of_block (i r (.inl rfl)),H.low,s,⟨H.mod.1.of_block (i g (.inr (.inl rfl))),H.mod.2.1,H.mod.2.2.1.eW λk c=>i k (.inr (.inr (.inl c))),H.mod.2.2.2.1.eW λk c=>i k (.inr (.inr (.inr c))),H.mod.2.2.2.2⟩,(λk c d=>H.sep k c (b k (H.lt k c) (l k c) d)),λk f a=>⟨(e.block k (H.OF a) (λd=>j f (by rw[<-cJ d];exact a))).trans (H.gh k f a).1,(H.gh k f a).2.1,λd=>(H.gh k f a).2.2 (b k (H.OF a) (λm=>j f (by rw[<-m];exact a)) d)⟩⟩
def UW(b:Nat)(F:Gh)(r W g:Nat)(c d:Nat)(k l:aN)(h:List kM)(S:Nat)(Q:Int->Int->List jU->aL->iL->Prop)(m:aI)(a:An)(x:aI):Prop:=∃(T:List jU)(e:aL)(f:iL)(j:Nat)(i:dV),Q a.r a.n T e f/\jH x b F r W j g i e f c d k l h S false/\aR b m x/\x.ownsRow b 133 5 (.slice a.A a.k a.c) T.length (fU T)
def DoS(r W B:Nat)(p:Sp)(z:aI):Prop:=z.cell? ⟨r,0,none⟩=some (.pointer (some ⟨W,0,none⟩))/\z.cell? ⟨B,0,none⟩=some (.int .i64 p.k)/\z.cell? ⟨B,1,none⟩=some (.string p.n)/\z.cell? ⟨B,2,none⟩=some (.int .i64 p.a)/\z.cell? ⟨B,3,none⟩=some (.int .i64 p.b)/\z.cell? ⟨B,4,none⟩=some (.slice p.E p.e p.f)/\z.cell? ⟨B,5,none⟩=some (.slice p.K p.i p.j)/\z.cell? ⟨B,6,none⟩=some (.string p.t)
def DoS.of(h:Row w r k [zp W,v,u])(a:Row w n 35 p.c.toList):DoS r W n p w:=⟨h.lO,a.lO,a.qD,a.tW,a.JF,a.zc4,a.zc5,a.zc6⟩
def DoS.eW(h:DoS r W n p w)(b:x.heap[r]?=w.heap[r]?)(c:x.heap[n]?=w.heap[n]?):DoS r W n p x:=by have e:∀{i v},w.cell? (zp n i)=some v->x.cell? (zp n i)=some v:=fun {i v} d=>(dK (a:=zp n i) c).trans d;exact⟨(dK (a:=zp r) b).trans h.1,e h.2.1,e h.2.2.1,e h.2.2.2.1,e h.2.2.2.2.1,e h.2.2.2.2.2.1,e h.2.2.2.2.2.2.1,e h.2.2.2.2.2.2.2⟩
end
structure cO3(w b:aI)(c:Nat)(F:Gh)(r W q g:Nat)(h:dV)(o:iL)(d f:Nat)(m n:aN)(l:List kM)(S:Nat)(k:Int->Int->List jU->aL->iL->Prop)(p:Sp):Prop where
 wX:Calls prog 12 #[.pointer (some ⟨W,0,none⟩)] b fun e t=>e=.returned (sE q o)/\b=t
 b1:aR w.heap.size w b
 s:∀(y:aI),aR b.heap.size b y->DoS r W w.heap.size p y
 sx:∀(y x:aI)(i:aL)(j:iL),aR b.heap.size b y->oH y c W q h o i j d f x->DoS r W w.heap.size p x/\b.heap.size<=x.heap.size
 rb:∀(y x:aI)(i:aL)(j:iL),aR b.heap.size b y->Row y b.heap.size 63 vN.toList->oH y c W q h o i j d f x->Row x b.heap.size 63 vN.toList
 e1:∀(y x:aI)(a:An)(T:List jU)(i:aL)(j:iL),aR b.heap.size b y->k a.r a.n T i j->x.ownsRow y.heap.size 133 5 (.slice a.A a.k a.c) T.length (fU T)->oH y c W q h o i j d f x->∀z,z=x.alloc (.cells a.v 63)->UW c F r W g d f m n l S k w a z/\Row z x.heap.size 63 a.v.toList/\Row z w.heap.size 35 p.c.toList
 e2:∀(y x:aI)(a:An)(T:List jU)(i:aL)(j:iL),aR b.heap.size b y->Row y b.heap.size 63 vN.toList->k a.r a.n T i j->x.ownsRow y.heap.size 133 5 (.slice a.A a.k a.c) T.length (fU T)->oH y c W q h o i j d f x->∀z,z=(((x.setCell ⟨b.heap.size,0,none⟩ (.int .i64 a.r)).setCell ⟨b.heap.size,1,none⟩ (.int .i64 a.n)).setCell ⟨b.heap.size,2,none⟩ (.slice a.A a.k a.c))->UW c F r W g d f m n l S k w a z/\Row z b.heap.size 63 a.v.toList/\Row z w.heap.size 35 p.c.toList
 lt:r<b.heap.size/\w.heap.size<b.heap.size
def cI1(H:jH w m F k n i j S D o g q v u B d false)(V:m<=w)(QQ:Int->Int->List jU->aL->iL->Prop)(p:Sp)(h5:x=w.alloc (.cells p.c 35)):cO3 w x m F k n i j S o g q v u B d QQ p:=by
 have A:=cD w (.cells p.c 35);have h4:(w.alloc (.cells p.c 35)).heap.size=w+1:=bD _ _;have f:=Row.new w p.c 35;have lr:=H.row.lt;have G:=rK (H.next A).pN;rw[<-h5]at A h4 f G;have N:∀(y:aI),aR x x y->¬mS y n i S o w:=λy b=>H.pN.fresh (aK A b) (f.next b) CD.1 dQ;have h:∀(y ha:aI)(l:aL)(r:iL),aR x x y->oH y m n i S o l r g q ha->Row ha w 35 p.c.toList/\x.heap.size<=ha/\aR m w ha/\m<=y/\(Row y x 63 vN.toList->Row ha x 63 vN.toList):=λy ha l r b K=>by have c:=aK A b;have E:=(H.next c).pN.ME K;have⟨W,U,e,s,h7⟩:=K;exact⟨(f.next b).of_block (h7.block _ (f.next b).lt (.inr (N y b))),aM b.size h7.size,⟨E.os.trans c.os,E.tape.trans c.tape,E.output.trans c.output,aM c.size E.size,λh6 J=>(E.block h6 J).trans (c.block h6 (aW J V))⟩,aM V c.size,λt=>t.of_block (h7.block _ t.lt (.inr (H.pN.fresh c t vS.1 (by omega))))⟩
 refine⟨G,A,λy b=>DoS.of (H.next (aK A b)).row (f.next b),λy ha l r b K=>?_,λy ha l r b t K=>(h y ha l r b K).2.2.2.2 t,λy ha a T l r b hq Z K z hz=>?_,λy ha a T l r b t hq Z K z hz=>?_,by omega⟩
 iterate 2
  .have⟨W,U,R⟩:=(H.next (aK A b)).to K;first|exact⟨DoS.of R.row (h y ha l r b K).1,(h y ha l r b K).2.1⟩|have C:=cD ha (.cells a.v 63);have Q:=Row.new ha a.v 63;rw[<-hz]at C Q;obtain⟨h0,-,c,E,-⟩:=h y ha l r b K;exact⟨⟨T,l,r,W,U,hq,R.next C,⟨C.os.trans c.os,C.tape.trans c.tape,C.output.trans c.output,aM c.size C.size,λh6 J=>(C.block h6 (aW (aW J V) c.size)).trans (c.block h6 J)⟩,bY (iI Z E) C⟩,Q,h0.next C⟩
 obtain⟨hr,-,c,E,h3⟩:=h y ha l r b K;have M:=h3 t;have Y:¬mS y n i S o x:=H.pN.fresh (aK A b) t vS.1 (by omega);have⟨W,U,e,s,h7⟩:=K;have R:=(H.next (aK A b)).eW s h7;have I:=az5 ha x a.r a.n (.slice a.A a.k a.c);have O:=LG (u0:=a.r) (u1:=a.n) (u2:=.slice a.A a.k a.c) Z t.lt;have P:=((M.set 0 a.r).set 1 a.n).set 2 (.slice a.A a.k a.c);rw[<-hz]at I O P;have HG:=R.grown I (λL=>Y (h7.rJ _ t.lt L)) (λh6 L h8=>by have:=H.lt h6 L;omega) (λb' X=>by have:=H.OF X;omega);exact⟨⟨T,l,r,W,U,hq,HG,⟨I.os.trans c.os,I.tape.trans c.tape,I.output.trans c.output,aM c.size I.size,λh6 J=>(I.block h6 (aW (aW J V) c.size) (λL=>by have:=cJ L;omega)).trans (c.block h6 J)⟩,iI O E⟩,P,hr.of_block (I.block _ hr.lt (λL=>by have:=cJ L;omega))⟩
def jf(k:Int):Nat:=if k=1 then 18 else if k<=5 then 19 else 20
def cn6(o:iL)(r:Nat)(p:Sp)(b:aI->Prop)(x:aI)(a:An):Prop:=(1<=p.k/\p.k<=8->Calls prog (jf p.k) #[.pointer (some ⟨r,0,none⟩),.agg p.c,.agg a.v,.bool o.isSome] x (fun e z=>e=.returned (.bool true)/\b z))/\
 (p.k=9->Calls prog 21 #[.pointer (some ⟨r,0,none⟩),.agg a.v] x (fun e z=>e=.returned (.bool true)/\b z))/\(p.k<1\/9<p.k->b x)
def be5(H:jH w m F k n i j S D o g q v u B d false)(hb:m<=w.heap.size)(p:Sp)(Z:p.k≠13/\p.k≠14)(QQ:Int->Int->List jU->aL->iL->Prop)(PP:aI->Prop) (HD:∀y,aR w.heap.size w y->Calls prog 17 #[.pointer (some ⟨n,0,none⟩),.agg p.c] y (tV m n i S o g q QQ y)) (h8:p.k=10\/p.k=11->∀r x6 T R Q,QQ r x6 T R Q->Q=none) (h9:p.k<1\/14<p.k->∀r x6 T R Q,QQ r x6 T R Q->r=2\/(o=none/\r=61)) (HP:∀(x:aI)(a:An),UW m F k n j g q v u B d QQ w a x->cn6 o k p PP x a) :Calls prog 11 #[.pointer (some ⟨k,0,none⟩),.agg p.c] w (λe z=>e=.returned (.bool true)/\PP z):=by
 have z0:=H.row.lO;have lr:=H.row.lt;obtain⟨h,h4⟩:=fR (w.alloc (.cells p.c 35));have P:=cI1 H hb QQ p h4;have C:=P.wX;have⟨HS,V,U,l,h3⟩:=aD P.s P.sx (λ(x:aI)(hx:DoS k n w.heap.size p x)(h1:k<x.heap.size)(h2:w.heap.size<x.heap.size)(xs:Array aN)=>hx.eW (n8 x (.cells xs 63) _ h1) (n8 x _ _ h2)) (λ(x:aI)(hx:DoS k n w.heap.size p x)(x4:Nat)(x7:aN)=>hx.eW (aU x ⟨h.heap.size,x4,none⟩ x7 k (Nat.ne_of_lt P.lt.1)) (aU x ⟨h.heap.size,x4,none⟩ x7 _ (Nat.ne_of_lt P.lt.2))) HP;obtain⟨f,st,a,b,EA,En,Ec,KA,Kn,Kc,tx⟩:=p;unfold DoS at HS V U l;unfold cn6 at h3;dsimp only[Sp.c,An.v]at *;obtain⟨h6,L,J,M,N,K⟩:=aE h4 P (λ(y:aI)(hy:aR h.heap.size h y)=>HD y (aK P.b1 hy)) h8 h9 (show(1<=f/\f<=9)\/(f=10\/f=11)\/f=12\/(f<1\/14<f)from by omega);have W:(f==13)=false:=(by simp;omega);have X:(f==14)=false:=(by simp;omega);clear H hb HD HP h4 P h8 h9 Z;rcases(show o=none\/∃GI,o=some GI from by cases o<;>simp)with h0|⟨GI,h0⟩
 all_goals
  rw[h0]at C;unfold sE at C;have E:=aH h0;clear h0;go_in;(go_wp2_with fail);rw[<-h6.out];refine C.mono ?_;rintro e w' ⟨rfl,rfl⟩;obtain⟨k0,k1,-⟩:=id (HS.out h (bR _ _));clear C h6 z0;(go_wp2_with fail);apply bA2 (p:=Int) (q:=Int) (r:=Option Addr) (s:=Nat) (t:=Nat) (u:=Nat) (λr x6 A x5 c x3 w'=>UW m F k n j g q v u B d QQ w ⟨r,x6,A,x5,c⟩ w'/\Row w' x3 63 [.int .i64 r,.int .i64 x6,.slice A x5 c]/\Row w' w.heap.size 35 [.int .i64 f,.string st,.int .i64 a,.int .i64 b,.slice EA En Ec,.slice KA Kn Kc,.string tx])
  .have D0:aR h.heap.size h h.drew:=(bR _ _).drew;have D1:aR h.heap.size h (h.drew.alloc (.cells vN 63)):=D0.alloc D0.size _;have D2:aR h.heap.size h (h.alloc (.cells vN 63)):=cD h _;have D3:aR h.heap.size h (h.alloc (.cells vN 63)).drew:=D2.drew;have A1:=Row.new h.drew vN 63;have A2:=Row.new h vN 63;have A3:Row (h.alloc (.cells vN 63)).drew h.heap.size 63 vN.toList:=A2.drew;obtain⟨hw,x2⟩:=L.out.lt;go_region_held3 (λz=>z.cell? ⟨k,0,none⟩=some (.pointer (some ⟨n,0,none⟩))/\z.cell? ⟨w.heap.size,0,none⟩=some (.int .i64 f)/\z.cell? ⟨w.heap.size,1,none⟩=some (.string st)/\z.cell? ⟨w.heap.size,2,none⟩=some (.int .i64 a)/\z.cell? ⟨w.heap.size,3,none⟩=some (.int .i64 b)/\z.cell? ⟨w.heap.size,4,none⟩=some (.slice EA En Ec)/\z.cell? ⟨w.heap.size,5,none⟩=some (.slice KA Kn Kc)/\z.cell? ⟨w.heap.size,6,none⟩=some (.string tx))
    (first|(with_reducible exact l.out _ (l.out _ (l.out _ t 0 _) 1 _) 2 _)|(with_reducible exact l.out _ (l.out _ (l.out _ (U.out _ t (by omega) (by omega) _) 0 _) 1 _) 2 _)|(with_reducible exact U.out _ t (by omega) (by omega) _)|(with_reducible exact t)|(with_reducible exact HS.out _ D3)|(with_reducible exact HS.out _ D2)|(with_reducible exact HS.out _ D1)|(with_reducible exact HS.out _ D0)|fail)
    (first
     |(go_at_call 17;(with_reducible refine(J.out _ D0).mono ?_);rintro e x1 ⟨r,x6,A,x5,c,T,R,Q,rfl,hq,ho,G⟩;obtain⟨t,h5⟩:=V.out _ _ _ _ D0 G)
     |(go_at_call 17;(first|((with_reducible refine(J.out _ D1).mono ?_);have DD:=D1;have AA:=A1)|((with_reducible refine(J.out _ D3).mono ?_);have DD:=D3;have AA:=A3)|((with_reducible refine(J.out _ D2).mono ?_);have DD:=D2;have AA:=A2));rintro e x1 ⟨r,x6,A,x5,c,T,R,Q,rfl,hq,ho,G⟩;obtain⟨t,h5⟩:=V.out _ _ _ _ DD G;have s:=L.out.rb _ _ _ _ DD AA G;have r0:=s.lO;have r1:=s.qD;have r2:=s.tW;have f0:=s.NV;have f1:=s.JE;have f2:=s.QP)
     |fail)
   all_goals
    first
     |(have hR:=L.out.e1 _ _ ⟨r,x6,A,x5,c⟩ T R Q D0 hq ho G _ rfl;clear t h5;revert hR;generalize x1.heap.size=x3)
     |(have hR:=L.out.e2 _ _ ⟨r,x6,A,x5,c⟩ T R Q DD AA hq ho G _ rfl;clear s r0 r1 r2 f0 f1 f2 t h5;revert hR;generalize h.heap.size=x3)
    intro hR;exact⟨rfl,r,x6,A,x5,c,x3,rfl,hR⟩
  rintro r x6 A x5 c x3 w2 ⟨hj,ha,O⟩;obtain⟨p1,p4,p5⟩:=h3.out w2 ⟨r,x6,A,x5,c⟩ hj;simp only[E.out,MJ,MK]at p1;have a0:=ha.lO;have a1:=ha.qD;have a2:=ha.tW;have s0:=O.lO;have s1:=O.qD;have s2:=O.tW;have s3:=O.JF;have s4:=O.zc4;have s5:=O.zc5;have s6:=O.zc6;clear J l U V HS L k0 k1 lr h3;rcases K.out with Y|Y|Y|Y
  .have Z:f=9\/f∈([1,2,3,4,5,6,7,8]:List Int):=(by simp;omega);clear W X M N K E hj ha O p5 Y;simp only[cY,r8,or_false]at Z;rcases Z with rfl|rfl|rfl|rfl|rfl|rfl|rfl|rfl|rfl
   .have I:=aH (p4 rfl);clear p1 p4;(go_wp2_with fail);refine I.out.mono ?_;rintro e z ⟨rfl,hz⟩;have HZ:=aH hz;clear hz;go_wp2;go_ret;exact⟨rfl,HZ.out⟩
   all_goals
    have I:=p1 (by omega);simp only[jf]at I;have I:=aH I;clear p1 p4;(go_wp2_with fail);refine I.out.mono ?_;rintro e z ⟨rfl,hz⟩;have HZ:=aH hz;clear hz;go_wp2;go_ret;exact⟨rfl,HZ.out⟩
  .obtain⟨T,R,Q,q',h',hq,HX,-,-⟩:=id hj;have he:=M.out Y _ _ _ _ _ hq;subst he;have hc:=rK HX.pN;unfold sE at hc;have x0:=HX.row.lO;have I:=aH (p5 (by omega));clear hj ha O hq HX M N K E p1 p4 p5 W X;rcases Y with rfl|rfl
   all_goals
    (go_wp2_with fail);refine hc.mono ?_;rintro e w' ⟨rfl,rfl⟩;go_wp2;go_ret;exact⟨rfl,I.out⟩
  .have I:=aH (p5 (by omega));subst Y;clear hj ha O M N K E p1 p4 p5 W X;go_wp2;go_ret;exact⟨rfl,I.out⟩
  obtain⟨T,R,Q,q',h',hq,-,-,-⟩:=id hj;have hd:=N.out Y _ _ _ _ _ hq;have I:=aH (p5 (by omega));obtain⟨hi,hl,hm,hn,hp,hr,ht,hu,hv,hf,hg,hh⟩:(f==1)=false/\(f==2)=false/\(f==3)=false/\(f==4)=false/\(f==5)=false/\(f==6)=false/\(f==7)=false/\(f==8)=false/\(f==9)=false/\(f==10)=false/\(f==11)=false/\(f==12)=false:=(by simp;omega);obtain rfl|⟨h7,rfl⟩:r=2\/(o=none/\r=61):=hd
  all_goals
   first|(rw[E.out]at h7;cases h7)|skip
  all_goals
   clear hj ha O hq M N K E p1 p4 p5 W X Y;go_wp2;go_ret;exact⟨rfl,I.out⟩
def tY(H:jH w m F k n i j S D o g q v u B d false)(l:m<=w)(p:Sp)(s:1<=p.k/\p.k<=8)(c:Int->Int->List jU->aL->iL->Prop)(b:aI->Prop) (f:∀y,aR w w y->Calls prog 17 #[zp n,.agg p.c] y (tV m n i S o g q c y)) (h:∀(x:aI)(a:An),UW m F k n j g q v u B d c w a x->Calls prog (jf p.k) #[zp k,.agg p.c,.agg a.v,o.isSome] x (λe z=>e=true/\b z)) :Calls prog 11 #[zp k,.agg p.c] w (λe z=>e=true/\b z):=be5 H l p (by omega) c b f (λS=>by omega) (λS=>by omega) λx a r=>⟨λ_=>h x a r,λS=>by omega,λS=>by omega⟩
def bd9(p:Sp)(A:Option Addr)(c:Nat):Calls prog (jf p.k) #[zp n,.agg p.c,.agg #[(61:Int),(),.slice A 0 c],false] w (λe z=>e=true/\aR w w z):=by
 have d:=aH (aK (cD w (.cells p.c 35)) (cD _ (.cells #[(61:Int),(),.slice A 0 c] 63)));have⟨k,l,a,b,f,h,g,i,Kn,j,m⟩:=p;dsimp only[Sp.c]at *;unfold jf;split
 .subst_vars
  go_in;go_wp2;go_ret;exact⟨rfl,d⟩
 split
 .go_in;go_wp2;go_ret;exact⟨rfl,d⟩
 go_in;go_wp2;go_ret;exact⟨rfl,d⟩
variable{s:bH}
def qJ(D:aL)(n:bH):bH:=match bO D.files n with|none=>[]|some f=>f.data
def bW2(a:D.down=false)(n:bH):∃b,D.size n=((qJ D n).length,b):=by
 unfold aL.size qJ;rw[a];cases bO D.files n with
 |none=>exact⟨4,rfl⟩
 |some f=>exact⟨0,rfl⟩
def bZ7(a:D.down=false)(n:bH):∃c,D.read n 0 ((qJ D n):Nat)=(qJ D n,c):=by
 cases b:bO D.files n with
 |none=>refine⟨4,?_⟩;unfold aL.read qJ;rw[a,b];rfl
 |some f=>refine⟨0,?_⟩;have d:=(aK2 a b).2;unfold qJ;rw[b];exact d
def sF.same{E:aL}(h:sF D s E):E.down=D.down/\E.bQ=D.bQ/\E.cap=D.cap:=by rcases h with rfl|⟨f,g,-,-,rfl⟩<;>exact⟨rfl,rfl,rfl⟩
def JA(a:Nat)(F:Gh)(r:Nat)(o:iL)(e b f s:Nat)(w:aI)(z:aI):Prop:=aR a w z/\∃g c h d,UO z a F r g o e b c h d/\(d=false->gW f b (s+1) g o c h)
def cv9(h:isT s):s≠fE:=by rintro rfl;have⟨k,a⟩:=h;revert a;unfold fE jY;simp
section
variable {w:aI}{base r W q g:Nat}{F:Gh}{h:dV}{D:aL}{o:iL}{cF aX cap s:Nat}{vL vM:aN}{Bs:List kM}{S:Nat}
def jH.bV9(H:jH w base F r W q g h D o cF aX vL vM Bs S false)(b:base<=w)(P:gW cap aX s D o Bs S)(a:aR w w x):JA base F r o cF aX cap s w x:=⟨⟨a.os,a.tape,a.output,a.size,λk c=>a.block k (aW c b)⟩,D,Bs,S,false,⟨W,q,g,h,vL,vM,H.next a⟩,λ_=>P.later⟩
end
def DoS.all{W:Nat}{p:Sp}(h:∀y,aR w w y->DoS n W k p y):(∀x:dR w,x.it.cell? (zp n)=zp W)/\(∀x:dR w,x.it.cell? (zp k)=p.k)/\(∀x:dR w,x.it.cell? (zp k 1)=p.n)/\(∀x:dR w,x.it.cell? (zp k 2)=p.a)/\(∀x:dR w,x.it.cell? (zp k 3)=p.b)/\(∀x:dR w,x.it.cell? (zp k 4)=some (.slice p.E p.e p.f))/\(∀x:dR w,x.it.cell? (zp k 5)=some (.slice p.K p.i p.j))/\(∀x:dR w,x.it.cell? (zp k 6)=p.t):=⟨λx=>(h _ x.ok).1,λx=>(h _ x.ok).2.1,λx=>(h _ x.ok).2.2.1,λx=>(h _ x.ok).2.2.2.1,λx=>(h _ x.ok).2.2.2.2.1,λx=>(h _ x.ok).2.2.2.2.2.1,λx=>(h _ x.ok).2.2.2.2.2.2.1,λx=>(h _ x.ok).2.2.2.2.2.2.2⟩
def bV8{p:Nat}(H:jH w m F k n j d S D o q c v u B g false)(X:m<=w)(P:gW p c i D o B g)(h4:Sp)(h0:h4.n.size<=1000000)(h1:Nat)(W:jY (lb h4.n)=some (98,h1)) (HD:∀(y:aI)(Q:Nat)(M:dV),iY y m n Q M D o q c->aR m w y->Calls prog 17 #[zp n,.agg h4.c] y (tV m n Q M o q c (λer h3 T t o'=>sF D (lb h4.n) t/\o'=o) y)) :Calls prog 16 #[zp k,.agg h4.c] w (λe z=>(∃bb,e=.returned (.bool bb))/\JA m F k o q c p i w z):=by
 have L:=cD w (.cells h4.c 35);have h:=Row.new w h4.c 35;obtain⟨Y,E⟩:=fR (w.alloc (.cells h4.c 35));have I:=aH E;rw[<-E]at L h;have N:=zZ h4.n Y (by unfold maxLen;omega);rw[W]at N;unfold xE at N;have G:=aH (λ(y:aI)(f:aR w w y)=>HD y j S (H.next f).pN ⟨f.os,f.tape,f.output,f.size,λh1 O=>f.block h1 (aW O X)⟩);have HF:=aH (λ(y z:aI) (f:aR w w y) (t:aL) (r:sF D (lb h4.n) t) (l:oH y m n j S o t o q c z)=>show JA m F k o q c p i w z from by
  obtain⟨Q,M,H9⟩:=(H.next f).to l;have J:=(H.next f).pN.ME l;exact⟨⟨J.os.trans f.os,J.tape.trans f.tape,J.output.trans f.output,aM f.size J.size,λh1 O=>(J.block h1 O).trans (f.block h1 (aW O X))⟩,t,B,g,false,⟨n,Q,d,M,v,u,H9⟩,λ_=>P.cE9 ⟨_,W⟩ r⟩)
 have⟨s,R⟩:=aA (λ(y:aI)(f:aR Y Y y)=>DoS.of (W:=n) (H.next (aK L f)).row (h.next f)) L;obtain⟨kd,st,a,b,EA,En,Ec,KA,Kn,Kc,tx⟩:=h4;dsimp only[Sp.c]at *;clear H X P W HD h L E;go_in;(go_wp2_with fail);rw[<-I.zz];go_call N as e w2 ⟨rfl,x⟩;have U:=aH x;obtain⟨z0,z1,z2,z3,z4,z5,z6,z7⟩:=DoS.all (λy f=>s y (aK x f));dsimp only at z1 z2 z3 z4 z5 z6 z7;clear x N I;(go_wp2_with fail);refine nT (by kernel_rfl) (by kernel_rfl) (by kernel_rfl) (by kernel_rfl) ?_;simp only[List.dropLast,List.drop,List.length];repeat go_big_quiet_step (fail)
 refine wpQuiet_nil ?_;rintro _ ⟨⟨Z,K⟩,rfl⟩;rename_i Z;have C:=aK (aK R U) K;have HC:=aH (G Z C);have V:=aH C;clear C K z0 z1 z2 z3 z4 z5 z6 z7 G s;go_wp2_with fail
 go_call HC as e z ⟨er,h3,A,k9,c9,T,t,o',rfl,⟨r,rfl⟩,-,l⟩;have HZ:=aH (HF Z z V t r l);clear r l HF HC;go_wp2;go_ret;exact⟨⟨_,rfl⟩,HZ⟩
def bC8{p:Nat}(H:jH w m F k n j d S D o q c v u B g false)(W:m<=w)(P:gW p c i D o B g)(h5:Sp)(h2:h5.n.size<=1000000)(h3 h4:Int)(I:Bool)(G:xE (jY (lb h5.n))=.tuple #[.int .u8 h3,h4,I])(Q:I=false\/(I=true/\(h3==98)=false))(N:o.isSome=true\/(o=none/\D.down=true)\/(o=none/\D.down=false/\lb h5.n≠fE/\(I=true->(h3==116)=false))):Calls prog 16 #[zp k,.agg h5.c] w (λe z=>(∃bb,e=.returned (.bool bb))/\JA m F k o q c p i w z):=by
 have K:=cD w (.cells h5.c 35);have f:=Row.new w h5.c 35;obtain⟨U,r⟩:=fR (w.alloc (.cells h5.c 35));have A:=aH r;rw[<-r]at K f;have M:=zZ h5.n U (by unfold maxLen;omega);rw[G]at M;have V:=aH (λ(z:aI)(L:aR w.heap.size w z)=>H.bV9 W P L);have t:=aH (λ(y:aI)(X:aR U.heap.size U y)=>(by
  have J:=H.next (aK K X);obtain⟨h0,h1,hd⟩:=J.pN.it.eI;exact⟨J.row.lO,rK J.pN,yI J.pN,BP hd,(f.next X).qD⟩:y.cell? ⟨k,0,none⟩=some (.pointer (some ⟨n,0,none⟩))/\(Calls prog 12 #[.pointer (some ⟨n,0,none⟩)] y (λe h=>e=.returned (sE j o)/\y=h))/\(Calls prog 28 #[.pointer (some ⟨n,0,none⟩)] y (λe h=>e=.returned (.pointer (some ⟨S.d,0,none⟩))/\y=h))/\(Calls prog 29 #[.pointer (some ⟨S.d,0,none⟩)] y (λe h=>e=.returned (.bool (!D.down))/\y=h))/\y.cell? ⟨w.heap.size,1,none⟩=some (.string h5.n)))
 have s:=aH K;have N:(∃x,o=some x)\/(o=none/\D.down=true)\/(o=none/\D.down=false/\(h5.n.toList==[109,97,112])=false/\(I=true->(h3==116)=false)):=N.imp cA8.1 λS=>S.imp id λS=>⟨S.1,S.2.1,cd1 _ S.2.2.1,S.2.2.2⟩;obtain⟨kd,st,a,b,EA,En,Ec,KA,Kn,Kc,tx⟩:=h5;dsimp only[Sp.c]at *;clear H P W f K r G;rcases Q with rfl|⟨rfl,i1⟩;all_goals rcases N with⟨x,E⟩|⟨E,C⟩|⟨E,C,i2,Y⟩
 all_goals
  first|have i4:=Y rfl|skip
  first|clear Y|skip
  rw[E]at t;first|rw[C]at t|skip
  unfold sE at t;have HO:=aH E;clear E;go_in;(go_wp2_with fail);rw[<-A.out];refine M.mono ?_;rintro e Z ⟨rfl,l⟩;have L:=V.out Z (aK s.out l);obtain⟨z0,R,O,T,z1⟩:=t.out Z l;have HZ:=aH L;clear L l M A V t s;(go_wp2_with fail);refine R.mono ?_;rintro e h ⟨rfl,rfl⟩;go_wp2_with fail
  try
   with_reducible refine O.mono ?_
   rintro e h ⟨rfl,rfl⟩;(go_wp2_with fail);refine T.mono ?_;rintro e h ⟨rfl,rfl⟩;go_wp2
  go_ret;exact⟨⟨_,rfl⟩,HZ.out⟩
end Go.Proofs.YtpopikndggffaaaGreatDoor
