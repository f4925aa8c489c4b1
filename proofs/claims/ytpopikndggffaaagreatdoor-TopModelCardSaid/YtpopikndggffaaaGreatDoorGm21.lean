/- TOP, part 21. -/
import Derived.Maps.Own
import Derived.Maps.OwnOps
import Derived.Shelf.Spec.SlicesGrow
import Derived.Test.YtpopikndggffaaaGreatDoorGm12
import Derived.Test.YtpopikndggffaaaGreatDoorGm19
namespace Go.Proofs.YtpopikndggffaaaGreatDoor
set_option linter.all false
set_option maxRecDepth 100000
set_option maxHeartbeats 16000000
open Go.RowKit Go.Maps Tryz
variable{i j k m n:Nat}{w x y:aI}{D:aM}{u v:aN}{K:bK->Nat}{H:bK->aN}{G:cT}
def ai7(h:kD w k n i G D.bP false v)(B:bM w k n m D K H)(O:k<=w.heap.size)(E:D.down=false):
 Calls prog 100 #[.pointer (some ⟨i,0,none⟩)] w (LOp k n m i D.bP v (.int .i64 (fY G D).1) (fY G D).1 (fY G D).2.1 (fY G D).2.2 w):=by
  have F:=LW h B E;have⟨N,M⟩:=aA h B;clear h B;unfold LOp;have b:=λ(x:aI)(P:kD x k n i G D.bP false v)(C:bM x k n m D K H)(A:k<=x.heap.size)=>aG7 P C A;obtain⟨r,L⟩:∃r,r=fY G D:=⟨_,rfl⟩;rw[<-L]at b|-;clear L;obtain⟨Q,S,T⟩:=r;go_in;(go_wp2_with fail);refine F.mono ?_;rintro e R ⟨rfl,a⟩;have l:=N.out.next a;have c:=M.out.next a;have s:=b R l c (aL O a.size);clear F b l c;(go_wp2_with fail);refine s.mono ?_;rintro e U ⟨rfl,⟨I,J,d⟩,o,g⟩;have q:=Y7 o d Q;have u:=aH ((sA.cQ a k m i v).trans (kI.refl _ _) g);clear d o g s;(go_wp2_with fail);refine q.mono ?_;rintro e V ⟨rfl,f,p,j⟩;have⟨t,z,y⟩:=aB f p (u.out.trans (kI.refl _ _) j);clear f p j q;go_wp2;go_ret;exact⟨rfl,⟨_,_,t.out⟩,⟨_,_,z.out,kI.refl _ _,λh=>cC h⟩,y.out⟩
variable{b:Bool}
def kD.aX7(h:kD w k n i G j b v)(E:bM w k n m D K H)(o:Obj)(h6:Nat)(hn:h6<=1048576)(S:G.bW.length<200)
 (l:x.ownsRow k 3 1 u (G.bW+1) (gJ G.bW++[.int .i64 h6])) (y:(w.alloc o).grownBy x v.ownBlock) (Q:u.ownBlock=v.ownBlock\/u.ownBlock=some (w.alloc o).heap.size) :
 Row x i 171 [zp n,j,b,v,G.sure]/\kD (x.setCell (zp i 3) u) k n i {G with bW:=G.bW++[h6]} j b u/\bM (x.setCell (zp i 3) u) k n m D K H/\sA k m i v w (x.setCell (zp i 3) u)/\kI w v u:=by
  have r:w.heap.size<=(w.alloc o).heap.size:=by rw[bC];omega
  have J:∀h0,v.ownBlock=some h0->h0≠i:=λh0 a d=>by subst d;exact iE.2.2 (dI h.row (dZ h.own a))
  have U:∀h0,v.ownBlock=some h0->n≠h0:=λh0 a=>oT h.eD (dZ h.own a) (by decide);have R:n≠i:=oT h.eD h.row (by decide);have M:∀h0,h0<w.heap.size->h0≠i->v.ownBlock≠some h0->(x.setCell ⟨i,3,none⟩ u).heap[h0]?=w.heap[h0]?:=λh0 c A V=>by rw[aV _ _ _ _ A,y.block h0 (aW c r) (λa=>V a.symm)];exact mM w o h0 c
  have q:kI w v u:=λh0 a=>by
   rcases Q with d|d
   .exact .inl (by rw[<-d];exact a)
   rw[d]at a;cases a;exact .inr r
  have W:Row x i 171 _:=(h.row.alloc o).grown y (λa=>J i a.symm rfl);have f:=M n (mV h.eD).lt R (λa=>U n a rfl);have⟨Y,Z⟩:=kC (n:=(x.setCell ⟨i,3,none⟩ u).heap.size+1) f h.eD;have I:∀h0,u.ownBlock=some h0->h0≠i:=λh0 a=>by
   rcases q h0 a with d|d
   .exact J h0 d
   have:=h.row.lt;omega
  refine⟨W,⟨?_,h.low,?_,λh0 a ho=>?_,Y,?_,λz L=>?_,h.sure⟩,E.far λh0 c e=>M h0 c (λa=>?_) (λa=>?_),⟨y.os,y.tape,y.output,aL r (by simpa using y.size),λh0 c e=>M h0 c (λa=>?_) (λa=>?_),λh0 f=>kC (M h0 (mV f).lt (oT f h.row (by decide)) (λa=>oT f (dZ h.own a) (by decide) rfl)) f⟩,q⟩
  .exact W.set 3 u
  .show(x.setCell ⟨i,3,none⟩ u).ownsRow k _ 1 u (G.bW++[h6]).length (gJ (G.bW++[h6]));rw[BI,aP];exact fG l λh0 a=>aV _ _ _ _ (I h0 a)
  .have c:h0<(x.setCell ⟨i,3,none⟩ u).heap.size+1:=by have:=jG l h0 a;simp;omega
   have F:=Z h0 c ho;rcases q h0 a with d|d
   .exact h.apart h0 d F
   obtain⟨s,kv,A,-,O⟩:=E.row;have⟨v9,B,P⟩:=F;rw[A.zc9]at B;cases B;have:=(O.row P).1.lt;omega
  .show(G.bW++[h6]).length<=200;rw[aP];simp;omega
  .rcases cE.1 L with L|L
   .exact h.small z L
   simp at L;omega
  .subst a;rcases e with e|⟨C,t,fr,g,T⟩|e
   .exact E.pX h.row e
   .obtain⟨X,N,p,-⟩:=h.row;rw[p]at g;cases g;exact iE.1 T
   have⟨s,kv,A,V,O⟩:=E.row;have⟨v9,B,P⟩:=e;rw[A.zc9]at B;cases B;exact iE.2.2 (dI h.row (O.row P).1)
  .rcases e with e|⟨C,t,fr,g,T⟩|e
   .exact E.pX (dZ h.own a) e
   .obtain⟨X,N,p,-⟩:=dZ h.own a;rw[p]at g;cases g;exact iE.2.1 T
   exact h.apart h0 a e
  .rcases e with e|⟨-,-,d,-⟩
   .have:=h.low;omega
   exact d a
  rcases e with e|⟨-,-,-,d⟩
  .have:=dE h.own h0 a;omega
  exact d a
def bQ0(h:kD w k n i G j false v)(hd:bM w k n m D K H)(hb:k<=w)(hj e:Nat)(s:aT)(hn:hj<=1000000)(he:e<=s)(hs:s.size<=1048576)(C:G.bW.length<200):
 Calls prog 177 #[zp i,hj,s,e] w λx w'=>x=.returned (.int .i64 (uV D hj (lb s) e G.bW).1)/\(∃K H,bM w' k n m (uV D hj (lb s) e G.bW).2.2 K H)/\(∃v',kD w' k n i {G with bW:=(uV D hj (lb s) e G.bW).2.1} j false v'/\kI w v v')/\sA k m i v w w':=by
  have HC:=λx:aI=>qR (hj:Int) x ⟨by omega,by omega⟩;have⟨HH,HD⟩:=aA h hd;by_cases t:e=0
  .have L:uV D hj (lb s) e G.bW=((D.delete (gZ hj)).1,G.bW,(D.delete (gZ hj)).2):=(by unfold uV;rw[aU t]);have f:=λ(x:aI)(hx:bM x k n m D K H)(A:k<=x.heap.size)=>uY hx (lD 99 (hj:Int)) (jM _ _) A;rw[tQ]at f;rw[L];subst t;generalize D.delete (gZ hj)=r at f|-;clear L h hd;unfold rI at f;go_in;(go_wp2_with fail);go_call HC _ as x w1 ⟨rfl,a⟩;have c:=HH.next a;have d:=HD.next a;have c0:=c.row.rY;(go_wp2_with fail);go_call f w1 d (aL hb a.size) as x w2 ⟨rfl,⟨h9,ha,h4⟩,W⟩;have⟨h6,h7,h5⟩:=aB (c.xC d W) h4 ((gS.cQ a k m).trans W);clear h4 W c d a f c0;go_wp2;go_ret;exact⟨rfl,⟨_,_,h7⟩,⟨_,h6,kI.refl _ _⟩,sA.lX h5 _ _⟩
  have⟨i0,hc,hf,hg,hh⟩:=info_parts oK;have e0:¬(e:Int)=0:=(by omega);have E:=h.own;have Y:=h.row.zf3;by_cases h3:e<s.size
  .have L:uV D hj (lb s) e G.bW=((D.FP (gZ hj) ((lb s).take e)).1,G.bW++[e],(D.FP (gZ hj) ((lb s).take e)).2):=(by unfold uV;rw[aQ t,aU (by rw[bN];exact h3)]);have f:=λ(x:aI)(K:bK->Nat)(H:bK->aN)(hx:bM x k n m D K H)(A:k<=x.heap.size)=>bQ2 hx A (lD 99 (hj:Int)) (s.extract 0 e) (jM _ _) (by rw[eB,eK];simp;omega);have h2:lb (s.extract 0 e)=(lb s).take e:=(by rw[eB,gF];simp);rw[tQ,h2]at f;rw[L];generalize D.FP (gZ hj) ((lb s).take e)=r at f|-;have⟨r1,r2⟩:=r;have i1:(e:Int)<s.size:=(by omega);have i2:(e:Int)<=s.size:=(by omega);have i3:(0:Int)<=e:=(by omega);clear L h hd E Y t h2;unfold rI at f;go_in;(go_wp2_with fail);go_call HC _ as x w1 ⟨rfl,a⟩;have c:=HH.next a;have d:=HD.next a;have h8:=aL hb a.size;have c3:=c.row.zc3;have⟨u,y,O⟩:=aB a c d;clear c d a;(go_wp2_with (at_builtin;refine R7 oK underlying33 y.own rfl rfl rfl rfl rfl (by omega) (by omega) ?_;intro v2 w2 b B g;obtain⟨N,U,rfl,-⟩:=id (Reads.dC b);have⟨M,Z,q3,q4,q5⟩:=y.aX7 O _ e (by omega) C b B g;have Y:=M.zf3;have c9:=M.zc3;have Q:=aH (And.intro Z (And.intro q3 (And.intro q4 q5)));clear M Z q3 q4 q5 b B g));have l:=Q.zz.1;have p:=Q.zz.2.1;have⟨o,z⟩:=aA ((sA.cQ u k m i v).trans (kI.refl _ _) Q.2.2.1) (show kI w v (.slice N (G.bW.length+1) U)from λhi hk=>(Q.2.2.2 hi hk).imp id (λh=>aL u.size h));generalize w2.setCell ⟨i,3,none⟩ (.slice N (G.bW.length+1) U)=w3 at l p o|-;have V:k<=w3.heap.size:=aL hb o.size;have z0:∀x:dY w3,x.it.cell? ⟨i,0,none⟩=some (.pointer (some ⟨n,0,none⟩)):=λx=>(l.next x.ok).row.rY;have⟨R,J⟩:=aA l p;clear l p Q c3 Y c9;refine iS (by kernel_rfl) (by kernel_rfl) (by kernel_rfl) (by kernel_rfl) (by kernel_rfl) ?_;simp only[List.dropLast,List.drop,List.length];(repeat (first|go_big_quiet_skip|(go_big_quiet_want;go_big_quiet_op;go_big_quiet_on)));refine wpQuiet_nil ?_;rintro _ ⟨⟨wq,I⟩,rfl⟩;clear z0;have X:=J.next I;(go_wp2_with fail);go_call f _ _ _ X (aL V I.size) as x w5 ⟨rfl,⟨h0,h1,F⟩,q⟩;have⟨S,T,P⟩:=aB ((R.next I).xC X q) F (o.trans z (sA.lX ((gS.cQ I k m).trans q) i (.slice N (G.bW.length+1) U)));clear F q X f I;go_wp2;go_ret;exact⟨rfl,⟨_,_,T⟩,⟨_,S,z⟩,P⟩
  have L:uV D hj (lb s) e G.bW=((D.sync (gZ hj)).1,G.bW++[e],(D.sync (gZ hj)).2):=(by unfold uV;rw[aQ t,aQ (by rw[bN];exact h3)]);have f:=λ(x:aI)(K:bK->Nat)(H:bK->aN)(hx:bM x k n m D K H)(A:k<=x.heap.size)=>FO hx (lD 99 (hj:Int)) (jM _ _) A;rw[tQ]at f;rw[L];generalize D.sync (gZ hj)=r at f|-;have⟨r1,r2⟩:=r;have i1:¬(e:Int)<s.size:=(by omega);clear L h hd E Y t;unfold rI at f;go_in;go_wp2_with fail
  go_call HC _ as x w1 ⟨rfl,a⟩;have c:=HH.next a;have d:=HD.next a;have h8:=aL hb a.size;have c3:=c.row.zc3;have⟨u,y,O⟩:=aB a c d;clear c d a;(go_wp2_with (at_builtin;refine R7 oK underlying33 y.own rfl rfl rfl rfl rfl (by omega) (by omega) ?_;intro v2 w2 b B g;obtain⟨N,U,rfl,-⟩:=id (Reads.dC b);have⟨M,Z,q3,q4,q5⟩:=y.aX7 O _ e (by omega) C b B g;have Y:=M.zf3;have b0:=M.rY;have b1:=Z.row.rY;have c9:=M.zc3;have Q:=aH (And.intro Z (And.intro q3 (And.intro q4 q5)));clear M Z q3 q4 q5 b B g));have l:=Q.zz.1;have p:=Q.zz.2.1;have⟨o,z⟩:=aA ((sA.cQ u k m i v).trans (kI.refl _ _) Q.2.2.1) (show kI w v (.slice N (G.bW.length+1) U)from λhi hk=>(Q.2.2.2 hi hk).imp id (λh=>aL u.size h));clear b1;generalize w2.setCell ⟨i,3,none⟩ (.slice N (G.bW.length+1) U)=w3 at l p o|-;have V:k<=w3.heap.size:=aL hb o.size;have⟨R,J⟩:=aA l p;clear l p Q c3 Y c9 b0;go_wp2_with fail
  go_call f _ _ _ J V as x w5 ⟨rfl,⟨h0,h1,F⟩,q⟩;have⟨S,T,P⟩:=aB (R.xC J q) F (o.trans z (sA.lX q i (.slice N (G.bW.length+1) U)));clear F q f;go_wp2;go_ret;exact⟨rfl,⟨_,_,T⟩,⟨_,S,z⟩,P⟩
def aS3(l:bK):∀k a,a<=l.length->(qG l k a).2<=l.length:=by
 intro k;induction k with
 |zero=>intro a h;exact h
 |succ k c=>
  intro a h;by_cases b:recAt l a=true
  .rw[B8 b];exact c _ (nU b).2.2
  rw[pI (by simpa using b)];exact h
def cj9(l:bK)(n:Int):ad8 l n<=l.length:=by
 unfold ad8;split
 .unfold P8;split
  .exact bO _
  rename_i h;exact aS3 l _ _ (by omega)
 exact bO _
def cg6(h:bM w k n m D K H)(b:Nat):(D.load b).1.2<=(D.load b).1.1.length/\(D.load b).1.1.length<=1048576:=by
 unfold aM.load;split
 .exact⟨aO _,by simp⟩
 rename_i f a;split
 .exact⟨cj9 _ _,(h.data a).2⟩
 exact⟨aO _,by simp⟩
def aG9(h:kD w k n i G j false v)(hd:bM w k n m D K H)(hb:k<=w.heap.size)(ha:D.down=false)(hG:G.bW=[])(a:Nat)(hm:a<=200):
 Calls prog 118 #[.pointer (some ⟨i,0,none⟩),.int .i64 a] w λx w'=>x=.returned (.int .i64 (mP D a a 0 []).1)/\(∃K H,bM w' k n m (mP D a a 0 []).2.2 K H)/\(∃N,kD w' k n i {G with bW:=(mP D a a 0 []).2.1} j false N/\kI w v N)/\sA k m i v w w':=by
  have⟨HH,HD,h5⟩:=aB h hd (λho=>cg6 hd ho);have P:=λ(x:aI)(O:bM x k n m D K H)(ho:Nat)(hn:ho<=1000000)=>bQ1 O ha ho hn;obtain⟨R,hR⟩:∃R,R=mP D a a 0 []:=⟨_,rfl⟩;rw[<-hR];have⟨HR,HG⟩:=aA hR (show G={G with bW:=[]} from by cases G;simp at hG;rw[hG]);clear h hd hR hG;go_in;go_wp2_with fail
  go_loopw [4,5,6,7,8,10] (λ_ _ _ _ _ hh wr=>∃(hl:Nat)(u:List Nat)(N:aN),hl<=a/\hh=.int .i64 hl/\u.length=hl/\R=mP D a (a - hl) hl u/\kD wr k n i {G with bW:=u} j false N/\kI w v N/\bM wr k n m D K H/\sA k m i v w wr) (λ_ _ _ _ _ hh _=>a - (intOf hh).toNat)
  .exact⟨0,[],v,bO _,rfl,rfl,HR.out,by rw[<-HG.out];exact HH.out,kI.refl _ _,HD.out,sA.refl _ _ _ _ _⟩
  obtain⟨hl,u,N,hk,rfl,h1,f,C,L,A,B⟩:=hrel;by_cases hg:hl<a
  .have i1:(hl:Int)<a:=(by omega);obtain⟨hi,hj⟩:∃hi,a - hl=hi+1:=⟨a - hl - 1,by omega⟩;rw[hj]at f;unfold mP at f;have Y:=h5.out hl;have p:=P wr A hl (by omega);obtain⟨⟨⟨s,e⟩,er⟩,hq⟩:∃q,q=D.load hl:=⟨_,rfl⟩;rw[<-hq]at f Y p;clear hq;simp only at f Y p;have h9:k<=wr.heap.size:=aL hb B.size;have c0:=C.row.cell 0 (by simp);simp only[bE]at c0;have⟨I,E,F,b,HK⟩:=aD C A B L f;clear f C A B L P;obtain⟨T,hT⟩:∃T,T=bs s:=⟨_,rfl⟩;have hf:T.size=s.length:=(by rw[hT,eK]);rw[<-hT]at p;have HT:=aH hT;clear hT;by_cases U:er=0
   .subst U;(go_wp2_with fail);refine p.mono ?_;rintro x w2 ⟨rfl,z,d⟩;have⟨y,l,g⟩:=aB z (I.out.xC E.out d) (F.out.trans b.out (sA.lX d i N));have h7:k<=w2.heap.size:=aL h9 d.size;clear z d p;by_cases o:hl+1=a
    .have i2:(a:Int)-1=(hl:Int):=(by omega);have J:=bQ0 l.out y.out h7 hl e T (by omega) (by omega) (by omega) (by show u.length<200;omega);rw[HT.out,gF]at J;rw[<-HT.out]at J;have c:=aH (show R=uV D hl s e u from by rw[HK.out,aQ (by simp),aU o]);(go_wp2_with fail);refine J.mono ?_;rintro x w3 ⟨rfl,⟨hc,he,S⟩,⟨v3,X,h0⟩,V⟩;have⟨h2,h4,h6,h3⟩:=aC S X (b.out.trans h0 (by have:=g.out.size;omega) trivial) (g.out.trans b.out V);clear S X h0 V J;go_wp2;go_ret;rw[c.out];exact⟨rfl,⟨_,_,h2.out⟩,⟨_,h4.out,h6.out⟩,h3.out⟩
    have i2:¬(hl:Int)=(a:Int)-1:=(by omega);by_cases t:e=0\/e<s.length
    .have c:=aH (show R=(63,u,D)from by rw[HK.out,aQ (by simp),aQ o,aU t]);rcases(show e=0\/(e≠0/\e<T.size)from by omega)with rfl|⟨g1,g2⟩
     iterate 2
      ·(try ((have g3:¬(e:Int)=0:=by omega);(have g4:(e:Int)<T.size:=by omega)));clear t;go_wp2;go_ret;rw[c.out];exact⟨rfl,⟨_,_,y.out⟩,⟨_,l.out,b.out⟩,g.out⟩
    have c:=aH (show R=mP D a hi (hl+1) (u++[e])from by rw[HK.out,aQ (by simp),aQ o,aQ t]);have g3:¬(e:Int)=0:=(by omega);have g4:¬(e:Int)<T.size:=(by omega);have c3:=l.out.row.cell 3 (by simp);simp only[bX,bE]at c3;clear t;go_wp2_with (at_builtin;refine R7 (n:=u.length) (xs:=gJ u) oK underlying33 l.out.own rfl rfl rfl rfl rfl (by omega) (by omega) ?_;intro v2 w4 r W M;obtain⟨A2,c2,rfl,-⟩:=id (Reads.dC r);obtain⟨q1,q2,q3,q4,q5⟩:=l.out.aX7 y.out _ e (by omega) (by show u.length<200;omega) r W M;have f3:=q1.frozen 3 (by simp);have c9:=q1.cell 3 (by simp);simp only[bX,bE]at c9;have Q:=aH (And.intro q2 (And.intro q3 (And.intro q4 q5)));clear q1 q2 q3 q4 q5 r W M)
    .exfalso;rename_i O;rcases O with O|O
     .simp at O;omega
     omega
    have Z:=g.out.size;have Q2:=Q.out;rw[h1]at Q2;have Q3:=aH Q2;clear Q2 Q;refine⟨⟨hl+1,u++[e],_,by omega,by go_num,by simp[h1],by rw[c.out,show a-(hl+1)=hi from by omega],Q3.out.1,?_,Q3.out.2.1,g.out.trans b.out Q3.out.2.2.1⟩,by simp[intOf];omega⟩;intro q hq;rcases Q3.out.2.2.2 q hq with h8|h8
    .exact b.out q h8
    exact .inr (aL Z h8)
   (go_wp2_with fail);refine p.mono ?_;rintro x w2 ⟨rfl,z,d⟩;have⟨y,l,g,c⟩:=aC z (I.out.xC E.out d) (F.out.trans b.out (sA.lX d i N)) (show R=(er,u,D)from by rw[HK.out,aU U]);clear z d p;go_wp2;go_ret;rw[c.out];exact⟨rfl,⟨_,_,y.out⟩,⟨_,l.out,b.out⟩,g.out⟩
  obtain rfl:hl=a:=(by omega);have⟨c,I,E,F,b⟩:=aD (show R=(0,u,D)from by rw[f,gM];rfl) C A B L;clear C A B L f;go_wp2;go_ret;rw[c.out];exact⟨rfl,⟨_,_,E.out⟩,⟨_,I.out,b.out⟩,F.out⟩
def sA.fresh(a:gS n k x w)(b:sA n k m v w y)(o:x<=m)(l:∀p,v.ownBlock=some p->x.heap.size<=p):sA n k x zs x y:=
 ⟨b.os.trans a.os,b.tape.trans a.tape,b.output.trans a.output,aL a.size b.size,λp f d=>by
  have e:=a.block p f (d.imp id λc=>⟨c.1,c.2.1⟩);refine(b.block p (aW f a.size) (d.imp id λc=>⟨c.1,λ⟨C,t,g,h,i⟩=>c.2.1 ⟨C,t,g,by rw[<-e];exact h,i⟩,by omega,λj=>?_⟩)).trans e;have:=l p j;omega,ZX.trans a.kept b.kept a.size⟩
def sA.bT4(a:sA n k x zs x w)(b:sA n k m v w y)(o:x<=m)(l:∀p,v.ownBlock=some p->x.heap.size<=p):sA n k x zs x y:=
 ⟨b.os.trans a.os,b.tape.trans a.tape,b.output.trans a.output,aL a.size b.size,λp f d=>by
  have e:=a.block p f d;refine(b.block p (aW f a.size) (d.imp id λc=>⟨c.1,λ⟨C,t,g,h,i⟩=>c.2.1 ⟨C,t,g,by rw[<-e];exact h,i⟩,by omega,λj=>?_⟩)).trans e;have:=l p j;omega,ZX.trans a.kept b.kept a.size⟩
def aS9(h:D.down=false)(a:D.gE.1=0):D.gE.2.down=false:=by
 unfold aM.gE aM.delete aM.change at a|-;rw[h]at a|-;simp only[bU,dP]at a|-;by_cases c:(bR D.files dG).isSome=true
 .rw[aU c]at a|-;have⟨f,d⟩:=Option.isSome_iff_exists.1 c;rw[d]at a|-;simp only at a|-;by_cases b:D.qT=true
  .rw[aU b]at a;simp at a
  rw[aQ b];exact h
 rw[aQ c];exact h
def bN8(o:Option cT)(L:Nat)(e:Int):aN:=match o with
 |none=>.tuple #[.pointer none,.int .i64 e]
 |some _=>.tuple #[.pointer (some ⟨L,0,none⟩),.int .i64 e]
def bQ4(hd:bM w k n m D K H)(hb:k<=w):
 Calls prog 76 #[zp n] w λx O=>∃L,x=.returned (bN8 (jF D).2.1 L (jF D).1)/\(∃K H,bM O k n m (jF D).2.2 K H)/\(∀G,(jF D).2.1=some G->w.heap.size<=L/\∃v,kD O k n L G D.gE.2.bP false v/\∀hy,v.ownBlock=some hy->w.heap.size<=hy)/\sA k m w zs w O:=by
  have HU:=HY hd;have HD:=aH hd;by_cases hg:D.down=true
  .have hO:jF D=(61,none,D):=(by unfold jF;rw[aU hg]);have hS:=uX hd ⟨#[]⟩ (by show 0<=_;unfold maxLen;omega);rw[show D.size (lb ⟨#[]⟩)=(0,61)from by unfold aM.size;rw[aU hg]]at hS;rw[hg]at HU;have HO:=aH hO;clear hd hO;go_in;(go_wp2_with fail);go_call HU as x O ⟨rfl,rfl⟩;(go_wp2_with fail);go_call hS as x O ⟨rfl,rfl⟩;go_wp2;go_ret2;rw[HO.zz];exact⟨0,rfl,⟨_,_,HD⟩,(λ_ h=>by cases h),sA.refl _ _ _ _ _⟩
  have N:D.down=false:=(by simpa using hg);have hS:=uX hd aF4 AW;rw[M0]at hS;have d:=uY hd aF4 AW hb;rw[M0]at d;unfold rI at d;rw[N]at HU;have l:jF D=if D.gE.1≠0 then(D.gE.1,none,D.gE.2)else if D.gE.2.count.2=false then(63,none,D.gE.2)else if(mP D.gE.2 D.gE.2.count.1 D.gE.2.count.1 0 []).1≠0 then((mP D.gE.2 D.gE.2.count.1 D.gE.2.count.1 0 []).1,none,(mP D.gE.2 D.gE.2.count.1 D.gE.2.count.1 0 []).2.2)else(0,some ⟨(mP D.gE.2 D.gE.2.count.1 D.gE.2.count.1 0 []).2.1,jJ (mP D.gE.2 D.gE.2.count.1 D.gE.2.count.1 0 []).2.1⟩,(mP D.gE.2 D.gE.2.count.1 D.gE.2.count.1 0 []).2.2):=by
   conv=>lhs;unfold jF
   rw[aQ (by rw[N];simp)]
  have y:=aS9 N;rcases hf:bR D.files dG with _|f
  .have e1:D.size dG=(0,4):=(by unfold aM.size;rw[N,hf];rfl);have e2:D.gE=(0,D):=(by unfold aM.gE;rw[hf];rfl);rw[e1]at hS;rw[e2]at l y|-;have⟨c,Z⟩:=kX D;have Q:jF D=if c.count.2=false then(63,none,c)else if(mP c c.count.1 c.count.1 0 []).1≠0 then((mP c c.count.1 c.count.1 0 []).1,none,(mP c c.count.1 c.count.1 0 []).2.2)else(0,some ⟨(mP c c.count.1 c.count.1 0 []).2.1,jJ (mP c c.count.1 c.count.1 0 []).2.1⟩,(mP c c.count.1 c.count.1 0 []).2.2):=(by rw[l,aQ (by simp),Z]);have he:c.down=false:=(by rw[Z];exact N);have t:bM w k n m c K H:=(by rw[Z];exact HD);have u:=gS.refl k m w;rw[show((0,D):Int×aM).2.bP=c.bP from by rw[Z]];clear hd d l y e1 e2 Z hf;go_in;(go_wp2_with fail);go_call HU as x O ⟨rfl,rfl⟩;(go_wp2_with fail);go_call hS as x O ⟨rfl,rfl⟩;have⟨A,T⟩:=aA t u;clear t u;have F:=ai5 A;have h0:∀a b,c.count=(a,b)->b=true->a<=200:=λa b h1 h2=>by unfold aM.count at h1;rw[Prod.mk.injEq]at h1;rw[<-h1.2,bL]at h2;rw[<-h1.1];simpa using h2.2
   obtain⟨⟨mn,ok⟩,hq⟩:∃q,q=c.count:=⟨_,rfl⟩;have ho:=h0 mn ok hq.symm;rw[<-hq]at F Q;clear h0 hq;(go_wp2_with fail);go_call F as x z ⟨rfl,C⟩;have h3:=A.next C;have I:=T.trans (gS.cQ C k m);have s:k<=z.heap.size:=aL hb I.size;have⟨o,e⟩:=aA h3 I;clear F C h3 I;cases ok with
   |false=>have p:=aH (show jF D=(63,none,c)from Q.trans (aU rfl));go_wp2;go_ret2;rw[p.zz];exact⟨0,rfl,⟨_,_,o⟩,(λ_ h=>by cases h),sA.lX e _ _⟩
   |true=>
    have ha:=ho rfl;have hc:=KM o;have g:=aH ((aY z.heap.size z).alloc gC (.cells #[.pointer (some ⟨n,0,none⟩),.int .i64 (c.bP:Nat),.bool false,.slice none 0 0,.int .i64 0] 171));have h6:kD (z.alloc (.cells #[.pointer (some ⟨n,0,none⟩),.int .i64 (c.bP:Nat),.bool false,.slice none 0 0,.int .i64 0] 171)) k n z.heap.size ⟨[],0⟩ c.bP false (.slice none 0 0):=by obtain⟨hp,kv,r9,-⟩:=(o.next g).row;obtain⟨C9,hi,hm,-⟩:=id r9;exact⟨Row.new z #[.pointer (some ⟨n,0,none⟩),.int .i64 (c.bP:Nat),.bool false,.slice none 0 0,.int .i64 0] 171,s,bQ _ _ _ _,(λhy Y=>by simp[Value.ownBlock]at Y),⟨C9,hi,hm⟩,bO _,(λhz hn=>by cases hn),bO _⟩
    have M:=aG9 h6 (o.next g) (aL s g.size) he rfl mn ha;have⟨R,hR⟩:=kX (mP c mn mn 0 []);have p:jF D=if R.1≠0 then(R.1,none,R.2.2)else(0,some ⟨R.2.1,jJ R.2.1⟩,R.2.2):=(by rw[Q,aQ (by simp),hR]);rw[<-hR]at M;clear hR Q h6;have⟨R1,R2,R3⟩:=R;have S:=aH p;clear p;(go_wp2_with fail);go_call hc as x O ⟨rfl,rfl⟩;(go_wp2_with fail);go_call M as x w4 ⟨rfl,⟨ht,hv,h4⟩,⟨v4,i,h8⟩,J⟩;have⟨U,P,V⟩:=aB (sA.fresh (e.trans (gS.cQ g k m)) J (aL e.size gC) (λhy hk=>by simp[Value.ownBlock]at hk)) h4 i;have X:=aH (show∀hy,v4.ownBlock=some hy->w.heap.size<=hy from λhy hk=>by
     rcases h8 hy hk with Y|Y
     .simp[Value.ownBlock]at Y
     exact aL e.size (aL g.size Y))
    have hx:=J.size;clear h4 h8 J M hc;by_cases B:R1=0
    .subst B;have hE:=Q6 V;have hl:=at7 i.many i.small;clear i;(go_wp2_with fail);go_call hE as x w5 ⟨rfl,E⟩;have j:=V.next E;have h5:=P.next E;have f4:=j.row.zf4;have c4:=j.row.zc4;have⟨W,hh⟩:=aA (VV j h5 4 (.int .i64 (jJ R2:Nat))) (j.bJ5 (jJ R2) hl);clear j h5 hE;go_wp2;go_ret2;rw[S.zz];have h7:=e.size;have hj:=(sA.cQ E k m z.heap.size v4).trans (kI.refl _ _) W.2.1;exact⟨z.heap.size,rfl,⟨_,_,W.1⟩,(λG h=>by cases h;exact⟨h7,v4,hh,X⟩),sA.bT4 U hj h7 X⟩
    clear i;go_wp2;go_ret2;rw[S.zz];simp only[aU B,ne_eq,B,not_false_iff];exact⟨0,rfl,⟨_,_,P⟩,(λ_ h=>by cases h),U⟩
  have e1:D.size dG=(f.data.length,0):=(by unfold aM.size;rw[N,hf];rfl);have e2:D.gE=D.delete dG:=(by unfold aM.gE;rw[hf];rfl);rw[e1]at hS;rw[e2]at l y|-;obtain⟨⟨r1,c⟩,hr⟩:∃r,r=D.delete dG:=⟨_,rfl⟩;rw[<-hr]at d l y|-;simp only at l y d|-;by_cases hw:r1=0
  .subst hw;have Q:=l.trans (aQ (by simp));have he:c.down=false:=y rfl;clear hd l y e1 e2 hf hr;go_in;(go_wp2_with fail);go_call HU as x O ⟨rfl,rfl⟩;(go_wp2_with fail);go_call hS as x O ⟨rfl,rfl⟩;(go_wp2_with fail);go_call d as x w1 ⟨rfl,⟨hs,hu,t⟩,u⟩;clear d;have⟨A,T⟩:=aA t u;clear t u;have F:=ai5 A;have h0:∀a b,c.count=(a,b)->b=true->a<=200:=λa b h1 h2=>by unfold aM.count at h1;rw[Prod.mk.injEq]at h1;rw[<-h1.2,bL]at h2;rw[<-h1.1];simpa using h2.2
   obtain⟨⟨mn,ok⟩,hq⟩:∃q,q=c.count:=⟨_,rfl⟩;have ho:=h0 mn ok hq.symm;rw[<-hq]at F Q;clear h0 hq;(go_wp2_with fail);go_call F as x z ⟨rfl,C⟩;have h3:=A.next C;have I:=T.trans (gS.cQ C k m);have s:k<=z.heap.size:=aL hb I.size;have⟨o,e⟩:=aA h3 I;clear F C h3 I;cases ok with
   |false=>have p:=aH (show jF D=(63,none,c)from Q.trans (aU rfl));go_wp2;go_ret2;rw[p.zz];exact⟨0,rfl,⟨_,_,o⟩,(λ_ h=>by cases h),sA.lX e _ _⟩
   |true=>
    have ha:=ho rfl;have hc:=KM o;have g:=aH ((aY z.heap.size z).alloc gC (.cells #[.pointer (some ⟨n,0,none⟩),.int .i64 (c.bP:Nat),.bool false,.slice none 0 0,.int .i64 0] 171));have h6:kD (z.alloc (.cells #[.pointer (some ⟨n,0,none⟩),.int .i64 (c.bP:Nat),.bool false,.slice none 0 0,.int .i64 0] 171)) k n z.heap.size ⟨[],0⟩ c.bP false (.slice none 0 0):=by obtain⟨hp,kv,r9,-⟩:=(o.next g).row;obtain⟨C9,hi,hm,-⟩:=id r9;exact⟨Row.new z #[.pointer (some ⟨n,0,none⟩),.int .i64 (c.bP:Nat),.bool false,.slice none 0 0,.int .i64 0] 171,s,bQ _ _ _ _,(λhy Y=>by simp[Value.ownBlock]at Y),⟨C9,hi,hm⟩,bO _,(λhz hn=>by cases hn),bO _⟩
    have M:=aG9 h6 (o.next g) (aL s g.size) he rfl mn ha;have⟨R,hR⟩:=kX (mP c mn mn 0 []);have p:jF D=if R.1≠0 then(R.1,none,R.2.2)else(0,some ⟨R.2.1,jJ R.2.1⟩,R.2.2):=(by rw[Q,aQ (by simp),hR]);rw[<-hR]at M;clear hR Q h6;have⟨R1,R2,R3⟩:=R;have S:=aH p;clear p;(go_wp2_with fail);go_call hc as x O ⟨rfl,rfl⟩;(go_wp2_with fail);go_call M as x w4 ⟨rfl,⟨ht,hv,h4⟩,⟨v4,i,h8⟩,J⟩;have⟨U,P,V⟩:=aB (sA.fresh (e.trans (gS.cQ g k m)) J (aL e.size gC) (λhy hk=>by simp[Value.ownBlock]at hk)) h4 i;have X:=aH (show∀hy,v4.ownBlock=some hy->w.heap.size<=hy from λhy hk=>by
     rcases h8 hy hk with Y|Y
     .simp[Value.ownBlock]at Y
     exact aL e.size (aL g.size Y))
    have hx:=J.size;clear h4 h8 J M hc;by_cases B:R1=0
    .subst B;have hE:=Q6 V;have hl:=at7 i.many i.small;clear i;(go_wp2_with fail);go_call hE as x w5 ⟨rfl,E⟩;have j:=V.next E;have h5:=P.next E;have f4:=j.row.zf4;have c4:=j.row.zc4;have⟨W,hh⟩:=aA (VV j h5 4 (.int .i64 (jJ R2:Nat))) (j.bJ5 (jJ R2) hl);clear j h5 hE;go_wp2;go_ret2;rw[S.zz];have h7:=e.size;have hj:=(sA.cQ E k m z.heap.size v4).trans (kI.refl _ _) W.2.1;exact⟨z.heap.size,rfl,⟨_,_,W.1⟩,(λG h=>by cases h;exact⟨h7,v4,hh,X⟩),sA.bT4 U hj h7 X⟩
    clear i;go_wp2;go_ret2;rw[S.zz];simp only[aU B,ne_eq,B,not_false_iff];exact⟨0,rfl,⟨_,_,P⟩,(λ_ h=>by cases h),U⟩
  have Q:=aH (show jF D=(r1,none,c)from l.trans (aU hw));clear hd l y e1 e2 hf hr;go_in;go_wp2_with fail
  go_call HU as x O ⟨rfl,rfl⟩;go_wp2_with fail
  go_call hS as x O ⟨rfl,rfl⟩;go_wp2_with fail
  go_call d as x w1 ⟨rfl,⟨hs,hu,t⟩,u⟩;have⟨A,T⟩:=aA t u;clear t u d;go_wp2;go_ret2;rw[Q.zz];exact⟨0,rfl,⟨_,_,A⟩,(λ_ h=>by cases h),sA.lX T _ _⟩
def bx7(l:List Nat)(j z:Nat):gJ (l.set j z)=(gJ l).set j (.int .i64 z):=by simp[gJ,MO,ct3]
def kD.cd3{d g:Nat}{q:Nat}(h:kD w m k d G g b (.slice (some ⟨i,0,none⟩) G.bW.length q))(F:bM w m k j D K H)(R z:Nat)(Q:z<=1048576):
 kD (w.setCell ⟨i,R,none⟩ (.int .i64 z)) m k d {G with bW:=G.bW.set R z} g b (.slice (some ⟨i,0,none⟩) G.bW.length q)/\bM (w.setCell ⟨i,R,none⟩ (.int .i64 z)) m k j D K H/\sA m j d (.slice (some ⟨i,0,none⟩) G.bW.length q) w (w.setCell ⟨i,R,none⟩ (.int .i64 z)):=by
  have c:(Value.slice (some ⟨i,0,none⟩) G.bW.length q).ownBlock=some i:=(by simp[Value.ownBlock]);have a:=dZ h.own c;have u:i≠d:=λs=>by subst s;exact iE.2.2 (dI h.row a)
  have v:k≠i:=oT h.eD a (by decide);have p:∀S,S≠i->(w.setCell ⟨i,R,none⟩ (.int .i64 z)).heap[S]?=w.heap[S]?:=λS B=>aV _ _ _ _ B;obtain⟨I,J⟩:=kC (n:=w.heap.size) (p k v) h.eD;refine⟨⟨h.row.of_block (p d (λe=>u e.symm)),h.low,?_,λS e M=>h.apart S e (J S (jG h.own S e) M),I,?_,λx r=>?_,h.sure⟩,F.far λS A f=>p S (λe=>?_),⟨rfl,rfl,rfl,by simp,λS A f=>p S (λe=>?_),λS l=>kC (p S (oT l a (by decide))) l⟩⟩
  .show(w.setCell ⟨i,R,none⟩ (.int .i64 z)).ownsRow m _ 1 _ (G.bW.set R z).length (gJ (G.bW.set R z));rw[bx7,nJ];have E:=(h.own.stored R (.int .i64 z)).1;exact E
  .show(G.bW.set R z).length<=200;rw[nJ];exact h.many
  .rcases ca5 r with r|r
   .exact h.small x r
   omega
  .subst e;rcases f with f|⟨C,t,P,o,N⟩|f
   .exact F.pX a f
   .obtain⟨O,L,y,-⟩:=a;rw[y]at o;cases o;exact iE.2.1 N
   exact h.apart _ c f
  subst e;rcases f with f|⟨-,-,-,s⟩
  .have:=dE h.own _ c;omega
  exact s c
def ba9(h:kD w k n i G j false v)(V:bM w k n m D K H)(hb:k<=w.heap.size)(hi q:Nat)(hn:G.bW.length=hi+1)(hq:G.bW.getD hi 0=q)(r:aT)(hr:q+r.size<=4096):
 Calls prog 142 #[.pointer (some ⟨i,0,none⟩),.int .i64 hi,.string r] w (LOp k n m i j v (.tuple #[.int .i64 ((oU G D hi (lb r)).2.1:Nat),.int .i64 (oU G D hi (lb r)).1]) (oU G D hi (lb r)).1 (oU G D hi (lb r)).2.2.1 (oU G D hi (lb r)).2.2.2 w):=by
  have F:=h.many;rw[hn]at F;obtain⟨A,c,rfl,hh,h4,-⟩:=id (Reads.dC h.own);unfold maxLen at h4;have⟨HH,HD⟩:=aA h V;have a:=aG8 h V r.size (by omega);unfold LOp;by_cases o:yK D r.size=true
  .have I:oU G D hi (lb r)=if(D.append (gZ hi) (lb r)).1≠0 then((D.append (gZ hi) (lb r)).1,0,G,(D.append (gZ hi) (lb r)).2)else(0,hi*4096+q,{G with bW:=G.bW.set hi (q+r.size)},(D.append (gZ hi) (lb r)).2):=by unfold oU;rw[bN,o,hq];rfl
   rw[o]at a;have HC:=λx:aI=>qR (hi:Int) x ⟨by omega,by omega⟩;have l:=λ(x:aI)(hx:bM x k n m D K H)(h3:k<=x.heap.size)=>yX hx (lD 99 (hi:Int)) r (jM _ _) (by omega) h3;rw[tQ]at l;unfold rI at l;obtain⟨⟨r1,r2⟩,U⟩:∃x,x=D.append (gZ hi) (lb r):=⟨_,rfl⟩;rw[<-U]at l I;have u:=aH I;clear I U h V o;go_in;(go_wp2_with fail);refine a.mono ?_;rintro x w1 ⟨rfl,f⟩;have C:=HH.out.next f;have M:=HD.out.next f;have L:=aL hb f.size;have z0:∀x:dY w1,x.it.cell? ⟨i,0,none⟩=some (.pointer (some ⟨n,0,none⟩)):=λx=>(C.next x.ok).row.cell 0 (by simp);have⟨h0,W,p⟩:=aB C M f;clear C M f a;(go_wp2_with fail);refine iS (by kernel_rfl) (by kernel_rfl) (by kernel_rfl) (by kernel_rfl) (by kernel_rfl) ?_;simp only[List.dropLast,List.drop,List.length];(repeat go_big_quiet_step ((go_at_call 109;exact eP _ (HC _))));refine wpQuiet_nil ?_;rintro _ ⟨⟨wq,B⟩,rfl⟩;clear z0;have z:=W.out.next B;have E:=h0.out.next B;(go_wp2_with fail);refine(l _ z (aL L B.size)).mono ?_;rintro e w2 ⟨rfl,⟨h7,ha,t⟩,y⟩;have d:=E.xC z y;have⟨J,he,hc⟩:=aB (sA.lX ((gS.cQ p.out k m).trans ((gS.cQ B k m).trans y)) i (.slice A G.bW.length c)) t d;by_cases S:r1=0
   .subst S;have Y:=aH (show oU G D hi (lb r)=(0,hi*4096+q,{G with bW:=G.bW.set hi (q+r.size)},r2)from u.out.trans (aQ (by simp)));have T:=Reads.dC d.own;obtain⟨b,h6,rfl,-,-,-,s⟩:=T.W1 (by omega);obtain⟨b',R⟩:∃b',(some (⟨b,h6,none⟩:Addr))=some ⟨b',0,none⟩:=by
     rcases d.own.2 with⟨h9,h8⟩|⟨g,hf,hg,h9,-⟩
     .exact absurd h8 (by omega)
     exact⟨g,by cases h9;rfl⟩
    cases R;have h5:G.bW[hi]'(by omega)=q:=by rw[<-hq,b8,aK (by omega)];rfl
    have c4:w2.cell? ⟨b,hi,none⟩=some (.int .i64 q):=by have:=s w2 (aY _ _) hi (by simp;omega);rwa[yO,h5,jB]at this
    have f4:w2.frozen? ⟨b,hi,none⟩=false:=d.own.frozenAt hi;have c3:=d.row.cell 3 (by simp);simp only[bX,bE]at c3;have h2:=aH (d.cd3 t hi (q+r.size) (by omega));rw[hn]at c3;clear t y d z E l T s;go_wp2;go_ret2;rw[Y.out];have HR:=h2.out;exact⟨rfl,⟨_,_,HR.2.1⟩,⟨_,_,HR.1,kI.refl _ _,λ_=>rfl⟩,J.out.trans (kI.refl _ _) HR.2.2⟩
   have Y:=aH (show oU G D hi (lb r)=(r1,0,G,r2)from u.out.trans (aU S));have Q:=Y7 d t r1;clear t y d z E l;(go_wp2_with fail);refine Q.mono ?_;rintro x w3 ⟨rfl,N,P,O⟩;have⟨X,h1,Z⟩:=aB N P (J.out.trans (kI.refl _ _) O);clear N P O Q;go_wp2;go_ret2;rw[Y.out];exact⟨rfl,⟨_,_,X.out⟩,⟨_,_,h1.out,kI.refl _ _,λh=>cC h⟩,Z.out⟩
  have I:oU G D hi (lb r)=(60,0,G,D):=by unfold oU;rw[bN,aU (by simpa using o)]
  rw[show yK D r.size=false from by simpa using o]at a;have u:=aH I;clear I h V o;go_in;(go_wp2_with fail);refine a.mono ?_;rintro x w1 ⟨rfl,f⟩;have p:=aH f;clear f a;go_wp2;go_ret2;rw[u.out];exact⟨rfl,⟨_,_,HD.out.next p.out⟩,⟨_,_,HH.out.next p.out,kI.refl _ _,λ_=>rfl⟩,sA.cQ p.out _ _ _ _⟩
def cs3(h:kD w k n i G j false v)(u:bM w k n m D K H)(C:k<=w.heap.size)(O:Nat)(L:O<=1000000)(g l:Nat)(y:Row w g 70 [.pointer (some ⟨i,0,none⟩)])(z:Row w l 3 [.int .i64 O]):
 Calls prog 207 #[.pointer (some ⟨g,0,none⟩),.pointer (some ⟨l,0,none⟩)] w (rI k n m (D.create (gZ O)) w):=by
  have A:=λx:aI=>qR (O:Int) x ⟨by omega,by omega⟩;have a:=λ(x:aI)(E:bM x k n m D K H)(q:k<=x.heap.size)=>DG E (lD 99 (O:Int)) (jM _ _) q;rw[tQ]at a;generalize D.create (gZ O)=r at a|-;unfold rI at a|-;have F:∀x:dY w,x.it.cell? ⟨i,0,none⟩=some (.pointer (some ⟨n,0,none⟩)):=λx=>(h.next x.ok).row.cell 0 (by simp);have I:∀x:dY w,x.it.cell? ⟨g,0,none⟩=some (.pointer (some ⟨i,0,none⟩)):=λx=>(y.next x.ok).cell 0 (by simp);have J:∀x:dY w,x.it.cell? ⟨l,0,none⟩=some (.int .i64 O):=λx=>(z.next x.ok).cell 0 (by simp);have B:=aH u;clear h u y z;go_in;(go_wp2_with fail);refine iS (by kernel_rfl) (by kernel_rfl) (by kernel_rfl) (by kernel_rfl) (by kernel_rfl) ?_;simp only[List.dropLast,List.drop,List.length];repeat go_big_quiet_step ((go_at_call 109;exact eP _ (A _)))
  refine wpQuiet_nil ?_;rintro _ ⟨⟨N,b⟩,rfl⟩;clear F I J;have f:=B.out.next b;(go_wp2_with fail);refine(a _ f (aL C b.size)).mono ?_;rintro e M ⟨rfl,⟨s,t,d⟩,c⟩;have⟨o,p⟩:=aA ((gS.cQ b k m).trans c) d;clear d c f a b;go_wp2;go_ret;exact⟨rfl,⟨_,_,p.out⟩,o.out⟩
def cs2(h:kD w k n i G j false v)(A:bM w k n m D K H)(L:k<=w.heap.size)(W:Nat)(S:W<=1000000)(r:aT)(T:r.size<=100000)(g l o:Nat)(B:Row w g 70 [.pointer (some ⟨i,0,none⟩)])(C:Row w l 3 [.int .i64 W])(E:Row w o 9 [.string r]):
 Calls prog 209 #[.pointer (some ⟨g,0,none⟩),.pointer (some ⟨l,0,none⟩),.pointer (some ⟨o,0,none⟩)] w (rI k n m (D.append (gZ W) (eM W++lb r)) w):=by
  have F:=λx:aI=>qR (W:Int) x ⟨by omega,by omega⟩;have s:=λx:aI=>UQ (W:Int) x ⟨by omega,by omega⟩;have M:(bs (eM (W:Int))).size<=12:=by
   rw[eK];by_cases J:W<=199
   .rw[jO J];omega
   rw[YH (by omega)];simp
  have a:=λ(x:aI)(N:bM x k n m D K H)(u:k<=x.heap.size)=>yX N (lD 99 (W:Int)) (bs (eM (W:Int))++r) (jM _ _) (by rw[VR];omega) u;rw[tQ,show lb (bs (eM (W:Int))++r)=eM W++lb r from by simp[lb,bs]]at a;generalize D.append (gZ W) (eM W++lb r)=q at a|-;unfold rI at a|-;have O:∀x:dY w,x.it.cell? ⟨i,0,none⟩=some (.pointer (some ⟨n,0,none⟩)):=λx=>(h.next x.ok).row.cell 0 (by simp);have P:∀x:dY w,x.it.cell? ⟨g,0,none⟩=some (.pointer (some ⟨i,0,none⟩)):=λx=>(B.next x.ok).cell 0 (by simp);have Q:∀x:dY w,x.it.cell? ⟨l,0,none⟩=some (.int .i64 W):=λx=>(C.next x.ok).cell 0 (by simp);have R:∀x:dY w,x.it.cell? ⟨o,0,none⟩=some (.string r):=λx=>(E.next x.ok).cell 0 (by simp);have I:=aH A;clear h A B C E;go_in;(go_wp2_with fail);refine iS (by kernel_rfl) (by kernel_rfl) (by kernel_rfl) (by kernel_rfl) (by kernel_rfl) ?_;simp only[List.dropLast,List.drop,List.length];repeat go_big_quiet_step (first|(go_at_call 109;exact eP _ (F _))|(go_at_call 166;exact eP _ (s _)))
  refine wpQuiet_nil ?_;rintro _ ⟨⟨V,b⟩,rfl⟩;clear O P Q R;have f:=I.out.next b;(go_wp2_with fail);refine(a _ f (aL L b.size)).mono ?_;rintro e U ⟨rfl,⟨y,z,d⟩,c⟩;have⟨p,t⟩:=aA ((gS.cQ b k m).trans c) d;clear d c f a b;go_wp2;go_ret;exact⟨rfl,⟨_,_,t.out⟩,p.out⟩
variable{X:List aN}{T:cD}
def sA.row{n:Nat}{w':aI}(h:sA n k m v w w')(a:Row w i T X)(j:¬(T=103\/T=112\/T=5))(g:i≠k)(e:i≠m)(l:v.ownBlock≠some i):Row w' i T X:=
 a.of_block (h.block i a.lt (.inr ⟨g,λ⟨C,q,p,b,d⟩=>by
  obtain⟨o,c,f,-⟩:=a;rw[f]at b;cases b;exact j d,e,l⟩))
def mS(n:Nat)(r:bK):List (cT×aM->Int×(cT×aM)):=[fun s=>((fY s.1 s.2).1,(fY s.1 s.2).2),fun s=>((s.2.create (gZ n)).1,(s.1,(s.2.create (gZ n)).2)),fun s=>((s.2.append (gZ n) (eM n++r)).1,(s.1,(s.2.append (gZ n) (eM n++r)).2))]
def ck4(k:Nat):Nat:=match k with
 |0=>152
 |1=>207
 |_=>209
def bg6(L:Nat)(k:Nat):Array aN:=match k with
 |0=>#[.pointer (some ⟨L,0,none⟩)]
 |_=>#[]
def bX2(b1 b2 b3:Nat)(k:Nat):Array aN:=match k with
 |0=>#[]
 |1=>#[.pointer (some ⟨b1,0,none⟩),.pointer (some ⟨b2,0,none⟩)]
 |_=>#[.pointer (some ⟨b1,0,none⟩),.pointer (some ⟨b2,0,none⟩),.pointer (some ⟨b3,0,none⟩)]
def TO:¬(70=103\/70=112\/70=5):=by decide
def bF1(h:kD w k n i G j false v)(V:bM w k n m D K H)(Y:k<=w.heap.size)(h1:Nat)(W:h1<=1000000)(r:aT)(f:r.size<=100000)(R p o x:Nat)
 (F:Row w p 70 [.pointer (some ⟨i,0,none⟩)]) (P:Row w o 3 [.int .i64 h1]) (I:Row w x 9 [.string r])
 (J:Row w R 76 [.func (.func 152) #[.pointer (some ⟨i,0,none⟩)] #[],.func (.func 207) #[] #[.pointer (some ⟨p,0,none⟩),.pointer (some ⟨o,0,none⟩)],.func (.func 209) #[] #[.pointer (some ⟨p,0,none⟩),.pointer (some ⟨o,0,none⟩),.pointer (some ⟨x,0,none⟩)]]) (O:v.ownBlock≠some o) :
 Calls prog 206 #[.slice (some ⟨R,0,none⟩) 3 3] w λe u=>e=.returned (.int .i64 (runs (G,D) (mS h1 (lb r))).1)/\(∃K H,bM u k n m (runs (G,D) (mS h1 (lb r))).2.2 K H)/\kD u k n i (runs (G,D) (mS h1 (lb r))).2.1 j false v/\sA k m i v w u:=by
  have l:∀{h0:Nat} {t:cD} {B:List aN},Row w h0 t B->h0≠m:=λf=>V.pX f;have C:∀{h0:Nat} {t:cD} {B:List aN},Row w h0 t B->t≠171->h0≠i:=λf M a=>by subst a;exact M (dI f h.row)
  have N:∀{h0:Nat} {t:cD} {B:List aN},Row w h0 t B->t≠3->v.ownBlock≠some h0:=λf M a=>M (dI f (dZ h.own a));obtain⟨-,Z,t3⟩:=GB;have S:∀wr,sA k m i v w wr->Row wr p 70 [.pointer (some ⟨i,0,none⟩)]:=λwr b=>b.row F TO (l F) (C F (by decide)) (N F (by decide));have T:∀wr,sA k m i v w wr->Row wr o 3 [.int .i64 h1]:=λwr b=>b.row P iE.2.1 (l P) (C P (by decide)) O;have X:∀wr,sA k m i v w wr->Row wr x 9 [.string r]:=λwr b=>b.row I Z (l I) (C I (by decide)) (N I (by decide));have y:=af3 (σ:=cT×aM) (λs wr=>(∃K H,bM wr k n m s.2 K H)/\kD wr k n i s.1 j false v/\sA k m i v w wr) (mS h1 (lb r)) ck4 (bg6 i) (bX2 p o x) R (G,D) w (by simp[mS])
   (λE wr L h0 z=>by
    have f:=L.2.2.row J t3 (l J) (C J (by decide)) (N J (by decide));have A:h0<3:=z;rcases(show h0=0\/h0=1\/h0=2 from by omega)with rfl|rfl|rfl
    .exact f.cell 0 (by simp)
    .exact f.cell 1 (by simp)
    exact f.cell 2 (by simp))
   (λh0 z c wr=>by
    have A:h0<3:=z;rcases(show h0=0\/h0=1\/h0=2 from by omega)with rfl|rfl|rfl
    .exact enters_of func152 (by kernel_rfl) rfl c wr
    .exact enters_of func207 (by kernel_rfl) rfl c wr
    exact enters_of func209 (by kernel_rfl) rfl c wr)
   (λh0 z E wr L=>by
    have A:h0<3:=z;obtain⟨⟨Q,U,g⟩,d,b⟩:=L;have q:k<=wr.heap.size:=aL Y b.size;rcases(show h0=0\/h0=1\/h0=2 from by omega)with rfl|rfl|rfl
    .exact(aG7 d g q).mono λe u a=>⟨a.1,a.2.1,a.2.2.1,b.trans (kI.refl _ _) a.2.2.2⟩
    .exact(cs3 d g q h1 W p o (S wr b) (T wr b)).mono λe u a=>⟨a.1,a.2.1,d.xC g a.2.2,b.trans (kI.refl _ _) (sA.lX a.2.2 _ _)⟩
    exact(cs2 d g q h1 W r f p o x (S wr b) (T wr b) (X wr b)).mono λe u a=>⟨a.1,a.2.1,d.xC g a.2.2,b.trans (kI.refl _ _) (sA.lX a.2.2 _ _)⟩)
   ⟨⟨K,H,V⟩,h,sA.refl _ _ _ _ _⟩
  exact y
def bg5(G:cT)(D:aM)(n:Nat)(r:bK)(h:¬(200<=n\/yK D (12+r.length)=false)):
 pB G D n r=if(runs (G,D) (mS n r)).1≠0 then((runs (G,D) (mS n r)).1,0,(runs (G,D) (mS n r)).2.1,(runs (G,D) (mS n r)).2.2)else(0,n*4096+12,{(runs (G,D) (mS n r)).2.1 with bW:=(runs (G,D) (mS n r)).2.1.bW++[12+r.length]},(runs (G,D) (mS n r)).2.2):=by
  unfold pB;rw[aQ h];rcases i:fY G D with⟨g,f,a⟩;have e:runs (G,D) (mS n r)=if g=0 then(if(a.create (gZ n)).1=0 then(if((a.create (gZ n)).2.append (gZ n) (eM n++r)).1=0 then(0,(f,((a.create (gZ n)).2.append (gZ n) (eM n++r)).2))else(((a.create (gZ n)).2.append (gZ n) (eM n++r)).1,(f,((a.create (gZ n)).2.append (gZ n) (eM n++r)).2)))else((a.create (gZ n)).1,(f,(a.create (gZ n)).2)))else(g,(f,a)):=by simp only[mS,runs,i]
  rw[e];unfold EG kE;simp only;by_cases b:g=0
  .rw[aQ (by simpa using b),aU b];by_cases c:(a.create (gZ n)).1=0
   .rw[aU c,aU c];by_cases d:((a.create (gZ n)).2.append (gZ n) (eM n++r)).1=0
    .rw[aQ (by simpa using d),aU d];simp
    rw[aU d,aQ d];simp[d]
   rw[aQ c,aQ c,aU c]
  rw[aU b,aQ b];simp[b]
variable{M:List Nat}{C l:oF}
section
open Go.Shelf
def as0:Go.Shelf.Ren:=⟨fun|4=>262|n=>n,fun|22=>33|25=>3|n=>n,fun|n=>n⟩
def ai8:Go.Proofs.Lays8.n4 prog as0:={
 mixed:=by kernel_rfl
 f4:=⟨f262.name,by decide,func262.trans (gQ some (by kernel_rfl))⟩
 t0:=underlying0
 a0:=isAgg0
 z0:=sizeOf0
 v0:=zeroValue0
 t3:=underlying3
 a3:=isAgg3
 z3:=sizeOf3
 v3:=zeroValue3
 t4:=underlying4
 a4:=isAgg4
 z4:=sizeOf4
 v4:=zeroValue4
 t9:=underlying9
 a9:=isAgg9
 z9:=sizeOf9
 v9:=zeroValue9
 t20:=underlying20
 a20:=isAgg20
 z20:=sizeOf20
 v20:=zeroValue20
 t22:=underlying33
 a22:=isAgg33
 z22:=sizeOf33
 v22:=zeroValue33}
def wH(w:aI)(v:aN)(l:oF):Prop:=∃a:List aN,a.length=l.length/\Reads w v 1 l.length a/\∀(k:Nat)(x:aN)(L:List Nat),a[k]?=some x->l[k]?=some L->Reads w x 1 L.length (gJ L)
def wH.next{w:aI}{v:aN}(h:wH w v C)(a:aS w.heap.size w x):wH x v C:=by obtain⟨g,b,c,d⟩:=h;exact⟨g,b,c.next a,λk i L f e=>(d k i L f e).next a⟩
def VF(n:Nat)(w:aI)(i:n<=1000000):
 Calls prog 262 #[.slice none 0 0,.int .i64 n] w λe b=>∃v,e=.returned v/\b.ownsRow w.heap.size 3 1 v 0 []/\aS w.heap.size w b:=by
  rcases dX n with rfl|h
  .refine(Any8.slices_Grow_room ai8 none 0 0 0 w (aO _) (by omega) (by omega) (by omega)).mono ?_;rintro e b ⟨rfl,rfl⟩;exact⟨_,rfl,bQ _ _ _ _,aY _ _⟩
  obtain⟨i0,c,d,f,g⟩:=info_parts oK;refine(Any8.slices_Grow_grow ai8 i0 (.int .i64 0) c d (by rw[f];omega) none 0 0 n [] w (aO _) (by omega) (by rw[g];omega) (by omega) (by simp) (λ_=>rfl) (λa h=>by cases h)).mono ?_;rintro e b ⟨rfl,rfl⟩;refine⟨_,rfl,⟨rfl,.inr ⟨w.heap.size,_,#[]++Builtin.zeroCells (Value.int .i64 0).cells (0+n-0)++Builtin.zeroCells (Value.int .i64 0).cells (grownCap w (0+n) 0 (as0.t 25)-(0+n)),rfl,aO _,by simp[World.alloc];exact Array.getElem_push_eq,bO _,grownCap_le_maxLen _ _ _ _ (by unfold maxLen;omega),?_,by simp⟩⟩,((aY _ _).drew).alloc (aO _) _⟩;have:=grownCap_ge w (0+n) 0 (as0.t 25);simp[Value.cells,size_zeroCells];simp at this;omega
def pH(e:x.ownsRow n T k v m X)(h:aS n w x)(a:x.grownBy y v.ownBlock)(d:n<=x.heap.size):aS n w y:=
 ⟨a.os.trans h.os,a.tape.trans h.tape,a.output.trans h.output,aL h.size a.size,λf b=>(a.block f (aW b d) (λc=>by have:=dE e f c.symm;omega)).trans (h.block f b)⟩
def bF4(h:n+k<=100000):n+k<=maxLen/\(n+k)*8<=140737488355328:=by unfold maxLen;omega
def aq1(a b:List Nat):gJ (a++b)=gJ a++gJ b:=by simp[gJ,MO]
def NX(l:List Nat):∀u∈gJ l,u.oneCell'=true:=by intro u a;unfold gJ MO at a;simp only[C7,dR]at a;obtain⟨x,-,rfl⟩:=a;rfl
def aj8(h:C[n]?=some M):(C.take (n+1)).flatten=(C.take n).flatten++M:=by rw[dQ,h];simp
def ab5(v:aN)(l:oF)(w:aI)(h:wH w v l)(hl:l.length<=1000)(ht:l.flatten.length<=100000):
 Calls prog 217 #[v] w λe w'=>∃v',e=.returned v'/\w'.ownsRow w.heap.size 3 1 v' l.flatten.length (gJ l.flatten)/\aS w.heap.size w w':=by
  obtain⟨vs,hd,F,U⟩:=h;obtain⟨i0,h9,he,hf,hh⟩:=info_parts oK;obtain⟨A,c,rfl,h8,R,-⟩:=id F;unfold maxLen at R;have z:∀j,(l.take j).flatten.length<=l.flatten.length:=λj=>by
   conv=>rhs;rw[<-bY j l]
   rw[iU,aP];omega
  have g:∀(j:Nat),j<l.length->∃L x b r,l[j]?=some L/\vs[j]?=some x/\A=some ⟨b,r,none⟩/\Reads w x 1 L.length (gJ L)/\∀wr,aS w.heap.size w wr->wr.cell? ⟨b,r+j,none⟩=some x:=λj hj=>by
   obtain⟨b,r,hA,-,-,-,C⟩:=F.W1 (by omega);have hx:vs[j]?=some (vs[j]'(by omega)):=aK (by omega);have hL:l[j]?=some l[j]:=aK hj;refine⟨_,_,b,r,hL,hx,hA,U j _ _ hx hL,λwr hb=>?_⟩;exact C wr hb j (by omega)
  obtain⟨n,Y⟩:∃n,n=l.length:=⟨_,rfl⟩;rw[<-Y]at h8 hl g|-;have⟨HN,HC,HT⟩:=aB Y g z;have s:(l.take n).flatten=l.flatten:=(by rw[Y,eQ]);have HL:=aH s;clear U F g z Y hd s;go_in;go_wp2_with fail
  go_loopw [3,5,11] (λsz _ i wr=>∃j:Nat,j<=n/\i=.int .i64 j/\sz=.int .i64 ((l.take j).flatten.length:Nat)/\aS w.heap.size w wr) (λ_ _ i _=>n-(intOf i).toNat)
  .exact⟨0,bO _,rfl,by simp,aY _ _⟩
  obtain⟨j,hj,rfl,rfl,o⟩:=hrel;by_cases ha:j<n
  .obtain⟨L,x,b,r,K,h2,rfl,G,M⟩:=HC.out j ha;obtain⟨Ax,cx,rfl,W,y,-⟩:=id G;unfold maxLen at y;have c0:=M wr o;have f:=aH o;clear o;have D:=HT.out (j+1);have p:=aj8 K;have i1:(j:Int)<n:=(by omega);have d:(l.take (j+1)).flatten.length=(l.take j).flatten.length+L.length:=(by rw[p,aP]);obtain⟨q,hq⟩:∃q,q=(l.take j).flatten.length:=⟨_,rfl⟩;have E:q+L.length<=100000:=(by omega);rw[<-hq]at d|-;have HQ:=aH d;clear d p D hq K h2 G M;go_wp2;go_roundw
   .exact⟨j+1,by omega,by go_num,by rw[HQ.out];go_num,f.out⟩
   simp[intOf];omega
  obtain rfl:j=n:=(by omega);have i1:¬(j:Int)<j:=(by omega);obtain⟨T,hT⟩:∃T,T=l.flatten.length:=⟨_,rfl⟩;rw[HL.out,<-hT];have hg:=VF T wr (by omega);have hi:=aH hT;clear hT;have f:=aH o;clear o;(go_wp2_with fail);refine hg.mono ?_;rintro e w2 ⟨v2,rfl,a,P⟩;have⟨I,Z⟩:=aA (fO a f.out.size) (aJ f.out P);clear hg a P;go_wp2_with fail
  go_loopw [6,8,27] (λh6 _ i wr=>∃k:Nat,k<=j/\i=.int .i64 k/\wr.ownsRow w.heap.size 3 1 h6 (l.take k).flatten.length (gJ (l.take k).flatten)/\aS w.heap.size w wr) (λ_ _ i _=>j-(intOf i).toNat)
  .exact⟨0,bO _,rfl,by first|exact I.out|(simp[gJ,MO];exact I.out),Z.out⟩
  obtain⟨k,hk,rfl,a,u⟩:=hrel;by_cases hc:k<j
  iterate 2
   ·(first|(obtain⟨L,x,b,r,K,h2,rfl,G,M⟩:=HC.out k hc;have V:=G.next u;obtain⟨Ax,cx,rfl,W,y,-⟩:=id G;unfold maxLen at y;have c0:=M wr u;have D:=HT.out (k+1);have p:=aj8 K;(have i1:(k:Int)<j:=by omega);(have d:(l.take (k+1)).flatten.length=(l.take k).flatten.length+L.length:=by rw[p,aP]);have⟨HF,H⟩:=aA p d;obtain⟨A1,c1,rfl,-⟩:=id (Reads.dC a))|((obtain rfl:k=j:=by omega);(have i1:¬(k:Int)<k:=by omega);rw[HL.out]at a));have m:=aH a;(try have h5:=aH V);have f:=aH u;first|((have E:(l.take k).flatten.length+L.length<=100000:=by omega);have m1:=bF4 E;clear p d a V K h2 G M D E W y R;(have J:=aH (show gJ (l.take (k+1)).flatten=gJ (l.take k).flatten++gJ L from by rw[HF.out,aq1]));obtain⟨Q,N⟩:∃Q,Q=(l.take k).flatten.length:=⟨_,rfl⟩;obtain⟨XS,B⟩:∃X,X=gJ (l.take k).flatten:=⟨_,rfl⟩;rw[<-N,<-B]at m;rw[<-N]at m1;rw[<-N]at H;rw[<-B]at J;try rw[<-N];clear N B;(go_wp2_with (at_builtin;refine qF _ rfl _ _ 33 rfl w.heap.size 3 i0 (.int .i64 0) 1 8 underlying33 h9 he hf hh rfl (by decide) (.slice A1 Q c1) Q XS rfl m.out (.slice Ax L.length cx) L.length (gJ L) rfl h5.out (NX L) m1.1 m1.2 f.out.size ?_;intro v3 w3 t S O;have⟨h7,h0⟩:=aA (pH m.out f.out S f.out.size) t;clear t S O));go_roundw;(case rel=>exact⟨k+1,by omega,by go_num,by rw[H.out,J.out];exact h0.out,h7.out⟩);(case measure=>simp[intOf];omega))|(clear a u;go_wp2;go_ret;(exact⟨_,rfl,by first|exact m.out|(rw[<-List.length_flatten];exact m.out),f.out⟩))
def sK(v:aN)(l:oF)(w:aI)(h:wH w v l)(g:l.length<=1000)(i:l.flatten.length<=100000):
 Calls prog 150 #[v] w λe c=>∃b,e=.returned b/\c.ownsRow w.heap.size 3 1 b l.flatten.length (gJ l.flatten)/\aS w.heap.size w c:=by
  have f:=ab5 v l w h g i;clear h;go_in;(go_wp2_with fail);refine f.mono ?_;rintro e c ⟨b,rfl,a,d⟩;go_wp2;go_ret;exact⟨_,rfl,a,d⟩
end
abbrev DmS:=DataW Unit
def ar0(n:Nat):Lit:=.int .i64 (n:Int)
def cb4{e:Int}(a:-9223372036854775808<=e)(b:e<=9223372036854775807):(Lit.int .i64 e).wf=true:=by unfold Lit.wf;rw[bL,bH,bH];exact⟨a,b⟩
def bm4(h:n≠k):ar0 n≠ar0 k:=by unfold ar0;intro a;simp at a;omega
def ZP(D:DmS)(a:List Nat):Prop:=IsMap D/\∀n:Nat,(n∈a->∀b,D.atKey (ar0 n) b=.lit (.int .i64 1))/\(n∉a->has D (ar0 n)=false)
def ZP.nil:ZP (.map []) []:=⟨isMap_empty,λn=>⟨(λh=>by cases h),λ_=>rfl⟩⟩
def ZP.put{D:DmS}{x:Nat}(h:ZP D M)(c:WideAt.IsKeyLit (ar0 x)):ZP (D.put (ar0 x) (.lit (.int .i64 1))) (M++[x]):=by
 refine⟨h.1.put _ _,λn=>⟨λa d=>?_,λa=>?_⟩⟩
 .by_cases b:n=x
  .subst b;exact atKey_put_same h.1 c _ _
  rw[atKey_put_other (bm4 b)];refine(h.2 n).1 ?_ d;rcases cE.1 a with a|a
  .exact a
  exact absurd (bT.1 a) b
 simp only[cE,bT,not_or]at a;rw[has_put_other (bm4 a.2)];exact(h.2 n).2 a.1
def ar6{r:Option Nat}(a:w.grownBy x r)(b:x.grownBy y r):w.grownBy y r:=
 ⟨b.os.trans a.os,b.tape.trans a.tape,b.output.trans a.output,aL a.size b.size,λk d c=>(b.block k (aW d a.size) c).trans (a.block k d c)⟩
def aS6{l:oF}(h:5<l.length\/40<l.flatten.length):nM l=false:=by unfold nM;rw[cN];omega
def aS5{l:oF}(h:l.flatten[n]?=some k)(c:k∈l.flatten.take n):nM l=false:=by unfold nM;rw[cN];rintro ⟨_,_,b⟩;rw[<-bY n l.flatten]at b;have a:=(aR.1 h);refine(n5.1 b).2.2 k c k ?_ rfl;rw[<-gH a.1,a.2];simp
def GU(v:aN)(l:oF)(w:aI)(h:wH w v l)(hl:l.length<=1000)(ht:l.flatten.length<=100000)(G:∀n∈l.flatten,n<4294967296):
 Calls prog 223 #[v] w λe w'=>e=.returned (.bool (nM l))/\aS w.heap.size w w':=by
  have K:=sK v l w h hl ht;obtain⟨vs,-,h0,-⟩:=h;obtain⟨A,c,rfl,M,Y,-⟩:=id h0;clear h0;obtain⟨F,V⟩:∃F,F=l.flatten:=⟨_,rfl⟩;obtain⟨n,hn⟩:∃n,n=l.length:=⟨_,rfl⟩;obtain⟨T,W⟩:∃T,T=F.length:=⟨_,rfl⟩;rw[<-V]at K G ht;rw[<-W]at K ht;rw[<-hn]at K M hl|-;have⟨HF,HN,U,HS⟩:=aC V hn W G;by_cases r:5<n\/40<T
  .have hv:=aH (aS6 (l:=l) (by rw[<-hn,<-V,<-W];exact r));clear V hn W G M Y;rcases(show 5<n\/(¬5<n/\40<T)from by omega)with h1|⟨h1,h2⟩
   all_goals
    clear r;go_in;(go_wp2_with fail);refine K.mono ?_;rintro e R ⟨v1,rfl,f,C⟩;obtain⟨A1,c1,rfl,-⟩:=id (Reads.dC f);clear K f;go_wp2;go_ret;exact⟨by rw[hv.out];rfl,C⟩
  have h1:n<=5:=(by omega);have h2:T<=40:=(by omega);have hh:=@run_makeMap prog;have KI:=int_keyed (P:=prog) (k:=3) underlying3;clear V hn W G M Y r hl ht;go_in;(go_wp2_with fail);refine K.mono ?_;rintro e R ⟨v1,rfl,f,C⟩;obtain⟨A1,c1,rfl,-⟩:=id (Reads.dC f);have⟨S,h4⟩:=aA f C;clear K f C;have E:=World.ownsMap_made (H:=Unit) R prog 3 (plainElem prog 3);have L:=(aY R.heap.size R).alloc (aO _) (.map #[] 0);(go_wp2_with fail);obtain⟨B,hB⟩:∃B,B=R.heap.size:=⟨_,rfl⟩;rw[<-hB]at E|-;generalize R.alloc (.map #[] 0)=w2 at E L|-;have⟨HB,hc,I⟩:=aB hB E L;clear hB E L hh;go_loopw [6,20] (λ_ i wr=>∃(j Q:Nat)(D:DmS),j<=T/\i=.int .i64 j/\Q<=j/\(F.take j).Nodup/\ZP D (F.take j)/\wr.ownsMap prog 3 (plainElem prog 3) B Q D/\w2.grownBy wr (some B)) (λ_ i _=>T-(intOf i).toNat)
  .exact⟨0,0,_,bO _,rfl,aO _,by simp,by simpa using ZP.nil,hc.out,⟨rfl,rfl,rfl,aO _,λ_ _ _=>rfl⟩⟩
  obtain⟨j,Q,D,hj,rfl,hr,p,q,u,o⟩:=hrel;have X:=aH (aJ h4.out (I.out.grown o I.out.size (λk hk=>by cases hk;rw[HB.out];exact aO _)));by_cases hq:j<T
  .have i1:(j:Int)<T:=(by omega);obtain⟨x,hx⟩:∃x,F[j]?=some x:=⟨_,aK (by have:=U.out;omega)⟩;have hp:=HS.out x (bD hx);have t:keyOf prog 3 (.int .i64 x)=some (ar0 x):=keyOf_int_mk underlying3 (cb4 (by omega) (by omega));have g:=cA S.out I.out;have y:wr.ownsRow w.heap.size 3 1 (.slice A1 T c1) T (gJ F):=fG g λk hk=>o.block k (jG g k hk) (λJ=>by cases J;have:=jG S.out _ hk;have:=HB.out;omega);obtain⟨b,hs,rfl,-,-,-,s⟩:=(Reads.dC y).W1 (by omega);have cx:=s wr (aY _ _) j (by simp;have:=U.out;omega);rw[yO,show F[j]'(by have:=U.out;omega)=x from(aR.1 hx).2]at cx;obtain⟨cv,ho,m,hm⟩:=u.lookup_int KI underlying317 underlying3 (zeroValue3 wr) t;have HX:=aH hx;clear g y s hx hm;by_cases d:x∈F.take j
   .have N:cv=1:=by have:=(q.2 x).1 d (.lit (.int .i64 0));rw[this]at m;injection m with J;injection J with J h8;exact h8.symm
    subst N;have hv:=aH (aS5 (l:=l) (by rw[<-HF.out];exact HX.out) (by rw[<-HF.out];exact d));clear q u p m d o;go_wp2;go_ret;exact⟨by rw[hv.out];rfl,X.out⟩
   have N:cv=0:=by rw[atKey_of_not_has ((q.2 x).2 d)]at m;injection m with J;injection J with J h8;exact h8.symm
   subst N;have h3:plainElem (H:=Unit) prog 3 (.int .i64 1)=some (.lit (.int .i64 1),[]):=plainElem_int underlying3 (by decide);have O:F.take (j+1)=F.take j++[x]:=(by rw[dQ,HX.out];rfl);have⟨hg,hd,h5,hf,h7⟩:=aD (q.put (x:=x) (KI.key t)) (show(F.take (j+1)).Nodup from by rw[O];exact n5.2 ⟨p,by simp,λa ha b hb=>by rw[bT.1 hb];rintro rfl;exact d ha⟩) O u o;have hi:Q<maxLen:=(by unfold maxLen;omega);clear q p m d O u o;go_wp2_with (first
    |(at_mapUpdate;refine wpList_mapUpdate_own _ rfl _ _ _ 317 rfl 3 3 KI underlying317 (plainElem prog 3) B Q D rfl hf.out hi _ _ (ar0 x) rfl rfl t (.lit (.int .i64 1)) [] h3 ?_;intro w6 z Z))
   have⟨he,h6⟩:=aA z (ar6 h7.out Z);clear z Z;go_wp2;go_roundw
   .exact⟨j+1,Q+1,_,by omega,by go_num,by omega,hd.out,by rw[h5.out];exact hg.out,he.out,h6.out⟩
   simp[intOf];omega
  obtain rfl:j=T:=(by omega);have i1:¬(j:Int)<j:=by omega
  have hv:=aH (show nM l=true from by
   unfold nM;rw[bH,<-HN.out,<-HF.out,<-U.out];exact⟨h1,h2,by rw[U.out,eQ]at p;exact p⟩)
  clear q u p o;go_wp2;go_ret;exact⟨by rw[hv.out];rfl,X.out⟩
def FG:(prog.info? 33).map (λi=>(i.zero,i.size,i.bytes))=some (some (.slice none 0 0),1,24):=by kernel_rfl
structure lQ(w:aI)(a:Nat)(c:List aN)(l:oF):Prop where
 len:c.length=l.length
 own:∀(k:Nat)(x:aN)(L:List Nat),c[k]?=some x->l[k]?=some L->w.ownsRow a 3 1 x L.length (gJ L)
 apart:∀(i j:Nat)(x y:aN)(b:Nat),i≠j->c[i]?=some x->c[j]?=some y->x.ownBlock=some b->y.ownBlock≠some b
def lQ.nil(w:aI)(a:Nat):lQ w a [] []:=⟨rfl,(λk x L h=>by simp at h),(λi j x y b _ h=>by simp at h)⟩
def lQ.eO{w':aI}(h:lQ w n X C)(e:∀k t f,Row w k t f->t=3->w'.heap[k]?=w.heap[k]?):lQ w' n X C:=
 ⟨h.len,λk x L c a=>fG (h.own k x L c a) λb d=>e b _ _ (dZ (h.own k x L c a) d) rfl,h.apart⟩
def lQ.next{w:aI}{base:Nat}(h:lQ w base X C)(a:aS w w x):lQ x base X C:=h.eO λk t c b _=>a.block k b.lt
def lQ.snoc{w:aI}{B:Nat}(h:lQ w n X C)(A:w.ownsRow n 3 1 v M (gJ M))(o:∀(k:Nat)(y:aN)(b:Nat),X[k]?=y->y.ownBlock=b->b<B)(l:∀b,v.ownBlock=some b->B<=b):lQ w n (X++[v]) (C++[M]):=by
 have c:∀{F:Type} (a:List F) (z y:F) (k:Nat),(a++[z])[k]?=y->(k<a/\a[k]?=y)\/(k=a/\y=z):=λa z y k e=>by
  rcases cR k a with r|r
  .exact .inl ⟨r,by rw[eY r]at e;exact e⟩
  have x:=(aR.1 e).1;simp at x;have:k=a.length:=(by omega);subst this;rw[eA gC]at e;simp at e;exact .inr ⟨rfl,e.symm⟩
 refine⟨by simp[h.len],λk y E t u=>?_,λi j y z b m t D s d=>?_⟩
 .rcases c _ _ _ _ t with⟨q,p⟩|⟨q,rfl⟩
  .rcases c _ _ _ _ u with⟨f,g⟩|⟨f,rfl⟩
   .exact h.own k y E p g
   have:=h.len;omega
  rcases c _ _ _ _ u with⟨f,g⟩|⟨f,rfl⟩
  .have:=h.len;omega
  exact A
 rcases c _ _ _ _ t with⟨q,p⟩|⟨q,rfl⟩
 iterate 2
  .rcases c _ _ _ _ D with⟨f,g⟩|⟨f,rfl⟩
   .first|exact h.apart i j y z b m p g s d|have:=o j z b g d;have:=l b s;omega
   first|have:=o i y b p s;have:=l b d;omega|(exact m (by omega))
def lQ.lt{n:Nat}(h:lQ w n X C):∀(k:Nat)(y:aN)(b:Nat),X[k]?=y->y.ownBlock=b->b<w:=λk y b a c=>by
 have d:=(aR.1 a).1;exact jG (h.own k y _ a (aK (by rw[<-h.len];exact d))) b c
def bG5(w:aI)(a:Nat)(v:aN)(l:oF):Prop:=(l=[]/\∃A,v=.slice A 0 0)\/∃b c,v=.slice (some ⟨b,0,none⟩) l.length l.length/\a<=b/\Row w b 33 c/\lQ w a c l
def al7(h:Reads w v 1 M (gJ M))(D:M.length<=1000000):
 Calls prog 57 #[v] w λe g=>∃o,e=.returned o/\g.ownsRow w 3 1 o M (gJ M)/\aS w w g:=by
  have⟨i0,i,k,l,m⟩:=info_parts oK;obtain⟨A,c,rfl,z,B,C,p⟩:=id h;rcases dX M.length with f|f
  iterate 2
   .first|((have x:gJ M=[]:=fE.1 (by simpa using f));rw[f,x];rcases A with _|a)|(obtain⟨b,n,rfl,t,r⟩:=p f;(refine(slices_Clone i0 (.int .i64 0) 1 8 i k l m rfl (by omega) (λw=>sizeOf3 w) b n M.length c (gJ M) w (by simp) (by unfold maxLen;omega) (by omega) (λj u s=>?_) (NX M)).mono ?_))
    .first|refine(slices_Clone_int_nil 0 c w).mono ?_;rintro e g ⟨rfl,rfl⟩;exact⟨_,rfl,bQ _ _ _ _,mE⟩|have d:=aR.1 s;rw[r j d.1];exact gQ some d.2
    (try refine(slices_Clone_int_zero a c w).mono ?_);rintro e g ⟨o,rfl,y,-,q⟩;exact⟨_,rfl,y,q⟩
def aU8(a:List aN)(h:∀(k:Nat)(x:aN),a[k]?=x->∃A n c,x=.slice A n c):∀u∈a,u.oneCell'=true:=by intro u e;obtain⟨k,d,rfl⟩:=eS e;have⟨A,n,c,b⟩:=h k _ (aK d);rw[b];rfl
def NC{l:oF}{n:Nat}(t:n<=l)(h:∀k L,n<=k->l[k]?=some L->L=[])(r:∀L,n≠0->l[n-1]?=some L->L≠[]):iF l=l.take n:=by
 have e:l=l.take n++l.drop n:=(bY n l).symm;have f:∀a∈l.drop n,a=[]:=λa p=>by obtain⟨i,q,rfl⟩:=eS p;rw[fF]at q;rw[oY];exact h (n+i) _ (by omega) (aK (by omega))
 have o:∀(a z:oF),(∀x∈z,x=[])->iF (a++z)=iF a:=by
  intro a z f;unfold iF;rw[xZ];congr 1;have d:∀x∈z.reverse,x=[]:=λx g=>f x (List.mem_reverse.1 g);generalize z.reverse=y at d;clear f;induction y with
  |nil=>rfl
  |cons b y s=>rw[kM,nA,d b (by simp)];simp only[List.isEmpty_nil,eE];exact s λx g=>d x (by simp[g])
 conv=>lhs;rw[e]
 rw[o _ _ f];rcases dX n with j|j
 .subst j;rfl
 have c:=r (l[n-1]'(by omega)) (by omega) (aK (by omega));have m:l.take n=l.take (n-1)++[l[n-1]'(by omega)]:=by
  conv=>lhs;rw[show n=n-1+1 from by omega]
  rw[jC (by omega)]
 rw[m];unfold iF;rw[xZ];show((l[n-1]'(by omega)::(l.take (n-1)).reverse).dropWhile List.isEmpty).reverse=_;rw[nA,aQ (by rw[RG];exact c)];simp
def TV(A:Option Addr)(n c:Nat)(w:aI)(j:n<=c)(i:c<=9223372036854775807)(d:0<n->∃b,A=zp b):
 Calls prog 268 #[.slice A n c] w λe g=>(∃a,e=.returned (.slice a n n)/\(0<n->a=A))/\w=g:=by
  rcases dX n with rfl|f
  .go_in;go_wp2;go_ret;exact⟨⟨_,rfl,λh=>by omega⟩,rfl⟩
  obtain⟨b,rfl⟩:=d f;clear d;go_in;go_wp2;go_ret;exact⟨⟨_,rfl,λ_=>rfl⟩,rfl⟩
def U6(v:aN)(l:oF)(w:aI)(h:wH w v l)(hl:l.length<=1000)(ht:l.flatten.length<=100000):
 Calls prog 225 #[v] w λe w'=>∃v',e=.returned v'/\bG5 w' w v' (iF l)/\aS w w w':=by
  have⟨vs,xj,h7,hq⟩:=h;have⟨i0,xt,xw,xx,xy⟩:=info_parts FG;obtain⟨A,c,rfl,xa,xb,-⟩:=id h7;have o:∀(j:Nat),j<l.length->∃L x b u,l[j]?=some L/\vs[j]?=some x/\A=some ⟨b,u,none⟩/\L.length<=100000/\Reads w x 1 L.length (gJ L)/\∀wr,aS w.heap.size w wr->wr.cell? ⟨b,u+j,none⟩=some x:=λj hj=>by
   obtain⟨b,u,hA,-,-,-,r⟩:=h7.W1 (by omega);have P:vs[j]?=some (vs[j]'(by omega)):=aK (by omega);have Q:l[j]?=some l[j]:=aK hj;refine⟨_,_,b,u,Q,P,hA,?_,hq j _ _ P Q,λwr hb=>?_⟩
   .have e:l=l.take j++l[j]::l.drop (j+1):=(by rw[gH,bY]);have:=gQ (λz=>z.flatten.length) e;simp only[iU,gP,aP]at this;omega
   exact r wr hb j (by omega)
  have⟨n,hn⟩:=kX l.length;rw[<-hn]at xa hl o|-;have⟨HN,HC⟩:=aA hn o;clear hq h7 o hn xj xb;go_in;go_wp2_with fail
  go_loopw [3,5,8] (λJ _ i wr=>∃(j:Nat)(G:List aN),j<=n/\i=.int .i64 j/\G.length=j/\wr.ownsRow w.heap.size 33 1 J j G/\lQ wr w.heap.size G (l.take j)/\aS w.heap.size w wr) (λ_ _ i _=>n-(intOf i).toNat)
  .exact⟨0,[],bO _,rfl,rfl,bQ _ _ _ _,by simpa using lQ.nil _ _,mE⟩
  obtain⟨j,G,hj,rfl,hz,d,q,F⟩:=hrel;obtain⟨A1,c1,rfl,xi,hw,-⟩:=id (Reads.dC d);by_cases xf:j<n
  .obtain⟨L,x,b,u,Z,h2,rfl,xo,h3,h4⟩:=HC.zz j xf;obtain⟨Ax,cx,rfl,-⟩:=id h3;have c0:=h4 wr F;have i1:(j:Int)<n:=(by omega);have s:=al7 (h3.next F) (by omega);have⟨V,C,E,H1,Y⟩:=aD d q F Z hz;clear Z h2 h3 h4 d q F xi hw;(go_wp2_with fail);go_call s as e w3 ⟨v3,rfl,a,K⟩;obtain⟨A3,c3,rfl,-⟩:=id (Reads.dC a);have⟨hf,H⟩:=aA a K;clear s a K;(go_wp2_with (at_builtin;refine R7 FG underlying55 (cA V.zz H.zz) rfl rfl rfl rfl rfl (by omega) (by have:=E.zz.size;have:=H.zz.size;omega) ?_;intro v4 w4 N ho hm;have⟨x5,hd⟩:=aA N ho;clear N ho hm));go_roundw
   .
    refine⟨j+1,G++[.slice A3 L.length c3],by omega,by go_num,by simp[Y.zz],x5.zz,?_,?_⟩
    iterate 2
     ·(try ((have xc:l.take (j+1)=l.take j++[L]:=by rw[dQ,H1.zz];rfl);rw[xc]));have T:=(aY w3.heap.size w3).alloc gC (.cells #[.slice A3 L.length c3] 33);(try (have hu:=(C.zz.next H.zz).next T;have xk:=cA (fO hf.zz E.zz.size) T));have a:=cA (cA V.zz H.zz) T
      first
       |have hs:=hu.snoc (B:=wr.heap.size) xk C.zz.lt (dE hf.zz)
        exact hs.eO λk t xs hr ht=>hd.zz.block k hr.lt (λh9=>by have:=dI (dZ a h9.symm) hr;rw[ht]at this;exact absurd this (by decide))
       |have K:=aJ E.zz (aJ H.zz T)
        exact pH a K hd.zz K.size
   simp[intOf];omega
  obtain rfl:j=n:=(by omega);have i1:¬(j:Int)<j:=by omega
  have h5:0<j->∃b,A1=some ⟨b,0,none⟩/\w.heap.size<=b/\Row wr b 33 G:=λh0=>by
   rcases id d.2 with⟨h9,h8⟩|⟨g,xm,xn,h9,x9,hg,xu,xq,xr,xv⟩
   .omega
   cases h9;exact⟨g,rfl,x9,dZ d (k:=g) (by simp[Value.ownBlock])⟩
  have D:∀k,k<j->∃b Ax cx L,A1=some ⟨b,0,none⟩/\l[k]?=some L/\G[k]?=some (.slice Ax L.length cx)/\∀x,aS wr.heap.size wr x->x.cell? ⟨b,k,none⟩=some (.slice Ax L.length cx):=λk hk=>by
   obtain⟨b,u,hA,-,-,-,r⟩:=(Reads.dC d).W1 (by omega);obtain⟨b',S,-⟩:=h5 (by omega);rw[S]at hA;obtain⟨rfl,rfl⟩:b'=b/\u=0:=(by cases hA;exact⟨rfl,rfl⟩);obtain⟨L,x,_,_,Z,-⟩:=HC.zz k hk;have O:G[k]?=some (G[k]'(by omega)):=aK (by omega);have xh:=q.own k _ L O (by rw[iH hk];exact Z);obtain⟨Ax,cx,x0,-⟩:=id (Reads.dC xh);refine⟨b',Ax,cx,L,S,Z,by rw[O,x0],λx P=>?_⟩;have:=r x P k (by omega);rwa[jB,x0]at this
  have⟨x2,x1,C,E,Y⟩:=aD D h5 q F hz;clear D h5 q F d;unfold maxLen at hw;go_wp2_with fail
  go_loopw [3] (λJ w5=>∃k:Nat,k<=j/\J=.slice A1 k c1/\(∀(i:Nat)(L:List Nat),k<=i->l[i]?=some L->L=[])/\aS wr.heap.size wr w5) (λJ _=>match J with|.slice _ k _=>k|_=>0)
  .exact⟨j,gC,rfl,(λi L hi Q=>by have:=(aR.1 Q).1;have:=HN.zz;omega),mE⟩
  obtain⟨k,hk,rfl,f,m⟩:=hrel;have xg:k<=l.length:=(by have:=HN.zz;omega);rcases k with _|p
  .have U:=aH (NC (l:=l) (n:=0) (bO _) f (λL h=>absurd rfl h));have s:=TV A1 0 c1 wr (bO _) (by omega) (λh=>by omega);have I:=aH (aJ E.zz m);clear f m;(go_wp2_with fail);go_call s as e w' ⟨⟨A',rfl,-⟩,rfl⟩;go_wp2;go_ret;exact⟨_,rfl,.inl ⟨by rw[U.zz];rfl,_,rfl⟩,I.zz⟩
  obtain⟨b,Ax,cx,L,rfl,Q,O,hc⟩:=x2.zz p (by omega);have c0:=hc wr m;by_cases R:L=[]
  .subst R;have ha:=aH (show∀(i:Nat)(L:List Nat),p<=i->l[i]?=some L->L=[]from λi L hi h6=>by
    rcases cR p i with h9|h9
    .exact f i L h9 h6
    have:i=p:=(by omega);subst this;rw[Q]at h6;cases h6;rfl)
   have i2:((p+1:Nat):Int)-1=(p:Int):=(by omega);have i3:(p:Int)+1-1=(p:Int):=(by omega);have I:=aH m;clear f Q O hc m;simp only[jU]at c0;go_wp2;go_roundw
   .exact⟨p,by omega,by go_num,ha.zz,I.zz⟩
   simp
  have xl:0<L.length:=pM.2 R;have U:=aH (NC (l:=l) (n:=p+1) xg f (λM _ hM=>by rw[show p+1-1=p from rfl,Q]at hM;cases hM;exact R));have⟨b',S,hp,X⟩:=x1.zz (by omega);have x8:b=b':=(by cases S;rfl);subst x8;have s:=TV (some ⟨b,0,none⟩) (p+1) c1 wr (by omega) (by omega) (λ_=>⟨b,rfl⟩);have I:=aH (aJ E.zz m);have hv:(iF l).length=p+1:=by rw[U.zz,bJ];omega
  have x6:=aH (show Row wr b 33 (G.take (p+1))from by
   have:=X.next m;rw[<-bY (p+1) G]at this;exact this.less)
  have W:lQ wr w.heap.size (G.take (p+1)) (iF l):=by
   rw[U.zz];have hi:=C.zz.next m;refine⟨by rw[bJ,bJ];have:=Y.zz;omega,λi x M P hM=>?_,λi j x y b xe P hy=>?_⟩
   .have xd:=(aR.1 hM).1;rw[bJ]at xd;rw[iH (by omega)]at P hM;exact hi.own i x M P (by rw[iH (by omega)];exact hM)
   have Z:=(aR.1 P).1;have h2:=(aR.1 hy).1;rw[bJ]at Z h2;rw[iH (by omega)]at P hy;exact hi.apart i j x y b xe P hy
  have⟨he,x4,x3⟩:=aB W hv hp;have i4:¬(L.length:Int)=0:=(by omega);have xp:L.length≠0:=(by omega);clear f Q O hc m X W hv R hp;go_wp2_with fail
  go_call s as e w' ⟨⟨A',rfl,hh⟩,rfl⟩;have x7:=hh (by omega);subst x7;clear hh s;go_wp2;go_ret;exact⟨_,rfl,.inr ⟨b,G.take (p+1),by rw[x4.zz];rfl,x3.zz,x6.zz,he.zz⟩,I.zz⟩
def wF{F:List Nat}{w:aI}(h:Reads w v 1 F (gJ F))(x:Nat):
 Calls prog 224 #[v,x] w λe g=>e=(F.contains x)/\w=g:=by
  obtain⟨A,c,rfl,s,i,t,k⟩:=h;rcases dX F with d|d
  .have l:F=[]:=fE.1 d;subst l;go_call slices_Contains_int_empty A c x w as e g ⟨rfl,rfl⟩;exact⟨rfl,rfl⟩
  obtain⟨b,f,rfl,p,m⟩:=k d;unfold maxLen at i;refine(slices_Contains_int b f F c (F.map λn:Nat=>(n:Int)) x w (by simp) (by omega) (λj o=>?_)).mono ?_
  .have a:j<F.length:=(by simpa using o);rw[m j (by simpa using a),yO];simp[b8,a]
  rintro e g ⟨rfl,rfl⟩;refine⟨?_,rfl⟩;congr 2;rw[aX (by simp),j8,DP,DP,dR];constructor
  .rintro ⟨y,r,u⟩;have:y=x:=(by omega);rw[<-this];exact r
  intro q;exact⟨x,q,rfl⟩
def LX{k n:Nat}{L:List Nat}(I:Row w m 33 X)(g:lQ w i X C)(p:X[k]?=v)(N:C[k]?=L)(A:aS w w x)(O:x.grownBy y v.ownBlock)(l:y.ownsRow i 3 1 u (L+1) (gJ L++[.int .i64 n]))(t:u.ownBlock=v.ownBlock\/u.ownBlock=x):
 Row y m 33 X/\Row (y.setCell (zp m k) u) m 33 (X.set k u)/\lQ (y.setCell (zp m k) u) i (X.set k u) (C.set k (L++[n])):=by
  have H:=g.own k v L p N;have J:∀q,v.ownBlock=some q->Row w q 3 (gJ L):=λq a=>dZ H a;have K:Row y m 33 X:=(I.next A).grown O (λb=>by have:=dI (J m b.symm) I;exact absurd this (by decide));have P:∀q,q≠m->(y.setCell ⟨m,k,none⟩ u).heap[q]?=y.heap[q]?:=λq a=>aV _ _ _ _ a;have F:∀q,u.ownBlock=some q->q≠m:=λq a b=>by have:=dI (dZ l a) (b▸K);exact absurd this (by decide)
  have D:=g.lt;refine⟨K,K.set k u,⟨by simp[g.len],λj S M e G=>?_,λR j S z q f e r a c=>?_⟩⟩
  .by_cases d:j=k
   .subst d;have s:=(aR.1 p).1;have Q:=(aR.1 N).1;rw[gI s]at e;rw[gI Q]at G;cases e;cases G;rw[aP,BI];exact fG l λq a=>P q (F q a)
   rw[jD (λh=>d h.symm)]at e G;have E:=g.own j S M e G;refine fG E λq a=>?_;have o:=dZ E a;rw[P q (λb=>by have:=dI (b▸o) I;exact absurd this (by decide))];rw[O.block q (aW o.lt A.size) (λb=>g.apart j k S v q d e p a b.symm)];exact A.block q o.lt
  by_cases B:R=k
  .have s:=(aR.1 p).1;subst B;rw[gI s]at e;rw[jD f]at r;cases e;rcases t with b|b
   .rw[b]at a;exact g.apart R j v z q f p r a c
   rw[b]at a;cases a;have:=D j z _ r c;have:=A.size;omega
  rw[jD (λh=>B h.symm)]at e;by_cases d:j=k
  .have s:=(aR.1 p).1;subst d;rw[gI s]at r;cases r;rcases t with b|b
   .rw[b]at c;exact g.apart R j S v q f e p a c
   rw[b]at c;cases c;have:=D R S _ e a;have:=A.size;omega
  rw[jD (λh=>d h.symm)]at r;exact g.apart R j S z q f e r a c
def bG5.split(h:bG5 w n v C):(C=[]/\∃A,v=.slice A 0 0)\/∃b x c a r,C=a::r/\v=.slice (zp b) (a::r).length (a::r).length/\n<=b/\Row w b 33 (x::c)/\lQ w n (x::c) (a::r):=by
 rcases h with h|⟨b,c,d,f,g,e⟩
 .exact .inl h
 cases C with
 |nil=>exact .inl ⟨rfl,_,d⟩
 |cons a r=>cases c with
  |nil=>have:=e.len;simp at this
  |cons x c=>exact .inr ⟨b,x,c,a,r,rfl,d,f,g,e⟩
def am0{W:aI}(h:aS n w x)(a:aS x x y)(b:y.grownBy W (Value.slice none 0 0).ownBlock)(d:n<=x):aS n w W:=
 ⟨b.os.trans (a.os.trans h.os),b.tape.trans (a.tape.trans h.tape),b.output.trans (a.output.trans h.output),aL h.size (aL a.size b.size),λk c=>(b.block k (aW c (aL d a.size)) (by simp[Value.ownBlock])).trans ((a.block k (aW c d)).trans (h.block k c))⟩
def bp5(w:aI)(l:oF)(n T:Nat)(e:eT)(b:aI):Prop:=∃a,e=.returned (.tuple #[a,.int .i64 (if 40<=T then 60 else 0)])/\(¬40<=T->bG5 b w.heap.size a (pC l n))/\aS w.heap.size w b
def QP(h:n∉M):M.contains n=false:=by rw[N0,ne_eq,DP];exact h
def bb2(v:aN)(l:oF)(n:Nat)(w:aI)(h:wH w v l)(hv:nM l=true)(hn:n<4294967296)(h5:n∉l.flatten)(h8:∀n∈l.flatten,n<4294967296):
 Calls prog 154 #[v,n] w (bp5 w l n l.flatten):=by
  have hc:=hv;unfold nM at hc;rw[bH]at hc;obtain⟨hw,V,-⟩:=hc;have hA:=sK v l w h (by omega) (by omega);have hV:=λ(x:aI)(hx:aS w.heap.size w x)=>GU v l x (h.next hx) (by omega) (by omega) h8;have h2:=λ(x:aI)(hx:aS w.heap.size w x)=>U6 v l x (h.next hx) (by omega) (by omega);rw[hv]at hV;have J:=QP h5;have⟨F,hF⟩:=kX l.flatten;have⟨T,hT⟩:=kX F.length;rw[<-hF]at hA J V|-;rw[<-hT]at hA V|-;have⟨HT,hl⟩:=aA hT (show T=l.flatten.length from by rw[hT,hF]);have n0:(0:Int)<=(n:Int):=(by omega);by_cases O:40<=T
  .have i1:(40:Int)<=T:=(by omega);clear h h8 h5 hv hF h2 hT;go_in;(go_wp2_with fail);go_call hA as e w1 ⟨v1,rfl,g,u⟩;have E:=hV w1 u;have s:=Reads.dC g;obtain⟨A1,c1,rfl,-⟩:=id s;have h1:=aH s;clear hA hV g s;(go_wp2_with fail);go_call E as e w2 ⟨rfl,A⟩;have B:=wF (F:=F) (by rw[<-HT.zz];exact h1.next A) n;rw[J]at B;clear E;(go_wp2_with fail);go_call B as e w' ⟨rfl,rfl⟩;go_wp2;go_ret2;exact⟨_,by rw[aU O];rfl,λh9=>absurd O h9,aJ u A⟩
  have i1:¬(40:Int)<=T:=(by omega);clear h h8 h5 hv hF hT;go_in;go_wp2_with fail
  go_call hA as e w1 ⟨v1,rfl,g,u⟩;have E:=hV w1 u;have s:=Reads.dC g;obtain⟨A1,c1,rfl,-⟩:=id s;have h1:=aH s;clear hA hV g s;go_wp2_with fail
  go_call E as e w2 ⟨rfl,A⟩;have B:=wF (F:=F) (by rw[<-HT.zz];exact h1.next A) n;rw[J]at B;have H:=aJ u A;have ha:=h2 w2 H;have U:=aH H;clear E h2 u A H;go_wp2_with fail
  go_call B as e w' ⟨rfl,rfl⟩;clear B;go_wp2_with fail
  go_call ha as e t ⟨v3,rfl,ho,h3⟩;have C:=aH (aJ U h3);have hm:=U.size;rcases ho.split with⟨h0,A3,rfl⟩|⟨b,x,vs,a,r,hg,rfl,ht,N,P⟩
  .have G:=aH (show pC l n=[[n]]from by unfold pC;rw[h0]);have h4:=(aY t.heap.size t).alloc gC (.cells #[.slice none 0 0] 33);have r4:=Row.new t #[.slice none 0 0] 33;have z4:(t.alloc (.cells #[.slice none 0 0] 33)).heap.size=t.heap.size+1:=bC _ _;clear h0 h3 ha;have⟨w4,hf⟩:=kX (t.alloc (.cells #[.slice none 0 0] 33));rw[<-hf]at h4 r4 z4;have⟨b,hb⟩:=kX t.heap.size;rw[<-hb]at r4 z4;have⟨hi,X⟩:=aA (And.intro hb z4) (aJ C h4);have W:lQ w4 w.heap.size [.slice none 0 0] [[]]:=⟨rfl,(λk y M S hM=>by
    rcases k with _|k
    .simp at S hM;subst S;subst hM;exact bQ _ _ _ _
    .simp at S),(λi j y z q hu S hz hq=>by
    rcases i with _|i
    .simp at S;subst S;simp[Value.ownBlock]at hq
    simp at S)⟩
   have⟨Z,D⟩:=aA r4 W;have c0:=r4.rY;have I:=(aY w4.heap.size w4).alloc gC (.cells #[.int .i64 n] 3);have m:=aH I;subst hf;subst hb;have h7:=Row.new (t.alloc (.cells #[.slice none 0 0] 33)) #[.int .i64 n] 3;rw[bC]at h7;have hj:=aH h7;clear r4 W z4 h4 I c0 h7;(go_wp2_with (at_builtin;refine bh0 oK underlying33 (bQ _ w.heap.size _ _) (rd1 hj rfl) rfl rfl rfl rfl rfl (by omega) (by have:=X.size;rw[bC];omega) ?_;intro v6 w6 c o d;obtain⟨A2,c2,rfl,-⟩:=id (Reads.dC c);have⟨q1,q2,q3⟩:=LX (k:=0) (L:=[]) (n:=n) Z D rfl rfl m o c d;have f1:=q1.TI;have c9:=q1.rY;have⟨Q,Y⟩:=aA (And.intro q2 q3) (am0 X m o X.size);clear q1 q2 q3 c o d));(try go_wp2);go_ret2;have f:w.heap.size<=t.heap.size:=(by have:=hi.zz.1;have:=C.size;omega);refine⟨_,by rw[aQ O];rfl,λ_=>?_,Y.setCell (p:=⟨t.heap.size,0,none⟩) f _⟩;rw[G.zz];exact .inr ⟨t.heap.size,_,rfl,f,Q.1,Q.2⟩
  have G:=aH (show pC l n=(a++[n])::r from by unfold pC;rw[hg]);have f:w.heap.size<=b:=(by omega);have K:lQ t w.heap.size (x::vs) (a::r):=⟨P.len,λk y M S hM=>fO (P.own k y M S hM) hm,P.apart⟩;have c0:=N.rY;have h6:=K.own 0 x a rfl rfl;obtain⟨Ax,cx,rfl,hp,hr,-⟩:=id (Reads.dC h6);have hh:=aH (show a.length<=1000 from by
   have he:=nN l;rw[hg]at he;have:=gQ List.length he;simp only[gP,aP]at this;have h9:=hl.zz;omega)
  have⟨Z,D,hd⟩:=aB N K h6;have I:=(aY t.heap.size t).alloc gC (.cells #[.int .i64 n] 3);have m:=aH I;have⟨R,hR⟩:=kX r.length;have hk:=aH hR;have hs:=hh.zz;clear N P K h6 I hp hr ha h3;simp only[cF,<-hR];clear hR;go_wp2_with (at_builtin;refine bh0 oK underlying33 (cA hd m) (rd1 (Row.new t #[.int .i64 n] 3) rfl) rfl rfl rfl rfl rfl (by omega) (by have:=C.size;rw[bC];omega) ?_;intro v6 w6 c o d;obtain⟨A2,c2,rfl,-⟩:=id (Reads.dC c);have⟨q1,q2,q3⟩:=LX (k:=0) (L:=a) (n:=n) Z D rfl rfl m o c d;have f1:=q1.TI;have c9:=q1.rY;have⟨Q,Y⟩:=aA (And.intro q2 q3) (pH (cA hd m) (aJ C m) o (by have:=C.size;rw[bC];omega));clear q1 q2 q3 c o d)
  try go_wp2
  go_ret2;refine⟨_,by rw[aQ O];rfl,λ_=>?_,Y.setCell (p:=⟨b,0,none⟩) f _⟩;rw[G.zz];refine .inr ⟨b,_,?_,f,Q.1,Q.2⟩;simp[hk.zz]
def zD(w:aI)(a:Nat)(v:aN)(l:oF):Prop:=(l=[]/\∃A,v=.slice A 0 0)\/∃b d c,v=.slice (some ⟨b,0,none⟩) l.length c/\l.length<=c/\c<=maxLen/\a<=b/\Row w b 33 d/\lQ w a d l
def bG5.toU(h:bG5 w n v C)(g:C.length<=1000):zD w n v C:=by
 rcases h with h|⟨b,f,a,c,d,e⟩
 .exact .inl h
 exact .inr ⟨b,f,_,a,gC,by unfold maxLen;omega,c,d,e⟩
def zD.E9{v:aN}(h:zD w n v C):wH w v C:=by
 rcases h with⟨rfl,A,rfl⟩|⟨b,m,c,rfl,f,g,p,e,a⟩
 .exact⟨[],rfl,⟨A,0,rfl,gC,bO _,rfl,(λh=>by simp at h)⟩,(λk x L d=>by simp at d)⟩
 refine⟨m,a.len,⟨_,_,rfl,f,g,by simp[a.len],λo=>⟨b,0,rfl,e.lt,λj l=>?_⟩⟩,λk x L d i=>Reads.dC (a.own k x L d i)⟩;rw[jB];exact e.cell j l
def zD.next{w:aI}{n:Nat}{v:aN}(h:zD w n v C)(a:aS w w x):zD x n v C:=by
 rcases h with h|⟨b,k,c,d,e,f,g,i,j⟩
 .exact .inl h
 exact .inr ⟨b,k,c,d,e,f,g,i.next a,j.next a⟩
def yN(l:oF)(k:Int):Int:=if k<0\/5<=k then 2 else if l.getD k.toNat []=[]then 4 else 0
def ZU(w:aI)(l:oF)(k:Int)(e:eT)(b:aI):Prop:=∃a,e=.returned (.tuple #[a,.int .i64 (yN l k)])/\(yN l k=0->b.ownsRow w.heap.size 3 1 a (l.getD k.toNat []).length (gJ (l.getD k.toNat [])))/\aS w.heap.size w b
def U7(v:aN)(l:oF)(k:Int)(w:aI)(h:wH w v l)(H:nM l=true)(hk:-9223372036854775808<=k/\k<=9223372036854775807)(u:∀n∈l.flatten,n<4294967296):
 Calls prog 158 #[v,k] w (ZU w l k):=by
  have D:=H;unfold nM at D;rw[bH]at D;obtain⟨C,S,-⟩:=D;have p:=GU v l w h (by omega) (by omega) u;rw[H]at p;have⟨V,E,o,r⟩:=id h;obtain⟨A,c,rfl,g,R,-⟩:=id o;unfold maxLen at R;have⟨k1,k2⟩:=hk;by_cases f:k<0\/5<=k
  .have q:=aH (show yN l k=2 from aU f);have⟨M,z⟩:=kX l.length;rw[<-z]at p g|-;clear h u H o r E z C;rcases(show k<0\/(¬k<0/\5<=k)from by omega)with h1|⟨h1,h2⟩
   all_goals
    clear f;go_in;(go_wp2_with fail);go_call p as e K ⟨rfl,d⟩;clear p;go_wp2;go_ret2;exact⟨_,by rw[q.zz];rfl,(λy=>by rw[q.zz]at y;cases y),d⟩
  obtain⟨j,rfl⟩:=dA (a:=k) (by omega);have h3:j<5:=(by omega);have n1:¬((j:Int)<0):=(by omega);have n2:¬(5:Int)<=j:=(by omega);by_cases s:j<l
  .obtain⟨b,h6,rfl,-,-,-,m⟩:=o.W1 (by omega);have J:V[j]?=some (V[j]'(by omega)):=aK (by omega);have P:l[j]?=some l[j]:=aK s;have T:l.getD j []=l[j]:=(by rw[b8,P];rfl);have t:=r j _ _ J P;obtain⟨Ax,cx,I,h4,h5,-⟩:=id t;have Q:=λx hb=>m x hb j (by omega);rw[I]at t Q;have h0:l[j].length<=40:=by have:=JW (cY s);omega
   have G:=λ(x:aI)(J:aS w w x)=>al7 (t.next J) (by omega);generalize l[j]=L at *;have⟨M,z⟩:=kX l.length;rw[<-z]at p g C s|-;have⟨O,X,N⟩:=aB T Q G;have i1:¬(M:Int)<=j:=(by omega);clear h u H o r E z J P t Q G m I f T;by_cases i:L=[]
   iterate 2
    ·(first|((have q:=aH (show yN l j=4 from by unfold yN;rw[aQ (by omega),cB,O.zz,aU i]));subst i)|((have q:=aH (show yN l j=0 from by unfold yN;rw[aQ (by omega),cB,O.zz,aQ i]));have U:0<L.length:=pM.2 i;(have i2:¬(L:Int)=0:=by omega);(have i3:L.length≠0:=by omega);(have i4:((L:Int)==0)=false:=by rw[bI];omega);clear i));go_in;(go_wp2_with fail);go_call p as e K ⟨rfl,d⟩;have Z:=X K d;(first|simp only[jU]at Z|have g:=N K d);clear p;(try (go_wp2_with fail;go_call g as e w2 ⟨v2,rfl,B,F⟩;have⟨Y,W⟩:=aA (fO B d.size) (aJ d F);clear g B F));go_wp2;go_ret2;first|(exact⟨_,by rw[q.zz];rfl,(λy=>by rw[q.zz]at y;cases y),d⟩)|(exact⟨_,by rw[q.zz];rfl,(λ_=>by rw[cB,O.zz];exact Y),W⟩)
  have q:=aH (show yN l j=4 from by
   unfold yN;rw[aQ (by omega),cB,aU];rw[b8,jS (by omega)];rfl)
  have⟨M,z⟩:=kX l.length;rw[<-z]at p g C s|-;have i1:(M:Int)<=j:=(by omega);clear h u H o r E z f;go_in;go_wp2_with fail
  go_call p as e K ⟨rfl,d⟩;clear p;go_wp2;go_ret2;exact⟨_,by rw[q.zz];rfl,(λy=>by rw[q.zz]at y;cases y),d⟩
def bb3{k:Nat}(s:Row w n 33 X)(o:lQ w m X C):
 Row (w.setCell (zp n k) zs) n 33 (X.set k zs)/\lQ (w.setCell (zp n k) zs) m (X.set k zs) (C.set k []):=by
  have u:∀q,q≠n->(w.setCell (zp n k) zs).heap[q]?=w.heap[q]?:=λq d=>aV _ _ _ _ d;refine⟨s.set k _,⟨by simp[o.len],λj y M b e=>?_,λi j y z q p b l d h=>?_⟩⟩
  .by_cases a:k=j
   .subst a;have c:=(aR.1 b).1;have r:=(aR.1 e).1;simp only[nJ]at c r;rw[gI c]at b;rw[gI r]at e;cases b;cases e;exact bQ _ _ _ _
   rw[jD a]at b e;have g:=o.own j y M b e;refine fG g λq d=>u q (λt=>?_);have:=dI (dZ g d) (t▸s);exact absurd this (by decide)
  by_cases f:k=i
  .subst f;have c:=(aR.1 b).1;simp only[nJ]at c;rw[gI c]at b;cases b;simp[Value.ownBlock]at d
  by_cases a:k=j
  .subst a;have c:=(aR.1 l).1;simp only[nJ]at c;rw[gI c]at l;cases l;simp[Value.ownBlock]at h
  rw[jD f]at b;rw[jD a]at l;exact o.apart i j y z q p b l d h
def lQ.bJ7(h:lQ w n X C):lQ w n (X++[.slice none 0 0]) (C++[[]]):=
 h.snoc (B:=w.heap.size) (bQ _ _ _ _) h.lt (λb a=>by simp[Value.ownBlock]at a)
def bA4(h:lQ w n X C):∀u∈X,u.oneCell'=true:=aU8 X λk x a=>by
 have b:=(aR.1 a).1;obtain⟨A,c,rfl,-⟩:=Reads.dC (h.own k x _ a (aK (by rw[<-h.len];exact b)));exact⟨_,_,_,rfl⟩
def av2{b:Type}{a:List b}{x:b}(h:a=n):(a++[x])[n]?=x:=by rw[eA (by omega),h,gM];rfl
def as3{c:Type}{a:List c}{x:c}(h:a=n){b:n<(a++[x]).length}:(a++[x])[n]=x:=by have:=av2 (x:=x) h;rw[aK b]at this;exact cS this
def aW2(l:lQ x k X C)(q:X=m)(a:y.ownsRow x 33 1 v (m+1) (X++[.slice none 0 0]))(b:x.grownBy y none)(d:aS n w x)(j:n<=x):
 ∃g c,v=.slice (zp g) (m+1) c/\m+1<=c/\c<=maxLen/\x.heap.size<=g/\Row y g 33 (X++[.slice none 0 0])/\lQ y k (X++[.slice none 0 0]) (C++[[]])/\aS n w y:=by
  rcases id a.2 with⟨f,u⟩|⟨g,e,r,f,h,-,o,i,-,-⟩
  .omega
  refine⟨g,e,f,o,i,h,dZ a (by rw[f];simp[Value.ownBlock]),(l.eO λA t z s _=>b.block A s.lt (by simp)).bJ7,⟨b.os.trans d.os,b.tape.trans d.tape,b.output.trans d.output,aL d.size b.size,λA p=>(b.block A (aW p j) (by simp)).trans (d.block A p)⟩⟩
def aQ1(w:aI)(l:oF)(k n:Nat)(e:eT)(b:aI):Prop:=∃a,e=.returned (.tuple #[a,.int .i64 0])/\zD b w.heap.size a (mJ l k n)/\aS w.heap.size w b
def an7(l:oF):∃z:oF,l=iF l++z/\∀a∈z,a=[]:=by
 induction l using BF with
 |h0=>exact⟨[],rfl,by simp⟩
 |h1 l a ih=>
  have e:iF (l++[a])=if a.isEmpty=true then iF l else l++[a]:=by unfold iF;rw[xZ];show((a::l.reverse).dropWhile List.isEmpty).reverse=_;rw[nA];split<;>simp
  rw[e];by_cases h:a.isEmpty=true
  .rw[aU h];have⟨z,h1,h2⟩:=ih;refine⟨z++[a],by rw[<-bV,<-h1],λb hb=>?_⟩;rcases cE.1 hb with hb|hb
   .exact h2 b hb
   rw[bT.1 hb];exact RG.1 h
  rw[aQ h];exact⟨[],by simp,by simp⟩
def cb8(b:C.getD n []≠[]):n<(iF C):=by
 have⟨z,c,d⟩:=an7 C;rcases cR n (iF C) with h|h
 .exact h
 exfalso;apply b;rw[c,b8,eA h];cases e:z[n - (iF C).length]? with
 |none=>rfl
 |some a=>exact d a (bD e)
def Y8(v:aN)(l:oF)(k n:Nat)(w:aI)(h:wH w v l)(hv:nM l=true)(hk:k<5)(hc:l.getD k []≠[])(hn:n<4294967296)(hz:n∉l.flatten)(x5:∀n∈l.flatten,n<4294967296):
 Calls prog 160 #[v,k,n] w (aQ1 w l k n):=by
  have he:=hv;unfold nM at he;rw[bH]at he;obtain⟨xl,B,-⟩:=he;have hP:=U7 v l (k:Int) w h hv ⟨by omega,by omega⟩ x5;have x1:yN l (k:Int)=0:=(by unfold yN;rw[aQ (by omega),cB,aQ hc]);unfold ZU at hP;rw[x1]at hP;have hA:=λ(x:aI)(hx:aS w w x)=>sK v l x (h.next hx) (by omega) (by omega);have hs:=λ(x:aI)(hx:aS w w x)=>U6 v l x (h.next hx) (by omega) (by omega);have U:=QP hz;have hw:=cb8 hc;have x7:=BC l;have⟨F,hF⟩:=kX l.flatten;have⟨T,hT⟩:=kX F.length;rw[<-hF]at hA U;rw[<-hT]at hA;have⟨HT,h5,hm⟩:=aB hT (And.intro hw (And.intro x7 xl)) (show(iF l).flatten.length<=40 from by rw[nN];first|exact B|(rw[<-hF];exact B));have n0:(0:Int)<=(n:Int):=(by omega);have⟨j0,xk,xn,xo,xp⟩:=info_parts FG;clear h x5 hz hv hF hT hc x1 B hw x7;go_in;go_wp2_with fail
  go_call hP as e w1 ⟨v1,rfl,-,H⟩;have hq:=hA w1 H;clear hP hA;go_wp2_with fail
  go_call hq as e w2 ⟨v2,rfl,Y,h8⟩;have hd:=Reads.dC Y;obtain⟨A2,c2,rfl,-⟩:=id hd;have ha:=wF (F:=F) (by rw[<-HT.zz];exact hd) n;rw[U]at ha;have x8:=hs w2 (aJ H h8);have hi:=aH (aJ H h8);clear hq hs H h8 Y hd;go_wp2_with fail
  go_call ha as e w' ⟨rfl,rfl⟩;clear ha;go_wp2_with fail
  go_call x8 as e w3 ⟨v3,rfl,xm,ht⟩;have hl:=aH (aJ hi ht);have xj:=hi.size;clear x8 ht;rcases xm with⟨h0,-⟩|⟨b,vs,rfl,xx,i,q⟩
  .have:=h5.zz.1;rw[h0]at this;simp at this
  have⟨O,hO⟩:=kX (iF l);rw[<-hO]at q|-;have D:lQ w3 w vs O:=⟨q.len,λk y M hy G=>fO (q.own k y M hy G) xj,q.apart⟩;have⟨M,G⟩:=kX O.length;rw[<-G];have xy:k<M:=(by have:=h5.zz.1;rw[<-hO]at this;omega);have xw:M<=5:=(by have:=h5.zz.2;rw[<-hO]at this;omega);have hf:vs.length=M:=(by rw[q.len,G]);have C:w<=b:=(by omega);have⟨r4,c⟩:=bb3 (k:=k) i D;obtain⟨x0,c0⟩:∃x0,w3.cell? (zp b k)=some x0:=⟨_,i.cell k (by omega)⟩;have f0:=i.frozen k (by omega);have h3:=aH (hl.setCell (p:=zp b k) C zs);have⟨I,hI⟩:=kX (min (k+1) 4);have xq:min ((k:Int)+1) 4=(I:Int):=(by omega);have xu:I<=4:=(by omega);have f:(vs.set k zs)=M:=(by simp[hf]);have d:(O.set k [])=M:=by simp[G]
  have t:mJ l k n=if M<=I then O.set k []++[[n]]else(O.set k []).set I ((O.set k []).getD I []++[n]):=by unfold mJ;rw[<-hO,<-hI,d]
  have x6:w.heap.size<=w3:=hl.size;have⟨w4,K⟩:=kX (w3.setCell (zp b k) zs);have z4:w4.heap.size=w3:=(by rw[K];simp);rw[<-K]at r4 c h3;by_cases hr:I<M
  .have hx:(vs.set k zs)[I]?=some ((vs.set k zs)[I]'(by omega)):=aK (by omega);have hL:(O.set k [])[I]?=some ((O.set k [])[I]'(by omega)):=aK (by omega);have J:=c.own I _ _ hx hL;obtain⟨Ax,cx,hh,-⟩:=id (Reads.dC J);have xv:((O.set k [])[I]'(by omega)).length<=1000:=by
    have xg:=hm.zz;rw[<-hO]at xg;rcases ca5 (cY (l:=O.set k []) (n:=I) (by rw[d];exact hr))with h9|h9
    .have:=JW h9;omega
    rw[h9];simp
   rw[hh]at hx J;have hg:(O.set k []).getD I []=(O.set k [])[I]'(by omega):=(by rw[b8,hL];rfl);rw[hg,aQ (by omega)]at t;generalize (O.set k [])[I]'(by omega)=L at *;have c9:=r4.cell I (by rw[f];exact hr);rw[show(vs.set k zs)[I]'(by omega)=.slice Ax L.length cx from by rw[<-hh]]at c9;have⟨xc,A,hp,HX,HL,h6⟩:=aE r4 c J hx hL t;have m:=(aY w4 w4).alloc gC (.cells #[n] 3);have s:=aH m;have E:=Row.new w4 #[n] 3;have⟨h7,g,HH⟩:=aB E (And.intro G (And.intro f d)) (And.intro C x6);have xi:¬(M:Int)<=(I:Int):=(by omega);have xt:=aH z4;subst K;clear r4 c J hx hL t m E G f d hf i q D hO hg hh hI z4;(go_wp2_with (at_builtin;refine bh0 oK underlying33 (cA hp s) (rd1 (by have:=h7.zz;simpa using this) rfl) rfl rfl rfl rfl rfl (by omega) (by have h1:=HH.zz.2;rw[bC];simp;omega) ?_;intro v6 w6 a o N;obtain⟨A6,c6,rfl,-⟩:=id (Reads.dC a);have⟨q1,q2,q3⟩:=LX (k:=I) (L:=L) (n:=n) xc A HX HL s o a N;have f1:=q1.frozen I (by rw[g.zz.2.1];omega);have c8:=q1.cell I (by rw[g.zz.2.1];omega);have⟨Q,z⟩:=aA (And.intro q2 q3) (pH (cA hp s) (aJ h3 s) o (by have h1:=HH.zz.2;rw[bC];simp;omega));clear q1 q2 q3 a o N));(try go_wp2);go_ret2;refine⟨_,rfl,?_,z.setCell (p:=zp b I) HH.1 _⟩;rw[h6.zz];exact .inr ⟨b,_,M,by simp[g.zz.1],by simp[g.zz.1],by unfold maxLen;omega,HH.1,Q.1,Q.2⟩
  have xh:I=M:=(by omega);rw[aU (by omega)]at t;have⟨h6,g,HH⟩:=aB t (And.intro G (And.intro f d)) (And.intro C x6);have Z:Reads w4 (.slice (zp b) M M) 1 M (vs.set k zs):=⟨_,_,rfl,gC,by unfold maxLen;omega,by rw[f];omega,λh0=>⟨b,0,rfl,r4.lt,λj hj=>by rw[jB];exact r4.cell j hj⟩⟩;have X:=bA4 c;have m:=(aY w4 w4).alloc gC (.cells #[zs] 33);have E:=Row.new w4 #[zs] 33;have⟨xe,h7,s,ho,A⟩:=aD (Z.next m) E m X (c.next m);have xi:(M:Int)<=(I:Int):=(by omega);have xr:=aH xh;subst K;clear r4 c t m E G f d hf i q D hO hI z4 Z X;go_wp2_with (first
   |at_builtin;refine B3 _ rfl _ _ 55 rfl 33 j0 zs 1 24 underlying55 xk xn xo xp rfl (zp b) M (vs.set k zs) rfl xe ho _ 1 [zs] rfl (rd1 (by have:=h7.zz;simpa using this) rfl) (by intro u hu;simp at hu;subst hu;rfl) (by unfold maxLen;omega) (by omega) ?_;intro v6 w6 x3 a o;obtain⟨g6,xf,rfl,R,S,V,r6,x9,b6⟩:=aW2 A g.2.1 (a (by omega)) o (aJ h3 s) (by have h1:=HH.zz.2;rw[bC];simp;omega);have c6:=r6.cell M (by simp[g.zz.2.1]);rw[as3 g.zz.2.1]at c6;have⟨xd,xb,z,h4,xs⟩:=aD r6 x9 b6 (And.intro R (And.intro S V)) o.size;clear x3 a o r6 x9 b6 R S V
   |at_builtin;refine bh0 oK underlying33 (bQ _ w _ _) (rd1 (Row.new _ #[n] 3) rfl) rfl rfl rfl rfl rfl (by omega) (by have h1:=z.size;rw[bC];omega) ?_;intro v7 w7 r hb P;obtain⟨A7,c7,rfl,-⟩:=id (Reads.dC r);have⟨q1,q2,q3⟩:=LX (k:=M) (L:=[]) (n:=n) xd xb (av2 g.2.1) (av2 g.2.2) (mE.alloc gC _) hb r P;have f7:=q1.frozen M (by simp[g.zz.2.1]);have c8:=q1.cell M (by simp[g.zz.2.1]);have⟨Q,xa⟩:=aA (And.intro q2 q3) (am0 z (mE.alloc gC _) hb z.size);clear q1 q2 q3 r hb P)
  try go_wp2
  go_ret2;have W:w<=g6:=(by have h1:=h4.zz.2.2;have h2:=HH.zz.2;rw[bC]at h1;simp at h1;omega);refine⟨_,rfl,?_,xa.setCell (p:=zp g6 M) W _⟩;rw[h6.zz];have x4:(O.set k []++[[]]).set M ([]++[n])=O.set k []++[[n]]:=by rw[jR _ _ (by rw[g.zz.2.2];exact aO _),g.zz.2.2,gM];rfl
  have x2:=Q.zz.2;rw[x4]at x2;exact .inr ⟨g6,_,xf,by simp[g.zz.2.2,g.zz.1],by simp[<-g.zz.1];exact h4.1,h4.2.1,W,Q.1,x2⟩
end Go.Proofs.YtpopikndggffaaaGreatDoor
