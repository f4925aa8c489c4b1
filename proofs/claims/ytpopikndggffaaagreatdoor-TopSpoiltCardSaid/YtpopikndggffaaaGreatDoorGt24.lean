/- TOP, part 24. -/
import Derived.Test.YtpopikndggffaaaGreatDoorGt22
import Derived.Test.YtpopikndggffaaaGreatDoorGt23
namespace Go.Proofs.YtpopikndggffaaaGreatDoor
set_option linter.all false
set_option maxRecDepth 100000
set_option maxHeartbeats 16000000
open Go.RowKit Go.Maps Tryz
variable{d g i j k m n:Nat}{a w x y:aI}{D:aL}{u v z:aN}{K:bH->Nat}{H:bH->aN}{G:cS}
def LOp.from{n k:Nat}{v:aN}{a:Int}{D:aL}{w:aI}{e:eY}(b:aR w w x)(h:LOp n k m i j v u a G D x e y):LOp n k m i j v u a G D w e y:=by obtain⟨d,f,⟨r,c,g,l,o⟩,p⟩:=h;exact⟨d,f,⟨r,c,g,λs q=>(l s q).imp id (λh=>aM b.size h),o⟩,(uJ.cT b n m i v).trans (lA.refl _ _) p⟩
def bk4(h:l4 w k n i G D.bQ false v)(I:bJ w k n m D K H)(ha:D.down=false)(hb:k<=w)(p:aS)(hp:p.size<=2000):Calls prog 92 #[zp i,p] w (LOp k n m i D.bQ v (.tuple #[((iE G D (lb p)).2.1:Nat),(iE G D (lb p)).1]) (iE G D (lb p)).1 (iE G D (lb p)).2.2.1 (iE G D (lb p)).2.2.2 w):=by
 have f:=NG h I ha;have j:=λx:aI=>aJ9 p x (by omega);have e1:bg7 (lb p)=kE (lb p):=(by unfold bg7;rw[aP (by rw[bI];omega)]);have e2:bg9 (lb p)=0:=(by unfold bg9;rw[aP (by rw[bI];omega)]);rw[e1,e2]at j;clear e1 e2;have P:(bs (kE (lb p))).size=p+12:=(by rw[eO,nG,bI]);have B:lb (bs (kE (lb p)))=kE (lb p):=(by simp[lb,bs]);obtain⟨A,c,rfl,hg,h4,-⟩:=id (Reads.cX h.own);unfold maxLen at h4;have h6:=h.many;have⟨HH,HD⟩:=aA h I;have⟨ST,L⟩:=fR D.bQ;by_cases E:G.bV=[]
 .have Q:iE G D (lb p)=pX G D 0 (kE (lb p)):=by unfold iE;rw[aP (by rw[bI];omega),aP (by rw[E];simp),E];rfl
  rw[Q];have a:=λ(x:aI)(u:aR w w x)=>ap1 (h.next u) (I.next u) (aM hb u.size) 0 (by rw[E];rfl) (bs (kE (lb p))) (by omega);rw[B]at a;have V:G.bV.length=0:=(by rw[E];rfl);have M:=λ(x:aI)(u:aR w w x)=>(h.next u).row.JF;simp only[fA,dA,V]at M;obtain⟨⟨e,Y,G',D'⟩,O⟩:∃q,q=pX G D 0 (kE (lb p)):=⟨_,rfl⟩;rw[<-O]at a|-;rw[<-L]at a|-;generalize bs (kE (lb p))=R at j a;rw[V]at a|-;clear Q O B h I E P;go_in;go_wp2_with fail
  go_call f as x Z ⟨rfl,y⟩;go_wp2_with fail
  go_call j Z as x w2 ⟨rfl,z⟩;have d:=aK y z;have c3:=M _ d;have o:=a _ d;have T:=aH d;clear M a j f y z d;go_wp2_with fail
  go_call o as x w3 J;have U:=aH (J.from T);obtain⟨rfl,-⟩:=J;clear o;go_wp2;go_ret2;exact U
 obtain⟨hj,S⟩:∃hj,G.bV.length=hj+1:=⟨G.bV.length - 1,by have:=qL.2 E;omega⟩;obtain⟨q,O⟩:∃q,G.bV.getD hj 0=q:=⟨_,rfl⟩;have hi:q<=1048576:=by rw[<-O,aY,aJ (by omega)];exact h.small _ (dC _)
 have s:∀x,aR w w x->x.cell? (zp i 3)=some (.slice A (hj+1) c)/\∃b,A=zp b/\x.cell? (zp b hj)=some q:=λx u=>by
  have h7:=Reads.cX (h.next u).own;obtain⟨b,hc,rfl,-,-,-,N⟩:=h7.UK (by omega);obtain⟨b',W⟩:∃b',(some ((zp b hc):Addr))=some ⟨b',0,none⟩:=by
   rcases h.own.2 with⟨h9,h8⟩|⟨g,he,hf,h9,-⟩
   .exact absurd h8 (by omega)
   exact⟨g,by cases h9;rfl⟩
  cases W;have h5:G.bV[hj]'(by omega)=q:=(by rw[<-O,aY,aJ (by omega)];rfl);refine⟨?_,b,rfl,?_⟩
  .have:=(h.next u).row.JF;simp only[fA,dA,S]at this;exact this
  have:=N x iH hj (by simp;omega);rwa[zX,h5,jC]at this
 obtain⟨-,b,rfl,-⟩:=s w iH;have F:∀x,aR w w x->x.cell? (zp i 3)=some (.slice (zp b) (hj+1) c)/\x.cell? (zp b hj)=some q:=λx u=>by have⟨h1,b',h2,h3⟩:=s x u;cases h2;exact⟨h1,h3⟩
 have Q:iE G D (lb p)=if yF q p=true then pM G D hj (kE (lb p))else pX G D (hj+1) (kE (lb p)):=by
  unfold iE;rw[aP (by rw[bI];omega),S,show hj+1-1=hj from rfl,O,bI];by_cases l:yF q p=true
  .rw[aV ⟨E,l⟩,aV l]
  rw[aP (λh=>l h.2),aP l]
 rw[Q];have t:=λx:aI=>aV1 (q:Int) p x ⟨by omega,by omega⟩ (by unfold maxLen;omega);by_cases l:yF q p=true
 .rw[aV l];have hh:q+p+12<=4096:=by unfold yF at l;simp only[bG]at l;omega
  have a:=λ(x:aI)(u:aR w w x)=>bk3 (h.next u) (I.next u) (aM hb u.size) hj q S O (bs (kE (lb p))) (by omega);rw[B]at a;rw[l]at t;obtain⟨⟨e,Y,G',D'⟩,X⟩:∃r,r=pM G D hj (kE (lb p)):=⟨_,rfl⟩;rw[<-X]at a|-;rw[<-L]at a|-;rw[S]at a|-;generalize bs (kE (lb p))=R at j a;clear Q X B h I E P s l;go_in;go_wp2_with fail
  go_call f as x Z ⟨rfl,y⟩;go_wp2_with fail
  go_call j Z as x w2 ⟨rfl,z⟩;have d:=aK y z;have⟨c3,c4⟩:=F _ d;have o:=a _ d;have C:=t w2;have T:=aH d;clear F a j f y z d t;go_wp2_with fail
  go_call C as x w' ⟨rfl,rfl⟩;go_wp2_with fail
  go_call o as x w3 J;have U:=aH (J.from T);obtain⟨rfl,-⟩:=J;clear o;go_wp2;go_ret2;exact U
 rw[aP l];have l:yF q p=false:=(by simpa using l);have a:=λ(x:aI)(u:aR w w x)=>ap1 (h.next u) (I.next u) (aM hb u.size) (hj+1) S (bs (kE (lb p))) (by omega);rw[B]at a;rw[l]at t;obtain⟨⟨e,Y,G',D'⟩,X⟩:∃r,r=pX G D (hj+1) (kE (lb p)):=⟨_,rfl⟩;rw[<-X]at a|-;rw[<-L]at a|-;rw[S]at a|-;generalize bs (kE (lb p))=R at j a;clear Q X B h I E P s l;go_in;go_wp2_with fail
 go_call f as x Z ⟨rfl,y⟩;go_wp2_with fail
 go_call j Z as x w2 ⟨rfl,z⟩;have d:=aK y z;have⟨c3,c4⟩:=F _ d;have o:=a _ d;have C:=t w2;have T:=aH d;clear F a j f y z d t;go_wp2_with fail
 go_call C as x w' ⟨rfl,rfl⟩;go_wp2_with fail
 go_call o as x w3 J;have U:=aH (J.from T);obtain⟨rfl,-⟩:=J;clear o;go_wp2;go_ret2;exact U
variable{l s:bH}
def cs2(h:recAt s n=true):gA ((s.drop n).take (l9 s n+12)) 0=gA s (n:Int)/\UB ((s.drop n).take (l9 s n+12)) 0=true/\(gA s (n:Int)).length=l9 s n:=by have i:=oN h;have b:=h;unfold recAt at b;simp only[bL,bG,gH]at b;have e:=b.2.2.2;have d:UB s (n:Int)=true:=(by unfold UB;rw[bZ (by omega),fQ,bW];exact h);have c:gA s (n:Int)=(s.drop (n+4)).take (l9 s n):=(by unfold gA;rw[d,aV rfl,bW]);have a:((s.drop (n+4)).take (l9 s n))=l9 s n:=(by simp;omega);rw[e,c];have f:=bx7 [] ((s.drop (n+4)).take (l9 s n)) [] (by rw[a];exact i.2.1);have g:=S8 [] ((s.drop (n+4)).take (l9 s n)) [] (by rw[a];exact i.2.1);simp only[qA,gM,kG]at f g;exact⟨f,g,a⟩
def bg3(e:n<k)(d:12<=m)(a:m+12<=i)(b:m+j+12<=i)(c:j<=2000)(f:Nat):decide ((f:Int)<0)=false/\decide ((k:Int)<=(n:Int))=false/\decide ((m:Int)<12)=false/\decide ((i:Int)-12<(m:Int))=false/\decide ((i:Int)-12-(m:Int)<(j:Int))=false/\decide ((2000:Int)<(j:Int))=false:=by simp only[cN];omega
def wrap_small(h:n<=200):wrap64 (n:Int)=(n:Int):=by unfold wrap64;omega
def ce4(h:l4 w k n i G D.bQ false v)(hd:bJ w k n m D K H)(U:D.down=false)(hb:k<=w)(x9 xa a:Nat)(hz:x9/4096=xa)(hy:x9%4096=a)(V:xa<G.bV){f:fK}(hf:bO D.files (iJ xa)=f)(s:f.data=G.bV.getD xa 0)(ha:12<=a)(hr:recAt f.data a=true):Calls prog 215 #[zp i,x9] w λe w'=>e=.returned (.tuple #[bs (gA f.data (a:Int)),()])/\bJ w' k n m D K H/\l4 w' k n i G D.bQ false v/\gX k m w w':=by
 have d:=NG h hd U;have t:=h.many;have T:xa<=200:=aM (qT V) t;have hk:x9<=1000000000:=(by clear d;omega);have x6:a<4096:=(by clear d;omega);have q1:Int.tdiv (x9:Int) 4096=(xa:Int):=(by rw[nM (by omega)];omega);have q2:Int.tmod (x9:Int) 4096=(a:Int):=(by rw[rH (by omega)];omega);have ht:=aH (And.intro q1 q2);clear q1 q2 hz hy;have⟨B,C,r⟩:=oN hr;have⟨g1,g2,g3⟩:=cs2 hr;have S:f.data.length<=1048576:=(hd.data hf).2;have HC:=λx:aI=>rR (xa:Int) x ⟨by omega,by omega⟩;have HR:=λ(x:aI) (y:bJ x k n m D K H) (j:Int) hk=>wI y (lR 99 (xa:Int)) (jV _ _) (a:Int) j ⟨by omega,by omega⟩ hk;rw[uT]at HR;unfold OK at HR;have r1:D.read (iJ xa) (a:Int) 4=((f.data.drop a).take 4,0):=by unfold aL.read;rw[U,hf];simp;omega
 have r2:D.read (iJ xa) (a:Int) ((l9 f.data a:Int)+12)=((f.data.drop a).take (l9 f.data a+12),0):=by unfold aL.read;rw[U,hf,aP (by simp)];simp only;rw[aP (by omega),bW,show((l9 f.data a:Int)+12).toNat=l9 f.data a+12 from by omega]
 have z:=λx y=>HR x y 4 ⟨by omega,by omega⟩;have p:=λx y=>HR x y ((l9 f.data a:Int)+12) ⟨by omega,by omega⟩;simp only[r1]at z;simp only[r2]at p;clear HR r1 r2;have⟨N,hN⟩:=fR (l9 f.data a);have u:=λx:aI=>xG (bs ((f.data.drop a).take 4)) x (by rw[eO];simp;unfold maxLen;omega);have J:pF (lb (bs ((f.data.drop a).take 4)))=N:=by rw[gP,hN];unfold pF l9;rw[l5];rfl
 rw[J]at u;have o:=λx:aI=>L1 (bs ((f.data.drop a).take (l9 f.data a+12))) 0 x (by rw[eO];simp;omega) ⟨by omega,by omega⟩;rw[gP,g1,g2]at o;have⟨T1,h4⟩:=fR (bs ((f.data.drop a).take 4));have⟨T2,h5⟩:=fR (bs ((f.data.drop a).take (l9 f.data a+12)));rw[<-h4]at z u;rw[<-h5]at p o;rw[<-hN]at p C r;generalize gN ((f.data.drop a).take (l9 f.data a+12)) 0=N2 at o;generalize gA f.data (a:Int)=PL at o|-;obtain⟨q,hq⟩:∃q,G.bV.getD xa 0=q:=⟨_,rfl⟩;rw[hq]at s;rw[s]at B r S;obtain⟨A,c,rfl,hu,hv,-⟩:=id (Reads.cX h.own);clear hu hv;have l:∀x,l4 x k n i G D.bQ false (.slice A G.bV c)->x.cell? (zp i 3)=some (.slice A G.bV c)/\∃b,A=zp b/\x.cell? (zp b xa)=some q:=λx y=>by
  have x0:=Reads.cX y.own;obtain⟨b,x1,rfl,-,-,-,P⟩:=x0.UK (by omega);obtain⟨b',he⟩:∃b',(some ((zp b x1):Addr))=some ⟨b',0,none⟩:=by
   rcases h.own.2 with⟨h9,h8⟩|⟨g,x2,x3,h9,-⟩
   .exact absurd h8 (by omega)
   exact⟨g,by cases h9;rfl⟩
  cases he;have hw:G.bV[xa]'(by omega)=q:=(by rw[<-hq,aY,aJ (by omega)];rfl);refine⟨?_,b,rfl,?_⟩
  .have:=y.row.JF;exact this
  have:=P x iH xa (by simp;omega);rwa[zX,hw,jC]at this
 obtain⟨-,b,rfl,-⟩:=l w h;have h6:∀x,l4 x k n i G D.bQ false (.slice (zp b) G.bV c)->x.cell? (zp i 3)=some (.slice (zp b) G.bV c)/\x.cell? (zp b xa)=q/\x.cell? (zp i)=some (.pointer (some ⟨n,0,none⟩)):=λx y=>by have⟨h1,b',h2,h3⟩:=l x y;cases h2;exact⟨h1,h3,y.row.lO⟩
 have⟨L,HH,HD⟩:=aB h6 h hd;have⟨ST,x5⟩:=fR D.bQ;have⟨M,hM⟩:=fR G.bV.length;have w9:=wrap_small T;have O:=aH hM;rw[<-hM]at V;have⟨j0,j1,j2,j3,j4,j5⟩:=bg3 V ha (show a+12<=q from B) (show a+N+12<=q from r) C x9;have x7:xa<M:=V;have x8:q<=1048576:=S;have x4:N<=2000:=C;have HX:=aH (And.intro B (And.intro r (And.intro V hk)));clear l h6 h hd hr hf hq hN h4 h5 J g1 g2 g3 hM B r V t ha S C s;have⟨q1,q2⟩:=ht.zz;go_in;go_wp2_with fail
 go_call d as x w1 ⟨rfl,I⟩;have⟨Y,hg⟩:=aA (HH.next I) (HD.next I);have⟨c3,c4,c0⟩:=L _ Y;rw[<-O.zz]at c3;clear d;go_wp2_with fail
 go_call HC w1 as x w2 ⟨rfl,F⟩;have⟨Z,W⟩:=aA (Y.next F) (hg.next F);have⟨c3,c4,c0⟩:=L _ Z;rw[<-O.zz]at c3;have hj:=aH (gX.cT (aK I F) k m);clear I F;go_wp2_with fail
 go_call z _ W as x w3 ⟨rfl,h7,Q⟩;have⟨h0,hl,X⟩:=aB (Z.yH W Q) (hj.trans Q) h7;have⟨c3,c4,c0⟩:=L _ h0;rw[<-O.zz]at c3;clear h7 Q z;go_wp2_with fail
 go_call u w3 as x w' ⟨rfl,rfl⟩;go_wp2_with fail
 go_call p _ X as x w4 ⟨rfl,hc,R⟩;have⟨hp,hm,hh⟩:=aB (h0.yH X R) (hl.trans R) hc;clear hc R p;go_wp2_with fail
 go_call o w4 as x w5 ⟨rfl,E⟩;have⟨hs,ho,hi⟩:=aB (hp.next E) (hm.trans (gX.cT E k m)) (hh.next E);clear E o;go_wp2;go_ret2;exact⟨rfl,hi,hs,ho⟩
variable{f:FuncId}{A:Program}
structure DH(a d m L:Nat)(G:cS)(e:Nat)(v:aN)(D:aL)(b:bH->Nat)(c:bH->aN)(w:aI) where
 it:aI
 fr:gX a m w it
 eI:bJ it a d m D b c
 log:l4 it a d L G e false v
def Y5{id:Nat}{Q:Exit->Act->aI->Prop}{a:Act}{l:List Oper}(g:l4 w j k m G i false v)(f:bJ w j k n D K H)(o:A.follows .mixedOrders=true)(e:Region.lexB .any l.toArray=true) (h:wpQuiet A l.toArray (λb=>∃x:DH j k n m G i v D K H w,b=x.it) (λd=>∀b,(∃x:DH j k n m G i v D K H w,b=x.it)->Q .normal d b) l a):(Code.region id l.toArray true).wp A Q a w:=by have c:aR w w w.drew:=iH.drew;exact wp_region_quiet (C:=λb=>∃x:DH j k n m G i v D K H w,b=x.it) o e ⟨⟨w.drew,gX.cT c _ _,f.next c,g.next c⟩,rfl⟩ (by simpa using h)
def RB{b:Func}{t u v x:Tmp}(h:b.results=#[.tmp t,.tmp u,.tmp v,.tmp x])(a:Array aN)(P:Program)(w:aI):(results b a).run P w=.ok (.tuple #[a.getD t undef,a.getD u undef,a.getD v undef,a.getD x undef]) w:=by simp[results,h]
def aV7{a:Array aN}(x:DH m k n i G j v D K H w) (h:Calls A f a x.it λe b=>e=.returned u/\aR x.it x.it b):Calls A f a x.it λe b=>e=.returned u/\∃y:DH m k n i G j v D K H w,b=y.it:=h.mono λ_ _ ⟨d,c⟩=>⟨d,⟨_,x.fr.trans (gX.cT c _ _),x.eI.next c,x.log.next c⟩,rfl⟩
def aV6{b:Array aN}(x:DH m k n i G j v D K H w) (h:Calls A f b x.it λe a=>e=.returned u/\bJ a m k n D K H/\gX m n x.it a):Calls A f b x.it λe a=>e=.returned u/\∃y:DH m k n i G j v D K H w,a=y.it:=h.mono λ_ _ ⟨g,d,c⟩=>⟨g,⟨_,x.fr.trans c,d,x.log.yH x.eI c⟩,rfl⟩
def ba6(l:bH):∀k a x,x∈(rC l k a).1->recAt l x=true:=by
 intro k;induction k with
 |zero=>intro a x h;cases h
 |succ k c=>
  intro a x h;by_cases b:recAt l a=true
  .rw[CB b]at h;rcases cY.1 h with rfl|h
   .exact b
   exact c _ _ h
  rw[qE (by simpa using b)]at h;cases h
def cz0{e:Int}(h:n∈cAt s e):recAt s n=true:=by
 unfold cAt at h;split at h
 .unfold wAt at h;split at h
  .cases h
  exact ba6 _ _ _ _ h
 cases h
def bd8{b:Bool}{A:Option Addr}(h:l4 w k n m G i b (.slice A G.bV j))(u:Nat)(p:u<G.bV):∃t,A=zp t/\∀y,l4 y k n m G i b (.slice A G.bV j)->y.cell? (zp t u)=(G.bV.getD u 0:Nat):=by
 have c:∃t,A=some ⟨t,0,none⟩:=by
  rcases h.own.2 with⟨e,o⟩|⟨g,f,l,e,-⟩
  .exact absurd o (by omega)
  exact⟨g,by cases e;rfl⟩
 obtain⟨t,rfl⟩:=c;refine⟨t,rfl,λy q=>?_⟩;have d:=Reads.cX q.own;obtain⟨s,r,c,-,-,-,a⟩:=d.UK (by omega);cases c;have:=a y iH u (by simp;omega);rw[zX,jC]at this;rw[aY,aJ p];exact this
def aP8(h:l4 w k n i G D.bQ false v)(hd:bJ w k n m D K H)(xc:D.down=false)(hb:k<=w)(hw:∀y0,y0<G.bV.length->∃f,bO D.files (iJ y0)=some f/\f.data=G.bV.getD y0 0/\f.data.length<=4096)(a:Nat)(xo:a<=1000000000):Calls prog 73 #[zp i,a] w λe w'=>e=.returned (.tuple #[bs (EH G D (a:Int)).2.1,((EH G D (a:Int)).2.2.1:Nat),((EH G D (a:Int)).2.2.2:Nat),(EH G D (a:Int)).1])/\bJ w' k n m D K H/\l4 w' k n i G D.bQ false v/\gX k m w w':=by
 have r:=NG h hd xc;have h7:=h.many;have HC:=λ(y0:Nat)(hn:y0<=200)(x:aI)=>rR (y0:Int) x ⟨by omega,by omega⟩;have HR:=λ(y0:Nat) (f:fK) (hn:y0<=200) (S:bO D.files (iJ y0)=some f) (hl:f.data.length<=4096) (x:aI) (g:bJ x k n m D K H)=>wI g (lR 99 (y0:Int)) (jV _ _) 0 (f.data.length:Nat) ⟨by omega,by omega⟩ ⟨by omega,by omega⟩;have hv:∀(y0:Nat) (f:fK) (hn:y0<=200) (S:bO D.files (iJ y0)=some f) (hl:f.data.length<=4096) (x:aI) (g:bJ x k n m D K H),Calls prog 31 #[.pointer (some ⟨n,0,none⟩),.string (lR 99 (y0:Int)),.int .i64 0,.int .i64 (f.data.length:Nat)] x λe w'=>e=.returned (.tuple #[.string (bs f.data),.int .i64 0])/\bJ w' k n m D K H/\gX k m x w':=λy0 f hn S hl x g=>by
  have:=HR y0 f hn S hl x g;rw[uT]at this;unfold OK at this;have r1:D.read (iJ y0) 0 (f.data.length:Nat)=(f.data,0):=by unfold aL.read;rw[xc,S];simp
  rwa[r1]at this
 clear HR;obtain⟨A,c,rfl,xu,xj,-⟩:=id (Reads.cX h.own);unfold maxLen at xj;have⟨M,hM⟩:=fR G.bV.length;have xh:=hM;have h8:EH G D (a:Int)=FJ G D (a:Int) (M-a/4096) (a/4096):=by unfold EH;rw[show max (a:Int) 0=(a:Int)from by omega,<-hM,show((a:Int)/4096).toNat=a/4096 from by omega]
 have⟨R,hR⟩:=fR (EH G D (a:Int));rw[<-hR]at h8|-;have⟨hu,HW,HH,HD,ht⟩:=aD h8 hw h hd hM;have⟨ST,xt⟩:=fR D.bQ;have q1:Int.tdiv (a:Int) 4096=((a/4096:Nat):Int):=(by rw[nM (by omega)];omega);have q2:max (a:Int) 0=(a:Int):=by omega
 have x3:∀x,l4 x k n i G D.bQ false (.slice A G.bV.length c)->x.cell? ⟨i,3,none⟩=some (.slice A M c):=λx g=>by have:=g.row.JF;rw[hM];exact this
 have he:=aH x3;have⟨pq,ha⟩:=fR (a/4096);rw[<-ha]at q1 hu;have xp:pq<=1000000:=(by omega);have xr:=aH ha;rw[<-hM]at h7;clear x3 h hd h8 hw hR hM xh ha;go_in;(go_wp2_with fail);go_step3;go_wp2_with fail
 go_call r as x w1 ⟨rfl,N⟩;have⟨xg,xd,xe⟩:=aB (HH.next N) (HD.next N) (gX.cT N k m);clear r N;(go_wp2_with fail);go_step3;go_wp2_with fail
 go_loopw [9,10,11,12,13,14,15,17,18,19,20] (λxy _ _ _ _ _ _ _ _ _ _ wr=>∃(xz:Nat),pq<=xz/\xy=.int .i64 xz/\R=FJ G D (a:Int) (M-xz) xz/\l4 wr k n i G D.bQ false (.slice A G.bV.length c)/\bJ wr k n m D K H/\gX k m w wr) (λxy _ _ _ _ _ _ _ _ _ _ _=>M-(intOf xy).toNat)
 .exact⟨pq,dQ,rfl,hu,xg,xd,xe⟩
 obtain⟨xz,hk,rfl,l,O,h2,h4⟩:=hrel;have c3:=he wr O;have⟨F,X,hm⟩:=aB O h2 h4;by_cases x9:xz<M
 .have i1:(xz:Int)<M:=(by omega);have y:xz<=200:=(by omega);have⟨f,S,h3,xk⟩:=HW xz (by rw[<-ht.zz];exact x9);obtain⟨j9,x8⟩:∃j,M - xz=j+1:=⟨M - xz - 1,by omega⟩;rw[x8,FJ,S]at l;simp only at l;rw[<-h3,eX]at l;have⟨q,hq⟩:=fR f.data.length;have⟨b,u⟩:=bd8 F xz (by rw[<-ht.zz];exact x9);obtain⟨rfl,u⟩:=u;rw[<-h3,<-hq]at u;have P:=hv xz f y S xk;rw[<-hq]at P;have x4:=HC xz y;have⟨J,L⟩:=fR (cAt f.data (xz:Int));have U:∀p∈J,recAt f.data p=true/\p+12<=4096:=λp B=>by rw[L]at B;have:=cz0 B;exact⟨this,by have:=oN this;omega⟩
  rw[<-L]at l;have Q:=λx:aI=>WI (bs f.data) (xz:Int) x (by rw[eO];omega) ⟨by omega,by omega⟩;unfold DB at Q;rw[gP,<-L]at Q;have h6:=λ(p:Nat)(B:p<=4096)(x:aI)=>L1 (bs f.data) (p:Int) x (by rw[eO];omega) ⟨by omega,by omega⟩;rw[gP]at h6;have x7:M-(xz+1)=j9:=(by omega);have⟨hz,hs,ho,Z,xf⟩:=aD l U h6 Q x7;have⟨T,hT⟩:=fR (bs f.data);rw[<-hT]at P ho Z;have z0:∀x:DH k n m i G D.bQ (.slice (some ⟨b,0,none⟩) G.bV.length c) D K H wr,x.it.cell? ⟨i,0,none⟩=some (.pointer (some ⟨n,0,none⟩)):=λx=>x.log.row.lO;have z3:∀x:DH k n m i G D.bQ (.slice (some ⟨b,0,none⟩) G.bV.length c) D K H wr,x.it.cell? ⟨i,3,none⟩=some (.slice (some ⟨b,0,none⟩) M c):=λx=>he x.it x.log;have z4:∀x:DH k n m i G D.bQ (.slice (some ⟨b,0,none⟩) G.bV.length c) D K H wr,x.it.cell? ⟨b,xz,none⟩=some (.int .i64 q):=λx=>u x.it x.log;clear l O h2 h4 S h3 U h6 Q x7 L u hT hv HC x8 hq;haveI:Nonempty (DH k n m i G D.bQ (.slice (some ⟨b,0,none⟩) G.bV.length c) D K H wr):=⟨⟨wr,gX.refl _ _ _,X,F⟩⟩;(go_wp2_with fail);refine Y5 F X (by kernel_rfl) (by kernel_rfl) ?_;repeat go_big_quiet_step ((rename_i x;first|(go_at_call 109;exact aV7 x (x4 x.it))|(go_at_call 31;exact aV6 x (P x.it x.eI))))
  refine wpQuiet_nil ?_;rintro _ ⟨⟨wq,x6,x5,xa⟩,rfl⟩;clear z0 z3 z4 P x4;have⟨hh,hr,hi⟩:=aB x5 xa (hm.trans x6);clear x6 x5 xa;go_wp2_with fail
  go_call Z _ as x w4 ⟨v4,rfl,C,x1⟩;obtain⟨A4,c4,rfl,xb,V,-⟩:=id C;have xm:J.length<=9223372036854775807:=(by unfold maxLen at V;omega);clear xb V;have⟨hy,hc⟩:=aA C x1;have⟨NP,h0⟩:=fR J.length;rw[<-h0]at hy xm|-;have s:=aH h0;clear C x1 h0 Z;go_wp2_with fail
  go_loopw [17,18,19,20,72] (λ_ _ _ _ xy w5=>∃j:Nat,j<=NP/\xy=.int .i64 j/\(∀x∈J.take j,¬(a:Int)<=((xz*4096+x:Nat):Int))/\aR w4.heap.size w4 w5) (λ_ _ _ _ xy _=>NP-(intOf xy).toNat)
  .exact⟨0,bK _,rfl,by simp,iH⟩
  obtain⟨j,hj,rfl,z,t⟩:=hrel;have⟨W,Y⟩:=aA t z;clear z;by_cases xv:j<NP
  .have i2:(j:Int)<NP:=(by omega);obtain⟨p,B⟩:∃p,J[j]?=some p:=⟨_,aJ (by have:=s.zz;omega)⟩;have⟨E,xx⟩:=hs p (bC B);have xn:p<=4096:=(by omega);obtain⟨b4,xq,rfl,-,-,-,h1⟩:=hy.UK (by omega);have cp:=h1 _ t j (by simp;have:=s.zz;omega);rw[zX,show J[j]'(by have:=s.zz;omega)=p from by have:=aQ.1 B;exact this.2]at cp;have⟨HP,xs⟩:=aA B E;by_cases xw:a<=xz*4096+p
   .have i3:¬((xz:Int)*4096+(p:Int)<(a:Int)):=(by omega);have h5:UB f.data (p:Int)=true:=(by unfold UB;rw[bZ (by omega),fQ,bW];exact E);have hg:=ho p xn;rw[h5]at hg;have d:J.find? (λx=>decide ((a:Int)<=((xz*4096+x:Nat):Int)))=some p:=by rw[<-bX j J,aZ2,MM.2 (λx g=>by simpa using Y.zz x g),<-gT (by have:=s.zz;omega),US (by have h9:=(aQ.1 B).2;rw[h9];simp;omega)];exact gQ some (aQ.1 B).2
    have I:=aH (show R=(0,gA f.data (p:Int),xz*4096+p,xz*4096+gN f.data (p:Int))from by rw[hz.zz,d]);have xl:gN f.data (p:Int)<=4096:=by have:=oN E;unfold gN;rw[h5,aV rfl,bW];omega
    have⟨GN,x0⟩:=fR (gN f.data (p:Int));rw[<-x0]at hg xl I;clear d h5 E B h1 x0 t;(go_wp2_with fail);go_call hg _ as x w6 ⟨rfl,x2⟩;have o:=aH (aK hc (aK W x2));clear x2 hg;go_wp2;(try rw[eU]);(try simp only[Exit.inBlock,Exit.then]);refine bE (RB rfl _ _ _) rfl ?_;rw[I.zz];exact⟨by simp,hh.next o,hr.next o,hi.trans (gX.cT o _ _)⟩
   have i3:(xz:Int)*4096+(p:Int)<(a:Int):=(by omega);clear E B h1 t;go_wp2;go_roundw
   .
    refine⟨j+1,by omega,by go_num,λx g=>?_,W⟩;rw[dL,HP.zz]at g;rcases cB.1 g with g|g
    .exact Y x g
    simp at g;subst g;omega
   simp[intOf];omega
  obtain rfl:j=NP:=(by omega);have i2:¬(j:Int)<j:=by omega
  have d:J.find? (λx=>decide ((a:Int)<=((xz*4096+x:Nat):Int)))=none:=by rw[MM];intro x g;have:=Y x (by rw[s.zz,eX];exact g);simpa using this
  obtain⟨I,o⟩:=aA (show R=FJ G D (a:Int) (M - (xz+1)) (xz+1)from by rw[hz.zz,d,xf.zz]) (aK hc W);clear d t;go_wp2;go_roundw
  .exact⟨xz+1,by omega,by go_num,I,hr.next o,hh.next o,hi.trans (gX.cT o _ _)⟩
  simp[intOf];omega
 have i1:¬(xz:Int)<M:=(by omega);have xi:=aH (show R=(4,[],0,0)from by rw[l,show M-xz=0 from by omega];rfl);clear l O h2 h4;go_wp2;try simp only[Exit.inBlock,Exit.then]
 refine bE (RB rfl _ _ _) rfl ?_;rw[xi.zz];exact⟨rfl,X,F,hm⟩
variable{N R:Nat->Prop}
def jQ(w:aI)(d m k:Nat):Prop:=k=m\/DK w k\/OwnAt w d k
structure p7(a:Nat)(F c:Nat->Prop)(w b:aI):Prop where
 os:b.os=w.os
 tape:b.tape=w.tape
 output:b.output=w.output
 size:w.heap.size<=b.heap.size
 block:∀k,k<w.heap.size->(k<a\/¬F k)->b.heap[k]?=w.heap[k]?
 rJ:∀k,k<w.heap.size->c k->F k
def p7.trans{n:Nat}{A:Nat->Prop}{a w x:aI}(b:p7 n N R a w)(c:p7 n R A w x):p7 n N A a x:=⟨c.os.trans b.os,c.tape.trans b.tape,c.output.trans b.output,aM b.size c.size,
 λk d e=>(c.block k (aW d b.size) (e.imp id λh f=>h (b.rJ k d f))).trans (b.block k d e),
 λk d h=>b.rJ k d (c.rJ k (aW d b.size) h)⟩
def p7.below(a:aR n y x)(h:p7 n N R x w)(c:n<=y):aR n y w:=⟨h.os.trans a.os,h.tape.trans a.tape,h.output.trans a.output,aM a.size h.size,λk b=>(h.block k (by have:=a.size;omega) (.inl b)).trans (a.block k b)⟩
def p7.cT(h:aR w w x)(a:∀k,k<w.heap.size->R k->N k):p7 n N R w x:=⟨h.os,h.tape,h.output,h.size,λk b _=>h.block k b,a⟩
def p7.or{n:Nat}(h:p7 n N R w x)(T:Nat->Prop):p7 n (λk=>N k\/T k) (λk=>R k\/T k) w x:=⟨h.os,h.tape,h.output,h.size,λk b d=>h.block k b (d.imp id λa c=>a (.inl c)),λk b a=>a.imp (h.rJ k b) id⟩
def p7.mono{A d:Nat->Prop}(h:p7 n N R w x)(e:∀k,k<w.heap.size->N k->A k)(f:∀k,k<w.heap.size->d k->R k\/A k):p7 n A d w x:=⟨h.os,h.tape,h.output,h.size,λk a g=>h.block k a (g.imp id λc b=>c (e k a b)),λk a c=>(f k a c).elim (λb=>e k a (h.rJ k a b)) id⟩
def bn0(h:aR w w x)(d:DT w n){m:Nat}(e:m<w):jQ x n k m↔jQ w n k m:=by have c:=h.block m e;have b:=h.block n (n7 d).lt;unfold jQ DK OwnAt;rw[c,dK (a:=zp n 9) b]
def jQ.next{w:aI}{base n k:Nat}(h:aR w w x)(b:DT w n):p7 base (jQ w n k) (jQ x n k) w x:=.cT h λd c a=>(bn0 h b c).1 a
def ab0(h:gX n m w x)(j:DT w k):∀l,l<w.heap.size->jQ x k m l->jQ w k m l:=λl d a=>by
 rcases Classical.em (l=m\/DK w l)with b|b
 .exact b.elim .inl λh=>.inr (.inl h)
 have e:=h.block l d (.inr ⟨λc=>b (.inl c),λc=>b (.inr c)⟩);rcases a with a|a|a
 .exact .inl a
 .have⟨C,t,f,g,i⟩:=a;exact .inr (.inl ⟨C,t,f,by rw[<-e];exact g,i⟩)
 exact .inr (.inr ((h.kept k j).2 l d a))
def p7.nA(h:gX n m w x)(d:DT w k):p7 n (jQ w k m) (jQ x k m) w x:=⟨h.os,h.tape,h.output,h.size,λf e c=>h.block f e (c.imp id λb=>⟨λa=>b (.inl a),λa=>b (.inr (.inl a))⟩),ab0 h d⟩
def BH(w:aI)(d m L:Nat)(v:aN)(k:Nat):Prop:=jQ w d m k\/k=L\/v.ownBlock=some k
def p7.PH(h:uJ n m i v w x)(l:DT w k)(o:lA w v u):p7 n (BH w k m i v) (BH x k m i u) w x:=by
 refine⟨h.os,h.tape,h.output,h.size,λp d c=>h.block p d (c.imp id λb=>⟨λa=>b (.inl (.inl a)),λa=>b (.inl (.inr (.inl a))),λa=>b (.inr (.inl a)),λa=>b (.inr (.inr a))⟩),λp d b=>?_⟩;rcases Classical.em (p=m\/DK w p\/p=i\/v.ownBlock=p)with c|c
 .rcases c with c|c|c|c
  .exact .inl (.inl c)
  .exact .inl (.inr (.inl c))
  .exact .inr (.inl c)
  exact .inr (.inr c)
 have e:=h.block p d (.inr ⟨λa=>c (.inl a),λa=>c (.inr (.inl a)),λa=>c (.inr (.inr (.inl a))),λa=>c (.inr (.inr (.inr a)))⟩);rcases b with(b|b|b)|b|b
 .exact .inl (.inl b)
 .have⟨C,t,f,g,j⟩:=b;exact .inl (.inr (.inl ⟨C,t,f,by rw[<-e];exact g,j⟩))
 .exact .inl (.inr (.inr ((h.kept k l).2 p d b)))
 .exact .inr (.inl b)
 rcases o p b with a|a
 .exact .inr (.inr a)
 omega
def Clear(F T:Nat->Prop)(w:aI):Prop:=∀k,T k->k<w.heap.size/\¬F k
def p7.clear{base:Nat}{T:Nat->Prop}(h:p7 base N R w x)(b:Clear N T w):Clear R T x/\∀k,T k->x.heap[k]?=w.heap[k]?:=⟨λk a=>⟨aW (b k a).1 h.size,λc=>(b k a).2 (h.rJ k (b k a).1 c)⟩,λk a=>h.block k (b k a).1 (.inr (b k a).2)⟩
def DS(w a:aI)(d m k:Nat):Prop:=w.heap.size<=k/\k<a.heap.size/\¬jQ a d m k
def bJ.IZ(h:bJ w k n m D K H):DT w n:=by obtain⟨a,e,c,-⟩:=h.row;obtain⟨C,b,d,-⟩:=c;exact⟨C,b,d⟩
def bJ.nS(h:bJ w k n m D K H){i:Nat}{T:cC}{X:List aN}(c:Row w i T X)(p:¬(T=103\/T=112\/T=5))(o:T≠3):¬jQ w n m i:=by
 rintro (j|⟨C,u,r,a,b⟩|⟨v,b,g⟩)
 .exact h.rE c j
 .obtain⟨q,e,l,-⟩:=c;rw[l]at a;cases a;exact p b
 have⟨d,t,f,s,a⟩:=h.row;rw[f.zc9]at b;cases b;exact o (dD c (a.row g).1)
def bJ.cw0(h:bJ w k n m D K H){i:Nat}{X:List aN}(c:Row w i 3 X)(g:¬OwnAt w n i):¬jQ w n m i:=by
 rintro (a|⟨C,o,l,b,e⟩|a)
 .exact h.rE c a
 .obtain⟨j,d,f,-⟩:=c;rw[f]at b;cases b;exact iP.2.1 e
 exact g a
def bJ.cu5(h:bJ w k n m D K H){i j:Nat}{A:Program}{T:cC}{R:aN->Option (Du×List MemPlace)}{M:Du}(e:w.ownsMap A T R i j M)(p:i≠m):¬jQ w n m i:=by
 rintro (l|⟨C,u,r,a,c⟩|⟨v,c,g⟩)
 .exact p l
 .obtain⟨q,b,o,-⟩:=e;rw[o]at a;cases a
 have⟨d,t,f,s,a⟩:=h.row;rw[f.zc9]at c;cases c;exact gJ e (a.row g).1 rfl
def aM2(h:aR w w x)(b:DT w n):OwnAt x n k↔OwnAt w n k:=by unfold OwnAt;rw[dK (a:=zp n 9) (h.block n (n7 b).lt)]
def bJ.ax2(h:bJ w k n m D K H){i:Nat}(f:OwnAt w n i):i<w:=by have⟨a,j,c,g,d⟩:=h.row;have⟨l,b,e⟩:=f;rw[c.zc9]at b;cases b;exact(d.row e).1.lt
def gX.grown{w a:aI}{r:Option Nat}(h:gX k m w a)(b:a.grownBy x r)(p:∀q,r=some q->w.heap.size<=q):gX k m w x:=by have d:∀q,q<w.heap.size->x.heap[q]?=a.heap[q]?:=λq d=>b.block q (aW d h.size) (λj=>by have:=p q j.symm;omega);refine⟨b.os.trans h.os,b.tape.trans h.tape,b.output.trans h.output,aM h.size b.size,λq c l=>(d q c).trans (h.block q c l),λq g=>?_⟩;have e:=h.kept q g;have f:=jW (n:=w.heap.size) (d q (n7 g).lt) e.1;exact⟨f.1,λs i o=>e.2 s i (f.2 s i o)⟩
def bJ.grown{w:aI}{r:Option Nat}{n:Nat}(h:bJ w k n m D K H)(d:w.grownBy x r)(e:∀f,r=some f->¬jQ w n m f):bJ x k n m D K H:=h.far λf a c=>d.block f a (λb=>e f b.symm c)
variable{M:List Nat}{X:List aN}{r:XD}{C:mX}
def bV0(n:Nat)(r:XD):(mY n r).1<256^n:=by
 unfold mY;split
 .exact Nat.pos_of_ne_zero (by simp)
 have:=AU (r.1.take n);exact aW this (gD (by omega) (by simp;omega))
def bM7(h:kY s=false):sB s=false:=by unfold sB;rw[h];rfl
def aa7{s:bH}(h:FO (kH s)=false):sB s=false:=by unfold sB;rw[h];simp
def bM8{s:bH}(h:(sY (kH s)).2.2=false):sB s=false:=by unfold sB;rw[h];simp
def bM6{s:bH}(h:(sY (kH s)).2.1≠[]):sB s=false:=by unfold sB;rw[bN h];simp
def ch3{s:bH}(h:wU (sY (kH s)).1=false):sB s=false:=by unfold sB;rw[h];simp
def bM5{s:bH}(h:iS (sY (kH s)).1≠s):sB s=false:=by unfold sB;rw[bN h];simp
def ch4{s:bH}(a:kY s=true)(b:FO (kH s)=true)(c:(sY (kH s)).2.2=true)(d:(sY (kH s)).2.1=[])(e:wU (sY (kH s)).1=true)(f:iS (sY (kH s)).1=s):sB s=true:=by unfold sB;rw[a,b,c,bZ d,e,bZ f];rfl
def BR(h:aR n w x)(a:x.grownBy y k)(d:n<=x)(e:n<=k):aR n w y:=⟨a.os.trans h.os,a.tape.trans h.tape,a.output.trans h.output,aM h a.size,λf b=>(a.block f (aW b d) (λc=>by have:=cJ c;omega)).trans (h.block f b)⟩
def gR{T:cC}{t v:aN}(h:Row w n T [u,z,t,v]):(w.cell? (zp n)=some u/\w.cell? (zp n 1)=some z/\w.cell? (zp n 2)=some t/\w.cell? (zp n 3)=v)/\w.frozen? (zp n)=false/\w.frozen? (zp n 1)=false/\w.frozen? (zp n 2)=false/\w.frozen? (zp n 3)=false:=⟨⟨h.lO,h.qD,h.tW,h.JF⟩,h.NV,h.JE,h.QP,h.zf3⟩
structure vP(c wr:aI)(T M d h g j:Nat)(e:aN)(f:List aN)(a:mX):Prop where
 rm:Row wr M 57 (mN ⟨h,g,j,a⟩ e)
 r0:Row wr d 57 [.int .i64 0,.int .i64 0,.int .u64 0,.slice none 0 0]
 own:wr.ownsRow c.heap.size 33 1 e a.length f
 inn:lS wr c.heap.size f a
 IG:aR c.heap.size c wr
 top:T<=wr.heap.size
 ltm:M<T
 lt0:d<T
 lto:∀k,e.ownBlock=some k->k<T
 lti:∀(i:Nat)(y:aN)(b:Nat),f[i]?=some y->y.ownBlock=some b->b<T
 gem:c.heap.size<=M
 mb:d≠M
def vP.eW{wr w':aI}{Y:List aN}(h:vP w wr n k m i j d v X C)(r:Row wr g 324 Y)(c:∀y,y<n->y≠g->w'.heap[y]?=wr.heap[y]?)(p:aR w w w')(e:n<=w'):vP w w' n k m i j d v X C:=by have a:∀{y:Nat} {t:cC} {u:List aN},Row wr y t u->t≠324->y≠g:=λs e o=>e (dD (o▸s) r);refine⟨h.rm.of_block (c _ h.ltm (a h.rm (by decide))),h.r0.of_block (c _ h.lt0 (a h.r0 (by decide))),eS h.own λq b=>c q (h.lto q b) (a (dX h.own b) (by decide)),⟨h.inn.len,λy x L f l=>eS (h.inn.own y x L f l) λq b=>c q (h.lti y x q f b) (a (dX (h.inn.own y x L f l) b) (by decide)),h.inn.apart⟩,p,e,h.ltm,h.lt0,h.lto,h.lti,h.gem,h.mb⟩
def vP.next{w wr:aI}{n k j:Nat}{v:aN}(h:vP w wr n k m i j d v X C)(a:aR wr wr x):vP w x n k m i j d v X C:=⟨h.rm.next a,h.r0.next a,bY h.own a,h.inn.next a,cU h.IG a dQ,aM h.top a,h.ltm,h.lt0,h.lto,h.lti,h.gem,h.mb⟩
def vP.up{wr:aI}{n:Nat}(h:vP w wr n k m i j d v X C):vP w wr wr k m i j d v X C:=⟨h.rm,h.r0,h.own,h.inn,h.IG,dQ,h.rm.lt,h.r0.lt,jN h.own,h.inn.lt,h.gem,h.mb⟩
def vP.take{w wr x:aI}{n k m:Nat}{v:aN}{r:XD}(h:vP w wr n k m i j d v X C)(o:KE wr g r)(f:w<=g)(b:wr.grownBy x g):vP w x n k m i j d v X C:=by obtain⟨s,-,-,a⟩:=o;have p:=h.top;exact h.eW a (λq l c=>b.block q (by omega) (by intro e;exact c (cJ e))) (BR h.IG b h.IG f) (aM h.top b.size)
def vP.GQ{wr:aI}{v:aN}(h:vP w wr n k m i j d v X C):vA wr v C:=⟨X,h.inn.len,Reads.cX h.own,λc x L b a=>Reads.cX (h.inn.own c x L b a)⟩
def vP.cd3{wr:aI}(h:vP w wr n k m i j d v X C):ak2 wr (.agg #[i,j,zu d,v]) ⟨i,j,d,C⟩:=⟨v,rfl,h.GQ⟩
def KE.eW{w':aI}(h:KE w n r)(d:w'.heap[n]?=w.heap[n]?):KE w' n r:=by have⟨s,a,b,c⟩:=h;exact⟨s,a,b,c.of_block d⟩
def vP.push{W:aI}{j:Nat}(h:vP w x n k m i j d u X C)(c:KE x g r)(O:x.ownsRow n 3 1 v M (fJ M))(S:w<=n)(D:aR x x y)(N:y.grownBy W u.ownBlock)(a:W.ownsRow w 33 1 z (C+1) (X++[v])):Row W k 57 (mN ⟨i,j,d,C⟩ u)/\vP w (W.setCell (zp k 3) z) (W.setCell (zp k 3) z) k m i j d z (X++[v]) (C++[M])/\KE (W.setCell (zp k 3) z) g r:=by
 have l:∀{V:Nat} {t:cC} {G:List aN},Row x V t G->t≠33->W.heap[V]?=x.heap[V]?:=λc I=>by rw[N.block _ (aW c.lt D) (λH=>I (dD c (dX h.own H.symm)))];exact D.block _ c.lt
 have o:Row W k 57 (mN ⟨i,j,d,C⟩ u):=h.rm.of_block (l h.rm (by decide));have e:∀{V:Nat} {t:cC} {G:List aN},Row W V t G->t≠57->(W.setCell (zp k 3) z).heap[V]?=W.heap[V]?:=λc I=>aU _ _ _ _ (λH=>by subst H;exact I (dD c o));have b:∀{V:Nat} {t:cC} {G:List aN},Row x V t G->t≠33->t≠57->(W.setCell (zp k 3) z).heap[V]?=x.heap[V]?:=λc K R=>(e (c.of_block (l c K)) R).trans (l c K);have⟨s,T,U,Q⟩:=c;have J:=vZ O S;have f:=h.inn.snoc (B:=n) J h.lti (dH O);have A:lS (W.setCell (zp k 3) z) w (X++[v]) (C++[M]):=
  ⟨f.len,λV Y Z P L=>eS (f.own V Y Z P L) λq E=>b (dX (f.own V Y Z P L) E) (by decide) (by decide),f.apart⟩
 have F:=h.r0.of_block (l h.r0 (by decide));refine⟨o,⟨o.set 3 z,?_,?_,A,?_,dQ,?_,?_,?_,?_,h.gem,h.mb⟩,?_⟩
 .exact F.far (p:=zp k 3) h.mb z
 .rw[aO];exact eS a λq E=>e (dX a E) (by decide)
 .exact(nX (bY h.own D) (cU h.IG D dQ) N (aM h.IG D.size)).setCell h.gem _
 .exact(o.set 3 z).lt
 .exact(F.far (p:=zp k 3) h.mb z).lt
 .exact jN (eS a λq E=>e (dX a E) (by decide))
 .exact A.lt
 exact⟨s,T,U,Q.of_block (b Q (by decide) (by decide))⟩
def aM1{us:List aN}(h:w.ownsRow n 33 1 v C us)(k:lS w n us C):AN w n v C:=by
 rcases id h.2 with⟨f,i⟩|⟨g,a,e,rfl,b,m,d,c,j,l⟩
 .exact .inl ⟨eG.1 i,none,f⟩
 exact .inr ⟨g,us,a,rfl,d,c,b,dX h (by simp[Value.ownBlock]),k⟩
def vP.ret{wr:aI}(h:vP w wr n k m i j d v X C)(p q r s:aN):AN ((((wr.setCell (zp m) p).setCell (zp m 1) q).setCell (zp m 2) r).setCell (zp m 3) s) w v C:=by
 have e:∀{y:Nat} {t:cC} {g:List aN},Row wr y t g->t≠57->((((wr.setCell (zp m) p).setCell (zp m 1) q).setCell (zp m 2) r).setCell (zp m 3) s).heap[y]?=wr.heap[y]?:=fun {y t g} o u=>by have a:y≠m:=λl=>u (dD (l▸o) h.r0);rw[aU _ _ _ _ a,aU _ _ _ _ a,aU _ _ _ _ a,aU _ _ _ _ a]
 exact aM1 (eS h.own λq b=>e (dX h.own b) (by decide)) ⟨h.inn.len,λy x L f c=>eS (h.inn.own y x L f c) λq b=>e (dX (h.inn.own y x L f c) b) (by decide),h.inn.apart⟩
def aA5{k:Nat}:∀{l:mX},(∀L∈l,L.length<=k)->l.flatten.length<=l.length*k
 |[],_=>by simp
 |a::l,h=>by
  have c:=h a (by simp);have d:=aA5 (k:=k) (l:=l) (λL b=>h L (by simp[b]));rw[iA,aO,cE,UP];omega
def cN6(w:aI)(a:Nat)(v:aN)(m:jD):Prop:=∃b,v=.agg (mN m b).toArray/\AN w a b m.fP
def XZ(w:aI)(L:bH)(e:eY)(a:aI):Prop:=∃v,e=.returned (.tuple #[v,.int .i64 (UC L)])/\cN6 a w.heap.size v (getM L)/\aR w.heap.size w a
def bm7{w x:aI}{s:bH}(h:sB s=false)(a:aR w w x):XZ w s (.returned (.tuple #[.agg #[(),(),zu 0,zs],(90:Int)])) x:=⟨_,by unfold UC;rw[h];rfl,by unfold getM;rw[h];exact⟨zs,rfl,.inl ⟨rfl,none,rfl⟩⟩,a⟩
def aR9{w x:aI}{s:bH}{v:aN}(h:sB s=true)(b:cN6 x w v (sY (kH s)).1)(a:aR w w x):XZ w s (.returned (.tuple #[v,()])) x:=⟨_,by unfold UC;rw[h];rfl,by unfold getM;rw[h];exact b,a⟩
def oD(h:aR n w x)(e:n<=k)(a b c d:aN):aR n w ((((x.setCell (zp k) a).setCell (zp k 1) b).setCell (zp k 2) c).setCell (zp k 3) d):=(((h.setCell e _).setCell e _).setCell e _).setCell e _
def ao8(i:Nat)(r:XD)(a:mX)(h:r.2=true):wG (i+1) r a=wG i (DQ (mY 1 r).1 (mY 1 r).2 []).2 (a++[(DQ (mY 1 r).1 (mY 1 r).2 []).1]):=by rw[wG,aP (by rw[h];simp)]
def aP5(i:Nat)(r:XD)(a:List Nat)(h:r.2=true):DQ (i+1) r a=DQ i (mY 4 r).2 (a++[(mY 4 r).1]):=by rw[DQ,aP (by rw[h];simp)]
def PV(i:Nat)(r:XD)(a:mX)(h:i=0\/r.2=false):wG i r a=(a,r):=by
 cases i with
 |zero=>rfl
 |succ i=>rw[wG,aV (by simpa using h)]
def ao9(i:Nat)(r:XD)(a:List Nat)(h:i=0\/r.2=false):DQ i r a=(a,r):=by
 cases i with
 |zero=>rfl
 |succ i=>rw[DQ,aV (by simpa using h)]
def BZ(h:KE w n r)(f:Nat)(d:f<=8):∃a b,mY f r=(a,b)/\a<256^f/\Calls prog 283 #[zp n,f] w λe c=>e=.returned (zu a)/\KE c n b/\w.grownBy c n:=⟨_,_,rfl,bV0 f r,aK1 h f d⟩
def ai2(s:aS)(w:aI)(hs:s.size<=1048576):Calls prog 240 #[s] w (XZ w (lb s)):=by
 have C:=λw=>MY s w (by omega);have⟨L,hL⟩:=fR (lb s);have⟨T,z9⟩:=aA (λ(w':aI)=>@bm7 w w' L) (λ(w':aI)(v:aN)=>@aR9 w w' L v);have hv:=tR w (.cells #[.int .i64 0,.int .i64 0,.int .u64 0,.slice none 0 0] 57);have X:Row (w.alloc (.cells #[.int .i64 0,.int .i64 0,.int .u64 0,.slice none 0 0] 57)) w.heap.size 57 [.int .i64 0,.int .i64 0,.int .u64 0,.slice none 0 0]:=Row.new w #[.int .i64 0,.int .i64 0,.int .u64 0,.slice none 0 0] _;rw[<-hL]at C|-;have ya:=aH hL;have yq:(kH L).length<=1048576:=by
  unfold kH;split
  .rw[b8,hL,bI];omega
  simp
 have⟨t,ht⟩:=fR (kH L);rw[<-ht]at C yq;have⟨zw,x2,S⟩:=aB ht hv X;rcases V:kY L with _|_
 .rw[V]at C;have Q:=aH (bM7 V);clear hL hv X V ht;go_in;go_wp2_with fail
  go_call C _ as e w1 ⟨rfl,p⟩;obtain⟨⟨Y,r1,r2,r3⟩,f0,f1,f2,f3⟩:=gR (S.next p);have he:=aH (cU x2 p dQ);clear C p;go_wp2;refine bE (v:=.tuple #[.agg #[.int .i64 0,.int .i64 0,.int .u64 0,.slice none 0 0],.int .i64 90]) (by simp[results,results240,go_sem,Y,r1,r2,r3]) rfl (T _ Q (oD he dQ _ _ _ _))
 rw[V]at C;have u2:(bs t).size=t.length:=eO _;have zz:(bs t).extract 0 4=bs (t.take 4):=(by rw[dY,gP,mQ]);by_cases h4:t.length<4
 .have i1:(t.length:Int)<4:=(by omega);have Q:=aH (aa7 (s:=L) (by rw[<-ht];unfold FO;simp;omega));clear hL hv X V ht;go_in;go_wp2_with fail
  go_call C _ as e w1 ⟨rfl,p⟩;obtain⟨⟨Y,r1,r2,r3⟩,f0,f1,f2,f3⟩:=gR (S.next p);have he:=aH (cU x2 p dQ);clear C p;go_wp2;refine bE (v:=.tuple #[.agg #[.int .i64 0,.int .i64 0,.int .u64 0,.slice none 0 0],.int .i64 90]) (by simp[results,results240,go_sem,Y,r1,r2,r3]) rfl (T _ Q (oD he dQ _ _ _ _))
 have i1:¬(t.length:Int)<4:=(by omega);by_cases hf:t.take 4=[105,109,97,112]
 .have i2:(t.take 4==[105,109,97,112])=true:=(by rw[hf];rfl);have hF:FO (kH L)=true:=(by rw[<-ht];unfold FO;rw[bZ ⟨by omega,hf⟩]);obtain⟨xl,yd,ye,yf,yg,yh⟩:=aE (@bM8 L) (@bM6 L) (@ch3 L) (@bM5 L) (@ch4 L V hF) (show sY (kH L)=sY t from by rw[ht]);have e4:lb ((bs t).extract 4 t.length)=t.drop 4:=by rw[dY,gP,gP,aT (by rw[eK];omega)]
  have e5:((bs t).extract 4 t.length).size<=1048576:=(by rw[lZ,eO];omega);have xd:∀x:aI,KE (x.alloc (.cells #[.string ((bs t).extract 4 t.length),.bool true] 324)) x.heap.size (t.drop 4,true):=λx=>⟨_,e4,e5,Row.new x #[.string ((bs t).extract 4 t.length),.bool true] 324⟩;have xa:=aH xd;clear hL hv X V ht hF e4 e5 xd hf;go_in;go_wp2_with fail
  go_call C _ as e w1 ⟨rfl,p⟩;have⟨a,ra,ea,la,ka⟩:=BZ (xa w1) 4 (by omega);have zl:=aH (xa w1);have x5:=cU x2 p dQ;have⟨z0,xm⟩:=aA (x5.alloc x5.size (.cells #[.string ((bs t).extract 4 t.length),.bool true] 324)) ((S.next p).alloc (.cells #[.string ((bs t).extract 4 t.length),.bool true] 324));have hg:=x5.size;have yr:=(S.next p).lt;have EA:=aH ea;clear C p x5 ea;go_wp2_with fail
  go_call ka as e w2 ⟨rfl,h2,x6⟩;have⟨b,rb,eb,zd,kb⟩:=BZ h2 4 (by omega);obtain⟨y2,xn,zq,zm,EB⟩:=aD (BR z0 x6 (by rw[bD];omega) hg) (xm.grown x6 (by intro G;have:=cJ G;omega)) x6.size h2 eb;clear ka h2 x6 eb;go_wp2_with fail
  go_call kb as e w3 ⟨rfl,xv,x7⟩;have⟨c,rc,ec,lc,kc⟩:=BZ xv 8 (by omega);obtain⟨y3,xo,zr,zo,EC⟩:=aD (BR y2 x7 y2.size hg) (xn.grown x7 (by intro G;have:=cJ G;omega)) x7.size xv ec;clear kb xv x7 ec;go_wp2_with fail
  go_call kc as e w4 ⟨rfl,xw,hr⟩;obtain⟨xj,hl,zv⟩:=aB (BR y3 hr y3.size hg) (xo.grown hr (by intro G;have:=cJ G;omega)) hr.size;have⟨g,xt⟩:=fR w1.heap.size;rw[<-xt]at xw hg hr;rw[<-xt];clear xt;have ys:=hl.lt;have xc:vP w (w4.alloc (.cells #[.int .i64 a,.int .i64 b,.int .u64 c,.slice none 0 0] 57)) (w4.heap.size+1) w4.heap.size w.heap.size a b c (.slice none 0 0) [] []:=
   ⟨Row.new w4 #[.int .i64 a,.int .i64 b,.int .u64 c,.slice none 0 0] _,hl.alloc _,bM _ _ _ _,lS.nil _ _,xj.alloc xj.size _,by rw[bD];exact cV _,by omega,by omega,(λk hk=>by simp[Value.ownBlock]at hk),(λi y b hy=>by simp at hy),xj.size,by omega⟩
  have xx:KE (w4.alloc (.cells #[.int .i64 a,.int .i64 b,.int .u64 c,.slice none 0 0] 57)) g rc:=xw.next (tR _ _);have⟨q,rq,eq,lq,kq⟩:=BZ xx 1 (by omega);have⟨z2,z3,y6,xk⟩:=aC xc xx eq hg;have⟨M,xr⟩:=fR w4.heap.size;clear kc xw hr xc xx eq hg yr ys;go_wp2_with fail
  go_call kq as e w6 ⟨rfl,yu,yo⟩;have⟨y8,z4,HE⟩:=aB (z2.take z3 xk yo).up yu (show wG q rq []=wG (q-0) rq []from rfl);have⟨E,hE⟩:=fR (wG q rq []);rw[<-hE]at HE;have u3:q<256:=(by simpa using lq);have y5:=aH hE;rw[<-xr];rw[<-xr]at y8;clear kq yu yo lq hE xr;go_wp2_with fail
  go_loopw [9,10,11] (λk _ _ wr=>∃(j:Nat)(f:mX)(lv:aN)(us:List aN)(r:XD),k=.int .i64 j/\j<=q/\KE wr g r/\vP w wr wr.heap.size M w.heap.size a b c lv us f/\E=wG (q-j) r f/\f.length=j/\(∀L∈f,L.length<=255/\∀n∈L,n<4294967296)) (λk _ _ _=>q-(intOf k).toNat)
  .exact⟨0,[],_,_,rq,rfl,bK _,z4,y8,HE,rfl,by simp⟩
  obtain⟨j,f,lv,us,r,rfl,hj,I,P,hE,ha,U⟩:=hrel;by_cases u1:j<q
  .have i5:(j:Int)<q:=(by omega);cases l:r.2 with
   |true=>
    have⟨q7,r7,yk,yy,yx⟩:=BZ I 1 (by omega);have zi:q7<256:=(by simpa using yy);have hp:(wG (q-j) r f)=wG (q-(j+1)) (DQ (mY 1 r).1 (mY 1 r).2 []).2 (f++[(DQ (mY 1 r).1 (mY 1 r).2 []).1]):=(by rw[show q-j=(q-(j+1))+1 from by omega,ao8 _ _ _ l]);rw[yk]at hp;simp only at hp;have⟨F,hF⟩:=fR (DQ q7 r7 []);rw[<-hF]at hp;have⟨y4,HF⟩:=aA (hE.trans hp) hF;have⟨s8,zg,zh,xz⟩:=id I;rw[l]at xz;have za:=xz.qD;have⟨wo,yw⟩:=fR wr;have⟨o,z6,xi,y1⟩:=aC P I ha U;clear I P hE ha U yk yy hp hF zg zh xz l;(go_wp2_with fail);go_call yx as e w7 ⟨rfl,yv,xs⟩;have⟨y9,z5,z7⟩:=aB (o.take z6 xk xs) yv xs.size;rw[<-yw]at y9 o z7;clear yx yv xs za yw;(go_wp2_with fail);go_loopw [10,11] (λx xq wi=>∃(i:Nat)(r':XD)(L':List Nat),xq=.int .i64 i/\i<=255/\KE wi g r'/\wi.ownsRow wo.heap.size 3 1 x L'.length (fJ L')/\vP w wi wo.heap.size M w.heap.size a b c lv us f/\F=DQ i r' L'/\L'.length+i<=255/\∀n∈L',n<4294967296) (λ_ xq _=>(intOf xq).toNat)
    .exact⟨q7,r7,[],rfl,by omega,z5,bM _ _ _ _,y9,HF,by simp;omega,by simp⟩
    obtain⟨i,r',L',rfl,hi,hc,W,u,x3,ym,x4⟩:=hrel;have⟨s9,J,h3,z⟩:=id hc;have D:=z.qD;obtain⟨A1,c1,rfl,-⟩:=id (Reads.cX W);by_cases x8:0<i/\r'.2=true
    .have⟨u0,h2⟩:=x8;have i6:(0:Int)<i:=(by omega);rw[h2]at D;have⟨y,r9,e9,ly,ky⟩:=BZ hc 4 (by omega);have ze:y<4294967296:=(by simpa using ly);have yl:F=DQ (i-1) r9 (L'++[y]):=by rw[x3,show i=(i-1)+1 from by omega,aP5 _ _ _ h2,e9];rfl
     have⟨z1,x0,x1,A,K⟩:=aD yl x4 hc W u;have⟨m,hm⟩:=fR L'.length;rw[<-hm]at A ym;rw[<-hm];have⟨HM,yi⟩:=aA hm z;clear hc W u x3 x4 yl e9 ly J z hm h2;(go_wp2_with fail);go_call ky as e hz ⟨rfl,xe,hq⟩;have h7:=bH6 A hq (λk hk G=>by have:=dD (dX A hk) (by rw[cJ G];exact yi);exact absurd this (by decide));have⟨h5,xb,h6⟩:=aB (K.take x1 xk hq) xe h7;have xf:=h5.top;have xg:=o.IG.size;clear ky xe hq h7 D;(go_wp2_with (at_builtin;refine MG nH underlying33 h6 rfl rfl rfl rfl rfl (by omega) (by omega) ?_;intro yz y0 d B H;have yb:=aH d;have hh:=aH B;clear d B H));go_roundw
     .
      have O:aR hz.heap.size hz (hz.alloc (.cells #[.int .i64 y] 3)):=tR _ _;have hx:=bY h6 O;have yp:∀k,k<hz.heap.size->(Value.slice A1 m c1).ownBlock≠some k->y0.heap[k]?=hz.heap[k]?:=λk hk yt=>(hh.block k (aW hk O.size) (λG=>yt G.symm)).trans (O.block k hk);have⟨u5,zj,zk,hw⟩:=id xb;refine⟨i-1,r9,L'++[y],by go_num,by omega,xb.eW (yp g hw.lt (λG=>by have:=dD (dX h6 G) hw;exact absurd this (by decide))),?_,?_,z1,by rw[aO,<-HM.zz];simp;omega,λn hn=>?_⟩
      .rw[aO,<-HM.zz,yM];exact yb
      .exact h5.eW hw (λk hk yt=>yp k (by omega) (λG=>by have:=dH h6 k G;omega)) (nX (vZ hx xg) (cU h5.IG O dQ) hh (aM h5.IG.size O.size)) (aM xf (aM O.size hh.size))
      rw[cB,bP]at hn;rcases hn with hn|rfl
      .exact x0 n hn
      exact ze
     simp[intOf];omega
    have y7:=aH (show F=(L',r')from by rw[x3];exact ao9 _ _ _ (by
     by_cases G:0<i
     .exact .inr (by cases h8:r'.2 with|true=>exact absurd ⟨G,h8⟩ x8|false=>rfl)
     exact .inl (by omega)))
    have rM:=(gR u.rm).1;obtain⟨-,-,-,u4⟩:=rM;obtain⟨-,-,-,-,zx⟩:=gR u.rm;obtain⟨A2,c2,rfl,-⟩:=id (Reads.cX u.own);have⟨x0,x1,A,K⟩:=aC x4 hc W u;have xf:=u.top;have xg:=u.IG.size;have xh:=o.IG.size;have zy:f.length<=255:=(by rw[xi.zz];omega);have⟨m,hm⟩:=fR L'.length;rw[<-hm]at ym;rw[<-hm];have HM:=aH hm;have zc:¬0<i\/(0<i/\r'.2=false):=by
     by_cases G:0<i
     .exact .inr ⟨G,by cases h8:r'.2 with|true=>exact absurd ⟨G,h8⟩ x8|false=>rfl⟩
     exact .inl G
    clear hc W u x3 x4 hm x8 J h3 z;rcases zc with G|⟨G,h8⟩
    .have i6:¬(0:Int)<i:=(by omega);clear D;(go_wp2_with (at_builtin;refine MG AF underlying55 K.own rfl rfl rfl rfl rfl (by omega) (by omega) ?_;intro yz y0 d B H;obtain⟨A3,c3,rfl,-⟩:=id (Reads.cX d);have h0:=aH (K.push x1 (by rw[<-HM.zz]at A|-;exact A) xh (iH.alloc dQ _) B d);obtain⟨⟨-,-,-,zf⟩,-,-,-,zb⟩:=gR h0.1;clear d B H));go_roundw
     .exact⟨j+1,f++[L'],_,_,r',by go_num,by omega,h0.2.2,h0.2.1,by rw[y4.zz,y7.zz],by rw[aO,xi.zz];rfl,λZ hZ=>by
      rw[cB,bP]at hZ;rcases hZ with hZ|rfl
      .exact y1 Z hZ
      exact⟨by rw[<-HM.zz];omega,x0⟩⟩
     simp[intOf];omega
    have i6:(0:Int)<i:=(by omega);rw[h8]at D;(go_wp2_with (at_builtin;refine MG AF underlying55 K.own rfl rfl rfl rfl rfl (by omega) (by omega) ?_;intro yz y0 d B H;obtain⟨A3,c3,rfl,-⟩:=id (Reads.cX d);have h0:=aH (K.push x1 (by rw[<-HM.zz]at A|-;exact A) xh (iH.alloc dQ _) B d);obtain⟨⟨-,-,-,zf⟩,-,-,-,zb⟩:=gR h0.1;clear d B H));go_roundw
    .exact⟨j+1,f++[L'],_,_,r',by go_num,by omega,h0.2.2,h0.2.1,by rw[y4.zz,y7.zz],by rw[aO,xi.zz];rfl,λZ hZ=>by
     rw[cB,bP]at hZ;rcases hZ with hZ|rfl
     .exact y1 Z hZ
     exact⟨by rw[<-HM.zz];omega,x0⟩⟩
    simp[intOf];omega
   |false=>
    have h1:E=(f,r):=by rw[hE];exact PV _ _ _ (.inr l)
    have h:sY (kH L)=(⟨a,b,c,f⟩,r):=by rw[yh.zz];unfold sY;rw[EA.zz];simp only;rw[EB.zz];simp only;rw[EC.zz];simp only;rw[y6.zz];simp only;rw[<-y5.zz,h1]
    have⟨s9,J,h3,z⟩:=id I;have xp:=z.lO;have D:=z.qD;obtain⟨o,Q⟩:=aA P (xl (by rw[h];exact l));rw[l]at D;clear I P hE ha U h1 h J h3 z;obtain⟨⟨Y,r1,r2,r3⟩,f0,f1,f2,f3⟩:=gR o.r0;go_wp2;refine bE (v:=.tuple #[.agg #[.int .i64 0,.int .i64 0,.int .u64 0,.slice none 0 0],.int .i64 90]) (by simp[results,results240,go_sem,Y,r1,r2,r3]) rfl (T _ Q (oD o.IG dQ _ _ _ _))
  have i5:¬(j:Int)<q:=(by omega);have h1:E=(f,r):=by rw[hE];exact PV _ _ _ (.inl (by omega))
  have h:sY (kH L)=(⟨a,b,c,f⟩,r):=by rw[yh.zz];unfold sY;rw[EA.zz];simp only;rw[EB.zz];simp only;rw[EC.zz];simp only;rw[y6.zz];simp only;rw[<-y5.zz,h1]
  have⟨s9,J,h3,z⟩:=id I;have xp:=z.lO;have D:=z.qD;have o:=aH P;cases l:r.2 with
  |false=>have Q:=aH (xl (by rw[h];exact l));rw[l]at D;clear I P hE ha U h1 h J h3 z;obtain⟨⟨Y,r1,r2,r3⟩,f0,f1,f2,f3⟩:=gR o.r0;go_wp2;refine bE (v:=.tuple #[.agg #[.int .i64 0,.int .i64 0,.int .u64 0,.slice none 0 0],.int .i64 90]) (by simp[results,results240,go_sem,Y,r1,r2,r3]) rfl (T _ Q (oD o.IG dQ _ _ _ _))
  |true=>
   rw[l]at D;by_cases x9:r.1=[]
   .have i6:s9.toList=[]:=(by rw[jL,J,x9]);obtain⟨A2,c2,rfl,-⟩:=id (Reads.cX P.own);obtain⟨⟨m0,m1,m2,m3⟩,n0,n1,n2,n3⟩:=gR o.rm;have xy:DA ⟨a,b,c,f⟩:=by
     refine⟨by simpa using la,by simpa using zd,by simpa using lc,by show f.length<=1000;omega,?_,λn hn=>?_⟩
     .have:=aA5 (k:=255) (λL hL=>(U L hL).1);show f.flatten.length<=100000;omega
     have⟨Z,hZ,hn⟩:=tS.1 hn;exact(U Z hZ).2 n hn
    have hd:=AW _ _ wr o.cd3 xy;have⟨z8,G5,G6,G7⟩:=aC xy (ye) (yf) (yg);rw[h]at G5 G6 G7;have yj:=aH (λ(w':aI)(v:aN)=>z9 w' v);rw[h]at yj;clear I P hE ha U h1 h J h3 z xy xl yd ye yf yg;cases hu:wU ⟨a,b,c,f⟩with
    |false=>
     rw[hu]at hd;have Q:=aH (G5 hu);(go_wp2_with fail);go_call hd as e w7 ⟨rfl,ho⟩;have N:=aH (o.next ho);clear hd ho m0 m1 m2 m3 n0 n1 n2 n3 xp D;obtain⟨⟨Y,r1,r2,r3⟩,f0,f1,f2,f3⟩:=gR N.r0;go_wp2;refine bE (v:=.tuple #[.agg #[.int .i64 0,.int .i64 0,.int .u64 0,.slice none 0 0],.int .i64 90]) (by simp[results,results240,go_sem,Y,r1,r2,r3]) rfl (T _ Q (oD N.IG dQ _ _ _ _))
    |true=>
     rw[hu]at hd;have yc:=aH hu;clear hu;(go_wp2_with fail);go_call hd as e w7 ⟨rfl,ho⟩;have N:=aH (o.next ho);clear hd ho m0 m1 m2 m3 n0 n1 n2 n3 xp D;obtain⟨⟨m0,m1,m2,m3⟩,n0,n1,n2,n3⟩:=gR N.rm;have xu:=OC _ _ w7 N.cd3 z8;rw[yc.zz,aV rfl,aV rfl]at xu;(go_wp2_with fail);go_call xu as e w8 ⟨rfl,yn⟩;have R:=aH (N.next yn);clear xu yn m0 m1 m2 m3 n0 n1 n2 n3;obtain⟨⟨Y,r1,r2,r3⟩,f0,f1,f2,f3⟩:=gR R.r0;by_cases hb:iS ⟨a,b,c,f⟩=L
     .have Q:=aH (G7 l x9 yc hb);obtain⟨⟨m0,m1,m2,m3⟩,n0,n1,n2,n3⟩:=gR R.rm;have i8:(L==s.toList)=true:=(by rw[jL,<-ya.zz];simp);go_wp2;refine bE (v:=.tuple #[.agg #[.int .i64 a,.int .i64 b,.int .u64 c,.slice A2 f.length c2],.int .i64 0]) (by simp[results,results240,go_sem,Y,r1,r2,r3]) rfl (yj _ _ Q ⟨_,rfl,R.ret _ _ _ _⟩ (oD R.IG dQ _ _ _ _))
     have Q:=aH (G6 hb);have i8:(iS ⟨a,b,c,f⟩==s.toList)=false:=(by rw[jL,<-ya.zz,bA];exact hb);go_wp2;refine bE (v:=.tuple #[.agg #[.int .i64 0,.int .i64 0,.int .u64 0,.slice none 0 0],.int .i64 90]) (by simp[results,results240,go_sem,Y,r1,r2,r3]) rfl (T _ Q (oD R.IG dQ _ _ _ _))
   have i6:¬s9.toList=[]:=(by rw[jL,J];exact x9);have Q:=aH (yd (by rw[h];exact x9));clear I P hE ha U h1 h J h3 z;obtain⟨⟨Y,r1,r2,r3⟩,f0,f1,f2,f3⟩:=gR o.r0;go_wp2;refine bE (v:=.tuple #[.agg #[.int .i64 0,.int .i64 0,.int .u64 0,.slice none 0 0],.int .i64 90]) (by simp[results,results240,go_sem,Y,r1,r2,r3]) rfl (T _ Q (oD o.IG dQ _ _ _ _))
 have i2:(t.take 4==[105,109,97,112])=false:=by rw[DN,ne_eq,gH];exact hf
 have Q:=aH (aa7 (s:=L) (by rw[<-ht];unfold FO;simp;intro _ G;exact hf G));clear hL hv X V ht;go_in;go_wp2_with fail
 go_call C _ as e w1 ⟨rfl,p⟩;obtain⟨⟨Y,r1,r2,r3⟩,f0,f1,f2,f3⟩:=gR (S.next p);have he:=aH (cU x2 p dQ);clear C p;go_wp2;refine bE (v:=.tuple #[.agg #[.int .i64 0,.int .i64 0,.int .u64 0,.slice none 0 0],.int .i64 90]) (by simp[results,results240,go_sem,Y,r1,r2,r3]) rfl (T _ Q (oD he dQ _ _ _ _))
def zW(s:bH)(p n:Nat):Nat:=if s.length<p+n then 0 else num ((s.drop p).take n)
def JZ(s:bH):Nat->Nat->List Nat->List Nat×Nat
 |0,p,a=>(a,p)
 |k+1,p,a=>if p+4<=s.length then JZ s k (p+4) (a++[zW s p 4])else(a,p)
def JL(s:bH):Nat->Nat->mX->mX
 |0,_,a=>a
 |k+1,p,a=>if p<s.length then JL s k (JZ s (zW s p 1) (p+1) []).2 (a++[(JZ s (zW s p 1) (p+1) []).1])else a
def O8(s:bH):jD:=⟨zW s 4 4,zW s 8 4,zW s 12 8,JL s (zW s 20 1) 21 []⟩
def PZ(s:bH):Int:=if wU (O8 s)&&decide (iS (O8 s)=s)then 0 else 90
def MW(d:l <+: s){n k:Nat}(b:n<=l)(h:(mY k (l.drop n,true)).2.2=true):mY k (l.drop n,true)=(zW s n k,(l.drop (n+k),true))/\n+k<=l:=by
 unfold mY at h|-;by_cases a:(l.drop n)<k
 .simp only[aV a]at h;cases h
 simp only[aP a]at h|-;rw[eK]at a;have c:n+k<=l:=(by omega);obtain⟨r,rfl⟩:=d;refine⟨?_,c⟩;unfold zW;rw[aP (by rw[aO];omega),lN,ID b,gE (by rw[eK];omega)]
def OV(h:(mY n r).2.2=true):r.2=true:=by
 unfold mY at h;split at h
 .cases h
 exact h
def ap0(h:(DQ n r M).2.2=true):r.2=true:=by
 rcases a:r.2 with _|_
 .rw[ao9 n r M (.inr a)]at h;rw[<-a];exact h
 rfl
def ZQ(h:(wG n r C).2.2=true):r.2=true:=by
 rcases a:r.2 with _|_
 .rw[PV n r C (.inr a)]at h;rw[<-a];exact h
 rfl
def cd4(c:l <+: s):∀(i p:Nat)(a:List Nat),p<=l.length->(DQ i (l.drop p,true) a).2.2=true->∃d,DQ i (l.drop p,true) a=((JZ s i p a).1,(l.drop d,true))/\(JZ s i p a).2=d/\d<=l.length
 |0,p,a,b,h=>⟨p,rfl,rfl,b⟩
 |i+1,p,a,b,h=>by rw[aP5 i _ a rfl]at h|-;obtain⟨e,f⟩:=MW c b (ap0 h);rw[e]at h|-;simp only at h|-;rw[JZ,aV (by have:=c.length_le;omega)];exact cd4 c i (p+4) _ f h
def bw6(d:l <+: s)(c:l.length<s.length):∀(i p:Nat)(a:mX),p<=l.length->(wG i (l.drop p,true) a).2.2=true->(wG i (l.drop p,true) a).1=JL s i p a
 |0,p,a,f,h=>rfl
 |i+1,p,a,f,h=>by rw[ao8 i _ a rfl]at h|-;have b:=ZQ h;have⟨e,k⟩:=MW d f (ap0 b);rw[e]at h b|-;simp only at h b|-;have⟨n,g,j,m⟩:=cd4 d (zW s p 1) (p+1) [] k b;rw[g]at h|-;rw[JL,aV (by omega),j];exact bw6 d c i n _ m h
def cw8(h:sB s=true):PZ s=0:=by
 unfold sB at h;simp only[bL,bG]at h;obtain⟨⟨⟨⟨⟨g,i⟩,a⟩,x⟩,q⟩,r⟩:=h;have d:kH s <+: s/\(kH s).length<s:=by
  unfold kH;rw[aV g];have y:4<=s.length:=by unfold kY at g;simp at g;exact g.1
  exact⟨br8 _ _,by rw[b8];omega⟩
 have j:4<=(kH s).length:=by unfold FO at i;simp at i;exact i.1
 have e:(sY (kH s)).1=O8 s:=by generalize kH s=t at *;unfold sY at a|-;simp only at a|-;have b:=ZQ a;have c:=OV b;have f:=OV c;have p:=OV f;have⟨l,u⟩:=MW d.1 j p;rw[l]at f c b a|-;simp only at f c b a|-;have⟨m,k⟩:=MW d.1 u f;rw[m]at c b a|-;simp only at c b a|-;have⟨n,v⟩:=MW d.1 k c;rw[n]at b a|-;simp only at b a|-;have⟨o,w⟩:=MW d.1 v b;rw[o]at a|-;simp only at a|-;rw[bw6 d.1 d.2 _ _ _ w a];rfl
 unfold PZ;rw[<-e,q,r];simp
def ct6(s:bH)(p n:Nat):zW s p n<256^n:=by
 unfold zW;split
 .exact Nat.pow_pos (by omega)
 refine aW (AU _) (gD (by omega) ?_);rw[b8];omega
def aK0{A:Option Addr}(h:Reads w (.slice A n k) 1 M (fJ M))(v:m<=M):Reads w (.slice A m k) 1 (M.take m) (fJ (M.take m)):=by have⟨r,s,l,t,e,u,f⟩:=h;obtain⟨rfl,x,rfl⟩:=eJ l;have a:(M.take m)=m:=(by rw[b8];omega);refine⟨A,k,by rw[a],by rw[a];omega,e,by simp[fJ],λd=>?_⟩;rw[a]at d;have⟨b,c,o,p,q⟩:=f (by omega);refine⟨b,c,o,p,λj g=>?_⟩;have i:j<m:=(by simp[fJ,EM]at g;omega);rw[q j (by simp[fJ,EM];omega)];simp[fJ,EM]
def BX(w:aI)(b:Bool)(e:eY)(a:aI):Prop:=e=.returned (.bool b)/\aR w.heap.size w a
def aj4(h:M[n]?=m):(M.take (n+1)).contains k=((M.take n).contains k||decide (m=k)):=by rw[dL,h,iX,vD,bG];simp only[oI,cB,aD7,bP];exact or_congr Iff.rfl eq_comm
def bY2(v:aN)(F:List Nat)(n:Nat)(w:aI)(h:Reads w v 1 F (fJ F))(E:F.length<=100000):Calls prog 251 #[v,n] w (BX w (F.contains n)):=by
 unfold BX;have⟨R,o⟩:=fR (F.contains n);rw[<-o];have u:=aH o;clear o;obtain⟨A,c,rfl,p,q,-⟩:=id h;have f:=λC=>Reads.UK h C;have⟨N,m⟩:=fR F.length;rw[<-m]at E p f|-;unfold maxLen at q;have⟨t,z⟩:=aA m f;clear h f m;go_in;go_wp2_with fail
 go_loopw [5] (λi wr=>∃k:Nat,k<=N/\i=.int .i64 k/\(F.take k).contains n=false/\wr=w) (λi _=>N-(intOf i).toNat)
 .exact⟨0,bK _,rfl,by simp,rfl⟩
 obtain⟨k,J,rfl,j,rfl⟩:=hrel;have g:=aH j;clear j;by_cases r:k<N
 .have G:(k:Int)<N:=(by omega);obtain⟨b,I,rfl,-,-,e,a⟩:=z (by omega);obtain⟨y,s⟩:∃y,F[k]?=some y:=⟨_,aJ (by have:=t.zz;omega)⟩;have B:=a wr iH k (by rw[e];exact r);rw[sP s]at B;have x:=aH s;clear a e s;by_cases d:y=n
  .have H:((y:Int)==(n:Int))=true:=(by rw[d];simp);have l:=aH d;clear d;go_wp2;go_ret;refine⟨?_,iH⟩;have D:F.contains n=true:=by rw[oI,<-l.zz];exact bC x
   rw[u.zz,D];rfl
  have H:((y:Int)==(n:Int))=false:=(by rw[bA];omega);have l:=aH d;clear d;go_wp2;go_roundw
  .exact⟨k+1,by omega,by go_num,by rw[aj4 x.zz,g.zz,bN l.zz];rfl,trivial⟩
  simp[intOf];omega
 obtain rfl:k=N:=(by omega);have G:¬(k:Int)<k:=(by omega);go_wp2;go_ret;refine⟨?_,iH⟩;have:=g.zz;rw[aT (by have:=t.zz;omega)]at this;rw[u.zz,this];rfl
def bn5(h:C[n]?=M):(C.take (n+1)).flatten=(C.take n).flatten++M:=by rw[dL,h];simp
def aA4(l:mX)(j:Nat):(l.take j).flatten.length<=l.flatten:=by
 conv=>rhs;rw[<-bX j l,iO,aO]
 omega
def bJ3(F L:List Nat):fJ (F++L)=fJ F++fJ L:=by unfold fJ EM;simp
def bJ2(L:List Nat):∀u∈fJ L,u.oneCell'=true:=by intro u a;obtain⟨n,-,rfl⟩:=dS.1 a;rfl
def Y3(w:aI)(F:List Nat)(e:eY)(b:aI):Prop:=∃a,e=.returned a/\b.ownsRow w.heap.size 3 1 a F.length (fJ F)/\aR w.heap.size w b
def aJ3(v:aN)(l:mX)(w:aI)(h:vA w v l)(hl:l.length<=1000)(hf:l.flatten.length<=100000):Calls prog 190 #[v] w (Y3 w l.flatten):=by
 unfold Y3;have⟨FF,k⟩:=fR l.flatten;rw[<-k];have Q:=aH k;clear k;obtain⟨A,c,rfl,p,q⟩:∃A c,v=.slice A l c/\l.length<=c/\c<=maxLen:=by
  obtain⟨vs,h2,⟨A,c,rfl,p,q,-⟩,h1⟩:=h;exact⟨A,c,rfl,p,q⟩
 have⟨i0,V,H,I,J⟩:=info_parts nH;have o:=h.at_ hf;have D:=aA4 l;have⟨n,Y⟩:=fR l.length;rw[<-Y]at p hl o|-;unfold maxLen at q;have⟨HN,O,y⟩:=aB Y o D;clear h o Y D;go_in;go_wp2_with fail
 go_loopw [3,4] (λs i wr=>∃(j:Nat)(N:Option Addr)(T:Nat),j<=n/\i=.int .i64 j/\s=.slice N (l.take j).flatten T/\wr.ownsRow w 3 1 (.slice N (l.take j).flatten T) (l.take j).flatten (fJ (l.take j).flatten)/\aR w w wr) (λ_ i _=>n-(intOf i).toNat)
 .exact⟨0,none,0,bK _,rfl,rfl,bM _ _ _ _,iH⟩
 obtain⟨j,N,T,hj,rfl,rfl,a,f⟩:=hrel;have⟨e,t⟩:=aA a f;have z:=y j;have U:=y (j+1);have⟨F,M⟩:=fR ((l.take j).flatten);rw[<-M]at z e a;rw[show(l.take j).flatten=F from M.symm];have⟨m,X⟩:=fR F.length;have K:=aH X;rw[show F.length=m from X.symm]at e z a|-;have g:=aH M;clear M X;by_cases W:j<n
 .have i1:(j:Int)<n:=(by omega);have⟨A',c',L,x,b,h3,hv,hL,hA,h0,G⟩:=O j W;obtain⟨rfl,-,rfl⟩:=eJ hv;subst hA;have⟨Z,c1⟩:=G wr f;obtain⟨Ax,cx,rfl,-⟩:=id Z;have S:=aH Z;have r:=bn5 hL;have u:=aH (show(l.take (j+1)).flatten=F++L from by rw[r,<-g.zz]);rw[r,<-g.zz,aO,<-K.zz]at U;have C:=f.size;clear a f G Z hv hL r;go_wp2_with (first
   |(at_builtin;refine iF _ rfl _ _ 33 rfl w 3 i0 () 1 8 underlying33 V H I J rfl (by decide) _ m (fJ F) rfl e _ L (fJ L) rfl S (bJ2 _) (by unfold maxLen;omega) (by omega) C ?_;intro v3 w5 d E))
  have B:=t.grown E C (dH e);obtain⟨A5,c5,rfl,-⟩:=Reads.cX d;have⟨R,P⟩:=aA d B;clear d E B;go_wp2;go_roundw
  .exact⟨j+1,A5,c5,by omega,by go_num,by rw[u.zz,aO,<-K.zz],by rw[u.zz,aO,<-K.zz,bJ3];exact R,P⟩
  simp[intOf];omega
 obtain rfl:j=n:=(by omega);have i1:¬(j:Int)<j:=(by omega);have HE:=aH (show l.take j=l from aT (by have:=HN.zz;omega));clear a f;go_wp2;go_ret;refine⟨_,rfl,?_,t⟩;have h9:=e.zz;have e1:FF=F:=(by rw[Q.zz,g.zz,HE.zz]);rw[e1,<-K.zz];exact h9
def ZD(h:M[n]?=k):(M.take (n+1)).Nodup↔(M.take n).Nodup/\(M.take n).contains k=false:=by
 rw[dL,h];simp only[aD7,mG,bP];rw[<-kL,oI];constructor
 .rintro ⟨d,-,e⟩;exact⟨d,λf=>e k f k rfl rfl⟩
 rintro ⟨d,e⟩;exact⟨d,T4 _ _,λa g b i c=>e (by rw[i]at c;rw[<-c];exact g)⟩
def bI8(h:M.Nodup)(k:Nat):(M.take k).Nodup:=h.sublist (aZ1 _ _)
def cq0{C:mX}(h:5<C.length):kR C=false:=by unfold kR;rw[bN];omega
def bU2{C:mX}(h:40<C.flatten.length):kR C=false:=by unfold kR;rw[bN];omega
def cE5{C:mX}(h:¬C.flatten.Nodup):kR C=false:=by unfold kR;rw[bN];exact λa=>h a.2.2
def cE4{C:mX}(a:¬5<C.length)(b:¬40<C.flatten.length)(h:C.flatten.Nodup):kR C=true:=by unfold kR;rw[bZ ⟨by omega,by omega,h⟩]
def bf3(v:aN)(l:mX)(w:aI)(h:vA w v l)(hl:l.length<=1000)(hf:l.flatten.length<=100000):Calls prog 189 #[v] w (BX w (kR l)):=by
 unfold BX;have t:=aJ3 v l w h hl hf;obtain⟨A,c,rfl,q,r⟩:∃A c,v=.slice A l c/\l.length<=c/\c<=maxLen:=by
  obtain⟨vs,h6,⟨A,c,rfl,q,r,-⟩,h3⟩:=h;exact⟨A,c,rfl,q,r⟩
 have⟨R,hR⟩:=fR (kR l);have O:=@cq0 l;have z:=@bU2 l;have P:=@cE5 l;have s:=@cE4 l;rw[<-hR]at O z P s|-;have⟨F,hF⟩:=fR l.flatten;rw[<-hF]at z P s hf t;have⟨n,hn⟩:=fR l.length;rw[<-hn]at O s q hl t|-;have⟨N,Q⟩:=fR F.length;rw[<-Q]at z s hf;have⟨L,E1,E2,E3,E4⟩:=aD Q O z P s;unfold maxLen at r;clear h hR hF hn O z P s;unfold Y3 at t;rw[<-Q]at t;clear Q;have HA:=aH t;clear t;go_in;go_wp2_with fail
 go_call HA as e J ⟨v1,rfl,g,D⟩;obtain⟨S,M,rfl,h4,h2,-⟩:=Reads.cX g;have m:Reads J (.slice S N M) 1 N (fJ F):=Reads.cX g;have C:=λh0=>Reads.UK m h0;rw[show Reads J (.slice S N M) 1 N (fJ F)=Reads J (.slice S N M) 1 F.length (fJ F)from by rw[<-L.zz]]at m;have⟨j,X,U⟩:=aB D m C;unfold maxLen at h2;clear g D m C;by_cases h5:5<n
 .have i1:(5:Int)<(n:Int):=(by omega);have hE:=aH (E1 h5);go_wp2;go_ret;exact⟨by rw[hE.zz];rfl,j⟩
 have i1:¬(5:Int)<(n:Int):=(by omega);by_cases B:40<N
 .have i2:(40:Int)<(N:Int):=(by omega);have hE:=aH (E2 B);go_wp2;go_ret;exact⟨by rw[hE.zz];rfl,j⟩
 have i2:¬(40:Int)<(N:Int):=(by omega);go_wp2_with fail
 go_loopw [4] (λi wr=>∃k:Nat,k<=N/\i=.int .i64 k/\(F.take k).Nodup/\aR J J wr) (λi _=>N-(intOf i).toNat)
 .exact⟨0,bK _,rfl,by simp,iH⟩
 obtain⟨k,hk,rfl,H,d⟩:=hrel;have⟨u,p⟩:=aA H d;clear H;by_cases h1:k<N
 .have i3:(k:Int)<N:=(by omega);obtain⟨b,I,rfl,-,-,o,f⟩:=U (by omega);obtain⟨y,hy⟩:∃y,F[k]?=some y:=⟨_,aJ (by have:=L.zz;omega)⟩;have z1:∀x:dR wr,x.it.cell? (zp b (I+k))=some (.int .i64 y):=λx=>by rw[f x.it (aK d x.ok) k (by rw[o];exact h1),sP hy]
  have E:k<=F:=(by have:=L.zz;omega);have Y:=aH (aK0 (X.next d) E);have G:(F.take k).length<=100000:=(by rw[b8];omega);have V:=aH G;have i4:decide ((y:Int)<0)=false:=bN (by omega);have⟨HY,K⟩:=aA hy (λx:dR wr=>(bY2 _ _ y x.it (Y.next x.ok) V:Calls prog 251 #[.slice (zp b I) k M,y] x.it (BX x.it ((F.take k).contains y))));have⟨T,Z⟩:=fR ((F.take k).contains y);rw[<-Z]at K;have HT:=aH Z;unfold BX at K;clear f o hy G E d Z;cases T with
  |true=>
   have hE:=aH (E3 (λh9=>by have h8:=((ZD HY).1 (bI8 h9 (k+1))).2;rw[<-HT.zz]at h8;cases h8));(go_wp2_with fail);refine cI (by kernel_rfl) (by kernel_rfl) ?_;(repeat go_big_quiet_step (first|(go_at_call 251;exact eL _ (K _))));refine wpQuiet_nil ?_;intro _ hx;obtain⟨⟨wq,a⟩,rfl⟩:=hx;have W:=aH (aK (aK j p) a);clear a;go_wp2;go_ret;exact⟨by rw[hE.zz];rfl,W⟩
  |false=>
   have hE:=aH ((ZD HY).2 ⟨u,HT.symm⟩);(go_wp2_with fail);refine cI (by kernel_rfl) (by kernel_rfl) ?_;(repeat go_big_quiet_step (first|(go_at_call 251;exact eL _ (K _))));refine wpQuiet_nil ?_;intro _ hx;obtain⟨⟨wq,a⟩,rfl⟩:=hx;have W:=aH (aK p a);clear a;go_wp2;go_roundw
   .exact⟨k+1,by omega,by go_num,hE,W⟩
   simp[intOf];omega
 obtain rfl:k=N:=(by omega);have i3:¬(k:Int)<k:=(by omega);have hE:=aH (E4 h5 B (by have:=u.zz;rwa [aT (by have:=L.zz;omega)]at this));clear d;go_wp2;go_ret;exact⟨by rw[hE.zz];rfl,aK j p⟩
def bE4(v:aN)(l:mX)(w:aI)(h:vA w v l)(P:l.length<=1000)(G:l.flatten.length<=100000):Calls prog 133 #[v] w (I5 w l):=by
 unfold I5;obtain⟨A,c,rfl,e,f⟩:∃A c,v=.slice A l c/\l.length<=c/\c<=maxLen:=by
  obtain⟨vs,Q,⟨A,c,rfl,e,f,-⟩,O⟩:=h;exact⟨A,c,rfl,e,f⟩
 have d:=h.at_ G;have g:=λk B=>h.take (k:=k) B;have r:=λn=>@II l n;have⟨n,C⟩:=fR l.length;rw[<-C]at e P d g|-;unfold maxLen at f;have⟨E,z,o,p⟩:=aC C d g r;clear h G d g r C;go_in;go_wp2_with fail
 go_loopw [3] (λx wr=>∃k:Nat,k<=n/\x=.int .i64 k/\wr=w/\∀i L,k<=i->l[i]?=some L->L=[]) (λx _=>(intOf x).toNat)
 .exact⟨n,dQ,rfl,rfl,λi L N u=>by have:=(aQ.1 u).1;have:=E.zz;omega⟩
 obtain⟨k,B,rfl,rfl,y⟩:=hrel;rcases dP k with F|F
 .subst F;have s:=aH y;clear y;go_wp2;go_ret;exact⟨⟨_,rfl,by rw[p.zz 0 (bK _) s.zz (λL h=>absurd rfl h)];exact o 0 (bK _)⟩,rfl⟩
 obtain⟨j,rfl⟩:∃j,k=j+1:=⟨k - 1,by omega⟩;have Y:(0:Int)<((j+1:Nat):Int):=(by omega);have Z:((j+1:Nat):Int)-1=(j:Int):=(by omega);have⟨T,V,L,x,b,S,I,u,J,K,q⟩:=z j (by omega);obtain⟨rfl,-,rfl⟩:=eJ I;subst J;have⟨H,W⟩:=q wr iH;obtain⟨U,X,rfl,-⟩:=id H;have⟨s,D⟩:=aA y u;clear y q H I u;by_cases a:L.length=0
 .have R:((L:Int)==0)=true:=(by rw[gH];omega);have hE:=aH (eG.1 a);go_wp2;go_roundw
  .
   refine⟨j,by omega,by go_num,trivial,λi M N m=>?_⟩;rcases cK j i with t|t
   .exact s i M t m
   obtain rfl:i=j:=(by omega);rw[D.zz]at m;cases m;exact hE
  simp[intOf]
 have R:((L:Int)==0)=false:=(by rw[DN,ne_eq,gH];omega);go_wp2;go_ret;refine⟨⟨_,rfl,?_⟩,rfl⟩;rw[p.zz (j+1) (by have:=E.zz;omega) s.zz (λM _ m=>by rw[aE0,D.zz]at m;cases m;intro t;rw[t]at a;exact a rfl)];exact o (j+1) B
def aX1(h:M[n]?=k):((M.take (n+1)).any λa=>decide (m<=a))=(((M.take n).any λa=>decide (m<=a))||decide (m<=k)):=by rw[dL,h,List.any_append];simp
def cA1{k m:Nat}(h:((M.take k).any λn=>decide (m<=n))=true):(M.any λn=>decide (m<=n))=true:=by rw[bs1]at h|-;have⟨x,a,b⟩:=h;exact⟨x,lM a,b⟩
def bf2(v:aN)(m:jD)(w:aI)(h:ak2 w v m)(K:DA m):Calls prog 132 #[v] w (BX w (wU m)):=by
 unfold BX;obtain⟨W,rfl,A⟩:=h;have J:=λ(x:aI)(B:aR w.heap.size w x)=>bf3 W m.fP x (A.next B) K.len K.flat;have r:=λ(x:aI)(B:aR w.heap.size w x)=>aJ3 W m.fP x (A.next B) K.len K.flat;unfold BX at J;unfold Y3 at r;have U:=K.flat;obtain⟨h9,ha,hb,-,-,-⟩:=K;have C:=tR w (.cells (mN m W).toArray 57);have p:=aH C;have D:=@aN5 m;have G:=@ao3 m;have H:=@bv2 m;have u:=@bv1 m;have⟨c,L,ms,ml⟩:=m;simp only[mN]at *;have⟨R,hR⟩:=fR (wU ⟨c,L,ms,ml⟩);rw[<-hR]at D G H u|-;have⟨F,hF⟩:=fR ml.flatten;rw[<-hF]at U r u;have⟨N,hN⟩:=fR F.length;rw[<-hN]at U r;have HN:=aH hN;clear hR A hF hN;have n0:decide ((c:Int)<0)=false:=bN (by omega);have n1:decide ((L:Int)<0)=false:=bN (by omega);by_cases h1:c<=1000000
 .have i1:decide ((1000000:Int)<(c:Int))=false:=bN (by omega);by_cases h2:L<=2147483647
  .have i2:decide ((2147483647:Int)<(L:Int))=false:=bN (by omega);have o:=J _ C;cases I:kR ml with
   |false=>
    have E:=aH (H I);rw[I]at o;clear D G H u r J I C;go_in;(go_wp2_with fail);go_call o as e w2 ⟨rfl,a⟩;have M:=aH (cU p a dQ);clear a;go_wp2;go_ret;exact⟨by rw[E.zz];rfl,M⟩
   |true=>
    have E:=aH (u h1 h2 I);rw[I]at o;have HA:=aH r;clear D G H u r J I C;go_in;(go_wp2_with fail);go_call o as e w2 ⟨rfl,a⟩;have d:=cU p a dQ;have S:=HA w2 d;have r2:=(Row.new w #[.int .i64 c,.int .i64 L,.int .u64 ms,W] 57).next a;have c3:=r2.JF;have⟨R2,M,O⟩:=aB r2 a d;clear r2;clear o a d;(go_wp2_with fail);go_call S as e w3 ⟨v3,rfl,l,z⟩;obtain⟨A3,h7,rfl,h8,h5,-⟩:=Reads.cX l;have T:=λh0=>Reads.UK (Reads.cX l) h0;have⟨X,P,Z⟩:=aB T (aK O z) (R2.next z);unfold maxLen at h5;clear S l z T c3;(go_wp2_with fail);go_loopw [4] (λi wr=>∃k:Nat,k<=N/\i=.int .i64 k/\((F.take k).any λn=>decide (c<=n))=false/\aR w3.heap.size w3 wr) (λi _=>N-(intOf i).toNat)
    .exact⟨0,bK _,rfl,by simp,iH⟩
    obtain⟨k,hk,rfl,V,g⟩:=hrel;have⟨Q,t⟩:=aA V g;clear V;by_cases h4:k<N
    .have i3:(k:Int)<N:=(by omega);obtain⟨b,h6,rfl,-,-,s,j⟩:=X (by omega);obtain⟨y,hy⟩:∃y,F[k]?=some y:=⟨_,aJ (by have:=HN.zz;omega)⟩;have z1:∀x:dR wr,x.it.cell? ⟨b,h6+k,none⟩=some (.int .i64 y):=(λx=>by rw[j x.it (aK g x.ok) k (by rw[s];exact h4),sP hy]);have z2:∀x:dR wr,x.it.cell? ⟨w.heap.size,0,none⟩=some (.int .i64 c):=λx=>(Z.next (aK g x.ok)).lO;have HY:=aH hy;clear j s hy g;by_cases q:c<=y
     .have i4:(c:Int)<=(y:Int):=(by omega);have hE:=aH (show R=false from by
       rw[E.zz,cA1 (k:=k+1) (m:=c) (by rw[aX1 HY.zz,bZ q,Bool.or_true])];rfl)
      clear q;(go_wp2_with fail);refine cI (by kernel_rfl) (by kernel_rfl) ?_;(repeat go_big_quiet_step (fail));refine wpQuiet_nil ?_;intro _ B;obtain⟨⟨wq,f⟩,rfl⟩:=B;have Y:=aH (aK (aK P t) f);clear f;go_wp2;go_ret;exact⟨by rw[hE.zz];rfl,Y⟩
     have i4:¬(c:Int)<=(y:Int):=(by omega);have hE:=aH (show((F.take (k+1)).any λn=>decide (c<=n))=false from by rw[aX1 HY.zz,Q.zz,bN q];rfl);clear q;(go_wp2_with fail);refine cI (by kernel_rfl) (by kernel_rfl) ?_;(repeat go_big_quiet_step (fail));refine wpQuiet_nil ?_;intro _ B;obtain⟨⟨wq,f⟩,rfl⟩:=B;have Y:=aH (aK t f);clear f;go_wp2;go_roundw
     .exact⟨k+1,by omega,by go_num,hE,Y⟩
     simp[intOf];omega
    obtain rfl:k=N:=(by omega);have i3:¬(k:Int)<k:=(by omega);have hE:=aH (show R=true from by
     have:=Q.zz;rw[aT (by have:=HN.zz;omega)]at this;rw[E.zz,this];rfl)
    clear g;go_wp2;go_ret;exact⟨by rw[hE.zz];rfl,aK P t⟩
  have i2:decide ((2147483647:Int)<(L:Int))=true:=bZ (by omega);have E:=aH (G (by simpa using h2));clear D G H u r J C;go_in;go_wp2;go_ret;exact⟨by rw[E.zz];rfl,p⟩
 have i1:decide ((1000000:Int)<(c:Int))=true:=bZ (by omega);have E:=aH (D (by simpa using h1));clear D G H u r J C;go_in;go_wp2;go_ret;exact⟨by rw[E.zz];rfl,p⟩
end Go.Proofs.YtpopikndggffaaaGreatDoor
