/- TOP, part 33. -/
import Derived.Test.YtpopikndggffaaaGreatDoorGt32
namespace Go.Proofs.YtpopikndggffaaaGreatDoor
set_option linter.all false
set_option maxRecDepth 100000
set_option maxHeartbeats 16000000
open Go.RowKit Go.Maps Tryz
section
variable {base q W:Nat}{h:dV}{D D':aL}{G G':cS}{I I':aZ}{cF aX:Nat}{w x y z:aI}{er:Int}{o o':iL}
def iY.grown{g:Nat}(H:iY x base W q h D o cF aX)(c:x.grownBy y g)(l:¬mS x W q h o g):iY y base W q h D o cF aX/\∀k,k<x.heap.size->k≠g->mS y W q h o k->mS x W q h o k:=by have i:∀k,k<x.heap.size->k≠g->y.heap[k]?=x.heap[k]?:=λk d b=>c.block k d λa=>b (by cases a;rfl);have f:W≠g:=λa=>l (.inr a.symm);have⟨s,v⟩:=H.it.far c.size λk j m=>i k j λa=>l (.inl (a▸m));have e:=i W H.row.lt f;refine⟨⟨H.row.of_block e,s,H.low,λa=>H.out (v W H.row.lt e a)⟩,λk d b a=>?_⟩;exact a.imp (v k d (i k d b)) id
def oH.grown{g:Nat}(H:oH w base W q h o D' o' cF aX x)(n:w<=g)(m:∀(f:Nat)(c:dV),iY x base W f c D' o' cF aX->¬mS x W f c o' g)(a:x.grownBy y g):oH w base W q h o D' o' cF aX y:=by have⟨f,c,e,s,v⟩:=H;have⟨p,b⟩:=s.grown a (m f c s);refine⟨f,c,e,p,⟨a.os.trans v.os,a.tape.trans v.tape,a.output.trans v.output,aM v.size a.size,λk d l=>(a.block k (aW d v.size) (λi=>by cases i;omega)).trans (v.block k d l),λk d j=>v.rJ k d (b k (aW d v.size) (by omega) j)⟩⟩
def sM.bu9(H:iY w base W q h D (some (G,I)) cF aX)(K:sM base q h cF aX w er D' G' I' x)(b:er≠61):oH w base W q h (some (G,I)) D' (some (G',I')) cF aX x:=by have⟨a,e,i,c,d⟩:=K;have s:=c b;have⟨f,g⟩:=H.CE (q':=q) (h':=a) (D':=D') (o':=some (G',I')) e.1 rfl s d;exact⟨q,a,e,f,g⟩
def sM.shut(H:iY w base W q h D (some (G,I)) cF aX)(K:sM base q h cF aX w er D' G' I' x):oH w base W q h (some (G,I)) D' none cF aX (x.setCell (zp W 1) (.pointer none)):=by
 obtain⟨t,e,⟨v,z,E⟩,L,c⟩:=K;have C:¬DJ x q t W:=λa=>H.out (c.rJ W H.row.lt a);have m:Row x W 69 [.pointer (some ⟨h.d,0,none⟩),sE q (some (G,I)),.int .u64 aX,.float .f64 cF]:=H.row.of_block (c.block W H.row.lt (.inr H.out));have u:=m.set 1 (.pointer none);have l:=jI x ⟨W,1,none⟩ (.pointer none);have f:∀k,k≠W->(x.setCell ⟨W,1,none⟩ (.pointer none)).heap[k]?=x.heap[k]?:=λk d=>aU _ _ _ _ d;have j:∀k,jQ x h.d h.m k->DJ x q t k:=λk d=>.inl (.inl (.inl (by rw[e.1,e.2];exact d)));have O:=KD.far (o:=none) (q:=q) (h:=h) (cF:=cF) (aX:=aX) (y:=x.setCell ⟨W,1,none⟩ (.pointer none)) (show KD x base q h D' none cF aX from⟨_,_,E⟩) l.size λk J F=>f k λa=>C (a▸j k F);obtain⟨⟨p,r,i⟩,b⟩:=O;refine⟨q,h,⟨rfl,rfl⟩,⟨u,⟨_,_,i⟩,H.low,i.nS u tX.1 tX.2⟩,⟨l.os.trans c.os,l.tape.trans c.tape,l.output.trans c.output,aM c.size l.size,λk d g=>?_,λk d a=>?_⟩⟩
 .have n:k≠W:=by
   rcases g with g|g
   .have:=H.low;omega
   exact λa=>g (.inr a)
  exact(f k n).trans (c.block k d (g.imp id λB A=>B (.inl A)))
 rcases a with a|a
 .by_cases s:k=W
  .exact .inr s
  exact .inl (c.rJ k d (j k (b k (aW d c.size) (f k s) a)))
 exact .inr a
end
variable{d g i j k m n:Nat}{w:aI}{D:aL}{S:dV}
def tV(a W q:Nat)(h:dV)(o:iL)(b d:Nat)(Q:Int->Int->List jU->aL->iL->Prop)(w:aI)(e:eY)(j:aI):Prop:=∃(g n:Int)(A:Option Addr)(k c:Nat)(T:List jU)(f:aL)(i:iL),e=.returned (.agg #[.int .i64 g,.int .i64 n,.slice A k c])/\Q g n T f i/\j.ownsRow w.heap.size 133 5 (.slice A k c) T.length (fU T)/\oH w a W q h o f i b d j
def G8(Q:Int->Int->List jU->aL->cS->aZ->Prop)(a n:Int)(T:List jU)(D:aL)(o:iL):Prop:=∃G I,Q a n T D G I/\((D.down=true/\o=none)\/(D.down=false/\o=some (G,I)))
def cj4{G:cS}{I:aZ}(H:iY w k n m S D (some (G,I)) i j)(s:Sp)(M:s.k<9\/14<s.k)(Q:Int->Int->List jU->aL->cS->aZ->Prop) (hQ:∀h he T D G I,Q h he T D G I->D.down=false->h≠61) (Y:∀y:aI,aR w w y->Calls prog 37 #[zp n,.agg s.c] y (aF0 k m S i j Q y)) :Calls prog 17 #[zp n,.agg s.c] w (tV k n m S (some (G,I)) i j (G8 Q) w):=by
 have x:=O0.start H s.c;have z:=aK (cD w (.cells s.c 35)) (cD _ (.cells vN 63));obtain⟨kd,st,a,b,EA,En,Ec,KA,Kn,Kc,tx⟩:=s;obtain⟨e9,h2,h3,h4,h5,h6⟩:=bv7 M;dsimp only[Sp.c]at e9 h2 h3 h4 h5 h6 x z Y|-;have Hn:=tD (H.next z).1;have HW:=H.row.lt;have h7:w.cell? ⟨n,0,none⟩=some (.pointer (some ⟨S.d,0,none⟩)):=H.cells.1;have h8:w.cell? ⟨n,1,none⟩=some (.pointer (some ⟨m,0,none⟩)):=H.cells.2.1;have⟨o,R,h1⟩:=aB (Y _ z) H hQ;clear Y M H hQ;go_in;(go_wp2_with fail);refine Hn.mono ?_;rintro e w' ⟨rfl,rfl⟩;(go_wp2_with fail);clear h7 h8;generalize (w.alloc (.cells #[.int .i64 kd,.string st,.int .i64 a,.int .i64 b,.slice EA En Ec,.slice KA Kn Kc,.string tx] 35)).alloc (.cells vN 63)=w0 at z x o Hn|-;refine o.out.mono ?_;rintro e B ⟨h,he,A,hc,c,T,P,X,I9,rfl,K,hO,J⟩;have V:=cD B (.cells #[.int .i64 h,.int .i64 he,.slice A hc c] 63);have u:=x.behind J;have d:=u.next V;have ha:=d.pN.lO;have hz:w0.heap.size<=B.heap.size:=by obtain⟨h',e,t,hs,hv⟩:=J;exact hv.size
 have O:w.heap.size+1<w0.heap.size:=x.AQ.lt;have N:w.heap.size<=w0.heap.size:=by omega
 obtain⟨q,r,t⟩:∃q r,bJ B k S.d S.m P q r:=by
  obtain⟨h',e,t,hs,hv⟩:=J;exact t
 have U:=BP (t.next V);have⟨E,C,p,Z,B2⟩:=aD hO J K x V;have hb:n<B.heap.size:=u.pN.lt;clear hO J K x V Hn o t;cases l:P.down with
 |false=>rw[l]at U;have r0:=d.AQ.lO;have r1:=d.AQ.qD;have r2:=d.AQ.tW;have f0:=d.AQ.NV;have f1:=d.AQ.JE;have f2:=d.AQ.QP;have⟨R9,O9⟩:=aA ((O0.put R.out z Z.out C.out B2.out (.int .i64 h) (.int .i64 he) (.slice A hc c)).bu9 R.out (h1.out _ _ _ _ _ _ p.out l)) (iI (LG (u0:=.int .i64 h) (u1:=.int .i64 he) (u2:=.slice A hc c) (bY E.out B2.out) O) N);(go_wp2_with fail);refine U.mono ?_;rintro e w' ⟨rfl,rfl⟩;go_wp2;refine bE (v:=.agg #[.int .i64 h,.int .i64 he,.slice A hc c]) (by simp[results,results17,go_sem,r0,r1,r2]) rfl ⟨h,he,A,hc,c,T,P,some (X,I9),rfl,⟨X,I9,p.out,.inr ⟨l,rfl⟩⟩,O9.out,R9.out⟩
 |true=>
  rw[l]at U;have L:n≠w.heap.size+1:=(by omega);(go_wp2_with fail);refine U.mono ?_;rintro e w' ⟨rfl,rfl⟩;have fW:=d.pN.JE;have cW:=d.pN.qD;have W:=cD (B.setCell ⟨n,1,none⟩ (.pointer none)) (.cells #[.int .i64 h,.int .i64 he,.slice A hc c] 63);have f:=(u.AQ.of_block (aU B ⟨n,1,none⟩ (.pointer none) _ (Ne.symm L))).next W;have r0:=f.lO;have r1:=f.qD;have r2:=f.tW;have f0:=f.NV;have f1:=f.JE;have f2:=f.QP;have R9:=aH (((sM.shut R.out (sM.before (R.out.it:oE w k m S D G I i j) z C.out)).next W).grown (g:=w.heap.size+1) (gI _) (λq' h' Hz F=>by
   rcases F with F|F
   .obtain⟨q,r,t⟩:=Hz.it;exact t.nS f vS.1 vS.2 F
   exact L F.symm) (az5 _ _ (.int .i64 h) (.int .i64 he) (.slice A hc c)))
  have O9:=aH (iI (LG (u0:=.int .i64 h) (u1:=.int .i64 he) (u2:=.slice A hc c) (bY (ownsRow_setCell_below E.out (a:=⟨n,1,none⟩) (by simp only;omega) (.pointer none)) W) O) N);clear f W;go_wp2;refine bE (v:=.agg #[.int .i64 h,.int .i64 he,.slice A hc c]) (by simp[results,results17,go_sem,r0,r1,r2]) rfl ⟨h,he,A,hc,c,T,P,none,rfl,⟨X,I9,p.out,.inl ⟨l,rfl⟩⟩,O9.out,R9.out⟩
variable{o:iL}
def iY.cA2{X:List aN}(H:iY w k n m S D none i j)(b:Row w d 63 X):¬mS w n m S none d:=by
 rintro (a|a)
 .have⟨c,e,f⟩:=H.it;exact f.nS b vS.1 vS.2 a
 subst a;have:=dD H.row b;revert this;decide
structure DoB(d:aI)(a W q:Nat)(h:dV)(D:aL)(o:iL)(b c:Nat)(e:List aN)(x:aI):Prop where
 cS2:oH d a W q h o D o b c x
 pN:iY x a W q h D o b c
 box:Row x d.heap.size 35 e
 AQ:Row x (d.heap.size+1) 63 vN.toList
def DoB.start(H:iY w k n m S D o i j)(a:Array aN):DoB w k n m S D o i j a.toList ((w.alloc (.cells a 35)).alloc (.cells vN 63)):=by have e:=Row.new w a 35;have d:=Row.new (w.alloc (.cells a 35)) vN 63;rw[bD]at d;have c:=cD w (.cells a 35);have b:=cD (w.alloc (.cells a 35)) (.cells vN 63);exact⟨H.to (aK c b),(H.next (aK c b)).1,e.next b,d⟩
def by2(H:iY w k n m S D none i j)(s:Sp)(c:s.k<9\/14<s.k):Calls prog 17 #[zp n,.agg s.c] w (tV k n m S none i j (λt K T q x=>t=61/\K=0/\T=[]/\q=D/\x=none) w):=by
 have o:=tD (DoB.start H s.c).pN;have p:=aH (H.to (aK (cD w (.cells s.c 35)) (cD _ (.cells #[(61:Int),(),zs] 63))));have⟨F,G,a,b,y,A,z,C,Kn,E,I⟩:=s;have⟨r,d,f,g,h,l⟩:=bv7 c;dsimp only[Sp.c]at r d f g h l o p|-;have B:=H.row.lt;have u:w.cell? (zp n 1)=some (.pointer none):=H.cells.2.1;clear c H;go_in;go_wp2_with fail
 go_call o as e J ⟨rfl,rfl⟩;go_wp2;refine bE (v:=.agg #[(61:Int),(),zs]) (by simp[results,results17,go_sem]) rfl ⟨61,0,none,0,0,[],D,none,rfl,⟨rfl,rfl,rfl,rfl,rfl⟩,bM _ _ _ _,p⟩
def cj8(H:iY w k n m S D o i j)(s:Sp)(A:s.k=10):Calls prog 17 #[zp n,.agg s.c] w (tV k n m S o i j (λz K T l E=>z=0/\K=0/\T=[]/\l=D/\E=none) w):=by
 have d:=tD (DoB.start H s.c).pN;have⟨B,F,a,b,q,t,r,u,Kn,x,G⟩:=s;obtain rfl:B=10:=A;dsimp only[Sp.c]at d|-;have I:=H.row.lt;have c:w.cell? (zp n 1)=some (sE m o):=H.cells.2.1;have C:=H.row.JE;have⟨p,f⟩:=fR (sE m o);rw[<-f]at c;have⟨g,h⟩:=H.closed;have y:=aH (oH.trans (W:=n) ⟨rfl,rfl⟩ h (g.to (aK (cD (w.setCell (zp n 1) (.pointer none)) (.cells #[(10:Int),F,a,b,.slice q t r,.slice u Kn x,G] 35)) (cD _ (.cells #[(),(),zs] 63)))));clear H f g h;go_in;go_wp2_with fail
 go_call d as e J ⟨rfl,rfl⟩;go_wp2;refine bE (v:=.agg #[(),(),zs]) (by simp[results,results17,go_sem]) rfl ⟨0,0,none,0,0,[],D,none,rfl,⟨rfl,rfl,rfl,rfl,rfl⟩,bM _ _ _ _,y⟩
def DoB.out{w:aI}{base n k:Nat}{h:dV}{D:aL}{o:iL}{i:Nat}(H:iY w base n k h D o m i)(a:Array aN):¬mS ((w.alloc (.cells a 35)).alloc (.cells vN 63)) n k h o (w+1):=by
 match o,H with
 |none,H=>exact(DoB.start H a).pN.cA2 (DoB.start H a).AQ
 |some (G,I),H=>
  rintro (b|b)
  .exact(O0.start H a).o2 b
  have:=H.row.lt;omega
def DoB.behind{x:aI}{D':aL}{o':iL}(H:iY w k n m S D o i j)(h:Array aN)(K:oH ((w.alloc (.cells h 35)).alloc (.cells vN 63)) k n m S o D' o' i j x):Row x (w+1) 63 vN.toList/\∀q r t:aN,oH w k n m S o D' o' i j (((x.setCell (zp (w+1)) q).setCell (zp (w+1) 1) r).setCell (zp (w+1) 2) t):=by have p:=DoB.start H h;have c:=DoB.out H h;have⟨y,u,e,s,v⟩:=K;have g:=p.AQ.of_block (v.block _ p.AQ.lt (.inr c));have B:¬mS x n y u o' (w.heap.size+1):=λl=>c (v.rJ _ p.AQ.lt l);refine⟨g,λq r t=>?_⟩;have a:=az5 x (w.heap.size+1) q r t;have⟨C,b⟩:=s.grown a B;have d:=(H.next (aK (cD w (.cells h 35)) (cD _ (.cells vN 63)))).2.trans v;exact⟨y,u,e,C,⟨a.os.trans d.os,a.tape.trans d.tape,a.output.trans d.output,aM d.size a.size,λE f A=>(a.block E (aW f d.size) (λz=>by cases z;omega)).trans (d.block E f A),λE f l=>d.rJ E f (b E (aW f d.size) (by omega) l)⟩⟩
def cy3{q:Nat}{B:List kM}(H:iY w k n m S D o q j)(O:k<=w)(f:D.cap=i)(G:i<=1048576)(u:D.bQ<1000000000)(J:kK i j d D.files (B.map jG) g)(t:lG B)(I:B.length<=1000)(c:j<18446744073709551616)(s:Sp)(N:s.k=9):Calls prog 17 #[zp n,.agg s.c] w (tV k n m S o q j (λr h0 T l p=>h0=0/\T=[]/\nY i j d (QO D) B g r p l) w):=by
 have y:=DoB.start H s.c;obtain⟨A,z⟩:=aA (Y6 y.pN (by simp;omega) f G u J t I c) (λ(x:aI)(l:aL)(p:iL)=>DoB.behind (x:=x) (D':=l) (o':=p) H s.c);have⟨P,st,a,b,V,X,W,Y,Kn,Z,tx⟩:=s;obtain rfl:P=9:=N;dsimp only[Sp.c]at y A z|-;have C:=tD y.pN;clear H y O f G u J t I c;go_in;go_wp2_with fail
 go_call C as e w' ⟨rfl,rfl⟩;go_wp2_with fail
 go_call A as e x ⟨r,p,l,rfl,F,E⟩;have⟨h,K⟩:=z _ _ _ E;have⟨M,L⟩:=aA (K r () zs) F;have Q:=h.lO;have R:=h.qD;have U:=h.tW;have f0:=h.NV;have f1:=h.JE;have f2:=h.QP;clear h K F E A z C;go_wp2;refine bE (v:=.agg #[r,(),zs]) (by simp[results,results17,go_sem,Q,R,U]) rfl ⟨r,0,none,0,0,[],l,p,rfl,⟨rfl,rfl,L⟩,bM _ _ _ _,M⟩
end Go.Proofs.YtpopikndggffaaaGreatDoor
