/- TOP, part 33. -/
import Derived.Test.YtpopikndggffaaaGreatDoorGm32
namespace Go.Proofs.YtpopikndggffaaaGreatDoor
set_option linter.all false
set_option maxRecDepth 100000
set_option maxHeartbeats 16000000
open Go.RowKit Go.Maps Tryz
section
variable {base q W:Nat}{h:dW}{D D':aM}{G G':cT}{I I':bA}{cK aZ:Nat}{w x y z:aI}{er:Int}{o o':iP}
def iW.grown{g:Nat}(H:iW x base W q h D o cK aZ)(c:x.grownBy y (some g))(l:¬mD x W q h o g):
 iW y base W q h D o cK aZ/\∀k,k<x.heap.size->k≠g->mD y W q h o k->mD x W q h o k:=by have i:∀k,k<x.heap.size->k≠g->y.heap[k]?=x.heap[k]?:=λk d b=>c.block k d λa=>b (by cases a;rfl);have f:W≠g:=λa=>l (.inr a.symm);obtain⟨s,v⟩:=H.it.far c.size λk j m=>i k j λa=>l (.inl (a▸m));have e:=i W H.row.lt f;refine⟨⟨H.row.of_block e,s,H.low,λa=>H.out (v W H.row.lt e a)⟩,λk d b a=>?_⟩;exact a.imp (v k d (i k d b)) id
def oO.grown{g:Nat}(H:oO w base W q h o D' o' cK aZ x)(n:w.heap.size<=g)(m:∀(f:Nat)(c:dW),iW x base W f c D' o' cK aZ->¬mD x W f c o' g)(a:x.grownBy y (some g)):oO w base W q h o D' o' cK aZ y:=by obtain⟨f,c,e,s,v⟩:=H;obtain⟨p,b⟩:=s.grown a (m f c s);refine⟨f,c,e,p,⟨a.os.trans v.os,a.tape.trans v.tape,a.output.trans v.output,aL v.size a.size,λk d l=>(a.block k (aW d v.size) (λi=>by cases i;omega)).trans (v.block k d l),λk d j=>v.rC k d (b k (aW d v.size) (by omega) j)⟩⟩
def rJ.bk6(H:iW w base W q h D (some (G,I)) cK aZ)(K:rJ base q h cK aZ w er D' G' I' x)(b:er≠61):oO w base W q h (some (G,I)) D' (some (G',I')) cK aZ x:=by obtain⟨a,e,i,c,d⟩:=K;have s:=c b;obtain⟨f,g⟩:=H.BA (q':=q) (h':=a) (D':=D') (o':=some (G',I')) e.1 rfl s d;exact⟨q,a,e,f,g⟩
def rJ.shut(H:iW w base W q h D (some (G,I)) cK aZ)(K:rJ base q h cK aZ w er D' G' I' x):oO w base W q h (some (G,I)) D' none cK aZ (x.setCell ⟨W,1,none⟩ (.pointer none)):=by
 obtain⟨t,e,⟨v,z,E⟩,L,c⟩:=K;have C:¬CC x q t W:=λa=>H.out (c.rC W H.row.lt a);have m:Row x W 69 [.pointer (some ⟨h.d,0,none⟩),sF q (some (G,I)),.int .u64 aZ,.float .f64 cK]:=H.row.of_block (c.block W H.row.lt (.inr H.out));have u:=m.set 1 (.pointer none);have l:=jN x ⟨W,1,none⟩ (.pointer none);have f:∀k,k≠W->(x.setCell ⟨W,1,none⟩ (.pointer none)).heap[k]?=x.heap[k]?:=λk d=>aV _ _ _ _ d;have j:∀k,jE x h.d h.m k->CC x q t k:=λk d=>.inl (.inl (.inl (by rw[e.1,e.2];exact d)));have O:=IZ.far (o:=none) (q:=q) (h:=h) (cK:=cK) (aZ:=aZ) (y:=x.setCell ⟨W,1,none⟩ (.pointer none)) (show IZ x base q h D' none cK aZ from⟨_,_,E⟩) l.size λk J F=>f k λa=>C (a▸j k F);obtain⟨⟨p,r,i⟩,b⟩:=O;refine⟨q,h,⟨rfl,rfl⟩,⟨u,⟨_,_,i⟩,H.low,i.nE u sQ.1 sQ.2⟩,⟨l.os.trans c.os,l.tape.trans c.tape,l.output.trans c.output,aL c.size l.size,λk d g=>?_,λk d a=>?_⟩⟩
 .have n:k≠W:=by
   rcases g with g|g
   .have:=H.low;omega
   exact λa=>g (.inr a)
  exact(f k n).trans (c.block k d (g.imp id λB A=>B (.inl A)))
 rcases a with a|a
 .by_cases s:k=W
  .exact .inr s
  exact .inl (c.rC k d (j k (b k (aW d c.size) (f k s) a)))
 exact .inr a
end
variable{d g i j k m n:Nat}{w:aI}{D:aM}{S:dW}
def wK(a W q:Nat)(h:dW)(o:iP)(b d:Nat)(Q:Int->Int->List jL->aM->iP->Prop)(w:aI)(e:eT)(j:aI):Prop:=
 ∃(g n:Int)(A:Option Addr)(k c:Nat)(T:List jL)(f:aM)(i:iP),e=.returned (.agg #[.int .i64 g,.int .i64 n,.slice A k c])/\Q g n T f i/\j.ownsRow w.heap.size 133 5 (.slice A k c) T.length (fH T)/\oO w a W q h o f i b d j
def EO(Q:Int->Int->List jL->aM->cT->bA->Prop)(a n:Int)(T:List jL)(D:aM)(o:iP):Prop:=∃G I,Q a n T D G I/\((D.down=true/\o=none)\/(D.down=false/\o=some (G,I)))
def bU9{G:cT}{I:bA}(H:iW w k n m S D (some (G,I)) i j)(s:Sp)(M:s.k<9\/14<s.k)(Q:Int->Int->List jL->aM->cT->bA->Prop)
 (hQ:∀h he T D G I,Q h he T D G I->D.down=false->h≠61)
 (Y:∀y:aI,aS w.heap.size w y->Calls prog 37 #[.pointer (some ⟨n,0,none⟩),.agg s.c] y (ax2 k m S i j Q y)) :
 Calls prog 17 #[.pointer (some ⟨n,0,none⟩),.agg s.c] w (wK k n m S (some (G,I)) i j (EO Q) w):=by
  have x:=MI.start H s.c;have z:=aJ (cI w (.cells s.c 35)) (cI _ (.cells uK 63));obtain⟨kd,st,a,b,EA,En,Ec,KA,Kn,Kc,tx⟩:=s;obtain⟨e9,h2,h3,h4,h5,h6⟩:=bl3 M;dsimp only[Sp.c]at e9 h2 h3 h4 h5 h6 x z Y|-;have Hn:=sB (H.next z).1;have HW:=H.row.lt;have h7:w.cell? ⟨n,0,none⟩=some (.pointer (some ⟨S.d,0,none⟩)):=H.cells.1;have h8:w.cell? ⟨n,1,none⟩=some (.pointer (some ⟨m,0,none⟩)):=H.cells.2.1;have⟨o,R,h1⟩:=aB (Y _ z) H hQ;clear Y M H hQ;go_in;(go_wp2_with fail);refine Hn.mono ?_;rintro e w' ⟨rfl,rfl⟩;(go_wp2_with fail);clear h7 h8;generalize (w.alloc (.cells #[.int .i64 kd,.string st,.int .i64 a,.int .i64 b,.slice EA En Ec,.slice KA Kn Kc,.string tx] 35)).alloc (.cells uK 63)=w0 at z x o Hn|-;refine o.out.mono ?_;rintro e B ⟨h,he,A,hc,c,T,P,X,I9,rfl,K,hO,J⟩;have V:=cI B (.cells #[.int .i64 h,.int .i64 he,.slice A hc c] 63);have u:=x.behind J;have d:=u.next V;have ha:=d.sP.rY;have hz:w0.heap.size<=B.heap.size:=by obtain⟨h',e,t,hs,hv⟩:=J;exact hv.size
  have O:w.heap.size+1<w0.heap.size:=x.zI.lt;have N:w.heap.size<=w0.heap.size:=by omega
  obtain⟨q,r,t⟩:∃q r,bM B k S.d S.m P q r:=by
   obtain⟨h',e,t,hs,hv⟩:=J;exact t
  have U:=HY (t.next V);have⟨E,C,p,Z,B2⟩:=aD hO J K x V;have hb:n<B.heap.size:=u.sP.lt;clear hO J K x V Hn o t;cases l:P.down with
  |false=>rw[l]at U;have r0:=d.zI.rY;have r1:=d.zI.xD;have r2:=d.zI.G8;have f0:=d.zI.TI;have f1:=d.zI.J3;have f2:=d.zI.zf2;have⟨R9,O9⟩:=aA ((MI.put R.out z Z.out C.out B2.out (.int .i64 h) (.int .i64 he) (.slice A hc c)).bk6 R.out (h1.out _ _ _ _ _ _ p.out l)) (fO (JN (u0:=.int .i64 h) (u1:=.int .i64 he) (u2:=.slice A hc c) (cA E.out B2.out) O) N);(go_wp2_with fail);refine U.mono ?_;rintro e w' ⟨rfl,rfl⟩;go_wp2;refine bG (v:=.agg #[.int .i64 h,.int .i64 he,.slice A hc c]) (by simp[results,results17,go_sem,r0,r1,r2]) rfl ⟨h,he,A,hc,c,T,P,some (X,I9),rfl,⟨X,I9,p.out,.inr ⟨l,rfl⟩⟩,O9.out,R9.out⟩
  |true=>
   rw[l]at U;have L:n≠w.heap.size+1:=(by omega);(go_wp2_with fail);refine U.mono ?_;rintro e w' ⟨rfl,rfl⟩;have fW:=d.sP.J3;have cW:=d.sP.xD;have W:=cI (B.setCell ⟨n,1,none⟩ (.pointer none)) (.cells #[.int .i64 h,.int .i64 he,.slice A hc c] 63);have f:=(u.zI.of_block (aV B ⟨n,1,none⟩ (.pointer none) _ (Ne.symm L))).next W;have r0:=f.rY;have r1:=f.xD;have r2:=f.G8;have f0:=f.TI;have f1:=f.J3;have f2:=f.zf2;have R9:=aH (((rJ.shut R.out (rJ.before (R.out.it:nQ w k m S D G I i j) z C.out)).next W).grown (g:=w.heap.size+1) (gV _) (λq' h' Hz F=>by
    rcases F with F|F
    .obtain⟨q,r,t⟩:=Hz.it;exact t.nE f uN.1 uN.2 F
    exact L F.symm) (ar9 _ _ (.int .i64 h) (.int .i64 he) (.slice A hc c)))
   have O9:=aH (fO (JN (u0:=.int .i64 h) (u1:=.int .i64 he) (u2:=.slice A hc c) (cA (ownsRow_setCell_below E.out (a:=⟨n,1,none⟩) (by simp only;omega) (.pointer none)) W) O) N);clear f W;go_wp2;refine bG (v:=.agg #[.int .i64 h,.int .i64 he,.slice A hc c]) (by simp[results,results17,go_sem,r0,r1,r2]) rfl ⟨h,he,A,hc,c,T,P,none,rfl,⟨X,I9,p.out,.inl ⟨l,rfl⟩⟩,O9.out,R9.out⟩
variable{o:iP}
def iW.cl0{X:List aN}(H:iW w k n m S D none i j)(b:Row w d 63 X):¬mD w n m S none d:=by
 rintro (a|a)
 .obtain⟨c,e,f⟩:=H.it;exact f.nE b uN.1 uN.2 a
 subst a;have:=dI H.row b;revert this;decide
structure DoB(d:aI)(a W q:Nat)(h:dW)(D:aM)(o:iP)(b c:Nat)(e:List aN)(x:aI):Prop where
 cB6:oO d a W q h o D o b c x
 sP:iW x a W q h D o b c
 box:Row x d.heap.size 35 e
 zI:Row x (d.heap.size+1) 63 uK.toList
def DoB.start(H:iW w k n m S D o i j)(a:Array aN):DoB w k n m S D o i j a.toList ((w.alloc (.cells a 35)).alloc (.cells uK 63)):=by have e:=Row.new w a 35;have d:=Row.new (w.alloc (.cells a 35)) uK 63;rw[bC]at d;have c:=cI w (.cells a 35);have b:=cI (w.alloc (.cells a 35)) (.cells uK 63);exact⟨H.to (aJ c b),(H.next (aJ c b)).1,e.next b,d⟩
def bn6(H:iW w k n m S D none i j)(s:Sp)(c:s.k<9\/14<s.k):
 Calls prog 17 #[.pointer (some ⟨n,0,none⟩),.agg s.c] w (wK k n m S none i j (λt K T q x=>t=61/\K=0/\T=[]/\q=D/\x=none) w):=by
  have o:=sB (DoB.start H s.c).sP;have p:=aH (H.to (aJ (cI w (.cells s.c 35)) (cI _ (.cells #[.int .i64 61,.int .i64 0,.slice none 0 0] 63))));obtain⟨F,G,a,b,y,A,z,C,Kn,E,I⟩:=s;obtain⟨r,d,f,g,h,l⟩:=bl3 c;dsimp only[Sp.c]at r d f g h l o p|-;have B:=H.row.lt;have u:w.cell? ⟨n,1,none⟩=some (.pointer none):=H.cells.2.1;clear c H;go_in;(go_wp2_with fail);refine o.mono ?_;rintro e J ⟨rfl,rfl⟩;go_wp2;refine bG (v:=.agg #[.int .i64 61,.int .i64 0,.slice none 0 0]) (by simp[results,results17,go_sem]) rfl ⟨61,0,none,0,0,[],D,none,rfl,⟨rfl,rfl,rfl,rfl,rfl⟩,bQ _ _ _ _,p.out⟩
def bV3(H:iW w k n m S D o i j)(s:Sp)(A:s.k=10):
 Calls prog 17 #[.pointer (some ⟨n,0,none⟩),.agg s.c] w (wK k n m S o i j (λz K T l E=>z=0/\K=0/\T=[]/\l=D/\E=none) w):=by
  have d:=sB (DoB.start H s.c).sP;obtain⟨B,F,a,b,q,t,r,u,Kn,x,G⟩:=s;obtain rfl:B=10:=A;dsimp only[Sp.c]at d|-;have I:=H.row.lt;have c:w.cell? ⟨n,1,none⟩=some (sF m o):=H.cells.2.1;have C:=H.row.J3;obtain⟨p,f⟩:=kX (sF m o);rw[<-f]at c;obtain⟨g,h⟩:=H.closed;have y:=aH (oO.trans (W:=n) ⟨rfl,rfl⟩ h (g.to (aJ (cI (w.setCell ⟨n,1,none⟩ (.pointer none)) (.cells #[.int .i64 10,.string F,.int .i64 a,.int .i64 b,.slice q t r,.slice u Kn x,.string G] 35)) (cI _ (.cells #[.int .i64 0,.int .i64 0,.slice none 0 0] 63)))));clear H f g h;go_in;(go_wp2_with fail);refine d.mono ?_;rintro e J ⟨rfl,rfl⟩;go_wp2;refine bG (v:=.agg #[.int .i64 0,.int .i64 0,.slice none 0 0]) (by simp[results,results17,go_sem]) rfl ⟨0,0,none,0,0,[],D,none,rfl,⟨rfl,rfl,rfl,rfl,rfl⟩,bQ _ _ _ _,y.out⟩
def DoB.out{w:aI}{base n k:Nat}{h:dW}{o:iP}{aZ:Nat}(H:iW w base n k h D o m aZ)(a:Array aN):¬mD ((w.alloc (.cells a 35)).alloc (.cells uK 63)) n k h o (w.heap.size+1):=by
 match o,H with
 |none,H=>exact(DoB.start H a).sP.cl0 (DoB.start H a).zI
 |some (G,I),H=>
  rintro (b|b)
  .exact(MI.start H a).o2 b
  have:=H.row.lt;omega
def DoB.behind{x:aI}{D':aM}{o':iP}(H:iW w k n m S D o i j)(h:Array aN)(K:oO ((w.alloc (.cells h 35)).alloc (.cells uK 63)) k n m S o D' o' i j x):
 Row x (w.heap.size+1) 63 uK.toList/\∀q r t:aN,oO w k n m S o D' o' i j (((x.setCell ⟨w.heap.size+1,0,none⟩ q).setCell ⟨w.heap.size+1,1,none⟩ r).setCell ⟨w.heap.size+1,2,none⟩ t):=by have p:=DoB.start H h;have c:=DoB.out H h;obtain⟨y,u,e,s,v⟩:=K;have g:=p.zI.of_block (v.block _ p.zI.lt (.inr c));have B:¬mD x n y u o' (w.heap.size+1):=λl=>c (v.rC _ p.zI.lt l);refine⟨g,λq r t=>?_⟩;have a:=ar9 x (w.heap.size+1) q r t;obtain⟨C,b⟩:=s.grown a B;have d:=(H.next (aJ (cI w (.cells h 35)) (cI _ (.cells uK 63)))).2.trans v;exact⟨y,u,e,C,⟨a.os.trans d.os,a.tape.trans d.tape,a.output.trans d.output,aL d.size a.size,λE f A=>(a.block E (aW f d.size) (λz=>by cases z;omega)).trans (d.block E f A),λE f l=>d.rC E f (b E (aW f d.size) (by omega) l)⟩⟩
def cj3{q:Nat}{B:List kK}(H:iW w k n m S D o q j)(O:k<=w.heap.size)(f:D.cap=i)(G:i<=1048576)(u:D.bP<1000000000)(J:lN i j d D.files (B.map iT) g)(t:kU B)(I:B.length<=1000)(c:j<18446744073709551616)(s:Sp)(N:s.k=9):
 Calls prog 17 #[.pointer (some ⟨n,0,none⟩),.agg s.c] w (wK k n m S o q j (λr h0 T l p=>h0=0/\T=[]/\nI i j d (OZ D) B g r p l) w):=by
  have y:=DoB.start H s.c;obtain⟨A,z⟩:=aA (WI y.sP (by simp;omega) f G u J t I c) (λ(x:aI)(l:aM)(p:iP)=>DoB.behind (x:=x) (D':=l) (o':=p) H s.c);obtain⟨P,st,a,b,V,X,W,Y,Kn,Z,tx⟩:=s;obtain rfl:P=9:=N;dsimp only[Sp.c]at y A z|-;have C:=sB y.sP;clear H y O f G u J t I c;go_in;(go_wp2_with fail);refine C.mono ?_;rintro e w' ⟨rfl,rfl⟩;(go_wp2_with fail);refine A.out.mono ?_;rintro e x ⟨r,p,l,rfl,F,E⟩;obtain⟨h,K⟩:=z.out _ _ _ E;have⟨M,L⟩:=aA (K (.int .i64 r) (.int .i64 0) (.slice none 0 0)) F;have Q:=h.rY;have R:=h.xD;have U:=h.G8;have f0:=h.TI;have f1:=h.J3;have f2:=h.zf2;clear h K F E A z C;go_wp2;refine bG (v:=.agg #[.int .i64 r,.int .i64 0,.slice none 0 0]) (by simp[results,results17,go_sem,Q,R,U]) rfl ⟨r,0,none,0,0,[],l,p,rfl,⟨rfl,rfl,L.out⟩,bQ _ _ _ _,M.out⟩
end Go.Proofs.YtpopikndggffaaaGreatDoor
