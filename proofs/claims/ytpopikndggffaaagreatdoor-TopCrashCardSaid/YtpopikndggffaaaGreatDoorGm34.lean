/- TOP, part 34. -/
import Derived.Test.YtpopikndggffaaaGreatDoorGm33
namespace Go.Proofs.YtpopikndggffaaaGreatDoor
set_option linter.all false
set_option maxRecDepth 100000
set_option maxHeartbeats 16000000
open Go.RowKit Go.Maps Tryz
variable{i j k m n:Nat}{s:Sp}{w:aI}{D:aM}{v:aN}{S:dW}{o:iP}
def iW.cj4{x:aI}{E:aM}(H:iW w k n m S D o i j)(c:E.bP=D.bP)(e:∃a b,bM x k S.d S.m E a b)(d:gS k S.m w x):oO w k n m S o E o i j x:=by
 match o,H with
 |none,H=>obtain⟨p,v⟩:=H.bn7 e d;exact⟨m,S,⟨rfl,rfl⟩,p,v⟩
 |some (G,I),H=>have l:nQ w k m S D G I i j:=H.it;obtain⟨s,v⟩:=l.sys.oC c e d;obtain⟨f,g⟩:=l.KJ ⟨rfl,rfl⟩ s v;obtain⟨p,h⟩:=H.BA (q':=m) (h':=S) (o':=some (G,I)) rfl rfl f g;exact⟨m,S,⟨rfl,rfl⟩,p,h⟩
def DkS(W d B:Nat)(s:Sp)(z:aI):Prop:=z.cell? ⟨W,0,none⟩=some (.pointer (some ⟨d,0,none⟩))/\z.cell? ⟨B,1,none⟩=some (.string s.n)/\z.cell? ⟨B,2,none⟩=some (.int .i64 s.a)/\z.cell? ⟨B,5,none⟩=some (.slice s.K s.i s.j)/\z.cell? ⟨B,6,none⟩=some (.string s.t)
def DkS.of{u z:aN}(h:Row w n i [.pointer (some ⟨k,0,none⟩),v,u,z])(a:Row w m 35 s.c.toList):DkS n k m s w:=⟨h.rY,a.xD,a.G8,a.zc5,a.zc6⟩
def DkS.set{n g:Nat}(h:DkS n k m s w)(d:n≠g)(e:m≠g)(j:Nat)(u:aN):DkS n k m s (w.setCell ⟨g,j,none⟩ u):=by have c:=aV w ⟨g,j,none⟩ u n d;have b:=aV w ⟨g,j,none⟩ u m e;exact⟨(dH (a:=⟨n,0,none⟩) c).trans h.1,(dH (a:=⟨m,1,none⟩) b).trans h.2.1,(dH (a:=⟨m,2,none⟩) b).trans h.2.2.1,(dH (a:=⟨m,5,none⟩) b).trans h.2.2.2.1,(dH (a:=⟨m,6,none⟩) b).trans h.2.2.2.2⟩
def DkN(base:Nat)(h:dW)(s:Sp)(r:Int×aM)(y:aI):Prop:=
 match s.k with
 |11=>Calls prog 33 #[.pointer (some ⟨h.d,0,none⟩),.slice s.K s.i s.j] y (rI base h.d h.m r y)
 |12=>Calls prog 34 #[.pointer (some ⟨h.d,0,none⟩),.int .i64 s.a,.slice s.K s.i s.j] y (rI base h.d h.m r y)
 |13=>Calls prog 35 #[.pointer (some ⟨h.d,0,none⟩),.string s.n,.int .i64 s.a,.string s.t] y (rI base h.d h.m r y)
 |14=>Calls prog 36 #[.pointer (some ⟨h.d,0,none⟩),.string s.n,.int .i64 s.a] y (rI base h.d h.m r y)
 |_=>False
def cj2(H:iW w k n m S D o i j)(hb:k<=w.heap.size)(s:Sp)(hk:11<=s.k/\s.k<=14)(r:Int×aM)(V:r.2.bP=D.bP)
 (HC:∀y:aI,aS k w y->(∃q t,bM y k S.d S.m D q t)->DkN k S s r y) :
 Calls prog 17 #[.pointer (some ⟨n,0,none⟩),.agg s.c] w (wK k n m S o i j (λer h6 T D' o'=>er=r.1/\h6=0/\T=[]/\D'=r.2/\o'=if s.k=11 then none else o) w):=by
  obtain⟨r1,Z⟩:=r;obtain⟨B,F,X,R,v1,W,f⟩:∃(B:aI)(F:iP),((s.k=11/\B=w.setCell ⟨n,1,none⟩ (.pointer none)/\F=none)\/(s.k≠11/\w=B/\o=F))/\iW B k n m S D F i j/\(∀x,oO B k n m S F Z F i j x->oO w k n m S o Z F i j x)/\B.heap.size=w.heap.size/\aS k w B:=by
   by_cases J:s.k=11
   .obtain⟨R,v1⟩:=H.closed;exact⟨_,none,.inl ⟨J,rfl,rfl⟩,R,λx K=>oO.trans (W:=n) ⟨rfl,rfl⟩ v1 K,by simp,(aY k w).setCell H.low _⟩
   exact⟨w,o,.inr ⟨J,rfl,rfl⟩,H,λ_ K=>K,rfl,aY _ _⟩
  have u:=λ(x:aI)=>DoB.behind (x:=x) (D':=Z) (o':=F) R s.c;have h:=DoB.start R s.c;have C:=aJ (cI B (.cells s.c 35)) (cI _ (.cells uK 63));have h3:=H.row.lt;obtain⟨G,A⟩:=kX ((B.alloc (.cells s.c 35)).alloc (.cells uK 63));rw[<-A]at u h C;have d:=h.box;rw[W]at u d;have HS:=aH (λ(y:aI)(c:aS G.heap.size G y)=>DkS.of (h.sP.next c).1.row (d.next c));have I:=aH (λ(y x:aI)(c:aS G.heap.size G y)(E:gS k S.m y x)=>(by
   obtain⟨q,t,hd⟩:=(h.sP.next c).1.it.eD;exact DkS.of (E.row (h.sP.next c).1.row sQ.1 (hd.pX (h.sP.next c).1.row)) (E.row (d.next c) G9.1 (hd.pX (d.next c))):DkS n S.d w.heap.size s x))
  have O:=aH (λ(y:aI)(c:aS G.heap.size G y)=>HC y ⟨c.os.trans (C.os.trans f.os),c.tape.trans (C.tape.trans f.tape),c.output.trans (C.output.trans f.output),aL f.size (aL C.size c.size),λh5 hk=>(c.block h5 (by have:=C.size;omega)).trans ((C.block h5 (by omega)).trans (f.block h5 hk))⟩ (h.sP.next c).1.it.eD);have N:=aH (λ(y x:aI)(c:aS G.heap.size G y)(hv:∃q t,bM x k S.d S.m Z q t)(E:gS k S.m y x)=>u x (by
   obtain⟨q',h',e,s,v⟩:=(h.sP.next c).1.cj4 V hv E;exact⟨q',h',e,s,(h.sP.next c).2.trans v⟩))
  obtain⟨l,HV⟩:=aA (λ(x:aI)(hx:DkS n S.d w.heap.size s x)=>hx.set (g:=w.heap.size+1) (by omega) (by omega)) v1;have Hn:=sB h.sP;have Q:=sB (DoB.start H s.c).sP;have Y:w.cell? ⟨n,1,none⟩=some (sF m o):=H.cells.2.1;have h4:=H.row.J3;obtain⟨p,U⟩:=kX (sF m o);rw[<-U]at Y;obtain⟨kd,st,a,b,EA,En,Ec,KA,Kn,Kc,tx⟩:=s;unfold DkS at HS I l;dsimp only[Sp.c]at *;have⟨h2,P⟩:=aA X A;clear H h HC V u R v1 d hb U f C W;rcases(show kd=11\/kd=12\/kd=13\/kd=14 by omega)with rfl|rfl|rfl|rfl
  all_goals
   obtain⟨J,rfl,rfl⟩|⟨J,rfl,rfl⟩:=X
   all_goals
    first|exact absurd J (by decide)|exact absurd rfl J|clear J
  all_goals
   rw[A]at Hn;clear hk A h2;go_in;(go_wp2_with fail);(first|refine Hn.mono ?_|refine Q.mono ?_);rintro e w' ⟨rfl,rfl⟩;(go_wp2_with fail);rw[<-P.out];clear P Y h4 Hn Q h3;go_region_held3 (λz=>z.cell? ⟨n,0,none⟩=some (.pointer (some ⟨S.d,0,none⟩))/\z.cell? ⟨w.heap.size,1,none⟩=some (.string st)/\z.cell? ⟨w.heap.size,2,none⟩=some (.int .i64 a)/\z.cell? ⟨w.heap.size,5,none⟩=some (.slice KA Kn Kc)/\z.cell? ⟨w.heap.size,6,none⟩=some (.string tx))
    (first|(exact l.out _ (l.out _ (l.out _ M 0 _) 1 _) 2 _)|(exact M)|(exact HS.out _ (aY _ _).drew)|fail)
    (first|((first|go_at_call 33|go_at_call 34|go_at_call 35|go_at_call 36);refine(O.out _ (aY _ _).drew).mono ?_;rintro e x1 ⟨rfl,hv,E⟩;have M:=I.out _ _ (aY _ _).drew E;obtain⟨L,U⟩:=N.out _ _ (aY _ _).drew hv E;have r0:=L.rY;have q1:=L.xD;have q2:=L.G8;have f0:=L.TI;have f1:=L.J3;have f2:=L.zf2))
   have R9:=aH (HV.out _ (U (.int .i64 r1) (.int .i64 0) (.slice none 0 0)));clear L U hv E M HS I O N l HV;go_wp2;refine bG (v:=.agg #[.int .i64 r1,.int .i64 0,.slice none 0 0]) (by simp[results,results17,go_sem,r0,q1,q2]) rfl ⟨r1,0,none,0,0,[],Z,_,rfl,⟨rfl,rfl,rfl,rfl,by simp⟩,bQ _ _ _ _,R9.out⟩
variable{e:Int}{l:List Ev}{T:List jL}{B:List kK}
structure iI(b a s:Nat)(D:aM)(o:iP)(c:List kK)(S:Nat):Prop where
 aN1:b<=1048576
 tM:a<18446744073709551616
 tW:D.cap=b
 bP:D.bP<=s
 mO:kU c
 yV:c.length<=s
 le:S<=c.length
 ok:match o with
  |none=>lN b a s D.files (c.map iT) S
  |some (G,I)=>jQ b a s D G I (c.map iT) S
section
variable {cap aZ s S:Nat}{D:aM}{G:cT}{I:bA}{o:iP}{Bs:List kK}
def iI.wM(P:iI cap aZ s D (some (G,I)) Bs S):jQ cap aZ s D G I (Bs.map iT) S:=P.ok
def iI.stP(P:iI cap aZ s D (some (G,I)) Bs S)(a:s<90):∃C,IA D G I aZ C Bs:=P.wM.stP P.mO (by have:=P.yV;omega) P.tM
def iI.up(P:iI cap aZ s D (some (G,I)) Bs S):D.down=false:=P.wM.up
end
def bG0(D:aM)(G:cT)(I:bA)(c:Nat)(b:List kK)(a:aT)(x:Int)(l:List Ev)(g n:Int)(T:List jL)(d:aM)(e:cT)(f:bA):Prop:=
 T=[]/\((nB (b.flatMap dJ) a x l≠0/\g=nB (b.flatMap dJ) a x l/\n=0/\d=D/\e=G/\f=I)\/
  (nB (b.flatMap dJ) a x l=0/\(gU G D (iT (a,(mK b a:Int),l))).1≠0/\g=(gU G D (iT (a,(mK b a:Int),l))).1/\n=0/\d=(gU G D (iT (a,(mK b a:Int),l))).2.2.2/\e=(gU G D (iT (a,(mK b a:Int),l))).2.2.1/\f=I)\/
  (nB (b.flatMap dJ) a x l=0/\(gU G D (iT (a,(mK b a:Int),l))).1=0/\g=0/\n=(mK b a:Nat)/\d=(gU G D (iT (a,(mK b a:Int),l))).2.2.2/\e=(gU G D (iT (a,(mK b a:Int),l))).2.2.1/\f={I with mem:=(tV c ((gU G D (iT (a,(mK b a:Int),l))).2.1,iT (a,(mK b a:Int),l))).foldl oV I.mem}))
def bo6(D:aM)(G:cT)(I:bA)(a g:Int)(e:List jL)(f n:Int)(T:List jL)(b:aM)(c:cT)(d:bA):Prop:=f=a/\n=g/\T=e/\b=D/\c=G/\d=I
def cs9(D:aM)(G:cT)(I:bA)(d n:Int)(T:List jL)(a:aM)(b:cT)(c:bA):Prop:=d=(fY G D).1/\n=0/\T=[]/\a=(fY G D).2.2/\b=(fY G D).2.1/\c=I
def bF9(D:aM)(G:cT)(I:bA)(d n:Int)(T:List jL)(a:aM)(b:cT)(c:bA):Prop:=n=0/\T=[]/\∃f:bK,f.length<=128+4*I.mem.length/\d=(jI I G D f).1/\a=(jI I G D f).2.2.2/\b=(jI I G D f).2.2.1/\c=(jI I G D f).2.1
def bY5(D:aM)(G:cT)(I:bA)(k:Int)(d n:Int)(T:List jL)(a:aM)(b:cT)(c:bA):Prop:=n=0/\T=[]/\∃f:bK,f.length<=128+4*(jV ((I.cV.fC.getD k.toNat []).map fun n=>(I.fA n).getD [])).length/\d=(l6 I D k f).1/\a=(l6 I D k f).2.2/\b=G/\c=(l6 I D k f).2.1
def BN(h:∀b∈B,tS b):(B.flatMap dJ).length<=8*B:=by
 induction B with
 |nil=>simp
 |cons b B c=>have d:=c λx a=>h x (by simp[a]);have e:=(h b (by simp)).range;have f:(dJ b).length=b.2.2:=yB _ _ _;rw[eC,aP,cF];omega
def aH3(h:∀b∈B,tS b)(a:aT):mK B a<=8*B:=aL (yI _ _) (BN h)
def bO4(a:WE w v l)(f:l.length<=1000){s:aT}(d:s<=maxLen){e:Int}(b:-9223372036854775808<=e/\e<=9223372036854775807):okB (s,e,l):=by obtain⟨A,c,rfl,-⟩:=id a.1;exact(show LH w (.agg #[s,e,.slice A l c]) (s,e,l)from⟨A,c,rfl,a,d,b.1,b.2⟩).okB
def am5{s:aT}(h:nB T s e l=0):eF (s,((dF T s):Int),l)=0:=by
 unfold nB at h;split at h
 .rename_i a;exact absurd h a
 split at h
 .cases h
 split at h
 .cases h
 exact h
def au7(e:Ev):jP e≠60/\jP e≠61:=by
 unfold jP;split
 .exact⟨by decide,by decide⟩
 split
 .exact⟨by decide,by decide⟩
 exact⟨by decide,by decide⟩
def KX.bI1{B:List bK}{G:cT}{I:bA}{L:List cZ}{s:bK}{r:Int×bA×cT×aM}(h:KX n m k D B i G I L s r)(b:r.2.2.2.down=false):r.1≠61:=by
 obtain⟨-,-,c⟩:=h;rcases c with⟨a,-⟩|⟨a,-⟩|⟨-,a,-⟩
 .rw[a];decide
 .rw[a];decide
 rw[a]at b;cases b
def aX2{b:kK}(h:tS b):(iT b).length<=2000:=(qK (Bs:=[b]) (λx a=>by rw[bT.1 a];exact h) _ (by simp)).2
def ZJ:∀l:List Ev,AR l≠60/\AR l≠61
 |[]=>⟨by decide,by decide⟩
 |e::l=>by
  unfold AR;split
  .exact ZJ l
  exact au7 e
def QS(b:kK):eF b≠60/\eF b≠61:=by
 unfold eF;split
 .exact⟨by decide,by decide⟩
 split
 .exact⟨by decide,by decide⟩
 split
 .exact⟨by decide,by decide⟩
 exact ZJ _
def ZM(T:List jL)(a:aT)(x:Int)(l:List Ev):nB T a x l≠60/\nB T a x l≠61:=by
 unfold nB;split
 .exact QS _
 split
 .exact⟨by decide,by decide⟩
 split
 .exact⟨by decide,by decide⟩
 exact QS _
section
variable {w:aI}{base W q:Nat}{h:dW}{D:aM}{G:cT}{I:bA}{cK aZ cap s S:Nat}{Bs:List kK}
def iW.co8(H:iW w base W q h D (some (G,I)) cK aZ){x y:aI}(a:aS w w x)(b:aS x x y):nQ y base q h D G I cK aZ:=(H.next (aJ a b)).1.it
def ck8(P:iI cap aZ s D (some (G,I)) Bs S){st:aT}{x:Int}{l:List Ev}(hf:nB (Bs.flatMap dJ) st x l=0->tS (st,(mK Bs st:Int),l)){er n:Int}{T:List jL}{D':aM}{G':cT}{I':bA}(hq:bG0 D G I aZ Bs st x l er n T D' G' I')(hu:D'.down=false):er≠61:=by
 obtain⟨-,hq⟩:=hq;rcases hq with⟨h0,rfl,-⟩|⟨h0,h1,rfl,-,rfl,-⟩|⟨h0,h1,rfl,-⟩
 .exact(ZM _ _ _ _).2
 .have hl:=aX2 (hf h0);rcases(QZ P.wM hl).it with⟨h9,-⟩|⟨h9,-⟩|⟨h9,-,h8,-⟩
  .rw[h9];exact(by decide:(60:Int)≠61)
  .exact absurd h9 h1
  rw[h8]at hu;cases hu
 decide
def YY(H:iW w base W q h D (some (G,I)) cK aZ)(e:base<=w)(p:Sp)(k:1<=p.k/\p.k<=8)(Q:Int->Int->List jL->aM->cT->bA->Prop)(j:∀d n T c f i,Q d n T c f i->c.down=false->d≠61)(g:∀z,aS w w z->nQ z base q h D G I cK aZ->base<=z->bG7 base q h cK aZ p Q z):
 Calls prog 17 #[zp W,.agg p.c] w (wK base W q h (some (G,I)) cK aZ (EO Q) w):=
 bU9 H p (.inl (by omega)) _ j λy a=>ck6 (H.next a).1 (aL e a.size) p k _ λz b=>g z (aJ a b) (H.co8 a b) (aL e (aJ a b).size)
def bD1(H:iW w base W q h D (some (G,I)) cK aZ)(P:iI cap aZ s D (some (G,I)) Bs S)(U:s<90)(K:base<=w)(p:Sp)(O:p.k=1)(i:p.n.size<=1000000)(J:DQ p.a)(l:List Ev)(m:∀y z,aS w w y->gS base h.m y z->WE z (.slice p.E p.e p.f) l)(o:l.length<=1000):
 Calls prog 17 #[zp W,.agg p.c] w (wK base W q h (some (G,I)) cK aZ (EO (bG0 D G I aZ Bs p.n p.a l)) w):=by
  have hE:=m w w mE (gS.refl _ _ _);have Q:=aH3 P.mO.tT p.n;have N:=P.yV;have M:nB (Bs.flatMap dJ) p.n p.a l=0->tS (p.n,(mK Bs p.n:Int),l):=λE=>⟨bO4 hE o (by unfold maxLen;omega) (by omega),am5 E⟩;refine YY H K p (by omega) _ (λer n T Y Z I' R V=>ck8 P M R V) λz j a g=>?_;have⟨r,t,L⟩:=a.sys.eD;have⟨C,F⟩:=P.stP U;unfold bG7;rw[O];go_call ao1 a L F P.wM g p.n i p.a J _ l (λX k=>m z X j k) o as e x ⟨u,v⟩;by_cases b:nB (Bs.flatMap dJ) p.n p.a l=0
  .have⟨A,B⟩:=v b;by_cases f:(gU G D (iT (p.n,(mK Bs p.n:Int),l))).1=0
   .have⟨c,d⟩:=B f;exact⟨0,(mK Bs p.n:Nat),_,_,_,c,⟨rfl,.inr (.inr ⟨b,f,rfl,rfl,rfl,rfl,rfl⟩)⟩,rJ.left a d⟩
   have⟨c,d⟩:=A f;exact⟨_,0,_,_,_,c,⟨rfl,.inr (.inl ⟨b,f,rfl,rfl,rfl,rfl,rfl⟩)⟩,rJ.left a d⟩
  have⟨c,d⟩:=u b;exact⟨_,0,D,G,I,c,⟨rfl,.inl ⟨b,rfl,rfl,rfl,rfl,rfl⟩⟩,rJ.kept a d⟩
def bM0{f:Int}(b:e≠61){a t:Int}{S:List jL}{E:aM}{M:cT}{J:bA}(c:bo6 D G I e f T a t S E M J):a≠61:=by rw[c.1];exact b
def rdA(Bs:List kK)(p:Sp):Int×Int×List jL:=
 match p.k with
 |2=>(pgE p.n p.a p.b,0,pgT Bs p.n p.a p.b false)
 |3=>(pgE p.n p.a p.b,0,pgT Bs p.n p.a p.b true)
 |4=>(if iK p.n then 0 else 2,if iK p.n then(mK Bs p.n:Int)-1 else -1,[])
 |_=>(0,0,Bs.flatMap dJ)
def cj1(H:iW w base W q h D (some (G,I)) cK aZ)(P:iI cap aZ s D (some (G,I)) Bs S)(F:s<90)(B:base<=w)(p:Sp)(i:2<=p.k/\p.k<=5)(f:p.n.size<=1000000)(r:DQ p.a)(g:DQ p.b):
 Calls prog 17 #[zp W,.agg p.c] w (wK base W q h (some (G,I)) cK aZ (EO (bo6 D G I (rdA Bs p).1 (rdA Bs p).2.1 (rdA Bs p).2.2)) w):=by
  refine YY H B p (by omega) _ (λV n T K O Q E X=>bM0 (by unfold rdA pgE;split<;>dsimp only<;>(try split)<;>decide) E) λz J d c=>?_;have⟨v,A,k⟩:=d.sys.eD;have⟨C,j⟩:=P.stP F;have⟨l,o,a,b,L,N,M,R,Kn,U,Y⟩:=p;have m:l=2\/l=3\/l=5\/l=4:=(by dsimp only at i;omega);rcases m with rfl|rfl|rfl|rfl
  iterate 3
   ·(first|refine(ab3 d k j c o f a b r g).mono ?_|refine(WU d k j c o f a b r g).mono ?_|refine(af8 d k j c).mono ?_);rintro e x ⟨Z,rfl,t,i⟩;obtain⟨u,y,rfl,-⟩:=Reads.dC t;exact⟨_,u,_,y,_,D,G,I,rfl,⟨rfl,rfl,rfl,rfl,rfl,rfl⟩,t,rJ.kept d i⟩
  refine(WT d k j c o f).mono ?_;rintro e x ⟨rfl,i⟩;exact⟨_,_,D,G,I,rfl,⟨rfl,rfl,rfl,rfl,rfl,rfl⟩,rJ.kept d i⟩
def ci7(P:iI cap aZ s D (some (G,I)) Bs S){a e:Int}{T:List jL}{E:aM}{M:cT}{J:bA}(f:cs9 D G I a e T E M J)(c:E.down=false):a≠61:=by
 obtain⟨rfl,-,-,rfl,-⟩:=f;rcases(LI P.wM).2.2 with⟨b,-⟩|⟨b,d,-⟩
 .rw[b];decide
 rw[d]at c;cases c
def ci1(P:iI cap aZ s D (some (G,I)) Bs S)(h:s<90){a e:Int}{T:List jL}{E:aM}{M:cT}{J:bA}(g:bF9 D G I a e T E M J)(b:E.down=false):a≠61:=by
 obtain⟨-,-,f,-,rfl,rfl,-⟩:=g;rcases M5 P.wM (qK P.mO.tT) h P.tM f with c|⟨c,d,-⟩
 .exact KX.bI1 c b
 rw[d]at b;cases b
def cf2(P:iI cap aZ s D (some (G,I)) Bs S)(d:s<90){a:Int}{f e:Int}{T:List jL}{E:aM}{M:cT}{J:bA}(c:bY5 D G I a f e T E M J)(g:E.down=false):f≠61:=by
 obtain⟨-,-,h,-,rfl,rfl,-⟩:=c;rcases SK P.wM (qK P.mO.tT) d P.tM a h with⟨b,-⟩|⟨b,-⟩|⟨-,-,b⟩
 .rw[b];exact(by decide:(2:Int)≠61)
 .rw[b];exact(by decide:(4:Int)≠61)
 exact KX.bI1 b g
def bV2(H:iW w base W q h D (some (G,I)) cK aZ)(P:iI cap aZ s D (some (G,I)) Bs S)(d:base<=w)(p:Sp)(b:p.k=6):
 Calls prog 17 #[zp W,.agg p.c] w (wK base W q h (some (G,I)) cK aZ (EO (cs9 D G I)) w):=by
  refine YY H d p (by omega) _ (λm n T j k l f g=>ci7 P f g) λz i c a=>?_;unfold bG7;rw[b];go_call az4 c a P.up (LI P.wM).2.1 as e x ⟨rfl,b⟩;exact⟨_,_,_,_,rfl,⟨rfl,rfl,rfl,rfl,rfl,rfl⟩,rJ.left c b⟩
def bV1(H:iW w base W q h D (some (G,I)) cK aZ)(P:iI cap aZ s D (some (G,I)) Bs S)(d:s<90)(g:base<=w)(p:Sp)(b:p.k=7):
 Calls prog 17 #[zp W,.agg p.c] w (wK base W q h (some (G,I)) cK aZ (EO (bF9 D G I)) w):=by
  refine YY H g p (by omega) _ (λu n T o r t k l=>ci1 P d k l) λz m c a=>?_;have j:=P.yV;unfold bG7;rw[b];go_call az3 c a P.up (P.wM.as6 P.mO (by omega) d P.tM) as e x ⟨f,i,rfl,b⟩;exact⟨_,_,_,_,rfl,⟨rfl,rfl,f,i,rfl,rfl,rfl,rfl⟩,rJ.left c b⟩
def bV0(H:iW w base W q h D (some (G,I)) cK aZ)(P:iI cap aZ s D (some (G,I)) Bs S)(d:s<90)(i:base<=w)(p:Sp)(b:p.k=8)(g:DQ p.a):
 Calls prog 17 #[zp W,.agg p.c] w (wK base W q h (some (G,I)) cK aZ (EO (bY5 D G I p.a)) w):=by
  refine YY H i p (by omega) _ (λv n T r t u l m=>cf2 P d l m) λz o c a=>?_;have k:=P.yV;unfold bG7;rw[b];go_call az2 c a P.up p.a g (P.wM.bl8 P.mO (by omega) d P.tM p.a) as e x ⟨f,j,rfl,b⟩;exact⟨_,_,_,_,rfl,⟨rfl,rfl,f,j,rfl,rfl,rfl,rfl⟩,rJ.left c b⟩
end
end Go.Proofs.YtpopikndggffaaaGreatDoor
