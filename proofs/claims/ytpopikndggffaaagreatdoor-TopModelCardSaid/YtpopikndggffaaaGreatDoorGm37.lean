/- TOP, part 37. -/
import Derived.Laws.CopyOwn
import Derived.Test.YtpopikndggffaaaGreatDoorGm36
namespace Go.Proofs.YtpopikndggffaaaGreatDoor
set_option linter.all false
set_option maxRecDepth 100000
set_option maxHeartbeats 16000000
open Go.RowKit Go.Maps Tryz
variable{i j k m n:Nat}{w x y:aI}
def aV1(p:Sp)(A:Option Addr)(c:Nat):
 Calls prog (jf p.k) #[.pointer (some ⟨n,0,none⟩),.agg p.c,.agg #[.int .i64 61,.int .i64 0,.slice A 0 c],.bool false] w (λe z=>e=.returned (.bool true)/\aS w.heap.size w z):=by
  have d:=aH (aJ (cI w (.cells p.c 35)) (cI _ (.cells #[.int .i64 61,.int .i64 0,.slice A 0 c] 63)));obtain⟨k,l,a,b,f,h,g,i,Kn,j,m⟩:=p;dsimp only[Sp.c]at *;unfold jf;split
  .subst_vars
   go_in;go_wp2;go_ret;exact⟨rfl,d.out⟩
  split
  .go_in;go_wp2;go_ret;exact⟨rfl,d.out⟩
  go_in;go_wp2;go_ret;exact⟨rfl,d.out⟩
variable{F:Gh}{o:iP}
def bY3(a:Nat)(F:Gh)(r:Nat)(e b f s:Nat)(w:aI)(z:aI):Prop:=
 aS a w z/\∃g i c h d,VM z a F r g i e b c h d/\(d=false->iI f b (s+1) g i c h)
def cw0(a:Nat)(F:Gh)(r d b g s:Nat)(i:aM->iP->List kK->Nat->Prop)(w z:aI):Prop:=
 aS a w z/\∃e h c f,VM z a F r e h d b c f false/\iI g b (s+1) e h c f/\i e h c f
def sM(a:Nat)(F:Gh)(r b c d s:Nat)(f:aM->iP->List kK->Nat->Prop)(w:aI)(e:eT)(z:aI):Prop:=e=.returned (.bool true)/\cw0 a F r b c d s f w z
def sM.t{n k m s:Nat}{p:aM->iP->List kK->Nat->Prop}{w z:aI}{e:eT}(h:sM n F k m i j s p w e z):e=.returned (.bool true)/\bY3 n F k m i j s w z:=by obtain⟨d,f,b,o,a,c,g,l,-⟩:=h;exact⟨d,f,b,o,a,c,false,g,λ_=>l⟩
def zB(a:aS n x w)(b:aS n w y):aS n x y:=⟨b.os.trans a.os,b.tape.trans a.tape,b.output.trans a.output,aL a.size b.size,λk c=>(b.block k c).trans (a.block k c)⟩
def QW(h:aS x.heap.size x w)(a:n<=x.heap.size):aS n x w:=⟨h.os,h.tape,h.output,h.size,λk b=>h.block k (aW b a)⟩
section
variable {w:aI}{base r W q g:Nat}{F:Gh}{h:dW}{D:aM}{G:cT}{I:bA}{cK aZ cap s:Nat}{vL vM:aN}{Bs:List kK}{S:Nat}
def lC.cr1(H:lC w base F r W q g h D (some (G,I)) cK aZ vL vM Bs S false)(f:gS base h.m w x):∀k a,F k=some a->x.heap[k]?=some a:=λk a d=>by
 obtain⟨e,-,c⟩:=H.gh k a d;exact(f.block k (H.QE d) (.inr ⟨λb=>c (.inl (.inl (.inl (.inl (.inl b))))),λb=>c (.inl (.inl (.inl (.inl (.inr (.inl b))))))⟩)).trans e
def CP(H:lC w base F r W q g h D (some (G,I)) cK aZ vL vM Bs S false)(P:iI cap aZ s D (some (G,I)) Bs S)(hs:s<90)(o:base<=w.heap.size)(p:Sp)(c:p.k=1)(t:p.n.size<=1000000)(V:DQ p.a)(l:List Ev)(L:∀Q,aS base w Q->(∀k d,F k=some d->Q.heap[k]?=some d)->WE Q (.slice p.E p.e p.f) l)(M:l.length<=1000):
 Calls prog 11 #[.pointer (some ⟨r,0,none⟩),.agg p.c] w (sM base F r cK aZ cap s (λv O C S'=>S'=S/\∃U n T,EO (bG0 D G I aZ Bs p.n p.a l) U n T v O/\C=EH Bs p.n p.a l U) w):=by
  have h0:=P.yV;have h6:=aH3 P.mO.tT p.n;have hE:=L w (aY _ _) (λk d c=>(H.gh k d c).1);have hf:nB (Bs.flatMap dJ) p.n p.a l=0->tS (p.n,(mK Bs p.n:Int),l):=λh9=>⟨bO4 hE M (by unfold maxLen;omega) (by omega),am5 h9⟩;refine sR H o p (by omega) (EO (bG0 D G I aZ Bs p.n p.a l)) _ (λy B=>bD1 (H.next B).sP P hs (aL o B.size) p c t V l (λy' z u Z=>L z (gS.below (QW (aJ B u) o) Z o) (((H.next (aJ B u))).cr1 Z)) M) λx a hj=>?_;obtain⟨T,v,O,q',h',Y,R,b,X⟩:=hj;have i:=P.append hf Y;have m:bZ7 (Bs.flatMap dJ) p.n p.a l a.r a.n v.down:=i.imp (λh=>⟨h.1,h.2.1,h.2.2.1,h.2.2.2.1⟩) λi=>i.imp (λh=>⟨h.1,h.2.1,h.2.2.1,h.2.2.2.1⟩) λi=>i.imp (λh=>⟨h.1,h.2.1,h.2.2.1,h.2.2.2.1⟩) λh=>⟨h.1,h.2.1,h.2.2.1,h.2.2.2.1⟩;have hr:=aA2 R (aL o b.size) P.mO.tT (by omega) p c t V l (L x b (λk d c=>(R.gh k d c).1)) M a m;unfold jf;rw[aU c];refine hr.mono ?_;rintro e z ⟨rfl,K,N⟩;refine⟨rfl,zB b K,v,O,_,S,N,?_,rfl,a.r,a.n,T,Y,rfl⟩;rcases i with⟨j,A,E,J,f⟩|⟨j,A,E,J,f⟩|⟨j,A,E,J,f⟩|⟨j,A,E,J,f⟩
  .rw[DI (.inl j)];exact f
  .rw[DI (.inr A)];exact f
  iterate 2
   .rw[ON j (by omega)];exact f
def br8 {x z:aI} {er0 n0 er n:Int} {T0 T:List jL} {D':aM} {o':iP} {e:eT} (P:iI cap aZ s D (some (G,I)) Bs S) (hq:EO (bo6 D G I er0 n0 T0) er n T D' o') (hbx:aS base w x) (hr:rS base F r D' o' cK aZ Bs S x e z):sM base F r cK aZ cap s (fun D' o' Bs' S'=>D'=D∧o'=some (G,I)∧Bs'=Bs∧S'=S) w e z:=by
 obtain⟨rfl,hbz,hrs⟩:=hr;obtain⟨-,-,-,h1,h2,hP⟩:=P.read hq;exact⟨rfl,zB hbx hbz,D',o',Bs,S,hrs,hP,h1,h2,rfl,rfl⟩
def GF(H:lC w base F r W q g h D (some (G,I)) cK aZ vL vM Bs S false)(P:iI cap aZ s D (some (G,I)) Bs S)(N:s<90)(l:base<=w.heap.size)(p:Sp)(m:2<=p.k/\p.k<=5)(i:p.n.size<=1000000)(v:DQ p.a)(d:DQ p.b):
 Calls prog 11 #[.pointer (some ⟨r,0,none⟩),.agg p.c] w (sM base F r cK aZ cap s (λo C j E=>o=D/\C=some (G,I)/\j=Bs/\E=S) w):=by
  refine sR H l p (by omega) _ _ (λy B=>cj1 (H.next B).sP P N (aL l B.size) p m i v d) λx a L=>?_;obtain⟨T,o,C,X,V,A,R,f,c⟩:=L;obtain⟨J,K,u,-,-,-⟩:=P.read A;have b:vA x (.slice a.A a.k a.c) (rdA Bs p).2.2:=by
   rw[<-u];obtain⟨Q,U,O,-⟩:=id (Reads.dC c);have n:=(eV O).2.1;refine⟨by have k:=Reads.dC c;rwa [<-n]at k ⊢,λt b=>?_⟩;rw[u]at b;unfold rdA at b;split at b
   .exact bN5 P.mO _ _ _ _ t b
   .exact bN5 P.mO _ _ _ _ t b
   .cases b
   exact PC P.mO t b
  have M:=bs6 R (aL l f.size) P.mO (by have:=P.yV;omega) p m i v d a (Prod.ext J K) b;unfold jf;rw[aQ (by omega),aU m.2];exact M.mono λe z k=>br8 P A f k
end
variable{a:An}{D:aM}
section
variable {w:aI}{base r W q g:Nat}{F:Gh}{h:dW}{D:aM}{G:cT}{I:bA}{o:iP}{cK aZ cap s:Nat}{vL vM:aN}{Bs:List kK}{S:Nat}
def FA {x:aI} {a:An} {D':aM} {o':iP} {q':Nat} {h':dW} {p:Sp} {Φ:aM→iP→List kK→Nat→Prop} (R:lC x base F r W q' g h' D' o' cK aZ vL vM Bs S false) (hb:base≤w.heap.size) (hbx:aS base w x) (hk:6≤p.k) (hans:OV p.k p.a a.r D'.down) (hP:iI cap aZ (s+1) D' o' Bs (sD Bs S p.k a.r)) (hΦ:Φ D' o' Bs (sD Bs S p.k a.r)) :
 Calls prog (jf p.k) #[.pointer (some ⟨r,0,none⟩),.agg p.c,.agg a.v,.bool true] x (sM base F r cK aZ cap s Φ w):=by
 have hr:=aA1 R (aL hb hbx.size) p a hans;unfold jf;rw[aQ (by omega),aQ (by omega)];refine hr.mono ?_;rintro e z ⟨rfl,hbz,hrs⟩;exact⟨rfl,zB hbx hbz,D',o',Bs,_,hrs,hP,hΦ⟩
def aU4(H:lC w base F r W q g h D (some (G,I)) cK aZ vL vM Bs S false)(P:iI cap aZ s D (some (G,I)) Bs S)(t:s<90)(c:base<=w.heap.size)(p:Sp)(e:p.k=6):
 Calls prog 11 #[.pointer (some ⟨r,0,none⟩),.agg p.c] w (sM base F r cK aZ cap s (λ_ _ _ _=>True) w):=by
  refine sR H c p (by omega) _ _ (λy i=>bV2 (H.next i).sP P (aL c i.size) p e) λx a l=>?_;obtain⟨T,n,u,v,o,m,R,b,f⟩:=l;rcases P.flush m with⟨d,-,k⟩|⟨d,j,k⟩
  .exact FA R c b (by omega) (by unfold OV;omega) (by unfold sD;rwa [aU (by omega)]) trivial
  exact FA R c b (by omega) (.inr (.inr (.inr (.inr (.inr (.inl ⟨d,e,j⟩)))))) (by unfold sD;rwa [aQ (by omega)]) trivial
def NG(H:lC w base F r W q g h D (some (G,I)) cK aZ vL vM Bs S false)(P:iI cap aZ s D (some (G,I)) Bs S)(u:s<90)(e:base<=w.heap.size)(p:Sp)(k:p.k=7):
 Calls prog 11 #[.pointer (some ⟨r,0,none⟩),.agg p.c] w (sM base F r cK aZ cap s (λi l f z=>∃d n T,EO (bF9 D G I) d n T i l/\f=Bs/\z=sD Bs S 7 d) w):=by
  refine sR H e p (by omega) _ _ (λy v=>bV1 (H.next v).sP P u (aL e v.size) p k) λx a B=>?_;obtain⟨T,i,l,E,C,t,R,b,o⟩:=B;have c:∃d n T,EO (bF9 D G I) d n T i l/\Bs=Bs/\sD Bs S p.k a.r=sD Bs S 7 d:=⟨a.r,a.n,T,t,rfl,by rw[k]⟩;rcases P.index u t with⟨j,m⟩|⟨j,m⟩|⟨j,A,m⟩
  .exact FA R e b (by omega) (by unfold OV;omega) (by unfold sD;rwa [aU (by omega)]) c
  .exact FA R e b (by omega) (by unfold OV;omega) (by unfold sD;rwa [aQ (by omega)]) c
  exact FA R e b (by omega) (.inr (.inr (.inr (.inr (.inr (.inr (.inl ⟨j,k,A⟩))))))) (by unfold sD;rwa [aQ (by omega)]) c
def WV(H:lC w base F r W q g h D (some (G,I)) cK aZ vL vM Bs S false)(P:iI cap aZ s D (some (G,I)) Bs S)(o:s<90)(e:base<=w.heap.size)(p:Sp)(k:p.k=8)(A:DQ p.a):
 Calls prog 11 #[.pointer (some ⟨r,0,none⟩),.agg p.c] w (sM base F r cK aZ cap s (λi u d v=>∃z n T,EO (bY5 D G I p.a) z n T i u/\d=Bs/\v=S) w):=by
  refine sR H e p (by omega) _ _ (λy t=>bV0 (H.next t).sP P o (aL e t.size) p k A) λx a C=>?_;obtain⟨T,i,u,K,E,m,R,f,l⟩:=C;obtain⟨B,J⟩:=P.merge o m;have c:sD Bs S p.k a.r=S:=aQ (by omega);refine FA R e f (by omega) ?_ (by rwa [c]) ⟨a.r,a.n,T,m,rfl,c⟩;rcases B with b|b|⟨b,j⟩|b|⟨b,j⟩
  iterate 4
   .unfold OV;omega
  exact .inr (.inr (.inr (.inr (.inr (.inr (.inr (.inl ⟨b,k,j⟩)))))))
def ab4(P:iI cap aZ s D o Bs S)(K:s<89)(v:base<=w.heap.size)(H:TG base F r W g cK aZ vL vM Bs S (λi n T h m=>n=0/\T=[]/\nI cap aZ s (OZ D) Bs S i m h) w a x):
 Calls prog 21 #[.pointer (some ⟨r,0,none⟩),.agg a.v] x (sM base F r cK aZ cap s (λh m p B=>∃i,nI cap aZ s (OZ D) Bs S i m h/\(i=0->∃k,k<=Bs.length/\S<=k/\p=Bs.take k/\B=k)) w):=by
  obtain⟨T,h,m,L,J,⟨-,-,q⟩,R,b,y⟩:=H;obtain⟨i,n,A,k,c⟩:=a;dsimp only[An.v]at *;rcases P.open_ q with⟨rfl,rfl,C,l⟩|⟨rfl,G,I,j,rfl,l,t,u⟩
  .refine(ao2 R (aL v b.size) n A k c C).mono ?_;rintro e z ⟨rfl,d,f⟩;exact⟨rfl,zB b d,h,none,Bs,S,f,l,61,q,λE=>by cases E⟩
  refine(ab6 R (aL v b.size) n A k c P.mO (by have:=P.yV;omega) l t u (by omega)).mono ?_;rintro e z ⟨rfl,d,f⟩;exact⟨rfl,zB b d,h,some (G,I),Bs.take j,j,f,u,0,q,λ_=>⟨j,l,t,rfl,rfl⟩⟩
def af9(H:lC w base F r W q g h D o cK aZ vL vM Bs S false)(P:iI cap aZ s D o Bs S)(c:base<=w.heap.size)(p:Sp)(m:s<89)(l:p.k=9):
 Calls prog 11 #[.pointer (some ⟨r,0,none⟩),.agg p.c] w (sM base F r cK aZ cap s (λf n b i=>∃d,nI cap aZ s (OZ D) Bs S d n f/\(d=0->∃k,k<=Bs.length/\S<=k/\b=Bs.take k/\i=k)) w):=
 aV7 H c p (by omega) _ _ (λy e=>cj3 (H.next e).sP (aL c e.size) P.tW P.aN1 (by have:=P.bP;omega) P.eD P.mO (by have:=P.yV;omega) P.tM p l) (λh=>by omega) (λh=>by omega) λx a j=>⟨λh=>by omega,λ_=>ab4 P m c j,λh=>by omega⟩
def step_end (H:lC w base F r W q g h D o cK aZ vL vM Bs S false) (P:iI cap aZ s D o Bs S) (hb:base≤w.heap.size) (p:Sp) (hk:p.k<1∨9<p.k) (hk2:p.k≠13∧p.k≠14) (QQ:Int→Int→List jL→aM→iP→Prop) (Φ:aM→iP→List kK→Nat→Prop)
 (HD:∀y,aS w.heap.size w y→Calls prog 17 #[.pointer (some ⟨W,0,none⟩),.agg p.c] y (wK base W q h o cK aZ QQ y))
 (hQ0:p.k=10∨p.k=11→∀er n T D' o',QQ er n T D' o'→o'=none) (hQ1:p.k<1∨14<p.k→∀er n T D' o',QQ er n T D' o'→er=2∨(o=none∧er=61)) (hQ:∀er n T D' o',QQ er n T D' o'→iI cap aZ (s+1) D' o' Bs S∧Φ D' o' Bs S) :
 Calls prog 11 #[.pointer (some ⟨r,0,none⟩),.agg p.c] w (sM base F r cK aZ cap s Φ w):=
 aV7 H hb p hk2 _ _ HD hQ0 hQ1 fun x a hj=>⟨fun h=>by omega,fun h=>by omega,fun _=>by
  obtain⟨T,D',o',q',h',hq,R,hbx,hown⟩:=hj;exact⟨hbx,D',o',Bs,S,⟨W,q',g,h',vL,vM,R⟩,(hQ _ _ _ _ _ hq).1,(hQ _ _ _ _ _ hq).2⟩⟩
def aU6(H:lC w base F r W q g h D o cK aZ vL vM Bs S false)(P:iI cap aZ s D o Bs S)(d:base<=w.heap.size)(p:Sp)(e:p.k=10):
 Calls prog 11 #[.pointer (some ⟨r,0,none⟩),.agg p.c] w (sM base F r cK aZ cap s (λ_ _ _ _=>True) w):=
 step_end H P d p (by omega) (by omega) _ _ (λy f=>bV3 (H.next f).sP p e) (λ_ c n T b i a=>a.2.2.2.2) (λh=>by omega) λc n T b i a=>by
  obtain⟨-,-,-,rfl,rfl⟩:=a;exact⟨P.shut,trivial⟩
end
def au1(D:aM)(a:List Int):(D.jW a).2.bP=D.bP:=by unfold aM.jW;split<;>rfl
section
variable {w:aI}{base r W q g:Nat}{F:Gh}{h:dW}{D:aM}{G:cT}{I:bA}{o:iP}{cK aZ cap s:Nat}{vL vM:aN}{Bs:List kK}{S:Nat}
def aU5(H:lC w base F r W q g h D o cK aZ vL vM Bs S false)(P:iI cap aZ s D o Bs S)(b:base<=w.heap.size)(p:Sp)(j:p.k=11)(a:List Int)(C:p.i=a.length)(k:∀d,aS base w d->Reads d (.slice p.K a.length p.j) 1 a.length (xA a))(E:∀n∈a,DQ n):
 Calls prog 11 #[.pointer (some ⟨r,0,none⟩),.agg p.c] w (sM base F r cK aZ cap s (λf m e t=>f=(D.jW a).2/\m=none/\e=Bs/\t=S) w):=by
  refine step_end H P b p (by omega) (by omega) _ _ (λy l=>cj2 (H.next l).sP (aL b l.size) p (by omega) (D.jW a) (au1 D a) λz G ⟨u,v,A⟩=>?_) (λ_ x n T f m i=>i.2.2.2.2.trans (aU j)) (λh=>by omega) λx n T f m i=>?_
  .have c:=zB (QW l b) G;unfold DkN;rw[j,C];exact YZ TS TU A (aL b c.size) p.K p.j a (λd B=>k d (gS.below c B b)) E
  obtain⟨-,-,-,rfl,rfl⟩:=i;rw[aU j];exact⟨P.jW a,rfl,rfl,rfl,rfl⟩
def br9(H:lC w base F r W q g h D o cK aZ vL vM Bs S false)(P:iI cap aZ s D o Bs S)(j:base<=w.heap.size)(p:Sp)(u:p.k<1\/14<p.k):
 Calls prog 11 #[.pointer (some ⟨r,0,none⟩),.agg p.c] w (sM base F r cK aZ cap s (λ_ _ _ _=>True) w):=by
  match o,H,P with
  |none,H,P=>exact step_end H P j p (by omega) (by omega) _ _ (λy c=>bn6 (H.next c).sP p (by omega)) (λh=>by omega) (λ_ b n T a e d=>.inr ⟨rfl,d.1⟩) λb n T a e d=>by obtain⟨-,-,-,rfl,rfl⟩:=d;exact⟨P.shut,trivial⟩
  |some (G,I),H,P=>exact step_end H P j p (by omega) (by omega) _ _ (λy c=>bU9 (H.next c).sP p (by omega) _ (λb n T a f i x B=>by rw[x.1];decide) λz A=>bX5 ((H.next c).sP.next A).1 p u) (λh=>by omega) (λ_ b n T a e ⟨f,i,t,_⟩=>.inl t.1) λb n T a e ⟨f,i,⟨_,_,_,k,l,m⟩,v⟩=>by subst k l m;exact⟨P.same v,trivial⟩
end
section
variable {w:aI}{base r W q g:Nat}{F:Gh}{h:dW}{D:aM}{G:cT}{I:bA}{o:iP}{cK aZ cap s:Nat}{vL vM:aN}{Bs:List kK}{S:Nat}
def cc7(H:lC w base F r W q g h D none cK aZ vL vM Bs S false)(P:iI cap aZ s D none Bs S)(i:base<=w.heap.size)(p:Sp)(C:1<=p.k/\p.k<=8):
 Calls prog 11 #[.pointer (some ⟨r,0,none⟩),.agg p.c] w (λe z=>e=.returned (.bool true)/\bY3 base F r cK aZ cap s w z):=
 sR H i p C _ _ (λy G=>bn6 (H.next G).sP p (by omega)) λx a B=>by
  obtain⟨u,n,A,k,c⟩:=a;obtain⟨T,K,M,I,v,⟨j,l,m,o,t⟩,R,b,d⟩:=B;subst m o t;obtain⟨J,L,E,-⟩:=Reads.dC d;obtain rfl:k=0:=(eV E).2.1;obtain rfl:u=61:=j;obtain rfl:n=0:=l;exact(aV1 p A c).mono λe z f=>⟨f.1,zB b (QW f.2 (aL i b.size)),_,_,Bs,S,false,⟨W,I,g,v,vL,vM,R.next f.2⟩,λ_=>P.shut⟩
end
variable{I:bA}{G:cT}
def bp4(d b c:Nat)(w:aI)(e:eT)(z:aI):Prop:=
 ∃(a r:Nat)(D:aM)(o:iP),e=.returned (.tuple #[.pointer (some ⟨r,0,none⟩),.bool true])/\w.heap.size<=a/\a<=z.heap.size/\aS w.heap.size w z/\o.isSome=true/\VM z a Gh.no r D o d b [] 0 false/\iI c b 1 D o [] 0/\nI c b 0 (aM.tE c) [] 0 0 o D
def bK6(c:n<=1048576)(b:6000<=n)(a:k<18446744073709551616):iI n k 0 (aM.tE n) none [] 0:=
 ⟨c,a,rfl,aO 0,UW,aO _,aO _,UM b⟩
def aV8(f:n<=1048576)(b:6000<=n)(a:k<18446744073709551616)(h:nI n k 0 (aM.tE n) [] 0 0 (some (G,I)) D):iI n k 1 D (some (G,I)) [] 0:=by
 have d:OZ (aM.tE n)=aM.tE n:=aS8 rfl;rcases(bK6 f b a).open_ (by rw[d];exact h)with⟨-,e,-⟩|⟨-,i,j,l,e,g,-,P⟩
 .cases e
 have c:l=0:=(by simpa using g);subst c;exact P
def cd1{S:dW}(H:iW w k n m S D o i j)(l:k<=w.heap.size):
 lC ((w.alloc (.cells #[.slice none 0 0,.slice none 0 0,.int .i64 0] 48)).alloc (.cells #[.pointer (some ⟨n,0,none⟩),.pointer (some ⟨w.heap.size,0,none⟩),.bool false] 52)) k Gh.no (w.heap.size+1) n m w.heap.size S D o i j (.slice none 0 0) (.slice none 0 0) [] 0 false:=by
  have p:=Row.new w #[.slice none 0 0,.slice none 0 0,.int .i64 0] 48;have h:=cI w (.cells #[.slice none 0 0,.slice none 0 0,.int .i64 0] 48);have e:=Row.new (w.alloc (.cells #[.slice none 0 0,.slice none 0 0,.int .i64 0] 48)) #[.pointer (some ⟨n,0,none⟩),.pointer (some ⟨w.heap.size,0,none⟩),.bool false] 52;have g:=cI (w.alloc (.cells #[.slice none 0 0,.slice none 0 0,.int .i64 0] 48)) (.cells #[.pointer (some ⟨n,0,none⟩),.pointer (some ⟨w.heap.size,0,none⟩),.bool false] 52);have f:(w.alloc (.cells #[.slice none 0 0,.slice none 0 0,.int .i64 0] 48)).heap.size=w.heap.size+1:=(by simp);rw[f]at e;have d:=zB h (QW g (by omega));have c:=p.next g;refine⟨e,by omega,(H.next d).1,⟨c,l,.inl (bQ _ _ _ _),.inl (bQ _ _ _ _),λt r=>by cases r⟩,λs q=>?_,λs b a=>by cases a⟩;rcases q with rfl|rfl|a|a
  .exact H.fresh d e xF.1 (by omega)
  .exact H.fresh d c xF.2.1 (aO _)
  .cases a
  cases a
def UA(n a b:Nat)(w:aI)(H:n<=65535)(d:a<18446744073709551616):
 Calls prog 10 #[.agg #[.int .u64 a,.float .f64 b,.int .u16 (n:Nat)]] w (bp4 b a (6000+4*n) w):=by
  have c:((6000+4*n:Nat):Int)=6000+(n:Int)*4:=(by omega);have f:6000+4*n<=1048576:=(by omega);have g:6000<=6000+4*n:=(by omega);have p:=cI w (.cells #[.int .u64 a,.float .f64 b,.int .u16 (n:Nat)] 27);have i:(w.alloc (.cells #[.int .u64 a,.float .f64 b,.int .u16 (n:Nat)] 27)).heap.size=w.heap.size+1:=bC _ _;have j:=aS1 (w:=w.alloc (.cells #[.int .u64 a,.float .f64 b,.int .u16 (n:Nat)] 27)) (cap:=6000+4*n) (aZ:=a) (s:=0) (cK:=b) f g d;rw[c]at j;have m:=aH (And.intro f (And.intro g d));have J:IntKind.i64.wrap ((n:Int)*4)=(n:Int)*4:=(by rw[dM];omega);have K:IntKind.i64.wrap (6000+(n:Int)*4)=6000+(n:Int)*4:=(by rw[dM];omega);generalize k:(w.alloc (.cells #[.int .u64 a,.float .f64 b,.int .u16 (n:Nat)] 27))=F at j p i;have⟨o,z,E⟩:=aB k p i;generalize l:6000+4*n=r at j m|-;unfold bp4;unfold ZO at j;clear p i c f g k l;go_in;(go_wp2_with fail);rw[o.out];refine j.mono ?_;rintro e x ⟨W,q,h,G,I,A,rfl,t,y,u⟩;have⟨D,B,C,v⟩:=aC (cd1 y u.size) (aV8 m.out.1 m.out.2.1 m.out.2.2 t) t u;clear t y u j;go_wp2;go_ret2;refine⟨F.heap.size,x.heap.size+1,A,some (G,I),rfl,by have:=E.out;omega,?_,aJ z.out (aJ v.out (aJ (cI _ _) (cI _ _))),rfl,⟨W,q,x.heap.size,h,_,_,D.out⟩,B.out,C.out⟩;have:=v.out.size;rw[bC,bC];omega
variable{b:kK}
def ch5(o:List cZ)(e:cZ):oV o e≠[]:=by
 unfold oV;split
 .rename_i h;intro a;rw[a]at h;simp at h
 simp
def ac8:∀(l:List cZ)(o:List cZ),(l≠[]\/o≠[])->l.foldl oV o≠[]:=λl=>by
 induction l with
 |nil=>intro o h;rcases h with h|h;exact absurd rfl h;exact h
 |cons e l a=>intro o _;exact a _ (.inr (ch5 o e))
def bX3(h:tS b):kW (iT b)=b:=by have c:=WX h.2 h.1 [];have d:iT b=vH b:=(by unfold iT;rw[aU h.2]);obtain⟨-,-,a,-⟩:=ap2 h.2 h.1 [];rw[fU]at c a;unfold kW;rw[aU (by rw[c];rfl),d];exact a
def bU3(h:tS b)(a k:Nat):tV a (k,iT b)≠[]:=by unfold tV;simp only;rw[bX3 h];have e:=h.range;intro f;have c:=gQ List.length f;simp at c;have d:=e.1;rw[c]at d;simp at d
def bj9(L:List cZ):(mF L).length<=12+24*L.length:=by
 unfold mF;split
 .rename_i h;unfold vU at h;simp only[bL]at h;have a:=sY h.2;rw[nT];unfold NN rB;simp only[aP,a];simp;omega
 simp
def as5(I:bA)(G:cT)(D:aM)(f:bK):(jI I G D f).2.2.1.bW=G.bW:=by
 unfold jI;split
 .exact uP G D
 split
 .exact uP G D
 split
 .exact uP G D
 exact uP G D
def ae1(G:cT)(D:aM)(p:bK):(gU G D p).2.2.1.bW.length<=G.bW.length+1:=by
 have a:=uP G D;unfold gU;split
 .exact gV _
 split
 .unfold oU;split
  .exact gV _
  split
  .exact gV _
  simp
 unfold pB;split
 .exact gV _
 split
 .simp only;rw[a];exact gV _
 split
 .simp only;rw[a];exact gV _
 simp only;rw[a];simp
structure Kn(a aZ s u c n:Nat)(L:oF)(D:aM)(G:cT)(I:bA)(b:List kK)(S:Nat):Prop where
 P:iI a aZ s D (some (G,I)) b S
 calm:Calm D
 used:dT D.files<=u
 bW:G.bW.length<=c
 next:I.cV.next=n
 fC:I.cV.fC=L
section
variable {cap aZ s u c n S S':Nat}{L:oF}{D D':aM}{G:cT}{I:bA}{o':iP}{Bs Bs':List kK}
def Kn.FI(K:Kn cap aZ s u c n L D G I Bs S)(j:s<90):I.mem.length<=8*Bs.length:=by have i:=K.P.yV;obtain⟨C,P⟩:=K.P.wM.stP K.P.mO (by omega) K.P.tM;obtain⟨k,Q,a⟩:=P.ix;have f:=tP (uJ a.Q0) λe b=>(a.all e).1 (.inl b);have g:=BQ (aZ:=aZ) (R:=dB C) λr d=>(P.FI.2 r d).2;have h:(dB C).length=Bs.length:=(by rw[qY,P.same,gR]);omega
def Kn.append (K:Kn cap aZ s u c n L D G I Bs S) {st:aT} {x:Int} {l:List Ev} (h0:nB (Bs.flatMap dJ) st x l=0) (hf:tS (st,(mK Bs st:Int),l)) (hc:c<200) (hu:u+8024≤cap) (hP:iI cap aZ (s+1) D' o' Bs' S') (hx:S'=S∧∃er n T,EO (bG0 D G I aZ Bs st x l) er n T D' o'∧Bs'=EH Bs st x l er) :
 Bs'=Bs++[(st,(mK Bs st:Int),l)]∧S'=S∧∃G' I',o'=some (G',I')∧I'.mem≠[]∧Kn cap aZ (s+1) (u+2024) (c+1) n L D' G' I' Bs' S':=by
 obtain⟨rfl,er,n1,T,⟨G1,I1,⟨-,hq⟩,ho⟩,rfl⟩:=hx;have hl:=aX2 hf;have hcost:=av3 (G:=G) K.calm (iT (st,(mK Bs st:Int),l));have hsz:=ae1 G D (iT (st,(mK Bs st:Int),l));have hlaw:=(QZ K.P.wM hl).it;have hcap:=K.P.tW;have h1:=K.used;have h2:=K.bW;rcases hq with⟨h9,-⟩|⟨-,h3,-⟩|⟨-,h3,rfl,-,rfl,rfl,rfl⟩
 ·exact absurd h0 h9
 ·exfalso;rcases hlaw with⟨-,h8⟩|⟨h8,-⟩|⟨h8,-⟩
  ·omega
  ·exact h3 h8
  exact hcost.err h8
 have hup:=hcost.calm.up;have hb:EH Bs st x l 0=Bs++[(st,(mK Bs st:Int),l)]:=ON h0 (by decide);rcases ho with⟨h8,-⟩|⟨-,rfl⟩
 ·simp only at hup;rw[hup]at h8;cases h8
 exact⟨hb,rfl,_,_,rfl,ac8 _ _ (.inl (bU3 hf _ _)),hP,hcost.calm,by have:=hcost.used;simp only at this;omega,by omega,K.next,K.fC⟩
def Kn.index(K:Kn cap aZ s u c n L D G I Bs S)(l:s<90)(q:I.mem≠[])(y:L.flatten.length<40)(M:Bs.length<=3)(P:u+8000<=cap)(z:iI cap aZ (s+1) D' o' Bs' S')(C:∃i n T,EO (bF9 D G I) i n T D' o'/\Bs'=Bs/\S'=sD Bs S 7 i):
 Bs'=Bs/\S'=Bs.length/\∃o h,o'=some (o,h)/\bR D'.files fZ=some ⟨iV h.cV,(iV h.cV).length⟩/\Kn cap aZ (s+1) (u+1400) c (n+1) (pC L n) D' o h Bs' S':=by
  obtain⟨i,Q,T,⟨F,H,⟨-,-,f,N,rfl,rfl,rfl,rfl⟩,B⟩,rfl,rfl⟩:=C;have t:=K.FI l;have O:=bj9 I.mem;have A:=K.P.yV;have k:=K.P.wM.as6 K.P.mO (by omega) l K.P.tM;have b:¬40<=I.cV.fC.flatten.length:=(by rw[K.fC];omega);have r:=GK (k.ok b q);have d:=aK0 (G:=G) (I:=I) K.calm f;have p:=K.P.tW;have J:=K.used;have x:=K.bW;have e:¬DM D I.mem f:=by unfold DM;omega
  have v:(jI I G D f).1=0:=by
   rcases M5 K.P.wM (qK K.P.mO.tT) l K.P.tM f with⟨-,-,j⟩|⟨j,-⟩
   .rcases j with⟨a,-⟩|⟨-,a,-⟩|⟨a,-⟩
    .exact a
    .rcases a with a|a
     .exact absurd a e
     exact absurd a b
    rcases a with⟨-,a⟩|a
    .rcases a with a|a
     .exact absurd a e
     exact absurd a b
    exact absurd a d.err
   exact absurd j d.err
  obtain⟨w,E⟩:=bB8 K.calm q v;have g:=d.calm.up;have m:sD Bs' S 7 (jI I G D f).1=Bs'.length:=aU ⟨v,by decide⟩;rcases B with⟨a,-⟩|⟨-,rfl⟩
  .simp only at g;rw[g]at a;cases a
  refine⟨rfl,m,_,_,rfl,E,z,d.calm,?_,?_,?_,?_⟩
  .have:=d.used;simp only at this;omega
  .rw[as5];exact x
  .rw[w,<-K.next]
  rw[w,<-K.next,<-K.fC]
def Kn.merge(K:Kn cap aZ s u c n L D G I Bs S)(p:s<90)(m:L.getD 0 []≠[])(z:L.flatten.length<40)(q:∀k∈L.getD 0 [],k<=999999)(O:Bs.length<=3)(R:u+8000<=cap)(A:iI cap aZ (s+1) D' o' Bs' S')(E:∃t n T,EO (bY5 D G I 0) t n T D' o'/\Bs'=Bs/\S'=S):
 Bs'=Bs/\S'=S/\∃r i,o'=some (r,i)/\bR D'.files fZ=some ⟨iV i.cV,(iV i.cV).length⟩/\Kn cap aZ (s+1) (u+1400) c (n+1) (mJ L 0 n) D' r i Bs' S':=by
  obtain⟨t,U,T,⟨J,M,⟨-,-,f,P,rfl,rfl,rfl,rfl⟩,C⟩,rfl,rfl⟩:=E;have B:=K.P.yV;have l:¬((0:Int)<0\/(5:Int)<=0):=(by omega);have b:I.cV.fC.getD (0:Int).toNat []≠[]:=(by rw[K.fC];exact m);have w:=K.P.wM.Y0 K.P.mO (by omega) p K.P.tM 0 l b;have o:=(K.P.wM.bl8 K.P.mO (by omega) p K.P.tM 0).ok l b;have Q:=bj9 (jV ((I.cV.fC.getD (0:Int).toNat []).map λn=>(I.fA n).getD []));have x:=GK o.1;have j:=aG0 (I:=I) K.calm 0 f;have v:=K.P.tW;have N:=K.used;have e:¬40<=I.cV.fC.flatten.length:=(by rw[K.fC];omega);have g:¬DM D (jV ((I.cV.fC.getD (0:Int).toNat []).map λn=>(I.fA n).getD [])) f:=by unfold DM;omega
  have F:(l6 I D 0 f).1=0:=by
   rcases SK K.P.wM (qK K.P.mO.tT) p K.P.tM 0 f with⟨-,d⟩|⟨-,-,d⟩|⟨-,-,-,-,d⟩
   .exact absurd d l
   .exact absurd d b
   simp only at d;rcases d with⟨a,-⟩|⟨-,a,-⟩|⟨a,-⟩
   .exact a
   .rcases a with a|a
    .exact absurd a g
    exact absurd a e
   rcases a with⟨-,a⟩|a
   .rcases a with a|a
    .exact absurd a g
    exact absurd a e
   exact absurd a j.err
  obtain⟨y,-,H⟩:=by4 K.calm l b (by rw[K.fC];exact q) F;have h:=j.calm.up;rcases C with⟨a,-⟩|⟨-,rfl⟩
  .simp only at h;rw[h]at a;cases a
  refine⟨rfl,rfl,_,_,rfl,H,A,j.calm,?_,K.bW,?_,?_⟩
  .have:=j.used;simp only at this;omega
  .rw[y,<-K.next]
  rw[y,<-K.next,<-K.fC];rfl
def Kn.cp1(K:Kn cap aZ s u c n L D G I Bs S)(i:bR D.files fZ=some ⟨iV I.cV,(iV I.cV).length⟩){a:List Int}{k:Nat}{e:Int}(h:nI cap aZ k (OZ (D.jW a).2) Bs S e o' D'):
 e=0/\∃l f,o'=some (l,f)/\f.cV.next=n:=by
  have F:=K.P.yV;have p:D.jW a=(0,D.crashed a):=(by unfold aM.jW;rw[K.calm.up,aQ (by simp)]);rw[p]at h;have q:OZ (0,D.crashed a).2={D.crashed a with down:=false,bP:=D.bP+1}:=by unfold OZ aM.start aM.crashed;rfl
  rw[q]at h;have x:=K.P.wM.sys.oI;have j:=iQ.jW isI x.sync a;have d:Calm {D.crashed a with down:=false,bP:=D.bP+1}:=⟨rfl,rfl,Z4 K.calm.kO a⟩;rcases h.it with⟨o,-⟩|⟨o,l,f,V,w,-⟩
  .exact absurd o (h.calm d)
  refine⟨o,l,f,w,?_⟩;obtain⟨C,O,J,E,b⟩:=K.P.wM.st;obtain⟨t,m,r,z⟩:=j.sure M2 i (aO _);have A:=(x.jW a).sync _ _ m;have H:t=⟨iV I.cV,(iV I.cV).length⟩:=by obtain⟨P,B⟩:=t;simp only at r z A;subst r;have:B=(iV I.cV).length:=(by omega);rw[this]
  rw[H]at m;rw[<-K.next];refine h.next I.cV l f w b.cV b.yJ m λV v=>?_;obtain⟨y,U,N⟩:=b.fA V v;obtain⟨⟨Q,R⟩,T,M⟩:=lW.1 b.cV;have g:V<=999999:=(by have:=M V v;omega);exact⟨g,y,N.stay g j⟩
end
variable{B:List kK}
def stA:aT:=⟨#[97]⟩
def stB:aT:=⟨#[98]⟩
def evK:Ev:=(⟨#[116]⟩,ByteArray.empty,4607182418800017408)
def SN:kK:=(stA,0,[evK])
def VJ:kK:=(stB,0,[evK])
def ac5:kK:=(stB,1,[evK])
def cm8:okV evK:=⟨by decide,by decide,by decide⟩
def be0(a:aT)(n:Int)(b:a=stA\/a=stB)(d:n=0\/n=1):tS (a,n,[evK]):=by
 refine⟨⟨?_,by simp only;omega,λe c=>by rw[bT.1 c];exact cm8⟩,?_⟩
 .rcases b with rfl|rfl
  .exact(show stA.size<=Go.maxLen by decide)
  exact(show stB.size<=Go.maxLen by decide)
 rcases b with rfl|rfl<;>rcases d with rfl|rfl<;>decide
def KnS(i:Nat)(D:aM)(o:iP)(Bs:List kK)(S:Nat):Prop:=
 match i with
 |0=>∃G I,o=some (G,I)/\Kn 42000 0 1 0 0 0 [] D G I Bs S/\Bs=[]
 |1=>∃G I,o=some (G,I)/\Kn 42000 0 2 2024 1 0 [] D G I Bs S/\Bs=[SN]
 |2=>∃G I,o=some (G,I)/\Kn 42000 0 3 4048 2 0 [] D G I Bs S/\Bs=[SN,VJ]/\I.mem≠[]
 |3=>∃G I,o=some (G,I)/\Kn 42000 0 4 5448 2 1 (pC [] 0) D G I Bs S/\Bs=[SN,VJ]
 |4=>∃G I,o=some (G,I)/\Kn 42000 0 5 7472 3 1 (pC [] 0) D G I Bs S/\Bs=[SN,VJ,ac5]/\I.mem≠[]
 |5=>∃G I,o=some (G,I)/\Kn 42000 0 6 8872 3 2 (pC (pC [] 0) 1) D G I Bs S/\Bs=[SN,VJ,ac5]/\S=3
 |6=>∃G I,o=some (G,I)/\Kn 42000 0 7 10272 3 3 (mJ (pC (pC [] 0) 1) 0 2) D G I Bs S/\Bs=[SN,VJ,ac5]/\S=3/\bR D.files fZ=some ⟨iV I.cV,(iV I.cV).length⟩
 |7=>∃G I,o=some (G,I)/\Kn 42000 0 8 10272 3 3 (mJ (pC (pC [] 0) 1) 0 2) D G I Bs S/\Bs=[SN,VJ,ac5]/\S=3/\bR D.files fZ=some ⟨iV I.cV,(iV I.cV).length⟩
 |8=>∃G I,o=some (G,I)/\Kn 42000 0 9 10272 3 3 (mJ (pC (pC [] 0) 1) 0 2) D G I Bs S/\Bs=[SN,VJ,ac5]/\S=3/\bR D.files fZ=some ⟨iV I.cV,(iV I.cV).length⟩
 |9=>∃D0 G I,Kn 42000 0 9 10272 3 3 (mJ (pC (pC [] 0) 1) 0 2) D0 G I Bs S/\Bs=[SN,VJ,ac5]/\S=3/\bR D0.files fZ=some ⟨iV I.cV,(iV I.cV).length⟩/\D=(D0.jW []).2/\o=none
 |_=>∃G I,o=some (G,I)/\I.cV.next=3/\Bs=[SN,VJ,ac5]
def bj0(E:Nat):Nat->vC
 |0=>((.slice (some ⟨E,0,none⟩) 1 1,.slice none 0 0),⟨1,stA,-1,0,[evK],[],ByteArray.empty⟩)
 |1=>((.slice (some ⟨E,0,none⟩) 1 1,.slice none 0 0),⟨1,stB,-1,0,[evK],[],ByteArray.empty⟩)
 |2=>((.slice none 0 0,.slice none 0 0),⟨7,ByteArray.empty,0,0,[],[],ByteArray.empty⟩)
 |3=>((.slice (some ⟨E,0,none⟩) 1 1,.slice none 0 0),⟨1,stB,0,0,[evK],[],ByteArray.empty⟩)
 |4=>((.slice none 0 0,.slice none 0 0),⟨7,ByteArray.empty,0,0,[],[],ByteArray.empty⟩)
 |5=>((.slice none 0 0,.slice none 0 0),⟨8,ByteArray.empty,0,0,[],[],ByteArray.empty⟩)
 |6=>((.slice none 0 0,.slice none 0 0),⟨4,stA,0,0,[],[],ByteArray.empty⟩)
 |7=>((.slice none 0 0,.slice none 0 0),⟨2,stB,0,9,[],[],ByteArray.empty⟩)
 |8=>((.slice none 0 0,.slice none 0 0),⟨11,ByteArray.empty,0,0,[],[],ByteArray.empty⟩)
 |9=>((.slice none 0 0,.slice none 0 0),⟨9,ByteArray.empty,0,0,[],[],ByteArray.empty⟩)
 |_=>((.slice none 0 0,.slice none 0 0),⟨5,ByteArray.empty,0,0,[],[],ByteArray.empty⟩)
def Kn.read{d:Nat}{C:oF}{g:Nat}(K:Kn n m i j k d C D G I B g)(P:iI n m (i+1) D (some (G,I)) B g):Kn n m (i+1) j k d C D G I B g:=⟨P,K.calm,K.used,K.bW,K.next,K.fC⟩
def bq9(a:3<=n):([SN,VJ,ac5]:List kK).take n=[SN,VJ,ac5]:=aX a
def KnW(a:Nat)(F:Gh)(r i:Nat)(wr:aI):Prop:=∃D o b S,VM wr a F r D o 0 0 b S false/\iI 42000 0 (i+1) D o b S/\KnS i D o b S
def KnT(a:Nat)(F:Gh)(r i:Nat)(wr:aI)(e:eT)(z:aI):Prop:=e=.returned (.bool true)/\aS a wr z/\KnW a F r (i+1) z
abbrev kp(k:Int)(n:aT)(b:Int):Sp:=⟨k,n,0,b,none,0,0,none,0,0,ByteArray.empty⟩
abbrev kq(n:aT)(a:Int)(E:Nat):Sp:=⟨1,n,a,0,some ⟨E,0,none⟩,1,1,none,0,0,ByteArray.empty⟩
def i0:DQ 0:=by unfold DQ;omega
def bR4{wr:aI}(N:i<11)(h:KnW n F k i wr)(x:n<=wr.heap.size)(hE:∀B:aI,(∀Y J,F Y=some J->B.heap[Y]?=some J)->WE B (.slice (some ⟨m,0,none⟩) 1 1) [evK]):
 Calls prog 11 #[.pointer (some ⟨k,0,none⟩),.agg (cm3 (bj0 m i))] wr (KnT n F k i wr):=by
  obtain⟨D,o,Q,S,⟨W,q,g,h,V,X,R⟩,P,f⟩:=h;match i,N,f,P with
  |0,_,f,P=>obtain⟨G,I,rfl,K,rfl⟩:=f;refine(CP R P (by omega) x (kq stA (-1) m) rfl (show stA.size<=1000000 by decide) (show DQ (-1)by unfold DQ;omega) [evK] (λB _ E=>hE B E) (by decide)).mono ?_;rintro e z ⟨rfl,a,j,p,c,l,b,d,v⟩;obtain⟨t,A,r,s,u,C,w⟩:=K.append (by dsimp only[kq];decide) (be0 _ _ (.inl rfl) (.inl rfl)) (by omega) (by omega) d v;exact⟨rfl,a,j,p,c,l,b,d,r,s,u,w,t⟩
  |1,_,f,P=>obtain⟨G,I,rfl,K,rfl⟩:=f;refine(CP R P (by omega) x (kq stB (-1) m) rfl (show stB.size<=1000000 by decide) (show DQ (-1)by unfold DQ;omega) [evK] (λB _ E=>hE B E) (by decide)).mono ?_;rintro e z ⟨rfl,a,j,p,c,l,b,d,v⟩;obtain⟨t,A,r,s,u,C,w⟩:=K.append (by dsimp only[kq];decide) (be0 _ _ (.inr rfl) (.inl rfl)) (by omega) (by omega) d v;exact⟨rfl,a,j,p,c,l,b,d,r,s,u,w,t,C⟩
  |2,_,f,P=>obtain⟨G,I,rfl,K,rfl,y⟩:=f;refine(NG R P (by omega) x (kp 7 ByteArray.empty 0) rfl).mono ?_;rintro e z ⟨rfl,a,j,p,c,l,b,d,v⟩;obtain⟨t,A,r,s,u,C,w⟩:=K.index (by omega) y (by decide) (by decide) (by omega) d v;exact⟨rfl,a,j,p,c,l,b,d,r,s,u,w,t⟩
  |3,_,f,P=>obtain⟨G,I,rfl,K,rfl⟩:=f;refine(CP R P (by omega) x (kq stB (0) m) rfl (show stB.size<=1000000 by decide) (show DQ (0)by unfold DQ;omega) [evK] (λB _ E=>hE B E) (by decide)).mono ?_;rintro e z ⟨rfl,a,j,p,c,l,b,d,v⟩;obtain⟨t,A,r,s,u,C,w⟩:=K.append (by dsimp only[kq];decide) (be0 _ _ (.inr rfl) (.inr rfl)) (by omega) (by omega) d v;exact⟨rfl,a,j,p,c,l,b,d,r,s,u,w,t,C⟩
  |4,_,f,P=>obtain⟨G,I,rfl,K,rfl,y⟩:=f;refine(NG R P (by omega) x (kp 7 ByteArray.empty 0) rfl).mono ?_;rintro e z ⟨rfl,a,j,p,c,l,b,d,v⟩;obtain⟨t,A,r,s,u,C,w⟩:=K.index (by omega) y (by decide) (by decide) (by omega) d v;exact⟨rfl,a,j,p,c,l,b,d,r,s,u,w,t,A⟩
  |5,_,f,P=>obtain⟨G,I,rfl,K,rfl,rfl⟩:=f;refine(WV R P (by omega) x (kp 8 ByteArray.empty 0) rfl i0).mono ?_;rintro e z ⟨rfl,a,j,p,c,l,b,d,v⟩;obtain⟨t,A,r,s,u,C,w⟩:=K.merge (by omega) (by decide) (by decide) (by decide) (by decide) (by omega) d v;exact⟨rfl,a,j,p,c,l,b,d,r,s,u,w,t,A,C⟩
  |6,_,f,P=>obtain⟨G,I,rfl,K,rfl,rfl,y⟩:=f;refine(GF R P (by omega) x (kp 4 stA 0) (show(2:Int)<=4/\(4:Int)<=5 by decide) (show stA.size<=1000000 by decide) i0 i0).mono ?_;rintro e z ⟨rfl,a,j,p,c,l,b,d,rfl,rfl,rfl,rfl⟩;exact⟨rfl,a,_,_,_,_,b,d,G,I,rfl,K.read d,rfl,rfl,y⟩
  |7,_,f,P=>obtain⟨G,I,rfl,K,rfl,rfl,y⟩:=f;refine(GF R P (by omega) x (kp 2 stB 9) (show(2:Int)<=2/\(2:Int)<=5 by decide) (show stB.size<=1000000 by decide) i0 (show DQ 9 by unfold DQ;omega)).mono ?_;rintro e z ⟨rfl,a,j,p,c,l,b,d,rfl,rfl,rfl,rfl⟩;exact⟨rfl,a,_,_,_,_,b,d,G,I,rfl,K.read d,rfl,rfl,y⟩
  |8,_,f,P=>obtain⟨G,I,rfl,K,rfl,rfl,y⟩:=f;refine(aU5 R P x (kp 11 ByteArray.empty 0) rfl [] rfl (λB _=>Reads.nil _ _) (λZ H=>by cases H)).mono ?_;rintro e z ⟨rfl,a,j,p,c,l,b,d,rfl,rfl,rfl,rfl⟩;exact⟨rfl,a,_,_,_,_,b,d,D,G,I,K,rfl,rfl,y,rfl,rfl⟩
  |9,_,f,P=>obtain⟨T,G,I,K,rfl,rfl,y,rfl,rfl⟩:=f;refine(af9 R P x (kp 9 ByteArray.empty 0) (by omega) rfl).mono ?_;rintro e z ⟨rfl,a,j,p,c,l,b,d,U,v,O⟩;obtain⟨t,r,s,A,u⟩:=K.cp1 y v;obtain⟨Y,-,L,M,-⟩:=O t;exact⟨rfl,a,j,p,c,l,b,d,r,s,A,u,M.trans (bq9 L)⟩
  |10,_,f,P=>obtain⟨G,I,rfl,H,rfl⟩:=f;refine(GF R P (by omega) x (kp 5 ByteArray.empty 0) (show(2:Int)<=5/\(5:Int)<=5 by decide) (show ByteArray.empty.size<=1000000 by decide) i0 i0).mono ?_;rintro e z ⟨rfl,a,j,p,c,l,b,d,rfl,rfl,rfl,rfl⟩;exact⟨rfl,a,_,_,_,_,b,d,G,I,rfl,H,rfl⟩
def aH9(P:iI 42000 0 1 D o [] 0)(h:nI 42000 0 0 (aM.tE 42000) [] 0 0 o D)(f:o.isSome=true):KnS 0 D o [] 0:=by
 obtain⟨b,a⟩:=h.fresh rfl rfl;subst b;match o,f,P,a with
 |some (G,I),_,P,a=>obtain⟨c,d,e⟩:=a G I rfl;exact⟨G,I,rfl,⟨P,al9 _,by decide,by rw[c];exact aO 0,d,e⟩,rfl⟩
def XK(E:Nat):List vC:=(List.range 11).map (bj0 E)
def au8(E:Nat):Array aN:=((XK E).flatMap zY).toArray
def bH9{A:Program}{c:Code}{Q:Exit->Act->aI->Prop}{a:Act}{w':aI}(h:w=w')(H:c.wp A Q a w'):c.wp A Q a w:=by rw[h];exact H
def ghK(E:Nat)(a:aI):Gh:=fun k=>if k=E\/k=E+1 then a.heap[k]? else none
structure RA(a b:aI):Prop where
 low:aS a.heap.size a b
 ev:Row b a.heap.size 44 (evL evK)
 st:Row b (a.heap.size+1) 35 ((XK a.heap.size).flatMap zY)
def bs0(a:aI):RA a ((a.alloc (.cells (J1 evK) 44)).alloc (.cells (au8 a.heap.size) 35)):=by have d:=cI a (.cells (J1 evK) 44);have b:=cI (a.alloc (.cells (J1 evK) 44)) (.cells (au8 a.heap.size) 35);have e:=(Row.new a (J1 evK) 44).next b;have c:=Row.new (a.alloc (.cells (J1 evK) 44)) (au8 a.heap.size) 35;rw[bC]at c;exact⟨aJ d b,e,c⟩
def TM:¬ad3 44/\¬ad3 35:=by decide
def RA.ghost(h:RA w x){m n:Nat}{D:aM}{o:iP}{B:List kK}{k:Nat}(R:VM w m Gh.no n D o 0 0 B k false):VM x m (ghK w.heap.size x) n D o 0 0 B k false:=by
 obtain⟨W,q,g,c,d,e,R⟩:=R;refine⟨W,q,g,c,d,e,R.ghost h.low λi f a=>?_⟩;unfold ghK at a;split at a
 .rename_i b;refine⟨a,by omega,?_⟩;rcases b with rfl|rfl
  .exact⟨_,_,h.ev,TM.1⟩
  exact⟨_,_,h.st,TM.2⟩
 cases a
def RA.same(h:RA w x){y:aI}(g:∀k c,ghK w.heap.size x k=some c->y.heap[k]?=some c):Row y w.heap.size 44 (evL evK)/\Row y (w.heap.size+1) 35 ((XK w.heap.size).flatMap zY):=by
 have a:∀k t b,(k=w.heap.size\/k=w.heap.size+1)->Row x k t b->Row y k t b:=λk t b f e=>by obtain⟨C,i,d,-⟩:=id e;refine e.of_block ?_;rw[d];exact g k _ (by unfold ghK;rw[aU f];exact d)
 exact⟨a _ _ _ (.inl rfl) h.ev,a _ _ _ (.inr rfl) h.st⟩
def RA.evs(h:RA w x):∀b:aI,(∀k c,ghK w.heap.size x k=some c->b.heap[k]?=some c)->WE b (.slice (some ⟨w.heap.size,0,none⟩) 1 1) [evK]:=λb l=>by
 obtain⟨d,-⟩:=h.same l;refine⟨⟨_,_,rfl,aO _,by unfold maxLen;omega,rfl,λ_=>⟨w.heap.size,0,rfl,d.lt,λj i=>?_⟩⟩,λe g=>by rw[bT.1 g];exact cm8⟩;have a:j<3:=by simpa[evL]using i
 have f:=d.cell j (by simpa[evL]using a);rw[jB,f];rfl
def RA.cells{w:aI}(h:RA w x){y:aI}(m:∀k b,ghK w.heap.size x k=some b->y.heap[k]?=some b){k:Nat}(o:k<11){p:vC}(i:p=bj0 w.heap.size k):y.cell? ⟨w.heap.size+1,k*7,none⟩=some (.int .i64 p.2.kind)/\y.cell? ⟨w.heap.size+1,k*7+1,none⟩=some (.string p.2.name)/\y.cell? ⟨w.heap.size+1,k*7+2,none⟩=some (.int .i64 p.2.a)/\y.cell? ⟨w.heap.size+1,k*7+3,none⟩=some (.int .i64 p.2.b)/\y.cell? ⟨w.heap.size+1,k*7+4,none⟩=some p.1.1/\y.cell? ⟨w.heap.size+1,k*7+5,none⟩=some p.1.2/\y.cell? ⟨w.heap.size+1,k*7+6,none⟩=some (.string p.2.text):=by
 obtain⟨-,n⟩:=h.same m;have q:(XK w.heap.size).length=11:=by simp[XK]
 have a:∀j v,j<7->(zY p)[j]?=some v->y.cell? ⟨w.heap.size+1,k*7+j,none⟩=some v:=λj v g l=>by have c:=DE zY 7 ag0 (XK w.heap.size) k j (by omega) g;have d:(XK w.heap.size)[k]'(by omega)=p:=(by simp[XK,i]);rw[d,l]at c;obtain⟨e,f⟩:=aR.1 c;rw[n.cell (k*7+j) e,f]
 exact⟨by simpa using a 0 _ (by omega) rfl,a 1 _ (by omega) rfl,a 2 _ (by omega) rfl,a 3 _ (by omega) rfl,a 4 _ (by omega) rfl,a 5 _ (by omega) rfl,a 6 _ (by omega) rfl⟩
def VM.gh{b:Bool}(R:VM w k F n D o i j B m b):∀f a,F f=some a->w.heap[f]?=some a:=by obtain⟨W,q,g,h,d,e,R⟩:=R;exact λf a c=>(R.gh f a c).1
def cA2(r W g q:Nat)(A:Option Addr)(c:Nat)(w:aI):Prop:=
 w.cell? ⟨r,0,none⟩=some (.pointer (some ⟨W,0,none⟩))/\w.cell? ⟨r,1,none⟩=some (.pointer (some ⟨g,0,none⟩))/\w.cell? ⟨g,0,none⟩=some (.slice A 3 c)/\
 Calls prog 12 #[.pointer (some ⟨W,0,none⟩)] w (fun e a=>e=.returned (.pointer (some ⟨q,0,none⟩))/\w=a)/\
 Calls prog 13 #[.pointer (some ⟨q,0,none⟩)] w (fun e a=>(∃x y z,e=.returned (.agg #[.int .i64 3,x,y,z]))/\aS w.heap.size w a)
def bA3(h:KnW n F k 11 w):∃W g q A c,cA2 k W g q A c w:=by obtain⟨D,o,p,S,⟨W,q,g,s,u,v,R⟩,P,G,I,rfl,l,rfl⟩:=h;obtain⟨A,c,rfl,-⟩:=id R.mod.2.2.1.reads;have f:(([SN,VJ,ac5]:List kK).flatMap dJ).length=3:=(by decide);have b:=R.mod.1.cell 0 (by simp);simp only[bE]at b;rw[f]at b;have a:=yF R.sP;unfold sF at a;obtain⟨C,r,t,i,d⟩:=P.wM.st;refine⟨W,g,q,A,c,R.row.cell 0 (by simp),R.row.cell 1 (by simp),b,a,(WS R.sP.it d.cV).mono ?_⟩;rintro e x ⟨⟨m,rfl⟩,j⟩;refine⟨⟨.int .i64 (I.cV.check:Nat),.int .u64 (I.cV.aZ:Nat),m,?_⟩,j⟩;unfold mH;rw[l];rfl
def bq6(w:aI):Calls prog 7 #[] w (λe z=>e=.returned (.bool true)/\aS w.heap.size w z):=by
 have U:=aH (UA 9000 0 0 w (by omega) (by omega));go_in;(go_wp2_with fail);refine U.out.mono ?_;rintro e s ⟨b,r,D0,o0,rfl,J,a,f,h,I,n,H⟩;have⟨u,X,Z,Y,K,M,L⟩:=aF (bs0 s) (aH9 n H h) I n f J a;clear J a f h I n H U;(go_wp2_with fail);obtain⟨B,l⟩:∃B,B=(s.alloc (.cells (J1 evK) 44)).alloc (.cells (au8 s.heap.size) 35):=⟨_,rfl⟩;refine bH9 (w':=B) (by rw[l];rfl) ?_;rw[<-l]at u;obtain⟨E,hE⟩:∃E,E=s.heap.size:=⟨_,rfl⟩;have⟨V,Q,Z0⟩:=aB (show KnW b (ghK s.heap.size B) r 0 B from⟨D0,o0,[],0,u.out.ghost Z.out,Y.out,X.out⟩) (aJ K.out u.out.low) (aL L.out u.out.low.size);clear l X Z Y;go_loopw [5] (λi wr=>∃k:Nat,k<=11/\i=.int .i64 k/\KnW b (ghK s.heap.size B) r k wr/\aS w.heap.size w wr/\b<=wr.heap.size) (λi _=>11-(intOf i).toNat)
 .exact⟨0,by omega,rfl,V.out,Q.out,Z0.out⟩
 obtain⟨k,hk,rfl,F,f,a⟩:=hrel;have⟨N,t,T⟩:=aB F f a;clear F f a V Q Z0;by_cases m:k<11
 .have i1:(k:Int)<11:=(by omega);have d:=bR4 m N.out T.out u.out.evs;obtain⟨D,o,Bs,S,R,-⟩:=id N.out;obtain⟨p,O⟩:∃p,p=bj0 s.heap.size k:=⟨_,rfl⟩;have hc:=u.out.cells R.gh m O;rw[<-O]at d;obtain⟨⟨pe,pk⟩,⟨kd,nm,pa,pb,pl,kp,tx⟩⟩:=p;unfold cm3 at d;dsimp only at hc d;obtain⟨c0,c1,c2,c3,c4,c5,c6⟩:=hc;have HD:=aH d;clear d R O;(go_wp2_with fail);refine HD.out.mono ?_;rintro e z ⟨rfl,a,G⟩;have⟨KZ,C⟩:=aA G (show aS w.heap.size w z/\b<=z.heap.size from⟨⟨a.os.trans t.out.os,a.tape.trans t.out.tape,a.output.trans t.out.output,aL t.out.size a.size,λj hj=>(a.block j (aW hj M.out)).trans (t.out.block j hj)⟩,aL T.out a.size⟩);clear a G c0 c1 c2 c3 c4 c5 c6;go_wp2;go_roundw
  .exact⟨k+1,by omega,by go_num,KZ.out,C.out.1,C.out.2⟩
  simp[intOf];omega
 obtain rfl:k=11:=(by omega);obtain⟨W,g,q,A,c,x0,x1,x2,P,hm⟩:=bA3 N.out;have HM:=aH hm;clear hm m hk;(go_wp2_with fail);refine P.mono ?_;rintro e w' ⟨rfl,rfl⟩;(go_wp2_with fail);refine P.mono ?_;rintro e w' ⟨rfl,rfl⟩;(go_wp2_with fail);refine HM.out.mono ?_;rintro e z ⟨⟨x,y,v,rfl⟩,a⟩;have HZ:=aH (aJ t.out a);clear a x0 x1 x2 P;have xf:∀(x y v:aN)(w:aI),(Instr.field 57 (.agg #[.int .i64 3,x,y,v]) 0).run prog w=.ok (.int .i64 3) w:=λ_ _ _ _=>(by kernel_rfl);go_wp2;go_ret;exact⟨rfl,HZ.out⟩
section
variable {w:aI}{base r W q g:Nat}{F:Gh}{h:dW}{D:aM}{o:iP}{cK aZ cap s:Nat}{vL vM:aN}{Bs:List kK}{S:Nat}
def bs5(H:lC w base F r W q g h D o cK aZ vL vM Bs S false)(P:iI cap aZ s D o Bs S)(E:s<89)(c:base<=w.heap.size)(p:Sp)(J:p.k≠11/\p.k≠12/\p.k≠13/\p.k≠14)(f:p.n.size<=1000000)(m:DQ p.a)(t:DQ p.b)(l:List Ev)(B:∀d,aS base w d->WE d (.slice p.E p.e p.f) l)(C:l.length<=1000)(a:List Int)(K:p.i=a.length)(A:a.length<=1000000)(L:∀d,aS base w d->Reads d (.slice p.K a.length p.j) 1 a.length (xA a))(M:∀n∈a,DQ n):
 Calls prog 11 #[.pointer (some ⟨r,0,none⟩),.agg p.c] w (λe z=>e=.returned (.bool true)/\bY3 base F r cK aZ cap s w z):=by
  have b:s<90:=(by omega);by_cases k:p.k=9
  .exact(af9 H P c p E k).mono λe z h=>sM.t h
  by_cases i:p.k=10
  .exact(aU6 H P c p i).mono λe z h=>sM.t h
  by_cases j:p.k<1\/14<p.k
  .exact(br9 H P c p j).mono λe z h=>sM.t h
  match o,H,P with
  |none,H,P=>exact cc7 H P c p (by omega)
  |some (G,I),H,P=>
   by_cases u:p.k=1
   .exact(CP H P b c p u f m l (λd k _=>B d k) C).mono λe z h=>sM.t h
   by_cases v:p.k=6
   .exact(aU4 H P b c p v).mono λe z h=>sM.t h
   by_cases x:p.k=7
   .exact(NG H P b c p x).mono λe z h=>sM.t h
   by_cases y:p.k=8
   .exact(WV H P b c p y m).mono λe z h=>sM.t h
   exact(GF H P b c p (by omega) f m t).mono λe z h=>sM.t h
end
end Go.Proofs.YtpopikndggffaaaGreatDoor
