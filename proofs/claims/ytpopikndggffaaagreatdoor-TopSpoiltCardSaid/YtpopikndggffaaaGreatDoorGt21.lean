/- TOP, part 21. -/
import Derived.Maps.Own
import Derived.Maps.OwnOps
import Derived.Shelf.Spec.SlicesGrow
import Derived.Test.YtpopikndggffaaaGreatDoorGt19
namespace Go.Proofs.YtpopikndggffaaaGreatDoor
set_option linter.all false
set_option maxRecDepth 100000
set_option maxHeartbeats 16000000
open Go.RowKit Go.Maps Tryz
variable{b:Bool}{i j k m n:Nat}{a w x y:aI}{D:aL}{u v:aN}{K:bH->Nat}{H:bH->aN}{G:cS}
def af8(w a:aI):Prop:=∀k,DT w k->DT a k/\∀b,b<w.heap.size->OwnAt a k b->OwnAt w k b
def af8.trans{a w x:aI}(b:af8 a w)(d:af8 w x)(g:a.heap.size<=w):af8 a x:=λk c=>
 ⟨(d k (b k c).1).1,λh e f=>(b k c).2 h e ((d k (b k c).1).2 h (aW e g) f)⟩
structure uJ(b m L:Nat)(v:aN)(w a:aI):Prop where
 os:a.os=w.os
 tape:a.tape=w.tape
 output:a.output=w.output
 size:w.heap.size<=a.heap.size
 block:∀k,k<w.heap.size->(k<b\/(k≠m/\¬DK w k/\k≠L/\v.ownBlock≠some k))->a.heap[k]?=w.heap[k]?
 kept:af8 w a
def uJ.nA(h:gX n k w x)(L:Nat)(v:aN):uJ n k L v w x:=⟨h.os,h.tape,h.output,h.size,λd c b=>h.block d c (b.imp id λa=>⟨a.1,a.2.1⟩),h.kept⟩
def uJ.cT(h:aR w w x)(a m L:Nat)(v:aN):uJ a m L v w x:=.nA (.cT h a m) L v
def uJ.refl(base m L:Nat)(v:aN)(w:aI):uJ base m L v w w:=.nA (.refl _ _ _) L v
def lA(w:aI)(v a:aN):Prop:=∀k,a.ownBlock=some k->v.ownBlock=some k\/w.heap.size<=k
def lA.refl(w:aI)(v:aN):lA w v v:=λ_ h=>.inl h
def lA.trans{a w:aI}{v z:aN}(b:lA a v u)(c:lA w u z)(e:a.heap.size<=w)(f:True):∀k,z.ownBlock=some k->v.ownBlock=k\/a.heap.size<=k:=λk d=>by
 rcases c k d with h|h
 .exact b k h
 exact .inr (aM e h)
def uJ.trans{n:Nat}{v:aN}{a w x:aI}(b:uJ n k m v a w)(p:lA a v u)(c:uJ n k m u w x):uJ n k m v a x:=⟨c.os.trans b.os,c.tape.trans b.tape,c.output.trans b.output,aM b.size c.size,λq h g=>by
 have e:=b.block q h g;refine(c.block q (aW h b.size) (g.imp id λd=>⟨d.1,λ⟨C,t,i,j,l⟩=>d.2.1 ⟨C,t,i,by rw[<-e];exact j,l⟩,d.2.2.1,λo=>?_⟩)).trans e;rcases p q o with f|f
 .exact d.2.2.2 f
 omega,b.kept.trans c.kept b.size⟩
structure l4(w:aI)(a d L:Nat)(G:cS)(c:Nat)(b:Bool)(v:aN):Prop where
 row:Row w L 171 [.pointer (some ⟨d,0,none⟩),.int .i64 (c:Nat),.bool b,v,.int .i64 (G.sure:Nat)]
 low:a<=L
 own:w.ownsRow a 3 1 v G.bV.length (fJ G.bV)
 apart:∀k,v.ownBlock=some k->¬OwnAt w d k
 eI:DT w d
 many:G.bV.length<=200
 small:∀n∈G.bV,n<=1048576
 sure:G.sure<=1000000000
def l4.next{w:aI}{base k:Nat}{st:Nat}{b:Bool}{v:aN}(h:l4 w base k m G st b v)(a:aR w w x):l4 x base k m G st b v:=by have⟨d,e⟩:=jW (n:=w.heap.size) (a.block k (n7 h.eI).lt) h.eI;exact⟨h.row.next a,h.low,bY h.own a,λg c f=>h.apart g c (e g (jN h.own g c) f),d,h.many,h.small,h.sure⟩
def iP:¬(171=103\/171=112\/171=5)/\¬(3=103\/3=112\/3=5)/\171≠3:=by decide
def bJ.rE(h:bJ w k n m D K H){i:Nat}{T:cC}{X:List aN}(b:Row w i T X):i≠m:=λa=>gJ h.map b a.symm
def l4.yH{base:Nat}(h:l4 w base n m G i b v)(c:bJ w base n k D K H)(a:gX base k w x):l4 x base n m G i b v:=by have⟨e,f⟩:=a.kept n h.eI;refine⟨a.row h.row iP.1 (c.rE h.row),h.low,?_,λj d g=>h.apart j d (f j (jN h.own j d) g),e,h.many,h.small,h.sure⟩;exact a.own h.own iP.2.1 c.map
def bJ.far{n:Nat}(h:bJ w k n m D K H)(c:∀q,q<w.heap.size->(q=m\/DK w q\/OwnAt w n q)->x.heap[q]?=w.heap[q]?):bJ x k n m D K H:=by have⟨a,i,b,j,d⟩:=h.row;refine⟨⟨a,i,b.of_block (c n b.lt (.inr (.inl (oF b (.inl rfl))))),j,d.eW λq e=>c q (d.row e).1.lt (.inr (.inr ⟨i,b.zc9,e⟩))⟩,h.low,oB h.map (c m h.map.lt (.inl rfl)),λr f l=>?_,h.apart,h.kV,h.cap,h.used,h.many,h.bQ,h.left,h.names,h.kept⟩;exact(h.files r f l).eW λq t p g o=>c q g.lt (.inr (.inl (oF g (o.elim (λh=>.inr (.inl h)) (λh=>.inr (.inr h))))))
def ax9(h:l4 w k n i G j b v)(f:bJ w k n m D K H)(M:Nat)(u:aN):bJ (w.setCell (zp i M) u) k n m D K H/\uJ k m i v w (w.setCell (zp i M) u)/\(∀N,N≠i->(w.setCell (zp i M) u).heap[N]?=w.heap[N]?):=by
 have d:∀N,N≠i->(w.setCell (zp i M) u).heap[N]?=w.heap[N]?:=λN o=>aU _ _ _ _ o;refine⟨f.far λN l a=>d N (λe=>?_),⟨rfl,rfl,rfl,by simp,λN l a=>d N (λe=>?_),λN c=>jW (d N (oP c h.row (by decide))) c⟩,d⟩
 .subst e;rcases a with a|⟨C,t,F,r,B⟩|a
  .exact f.rE h.row a
  .obtain⟨E,s,g,-⟩:=h.row;rw[g]at r;cases r;exact iP.1 B
  have⟨p,J,x,I,y⟩:=f.row;have⟨L,q,z⟩:=a;rw[x.zc9]at q;cases q;exact iP.2.2 (dD h.row (y.row z).1)
 rcases a with a|⟨-,-,A,-⟩
 .have:=h.low;omega
 exact A e
def NG(h:l4 w k n i G D.bQ false v)(c:bJ w k n m D K H)(f:D.down=false):Calls prog 108 #[zp i] w λe a=>e=()/\aR w w a:=by
 have r:∀x:dR w,x.it.cell? (zp i)=some (.pointer (some ⟨n,0,none⟩)):=λx=>(h.next x.ok).row.lO;have s:∀x:dR w,x.it.cell? (zp i 1)=some D.bQ:=λx=>(h.next x.ok).row.qD;have t:∀x:dR w,x.it.cell? (zp i 2)=some false:=λx=>(h.next x.ok).row.tW;have q:=h.row.lO;have j:∀x:dR w,Calls prog 29 #[zp n] x.it λe a=>e=true/\aR x.it x.it a:=λx=>(BP (c.next x.ok)).mono λe a b=>⟨by rw[b.1,f];rfl,by rw[b.2];exact bR _ _⟩;have g:∀x:dR w,Calls prog 117 #[zp n] x.it λe a=>e=D.bQ/\aR x.it x.it a:=λx=>(WB (c.next x.ok)).mono λe a b=>⟨b.1,by rw[b.2];exact bR _ _⟩;have l:=c.bQ;generalize D.bQ=S at *;clear h c;go_in;(go_wp2_with fail);refine cI (by kernel_rfl) (by kernel_rfl) ?_;repeat go_big_quiet_step (first|(go_at_call 29;exact eL _ (j _))|(go_at_call 117;exact eL _ (g _)))
 refine wpQuiet_nil ?_;intro _ o;obtain⟨⟨p,d⟩,rfl⟩:=o;go_wp2;go_ret;exact⟨rfl,d⟩
def aP7(h:l4 w k n i G j b v)(a:bJ w k n m D K H)(x:Nat)(t:x<=1000000000):Calls prog 204 #[zp i,x] w λe l=>e=(zR D x)/\aR w w l:=by
 have o:=h.row.lO;have d:=UD a;have r:=a.cap;have s:=a.used;have f:(D.free:Int)<=1048576/\0<=D.free:=(by unfold aL.free;omega);unfold zR;generalize D.free=F at *;have⟨p,q⟩:=f;have g:(x:Int)<=1000000000:=(by omega);clear h a;go_in;go_wp2_with fail
 go_call d as e u ⟨rfl,c⟩;go_wp2;go_ret;exact⟨rfl,c⟩
def l4.cQ3(h:l4 w m k i G j b v)(x:Bool):l4 (w.setCell (zp i 2) x) m k i G j x v:=by have e:∀p,p≠i->(w.setCell (zp i 2) x).heap[p]?=w.heap[p]?:=λp d=>aU _ _ _ _ d;have c:k≠i:=oP h.eI h.row (by decide);have⟨f,g⟩:=jW (n:=w.heap.size) (e k c) h.eI;refine⟨h.row.set 2 _,h.low,eS h.own λp a=>e p (λl=>?_),λp a o=>h.apart p a (g p (jN h.own p a) o),f,h.many,h.small,h.sure⟩;subst l;exact iP.2.2 (dD h.row (dX h.own a))
def ZS(h:l4 w k n i G j false v)(f:bJ w k n m D K H)(e:Int):Calls prog 110 #[zp i,e] w λx d=>x=.returned (.int .i64 e)/\bJ d k n m D K H/\l4 d k n i G j (decide (e=61)) v/\uJ k m i v w d:=by
 have g:=h.row.tW;have l:=h.row.QP;have⟨b,a⟩:=aA (h.cQ3 (decide (e=61))) (ax9 h f 2 (decide (e=61)));clear h f;by_cases c:e=61
 iterate 2
  .first|subst c;rw[show decide ((61:Int)=61)=true from rfl]at b a ⊢|rw[bN c]at b a|-
   go_in;go_wp2;go_ret;(try rw[show(e==61)=false from bA.2 c]);exact⟨rfl,a.1,b,a.2.1⟩
def zX(l:List Nat)(j:Nat)(h:j<(fJ l)):(fJ l)[j]=((l[j]'(by simpa using h):Nat):Int):=by simp[fJ,EM]
def XP(h:l4 w k n m G i b v):Calls prog 119 #[zp m] w λe B=>e=(kF G.bV:Nat)/\aR w w B:=by
 have f:=Reads.cX h.own;obtain⟨A,c,rfl,t,o,-⟩:=id f;have g:=h.many;unfold maxLen at o;have C:∀x:dR w,x.it.cell? ⟨m,3,none⟩=some (.slice A G.bV.length c):=λx=>(h.next x.ok).row.JF;have s:=h.row.JF;have p:=h.small;generalize G.bV=l at *;rcases dP l.length with j|j
 .have u:=eG.1 j;subst u;clear h f;go_in;go_wp2;go_ret;exact⟨rfl,iH⟩
 obtain⟨F,r,rfl,-,-,-,a⟩:=f.UK j;obtain⟨H,y⟩:∃H,l.length=H+1:=⟨l.length - 1,by omega⟩;have d:kF l=H*4096+l[H]'(by omega):=by unfold kF;rw[cp4,show l.length-1=H from by omega,aJ (by omega:H<l.length)]
 have z:l[H]'(by omega)<=1048576:=p _ (dC _);have D:w.cell? ⟨F,r+H,none⟩=some (.int .i64 (l[H]'(by omega):Nat)):=(a w iH H (by simp;omega)).trans (by rw[zX]);rw[d];clear d a f h;generalize l[H]'(by omega)=q at *;rw[y]at C s g;have E:((H:Int)+1)-1=H:=by omega
 go_in;go_wp2;go_ret;exact⟨rfl,iH⟩
variable{M:List Nat}
def LOp(a d m L k:Nat)(v:aN)(g:aN)(j:Int)(G:cS)(D:aL)(w:aI)(e:eY)(h:aI):Prop:=e=.returned g/\(∃c f,bJ h a d m D c f)/\(∃i b,l4 h a d L G k b i/\lA w v i/\(j≠61->b=false))/\uJ a m L v w h
def l4.cB7{n:Nat}(h:l4 w k n m G i b v)(q:Nat)(l:q<=1000000000):l4 (w.setCell (zp m 4) q) k n m {G with sure:=q} i b v:=by have e:∀p,p≠m->(w.setCell (zp m 4) q).heap[p]?=w.heap[p]?:=λp d=>aU _ _ _ _ d;have c:n≠m:=oP h.eI h.row (by decide);have⟨f,g⟩:=jW (n:=w.heap.size) (e n c) h.eI;refine⟨h.row.set 4 _,h.low,eS h.own λp a=>e p (λj=>?_),λp a o=>h.apart p a (g p (jN h.own p a) o),f,h.many,h.small,l⟩;subst j;exact iP.2.2 (dD h.row (dX h.own a))
def by1(c:M.length<=200)(a:∀n∈M,n<=1048576):kF M<=1000000000:=by
 unfold kF;split
 .omega
 rename_i k b;have:=a k (IA b);omega
def aP6(h:l4 w k n i G j false v)(N:bJ w k n m D K H)(hb:k<=w):Calls prog 152 #[zp i] w λe Q=>e=(gO G D).1/\(∃K H,bJ Q k n m (gO G D).2.2 K H)/\l4 Q k n i (gO G D).2.1 j false v/\uJ k m i v w Q:=by
 obtain⟨A,c,rfl,h1,M,-⟩:=id (Reads.cX h.own);have s:=h.many;have O:=by1 h.many h.small;unfold maxLen at M;have⟨S,R⟩:=aA h N;have V:=h.row.JF;by_cases u:G.bV=[]
 .have E:gO G D=(0,G,D):=(by unfold gO;rw[aV u]);have h0:G.bV.length=0:=(by rw[u];rfl);rw[E];rw[h0]at V;clear E u h N;go_in;go_wp2;go_ret;exact⟨rfl,⟨_,_,R⟩,S,uJ.refl _ _ _ _ _⟩
 obtain⟨h2,P⟩:∃h2,G.bV.length=h2+1:=⟨G.bV.length - 1,by have:=qL.2 u;omega⟩;have E:gO G D=((D.sync (iJ h2)).1,if(D.sync (iJ h2)).1=0 then {G with sure:=kF G.bV} else G,(D.sync (iJ h2)).2):=(by unfold gO;rw[aP u,P];rfl);rw[P]at V s;have z0:∀x:dR w,x.it.cell? (zp i)=some (.pointer (some ⟨n,0,none⟩)):=λx=>(h.next x.ok).row.lO;have z3:∀x:dR w,x.it.cell? (zp i 3)=some (.slice A (h2+1) c):=λx=>(by rw[<-P];exact(h.next x.ok).row.JF);have Y:=λx:aI=>rR (h2:Int) x ⟨by omega,by omega⟩;have a:=λ(x:aI)(hx:bJ x k n m D K H)(L:k<=x)=>GX hx (lR 99 (h2:Int)) (jV _ _) L;rw[uT]at a;have T:=aH E;have Z:IntKind.i64.wrap ((((h2+1:Nat):Int))-1)=(h2:Int):=(by rw[cQ];omega);have e2:IntKind.i64.wrap (((h2:Int)+1)-1)=(h2:Int):=(by rw[cQ];omega);have⟨r,X⟩:=fR (D.sync (iJ h2));rw[<-X]at a T;clear E u h N X;go_in;(go_wp2_with fail);refine jF (by kernel_rfl) (by kernel_rfl) (by kernel_rfl) (by kernel_rfl) (by kernel_rfl) ?_;simp only[List.dropLast,List.drop,List.length,zA];repeat go_big_quiet_step ((go_at_call 109;exact eL _ (Y _)))
 refine wpQuiet_nil ?_;rintro _ ⟨⟨wq,o⟩,rfl⟩;clear z0 z3 Z e2;have f:=R.next o;have l:=S.next o;have⟨r1,r2⟩:=r;unfold rI at a;by_cases C:r1=0
 iterate 2
  ·(try subst C);(go_wp2_with fail);go_call a _ f (aM hb o.size) as e w2 ⟨rfl,⟨U,W,t⟩,b⟩;(first|have q:=l.yH f b|have p:=aH (l.yH f b));have B:=aH t;(try have p:=aH q);have y:=aH ((gX.cT o k m).trans b);(first|(have hE:=XP q;clear t q b f l a;go_wp2_with fail;go_call hE as e w3 ⟨rfl,g⟩;have F:=B.next g;have d:=p.next g;(have f4:=d.row.zf4);(have c4:=d.row.zc4);have⟨z,J⟩:=aA (ax9 d F 4 (kF G.bV:Nat)) (d.cB7 (kF G.bV) O);have I:=aH ((uJ.nA (y.trans (gX.cT g k m)) i (.slice A G.bV c)).trans (lA.refl _ _) z.2.1);clear F d hE g)|clear t b f l a);go_wp2;go_ret;rw[T.zz];first|exact⟨rfl,⟨_,_,z.1⟩,J,I⟩|simp only[aP C];exact⟨rfl,⟨_,_,B⟩,p,uJ.nA y _ _⟩
def ap2(h:l4 w k n i G D.bQ false v)(B:bJ w k n m D K H)(O:k<=w)(E:D.down=false):Calls prog 100 #[zp i] w (LOp k n m i D.bQ v (gO G D).1 (gO G D).1 (gO G D).2.1 (gO G D).2.2 w):=by
 have F:=NG h B E;have⟨N,M⟩:=aA h B;clear h B;unfold LOp;have b:=λ(x:aI)(P:l4 x k n i G D.bQ false v)(C:bJ x k n m D K H)(A:k<=x)=>aP6 P C A;have⟨r,L⟩:=fR (gO G D);rw[<-L]at b|-;clear L;have⟨Q,S,T⟩:=r;go_in;go_wp2_with fail
 go_call F as e R ⟨rfl,a⟩;have l:=N.next a;have c:=M.next a;have s:=b R l c (aM O a.size);clear F b l c;go_wp2_with fail
 go_call s as e U ⟨rfl,⟨I,J,d⟩,o,g⟩;have q:=ZS o d Q;have u:=aH ((uJ.cT a k m i v).trans (lA.refl _ _) g);clear d o g s;go_wp2_with fail
 go_call q as e V ⟨rfl,f,p,j⟩;have⟨t,z,y⟩:=aB f p (u.trans (lA.refl _ _) j);clear f p j q;go_wp2;go_ret;exact⟨rfl,⟨_,_,t⟩,⟨_,_,z,lA.refl _ _,λh=>bN h⟩,y⟩
def l4.bh0(h:l4 w k n i G j b v)(E:bJ w k n m D K H)(o:Obj)(h6:Nat)(hn:h6<=1048576)(S:G.bV.length<200) (l:x.ownsRow k 3 1 u (G.bV+1) (fJ G.bV++[.int .i64 h6])) (y:(w.alloc o).grownBy x v.ownBlock) (Q:u.ownBlock=v.ownBlock\/u.ownBlock=some (w.alloc o).heap.size) :Row x i 171 [zp n,j,b,v,G.sure]/\l4 (x.setCell (zp i 3) u) k n i {G with bV:=G.bV++[h6]} j b u/\bJ (x.setCell (zp i 3) u) k n m D K H/\uJ k m i v w (x.setCell (zp i 3) u)/\lA w v u:=by
 have r:w.heap.size<=(w.alloc o).heap.size:=by rw[bD];omega
 have J:∀h0,v.ownBlock=some h0->h0≠i:=λh0 a d=>by subst d;exact iP.2.2 (dD h.row (dX h.own a))
 have U:∀h0,v.ownBlock=some h0->n≠h0:=λh0 a=>oP h.eI (dX h.own a) (by decide);have R:n≠i:=oP h.eI h.row (by decide);have M:∀h0,h0<w.heap.size->h0≠i->v.ownBlock≠some h0->(x.setCell ⟨i,3,none⟩ u).heap[h0]?=w.heap[h0]?:=λh0 c A V=>by rw[aU _ _ _ _ A,y.block h0 (aW c r) (λa=>V a.symm)];exact n8 w o h0 c
 have q:lA w v u:=λh0 a=>by
  rcases Q with d|d
  .exact .inl (by rw[<-d];exact a)
  rw[d]at a;cases a;exact .inr r
 have W:Row x i 171 _:=(h.row.alloc o).grown y (λa=>J i a.symm rfl);have f:=M n (n7 h.eI).lt R (λa=>U n a rfl);have⟨Y,Z⟩:=jW (n:=(x.setCell ⟨i,3,none⟩ u).heap.size+1) f h.eI;have I:∀h0,u.ownBlock=some h0->h0≠i:=λh0 a=>by
  rcases q h0 a with d|d
  .exact J h0 d
  have:=h.row.lt;omega
 refine⟨W,⟨?_,h.low,?_,λh0 a ho=>?_,Y,?_,λz L=>?_,h.sure⟩,E.far λh0 c e=>M h0 c (λa=>?_) (λa=>?_),⟨y.os,y.tape,y.output,aM r (by simpa using y.size),λh0 c e=>M h0 c (λa=>?_) (λa=>?_),λh0 f=>jW (M h0 (n7 f).lt (oP f h.row (by decide)) (λa=>oP f (dX h.own a) (by decide) rfl)) f⟩,q⟩
 .exact W.set 3 u
 .show(x.setCell ⟨i,3,none⟩ u).ownsRow k _ 1 u (G.bV++[h6]).length (fJ (G.bV++[h6]));rw[yM,aO];exact eS l λh0 a=>aU _ _ _ _ (I h0 a)
 .have c:h0<(x.setCell ⟨i,3,none⟩ u).heap.size+1:=by have:=jN l h0 a;simp;omega
  have F:=Z h0 c ho;rcases q h0 a with d|d
  .exact h.apart h0 d F
  obtain⟨s,kv,A,-,O⟩:=E.row;have⟨v9,B,P⟩:=F;rw[A.zc9]at B;cases B;have:=(O.row P).1.lt;omega
 .show(G.bV++[h6]).length<=200;rw[aO];simp;omega
 .rcases cB.1 L with L|L
  .exact h.small z L
  simp at L;omega
 .subst a;rcases e with e|⟨C,t,fr,g,T⟩|e
  .exact E.rE h.row e
  .obtain⟨X,N,p,-⟩:=h.row;rw[p]at g;cases g;exact iP.1 T
  have⟨s,kv,A,V,O⟩:=E.row;have⟨v9,B,P⟩:=e;rw[A.zc9]at B;cases B;exact iP.2.2 (dD h.row (O.row P).1)
 .rcases e with e|⟨C,t,fr,g,T⟩|e
  .exact E.rE (dX h.own a) e
  .obtain⟨X,N,p,-⟩:=dX h.own a;rw[p]at g;cases g;exact iP.2.1 T
  exact h.apart h0 a e
 .rcases e with e|⟨-,-,d,-⟩
  .have:=h.low;omega
  exact d a
 rcases e with e|⟨-,-,-,d⟩
 .have:=dH h.own h0 a;omega
 exact d a
def ce1(h:l4 w k n i G j false v)(hd:bJ w k n m D K H)(hb:k<=w)(hj e:Nat)(s:aS)(hn:hj<=1000000)(he:e<=s)(hs:s.size<=1048576)(C:G.bV.length<200):Calls prog 177 #[zp i,hj,s,e] w λx w'=>x=.returned (.int .i64 (wF D hj (lb s) e G.bV).1)/\(∃K H,bJ w' k n m (wF D hj (lb s) e G.bV).2.2 K H)/\(∃v',l4 w' k n i {G with bV:=(wF D hj (lb s) e G.bV).2.1} j false v'/\lA w v v')/\uJ k m i v w w':=by
 have HC:=λx:aI=>rR (hj:Int) x ⟨by omega,by omega⟩;have⟨HH,HD⟩:=aA h hd;by_cases t:e=0
 .have L:wF D hj (lb s) e G.bV=((D.delete (iJ hj)).1,G.bV,(D.delete (iJ hj)).2):=(by unfold wF;rw[aV t]);have f:=λ(x:aI)(hx:bJ x k n m D K H)(A:k<=x.heap.size)=>wJ hx (lR 99 (hj:Int)) (jV _ _) A;rw[uT]at f;rw[L];subst t;generalize D.delete (iJ hj)=r at f|-;clear L h hd;unfold rI at f;go_in;go_wp2_with fail
  go_call HC _ as x w1 ⟨rfl,a⟩;have c:=HH.next a;have d:=HD.next a;have c0:=c.row.lO;go_wp2_with fail
  go_call f w1 d (aM hb a.size) as x w2 ⟨rfl,⟨h9,ha,h4⟩,W⟩;have⟨h6,h7,h5⟩:=aB (c.yH d W) h4 ((gX.cT a k m).trans W);clear h4 W c d a f c0;go_wp2;go_ret;exact⟨rfl,⟨_,_,h7⟩,⟨_,h6,lA.refl _ _⟩,uJ.nA h5 _ _⟩
 have⟨i0,hc,hf,hg,hh⟩:=info_parts nH;have e0:¬(e:Int)=0:=(by omega);have E:=h.own;have Y:=h.row.zf3;by_cases h3:e<s.size
 .have L:wF D hj (lb s) e G.bV=((D.GZ (iJ hj) ((lb s).take e)).1,G.bV++[e],(D.GZ (iJ hj) ((lb s).take e)).2):=(by unfold wF;rw[aP t,aV (by rw[bI];exact h3)]);have f:=λ(x:aI)(K:bH->Nat)(H:bH->aN)(hx:bJ x k n m D K H)(A:k<=x.heap.size)=>ce3 hx A (lR 99 (hj:Int)) (s.extract 0 e) (jV _ _) (by rw[dY,eO];simp;omega);have h2:lb (s.extract 0 e)=(lb s).take e:=(by rw[dY,gP];simp);rw[uT,h2]at f;rw[L];generalize D.GZ (iJ hj) ((lb s).take e)=r at f|-;have⟨r1,r2⟩:=r;have i1:(e:Int)<s.size:=(by omega);have i2:(e:Int)<=s.size:=(by omega);have i3:(0:Int)<=e:=(by omega);clear L h hd E Y t h2;unfold rI at f;go_in;go_wp2_with fail
  go_call HC _ as x w1 ⟨rfl,a⟩;have c:=HH.next a;have d:=HD.next a;have h8:=aM hb a.size;have c3:=c.row.JF;have⟨u,y,O⟩:=aB a c d;clear c d a;(go_wp2_with (at_builtin;refine MG nH underlying33 y.own rfl rfl rfl rfl rfl (by omega) (by omega) ?_;intro v2 w2 b B g;obtain⟨N,U,rfl,-⟩:=id (Reads.cX b);have⟨M,Z,q3,q4,q5⟩:=y.bh0 O _ e (by omega) C b B g;have Y:=M.zf3;have c9:=M.JF;have Q:=aH (And.intro Z (And.intro q3 (And.intro q4 q5)));clear M Z q3 q4 q5 b B g));have l:=Q.zz.1;have p:=Q.zz.2.1;have o:=aH ((uJ.cT u k m i v).trans (lA.refl _ _) Q.2.2.1);have z:=aH (show lA w v (.slice N (G.bV.length+1) U)from λhi hk=>(Q.2.2.2 hi hk).imp id (λh=>aM u.size h));generalize w2.setCell ⟨i,3,none⟩ (.slice N (G.bV.length+1) U)=w3 at l p o|-;have V:k<=w3.heap.size:=aM hb o.size;have z0:∀x:dR w3,x.it.cell? ⟨i,0,none⟩=some (.pointer (some ⟨n,0,none⟩)):=λx=>(l.next x.ok).row.lO;have R:=aH l;have J:=aH p;clear l p Q c3 Y c9;refine jF (by kernel_rfl) (by kernel_rfl) (by kernel_rfl) (by kernel_rfl) (by kernel_rfl) ?_;simp only[List.dropLast,List.drop,List.length];repeat (first|go_big_quiet_skip|(go_big_quiet_want;go_big_quiet_op;go_big_quiet_on))
  refine wpQuiet_nil ?_;rintro _ ⟨⟨wq,I⟩,rfl⟩;clear z0;have X:=J.next I;go_wp2_with fail
  go_call f _ _ _ X (aM V I.size) as x w5 ⟨rfl,⟨h0,h1,F⟩,q⟩;have⟨S,T,P⟩:=aB ((R.next I).yH X q) F (o.trans z (uJ.nA ((gX.cT I k m).trans q) i (.slice N (G.bV.length+1) U)));clear F q X f I;go_wp2;go_ret;exact⟨rfl,⟨_,_,T⟩,⟨_,S,z⟩,P⟩
 have L:wF D hj (lb s) e G.bV=((D.sync (iJ hj)).1,G.bV++[e],(D.sync (iJ hj)).2):=(by unfold wF;rw[aP t,aP (by rw[bI];exact h3)]);have f:=λ(x:aI)(K:bH->Nat)(H:bH->aN)(hx:bJ x k n m D K H)(A:k<=x.heap.size)=>GX hx (lR 99 (hj:Int)) (jV _ _) A;rw[uT]at f;rw[L];generalize D.sync (iJ hj)=r at f|-;have⟨r1,r2⟩:=r;have i1:¬(e:Int)<s.size:=(by omega);clear L h hd E Y t;unfold rI at f;go_in;go_wp2_with fail
 go_call HC _ as x w1 ⟨rfl,a⟩;have c:=HH.next a;have d:=HD.next a;have h8:=aM hb a.size;have c3:=c.row.JF;have⟨u,y,O⟩:=aB a c d;clear c d a;(go_wp2_with (at_builtin;refine MG nH underlying33 y.own rfl rfl rfl rfl rfl (by omega) (by omega) ?_;intro v2 w2 b B g;obtain⟨N,U,rfl,-⟩:=id (Reads.cX b);have⟨M,Z,q3,q4,q5⟩:=y.bh0 O _ e (by omega) C b B g;have Y:=M.zf3;have b0:=M.lO;have b1:=Z.row.lO;have c9:=M.JF;have Q:=aH (And.intro Z (And.intro q3 (And.intro q4 q5)));clear M Z q3 q4 q5 b B g));have l:=Q.zz.1;have p:=Q.zz.2.1;have o:=aH ((uJ.cT u k m i v).trans (lA.refl _ _) Q.2.2.1);have z:=aH (show lA w v (.slice N (G.bV.length+1) U)from λhi hk=>(Q.2.2.2 hi hk).imp id (λh=>aM u.size h));clear b1;generalize w2.setCell ⟨i,3,none⟩ (.slice N (G.bV.length+1) U)=w3 at l p o|-;have V:k<=w3.heap.size:=aM hb o.size;have R:=aH l;have J:=aH p;clear l p Q c3 Y c9 b0;go_wp2_with fail
 go_call f _ _ _ J V as x w5 ⟨rfl,⟨h0,h1,F⟩,q⟩;have⟨S,T,P⟩:=aB (R.yH J q) F (o.trans z (uJ.nA q i (.slice N (G.bV.length+1) U)));clear F q f;go_wp2;go_ret;exact⟨rfl,⟨_,_,T⟩,⟨_,S,z⟩,P⟩
def ba7(l:bH):∀k a,a<=l.length->(rC l k a).2<=l:=by
 intro k;induction k with
 |zero=>intro a h;exact h
 |succ k c=>
  intro a h;by_cases b:recAt l a=true
  .rw[CB b];exact c _ (oN b).2.2
  rw[qE (by simpa using b)];exact h
def cy9(l:bH)(n:Int):aj8 l n<=l:=by
 unfold aj8;split
 .unfold QR;split
  .exact bK _
  rename_i h;exact ba7 l _ _ (by omega)
 exact bK _
def cv0(h:bJ w k n m D K H)(b:Nat):(D.load b).1.2<=(D.load b).1.1/\(D.load b).1.1.length<=1048576:=by
 unfold aL.load;split
 .exact⟨dQ,by simp⟩
 rename_i f a;split
 .exact⟨cy9 _ _,(h.data a).2⟩
 exact⟨dQ,by simp⟩
def ce0(h:l4 w k n i G j false v)(hd:bJ w k n m D K H)(hb:k<=w)(ha:D.down=false)(hG:G.bV=[])(a:Nat)(hm:a<=200):Calls prog 118 #[zp i,a] w λx w'=>x=.returned (.int .i64 (nF D a a 0 []).1)/\(∃K H,bJ w' k n m (nF D a a 0 []).2.2 K H)/\(∃N,l4 w' k n i {G with bV:=(nF D a a 0 []).2.1} j false N/\lA w v N)/\uJ k m i v w w':=by
 have⟨HH,HD,h5⟩:=aB h hd (λho=>cv0 hd ho);have P:=λ(x:aI)(O:bJ x k n m D K H)(ho:Nat)(hn:ho<=1000000)=>ce2 O ha ho hn;have⟨R,hR⟩:=fR (nF D a a 0 []);rw[<-hR];obtain⟨HR,HG⟩:=aA hR (show G={G with bV:=[]} from by cases G;simp at hG;rw[hG]);clear h hd hR hG;go_in;go_wp2_with fail
 go_loopw [4,5,6,7,8,10] (λ_ _ _ _ _ hh wr=>∃(hl:Nat)(u:List Nat)(N:aN),hl<=a/\hh=.int .i64 hl/\u=hl/\R=nF D a (a - hl) hl u/\l4 wr k n i {G with bV:=u} j false N/\lA w v N/\bJ wr k n m D K H/\uJ k m i v w wr) (λ_ _ _ _ _ hh _=>a - (intOf hh).toNat)
 .exact⟨0,[],v,bK _,rfl,rfl,HR,by rw[<-HG.zz];exact HH,lA.refl _ _,HD,uJ.refl _ _ _ _ _⟩
 obtain⟨hl,u,N,hk,rfl,h1,f,C,L,A,B⟩:=hrel;by_cases hg:hl<a
 .have i1:(hl:Int)<a:=(by omega);obtain⟨hi,hj⟩:∃hi,a - hl=hi+1:=⟨a - hl - 1,by omega⟩;rw[hj]at f;unfold nF at f;have Y:=h5 hl;have p:=P wr A hl (by omega);obtain⟨⟨⟨s,e⟩,er⟩,hq⟩:∃q,q=D.load hl:=⟨_,rfl⟩;rw[<-hq]at f Y p;clear hq;simp only at f Y p;have h9:k<=wr:=aM hb B.size;have c0:=C.row.lO;have⟨I,E,F,b,HK⟩:=aD C A B L f;clear f C A B L P;have⟨T,hT⟩:=fR (bs s);have hf:T.size=s:=(by rw[hT,eO]);rw[<-hT]at p;have HT:=aH hT;clear hT;by_cases U:er=0
  .subst U;(go_wp2_with fail);go_call p as x w2 ⟨rfl,z,d⟩;have⟨y,l,g⟩:=aB z (I.yH E d) (F.trans b (uJ.nA d i N));have h7:k<=w2:=aM h9 d.size;clear z d p;by_cases o:hl+1=a
   .have i2:(a:Int)-1=(hl:Int):=(by omega);have J:=ce1 l y h7 hl e T (by omega) (by omega) (by omega) (by show u.length<200;omega);rw[HT.zz,gP]at J;rw[<-HT.zz]at J;have c:=aH (show R=wF D hl s e u from by rw[HK.zz,aP (by simp),aV o]);(go_wp2_with fail);go_call J as x w3 ⟨rfl,⟨hc,he,S⟩,⟨v3,X,h0⟩,V⟩;obtain⟨h2,h4,h6,h3⟩:=aC S X (b.trans h0 (by have:=g.size;omega) trivial) (g.trans b V);clear S X h0 V J;go_wp2;go_ret;rw[c.zz];exact⟨rfl,⟨_,_,h2⟩,⟨_,h4,h6⟩,h3⟩
   have i2:¬(hl:Int)=(a:Int)-1:=(by omega);by_cases t:e=0\/e<s
   .have c:=aH (show R=(63,u,D)from by rw[HK.zz,aP (by simp),aP o,aV t]);rcases(show e=0\/(e≠0/\e<T)from by omega)with rfl|⟨g1,g2⟩
    iterate 2
     ·(try ((have g3:¬(e:Int)=0:=by omega);(have g4:(e:Int)<T:=by omega)));clear t;go_wp2;go_ret;rw[c.zz];exact⟨rfl,⟨_,_,y⟩,⟨_,l,b⟩,g⟩
   have c:=aH (show R=nF D a hi (hl+1) (u++[e])from by rw[HK.zz,aP (by simp),aP o,aP t]);have g3:¬(e:Int)=0:=(by omega);have g4:¬(e:Int)<T.size:=(by omega);have c3:=l.row.JF;clear t;go_wp2_with (at_builtin;refine MG (n:=u.length) (xs:=fJ u) nH underlying33 l.own rfl rfl rfl rfl rfl (by omega) (by omega) ?_;intro v2 w4 r W M;obtain⟨A2,c2,rfl,-⟩:=id (Reads.cX r);have⟨q1,q2,q3,q4,q5⟩:=l.bh0 y _ e (by omega) (by show u.length<200;omega) r W M;have f3:=q1.zf3;have c9:=q1.JF;have Q:=aH (And.intro q2 (And.intro q3 (And.intro q4 q5)));clear q1 q2 q3 q4 q5 r W M)
   .exfalso;rename_i O;rcases O with O|O
    .simp at O;omega
    omega
   have Z:=g.size;have Q2:=Q.zz;rw[h1]at Q2;have Q3:=aH Q2;clear Q2 Q;refine⟨⟨hl+1,u++[e],_,by omega,by go_num,by simp[h1],by rw[c.zz,show a-(hl+1)=hi from by omega],Q3.1,?_,Q3.2.1,g.trans b Q3.2.2.1⟩,by simp[intOf];omega⟩;intro q hq;rcases Q3.zz.2.2.2 q hq with h8|h8
   .exact b q h8
   exact .inr (aM Z h8)
  go_wp2_with fail
  go_call p as x w2 ⟨rfl,z,d⟩;obtain⟨y,l,g,c⟩:=aC z (I.yH E d) (F.trans b (uJ.nA d i N)) (show R=(er,u,D)from by rw[HK.zz,aV U]);clear z d p;go_wp2;go_ret;rw[c.zz];exact⟨rfl,⟨_,_,y⟩,⟨_,l,b⟩,g⟩
 obtain rfl:hl=a:=(by omega);obtain⟨c,I,E,F,b⟩:=aD (show R=(0,u,D)from by rw[f,iM];rfl) C A B L;clear C A B L f;go_wp2;go_ret;rw[c.zz];exact⟨rfl,⟨_,_,E⟩,⟨_,I,b⟩,F⟩
def uJ.fresh(a:gX n k x w)(b:uJ n k m v w y)(o:x<=m)(l:∀p,v.ownBlock=some p->x.heap.size<=p):uJ n k x zs x y:=⟨b.os.trans a.os,b.tape.trans a.tape,b.output.trans a.output,aM a.size b.size,λp f d=>by
 have e:=a.block p f (d.imp id λc=>⟨c.1,c.2.1⟩);refine(b.block p (aW f a.size) (d.imp id λc=>⟨c.1,λ⟨C,t,g,h,i⟩=>c.2.1 ⟨C,t,g,by rw[<-e];exact h,i⟩,by omega,λj=>?_⟩)).trans e;have:=l p j;omega,af8.trans a.kept b.kept a.size⟩
def uJ.cH5(a:uJ n k x zs x w)(b:uJ n k m v w y)(o:x<=m)(l:∀p,v.ownBlock=some p->x.heap.size<=p):uJ n k x zs x y:=⟨b.os.trans a.os,b.tape.trans a.tape,b.output.trans a.output,aM a.size b.size,λp f d=>by
 have e:=a.block p f d;refine(b.block p (aW f a.size) (d.imp id λc=>⟨c.1,λ⟨C,t,g,h,i⟩=>c.2.1 ⟨C,t,g,by rw[<-e];exact h,i⟩,by omega,λj=>?_⟩)).trans e;have:=l p j;omega,af8.trans a.kept b.kept a.size⟩
def bb3(h:D.down=false)(a:D.gS.1=0):D.gS.2.down=false:=by
 unfold aL.gS aL.delete aL.change at a|-;rw[h]at a|-;simp only[bU,dW]at a|-;by_cases c:(bO D.files dI).isSome=true
 .rw[aV c]at a|-;have⟨f,d⟩:=cA8.1 c;rw[d]at a|-;simp only at a|-;by_cases b:D.rU=true
  .rw[aV b]at a;simp at a
  rw[aP b];exact h
 rw[aP c];exact h
def cb5(o:Option cS)(L:Nat)(e:Int):aN:=match o with
 |none=>.tuple #[.pointer none,.int .i64 e]
 |some _=>.tuple #[.pointer (some ⟨L,0,none⟩),.int .i64 e]
def ce5(F:bJ w k n m D K H)(hb:k<=w):Calls prog 76 #[zp n] w λx o=>∃L,x=.returned (cb5 (kB D).2.1 L (kB D).1)/\(∃K H,bJ o k n m (kB D).2.2 K H)/\(∀G,(kB D).2.1=some G->w.heap.size<=L/\∃v,l4 o k n L G D.gS.2.bQ false v/\∀x2,v.ownBlock=some x2->w.heap.size<=x2)/\uJ k m w zs w o:=by
 have Y:=BP F;have HD:=aH F;by_cases I:D.down=true
 .have hO:kB D=(61,none,D):=(by unfold kB;rw[aV I]);have E:=uH F ⟨#[]⟩ (by show 0<=_;unfold maxLen;omega);rw[show D.size (lb ⟨#[]⟩)=(0,61)from by unfold aL.size;rw[aV I]]at E;rw[I]at Y;have HO:=aH hO;clear F hO;go_in;go_wp2_with fail
  go_call Y as x o ⟨rfl,rfl⟩;go_wp2_with fail
  go_call E as x o ⟨rfl,rfl⟩;go_wp2;go_ret2;rw[HO.zz];exact⟨0,rfl,⟨_,_,HD⟩,(λ_ h=>by cases h),uJ.refl _ _ _ _ _⟩
 have l:D.down=false:=(by simpa using I);have E:=uH F aO2 C3;rw[NJ]at E;have d:=wJ F aO2 C3 hb;rw[NJ]at d;unfold rI at d;rw[l]at Y;have e:kB D=if D.gS.1≠0 then(D.gS.1,none,D.gS.2)else if D.gS.2.count.2=false then(63,none,D.gS.2)else if(nF D.gS.2 D.gS.2.count.1 D.gS.2.count.1 0 []).1≠0 then((nF D.gS.2 D.gS.2.count.1 D.gS.2.count.1 0 []).1,none,(nF D.gS.2 D.gS.2.count.1 D.gS.2.count.1 0 []).2.2)else(0,some ⟨(nF D.gS.2 D.gS.2.count.1 D.gS.2.count.1 0 []).2.1,kF (nF D.gS.2 D.gS.2.count.1 D.gS.2.count.1 0 []).2.1⟩,(nF D.gS.2 D.gS.2.count.1 D.gS.2.count.1 0 []).2.2):=by
  conv=>lhs;unfold kB
  rw[aP (by rw[l];simp)]
 have j:=bb3 l;rcases U:bO D.files dI with _|f
 focus
  have Z:D.size dI=(0,4):=(by unfold aL.size;rw[l,U];rfl);have e2:D.gS=(0,D):=(by unfold aL.gS;rw[U];rfl);rw[Z]at E;rw[e2]at e j|-;have⟨c,t⟩:=fR D;have O:kB D=if c.count.2=false then(63,none,c)else if(nF c c.count.1 c.count.1 0 []).1≠0 then((nF c c.count.1 c.count.1 0 []).1,none,(nF c c.count.1 c.count.1 0 []).2.2)else(0,some ⟨(nF c c.count.1 c.count.1 0 []).2.1,kF (nF c c.count.1 c.count.1 0 []).2.1⟩,(nF c c.count.1 c.count.1 0 []).2.2):=(by rw[e,aP (by simp),t]);have M:c.down=false:=(by rw[t];exact l);have g:bJ w k n m c K H:=(by rw[t];exact HD);have i:=gX.refl k m w;rw[show((0,D):Int×aL).2.bQ=c.bQ from by rw[t]];clear F d e j Z e2 t U;go_in;go_wp2_with fail
  go_call Y as x o ⟨rfl,rfl⟩;go_wp2_with fail
  go_call E as x o ⟨rfl,rfl⟩;have⟨p,C⟩:=aA g i;clear g i
 rotate_left
 focus
  have Z:D.size dI=(f.data.length,0):=(by unfold aL.size;rw[l,U];rfl);have e2:D.gS=D.delete dI:=(by unfold aL.gS;rw[U];rfl);rw[Z]at E;rw[e2]at e j|-;obtain⟨⟨r1,c⟩,hr⟩:∃r,r=D.delete dI:=⟨_,rfl⟩;rw[<-hr]at d e j|-;simp only at e j d|-;by_cases ho:r1=0;rotate_left
  .have O:=aH (show kB D=(r1,none,c)from e.trans (aV ho));clear F e j Z e2 U hr;go_in;(go_wp2_with fail);go_call Y as x o ⟨rfl,rfl⟩;(go_wp2_with fail);go_call E as x o ⟨rfl,rfl⟩;(go_wp2_with fail);go_call d as x w1 ⟨rfl,⟨h8,ha,g⟩,i⟩;have⟨p,C⟩:=aA g i;clear g i d;go_wp2;go_ret2;rw[O.zz];exact⟨0,rfl,⟨_,_,p⟩,(λ_ h=>by cases h),uJ.nA C _ _⟩
  subst ho;have O:=e.trans (aP (by simp));have M:c.down=false:=j rfl;clear F e j Z e2 U hr;go_in;go_wp2_with fail
  go_call Y as x o ⟨rfl,rfl⟩;go_wp2_with fail
  go_call E as x o ⟨rfl,rfl⟩;go_wp2_with fail
  go_call d as x w1 ⟨rfl,⟨h8,ha,g⟩,i⟩;clear d;have⟨p,C⟩:=aA g i;clear g i
 all_goals
  have T:=bK9 p;have hc:∀a b,c.count=(a,b)->b=true->a<=200:=λa b h1 h2=>by unfold aL.count at h1;rw[Prod.mk.injEq]at h1;rw[<-h1.2,bL]at h2;rw[<-h1.1];simpa using h2.2
  obtain⟨⟨mn,ok⟩,hq⟩:∃q,q=c.count:=⟨_,rfl⟩;have hx:=hc mn ok hq.symm;rw[<-hq]at T O;clear hc hq;go_wp2_with fail
  go_call T as x N ⟨rfl,Q⟩;have he:=p.next Q;have V:=C.trans (gX.cT Q k m);have J:k<=N:=aM hb V.size;have⟨A,s⟩:=aA he V;clear T Q he V;cases ok with
  |false=>have B:=aH (show kB D=(63,none,c)from O.trans (aV rfl));go_wp2;go_ret2;rw[B.zz];exact⟨0,rfl,⟨_,_,A⟩,(λ_ h=>by cases h),uJ.nA s _ _⟩
  |true=>
   have hm:=hx rfl;have hp:=WB A;have u:=aH ((bR N N).alloc dQ (.cells #[zp n,c.bQ,false,zs,()] 171));have hi:l4 (N.alloc (.cells #[zp n,c.bQ,false,zs,()] 171)) k n N ⟨[],0⟩ c.bQ false zs:=by obtain⟨hy,kv,r9,-⟩:=(A.next u).row;obtain⟨C9,ht,hw,-⟩:=id r9;exact⟨Row.new N #[zp n,c.bQ,false,zs,()] 171,J,bM _ _ _ _,(λx2 h9=>by simp[Value.ownBlock]at h9),⟨C9,ht,hw⟩,bK _,(λx3 hn=>by cases hn),bK _⟩
   have X:=ce0 hi (A.next u) (aM J u.size) M rfl mn hm;have⟨R,hR⟩:=fR (nF c mn mn 0 []);have B:kB D=if R.1≠0 then(R.1,none,R.2.2)else(0,some ⟨R.2.1,kF R.2.1⟩,R.2.2):=(by rw[O,aP (by simp),hR]);rw[<-hR]at X;clear hR O hi;have⟨R1,R2,R3⟩:=R;have h3:=aH B;clear B;(go_wp2_with fail);go_call hp as x o ⟨rfl,rfl⟩;(go_wp2_with fail);go_call X as x w4 ⟨rfl,⟨hz,x0,hg⟩,⟨v4,y,hl⟩,W⟩;obtain⟨h4,h0,h5⟩:=aB (uJ.fresh (s.trans (gX.cT u k m)) W (aM s.size dQ) (λx2 hk=>by simp[Value.ownBlock]at hk)) hg y;have h7:=aH (show∀x2,v4.ownBlock=some x2->w.heap.size<=x2 from λx2 hk=>by
    rcases hl x2 hk with h9|h9
    .simp[Value.ownBlock]at h9
    exact aM s.size (aM u.size h9))
   have x1:=W.size;clear hg hl W X hp;by_cases P:R1=0
   .subst P;have hE:=XP h5;have hv:=by1 y.many y.small;clear y;(go_wp2_with fail);go_call hE as x w5 ⟨rfl,S⟩;have z:=h5.next S;have hh:=h0.next S;have f4:=z.row.zf4;have c4:=z.row.zc4;have⟨h6,hs⟩:=aA (ax9 z hh 4 (kF R2:Nat)) (z.cB7 (kF R2) hv);clear z hh hE;go_wp2;go_ret2;rw[h3.zz];have hj:=s.size;have hu:=(uJ.cT S k m N v4).trans (lA.refl _ _) h6.2.1;exact⟨N,rfl,⟨_,_,h6.1⟩,(λG h=>by cases h;exact⟨hj,v4,hs,h7⟩),uJ.cH5 h4 hu hj h7⟩
   clear y;go_wp2;go_ret2;rw[h3.zz];simp only[aV P,ne_eq,P,not_false_iff];exact⟨0,rfl,⟨_,_,h0⟩,(λ_ h=>by cases h),h4⟩
def bJ1(l:List Nat)(j z:Nat):fJ (l.set j z)=(fJ l).set j z:=by simp[fJ,EM,cJ6]
def l4.cr9{d g:Nat}{q:Nat}(h:l4 w i k d G g b (.slice (zp m) G.bV q))(F:bJ w i k j D K H)(R z:Nat)(Q:z<=1048576):l4 (w.setCell (zp m R) z) i k d {G with bV:=G.bV.set R z} g b (.slice (zp m) G.bV q)/\bJ (w.setCell (zp m R) z) i k j D K H/\uJ i j d (.slice (zp m) G.bV q) w (w.setCell (zp m R) z):=by
 have c:(Value.slice (zp m) G.bV q).ownBlock=some m:=(by simp[Value.ownBlock]);have a:=dX h.own c;have u:m≠d:=λs=>by subst s;exact iP.2.2 (dD h.row a)
 have v:k≠m:=oP h.eI a (by decide);have p:∀S,S≠m->(w.setCell (zp m R) z).heap[S]?=w.heap[S]?:=λS B=>aU _ _ _ _ B;have⟨I,J⟩:=jW (n:=w.heap.size) (p k v) h.eI;refine⟨⟨h.row.of_block (p d (λe=>u e.symm)),h.low,?_,λS e M=>h.apart S e (J S (jN h.own S e) M),I,?_,λx r=>?_,h.sure⟩,F.far λS A f=>p S (λe=>?_),⟨rfl,rfl,rfl,by simp,λS A f=>p S (λe=>?_),λS l=>jW (p S (oP l a (by decide))) l⟩⟩
 .show(w.setCell (zp m R) z).ownsRow i _ 1 _ (G.bV.set R z) (fJ (G.bV.set R z));rw[bJ1,mV];have E:=(h.own.stored R z).1;exact E
 .show(G.bV.set R z).length<=200;rw[mV];exact h.many
 .rcases cp1 r with r|r
  .exact h.small x r
  omega
 .subst e;rcases f with f|⟨C,t,P,o,N⟩|f
  .exact F.rE a f
  .obtain⟨O,L,y,-⟩:=a;rw[y]at o;cases o;exact iP.2.1 N
  exact h.apart _ c f
 subst e;rcases f with f|⟨-,-,-,s⟩
 .have:=dH h.own _ c;omega
 exact s c
def bk3(h:l4 w k n i G j false v)(V:bJ w k n m D K H)(hb:k<=w)(hi q:Nat)(hn:G.bV=hi+1)(hq:G.bV.getD hi 0=q)(r:aS)(hr:q+r<=4096):Calls prog 142 #[zp i,hi,r] w (LOp k n m i j v (.tuple #[((pM G D hi (lb r)).2.1:Nat),(pM G D hi (lb r)).1]) (pM G D hi (lb r)).1 (pM G D hi (lb r)).2.2.1 (pM G D hi (lb r)).2.2.2 w):=by
 have F:=h.many;rw[hn]at F;obtain⟨A,c,rfl,hh,h4,-⟩:=id (Reads.cX h.own);unfold maxLen at h4;have⟨HH,HD⟩:=aA h V;have a:=aP7 h V r.size (by omega);unfold LOp;by_cases o:zR D r=true
 .have I:pM G D hi (lb r)=if(D.append (iJ hi) (lb r)).1≠0 then((D.append (iJ hi) (lb r)).1,0,G,(D.append (iJ hi) (lb r)).2)else(0,hi*4096+q,{G with bV:=G.bV.set hi (q+r.size)},(D.append (iJ hi) (lb r)).2):=by unfold pM;rw[bI,o,hq];rfl
  rw[o]at a;have HC:=λx:aI=>rR (hi:Int) x ⟨by omega,by omega⟩;have l:=λ(x:aI)(hx:bJ x k n m D K H)(h3:k<=x)=>AH hx (lR 99 (hi:Int)) r (jV _ _) (by omega) h3;rw[uT]at l;unfold rI at l;obtain⟨⟨r1,r2⟩,U⟩:∃x,x=D.append (iJ hi) (lb r):=⟨_,rfl⟩;rw[<-U]at l I;have u:=aH I;clear I U h V o;go_in;go_wp2_with fail
  go_call a as x w1 ⟨rfl,f⟩;have C:=HH.next f;have M:=HD.next f;have L:=aM hb f.size;have z0:∀x:dR w1,x.it.cell? (zp i)=some (.pointer (some ⟨n,0,none⟩)):=λx=>(C.next x.ok).row.lO;have⟨h0,W,p⟩:=aB C M f;clear C M f a;(go_wp2_with fail);refine jF (by kernel_rfl) (by kernel_rfl) (by kernel_rfl) (by kernel_rfl) (by kernel_rfl) ?_;simp only[List.dropLast,List.drop,List.length];repeat go_big_quiet_step ((go_at_call 109;exact eL _ (HC _)))
  refine wpQuiet_nil ?_;rintro _ ⟨⟨wq,B⟩,rfl⟩;clear z0;have z:=W.next B;have E:=h0.next B;go_wp2_with fail
  go_call l _ z (aM L B.size) as e w2 ⟨rfl,⟨h7,ha,t⟩,y⟩;have d:=E.yH z y;have⟨J,he,hc⟩:=aB (uJ.nA ((gX.cT p k m).trans ((gX.cT B k m).trans y)) i (.slice A G.bV c)) t d;by_cases S:r1=0
  .subst S;have Y:=aH (show pM G D hi (lb r)=(0,hi*4096+q,{G with bV:=G.bV.set hi (q+r.size)},r2)from u.trans (aP (by simp)));have T:=Reads.cX d.own;obtain⟨b,h6,rfl,-,-,-,s⟩:=T.UK (by omega);obtain⟨b',R⟩:∃b',(some ((zp b h6):Addr))=some ⟨b',0,none⟩:=by
    rcases d.own.2 with⟨h9,h8⟩|⟨g,hf,hg,h9,-⟩
    .exact absurd h8 (by omega)
    exact⟨g,by cases h9;rfl⟩
   cases R;have h5:G.bV[hi]'(by omega)=q:=by rw[<-hq,aY,aJ (by omega)];rfl
   have c4:w2.cell? (zp b hi)=some q:=by have:=s w2 iH hi (by simp;omega);rwa[zX,h5,jC]at this
   have f4:w2.frozen? (zp b hi)=false:=d.own.frozenAt hi;have c3:=d.row.JF;have h2:=aH (d.cr9 t hi (q+r.size) (by omega));rw[hn]at c3;clear t y d z E l T s;go_wp2;go_ret2;rw[Y.zz];have HR:=h2.zz;exact⟨rfl,⟨_,_,HR.2.1⟩,⟨_,_,HR.1,lA.refl _ _,λ_=>rfl⟩,J.trans (lA.refl _ _) HR.2.2⟩
  have Y:=aH (show pM G D hi (lb r)=(r1,0,G,r2)from u.trans (aV S));have Q:=ZS d t r1;clear t y d z E l;go_wp2_with fail
  go_call Q as x w3 ⟨rfl,N,P,O⟩;have⟨X,h1,Z⟩:=aB N P (J.trans (lA.refl _ _) O);clear N P O Q;go_wp2;go_ret2;rw[Y.zz];exact⟨rfl,⟨_,_,X⟩,⟨_,_,h1,lA.refl _ _,λh=>bN h⟩,Z⟩
 have I:pM G D hi (lb r)=(60,0,G,D):=by unfold pM;rw[bI,aV (by simpa using o)]
 rw[show zR D r.size=false from by simpa using o]at a;have u:=aH I;clear I h V o;go_in;go_wp2_with fail
 go_call a as x w1 ⟨rfl,f⟩;have p:=aH f;clear f a;go_wp2;go_ret2;rw[u.zz];exact⟨rfl,⟨_,_,HD.next p⟩,⟨_,_,HH.next p,lA.refl _ _,λ_=>rfl⟩,uJ.cT p _ _ _ _⟩
def cI7(h:l4 w k n i G j false v)(u:bJ w k n m D K H)(C:k<=w)(N:Nat)(L:N<=1000000)(g l:Nat)(y:Row w g 70 [zp i])(z:Row w l 3 [N]):Calls prog 207 #[zp g,zp l] w (rI k n m (D.create (iJ N)) w):=by
 have A:=λx:aI=>rR (N:Int) x ⟨by omega,by omega⟩;have a:=λ(x:aI)(E:bJ x k n m D K H)(q:k<=x.heap.size)=>EX E (lR 99 (N:Int)) (jV _ _) q;rw[uT]at a;generalize D.create (iJ N)=r at a|-;unfold rI at a|-;have F:∀x:dR w,x.it.cell? ⟨i,0,none⟩=some (.pointer (some ⟨n,0,none⟩)):=λx=>(h.next x.ok).row.lO;have I:∀x:dR w,x.it.cell? ⟨g,0,none⟩=some (.pointer (some ⟨i,0,none⟩)):=λx=>(y.next x.ok).lO;have J:∀x:dR w,x.it.cell? ⟨l,0,none⟩=some (.int .i64 N):=λx=>(z.next x.ok).lO;have B:=aH u;clear h u y z;go_in;(go_wp2_with fail);refine jF (by kernel_rfl) (by kernel_rfl) (by kernel_rfl) (by kernel_rfl) (by kernel_rfl) ?_;simp only[List.dropLast,List.drop,List.length];repeat go_big_quiet_step ((go_at_call 109;exact eL _ (A _)))
 refine wpQuiet_nil ?_;rintro _ ⟨⟨M,b⟩,rfl⟩;clear F I J;have f:=B.next b;go_wp2_with fail
 go_call a _ f (aM C b.size) as e w2 ⟨rfl,⟨s,t,d⟩,c⟩;have⟨o,p⟩:=aA ((gX.cT b k m).trans c) d;clear d c f a b;go_wp2;go_ret;exact⟨rfl,⟨_,_,p⟩,o⟩
def cI6(h:l4 w k n i G j false v)(A:bJ w k n m D K H)(L:k<=w)(V:Nat)(S:V<=1000000)(r:aS)(T:r.size<=100000)(g l o:Nat)(B:Row w g 70 [zp i])(C:Row w l 3 [V])(E:Row w o 9 [r]):Calls prog 209 #[zp g,zp l,zp o] w (rI k n m (D.append (iJ V) (fC V++lb r)) w):=by
 have F:=λx:aI=>rR (V:Int) x ⟨by omega,by omega⟩;have s:=λx:aI=>WJ (V:Int) x ⟨by omega,by omega⟩;have M:(bs (fC (V:Int))).size<=12:=by
  rw[eO];by_cases J:V<=199
  .rw[jZ J];omega
  rw[aa1 (by omega)];simp
 have a:=λ(x:aI)(N:bJ x k n m D K H)(u:k<=x.heap.size)=>AH N (lR 99 (V:Int)) (bs (fC (V:Int))++r) (jV _ _) (by rw[XI];omega) u;rw[uT,show lb (bs (fC (V:Int))++r)=fC V++lb r from by simp[lb,bs]]at a;generalize D.append (iJ V) (fC V++lb r)=q at a|-;unfold rI at a|-;have O:∀x:dR w,x.it.cell? ⟨i,0,none⟩=some (.pointer (some ⟨n,0,none⟩)):=λx=>(h.next x.ok).row.lO;have P:∀x:dR w,x.it.cell? ⟨g,0,none⟩=some (.pointer (some ⟨i,0,none⟩)):=λx=>(B.next x.ok).lO;have Q:∀x:dR w,x.it.cell? ⟨l,0,none⟩=some (.int .i64 V):=λx=>(C.next x.ok).lO;have R:∀x:dR w,x.it.cell? ⟨o,0,none⟩=some (.string r):=λx=>(E.next x.ok).lO;have I:=aH A;clear h A B C E;go_in;(go_wp2_with fail);refine jF (by kernel_rfl) (by kernel_rfl) (by kernel_rfl) (by kernel_rfl) (by kernel_rfl) ?_;simp only[List.dropLast,List.drop,List.length];repeat go_big_quiet_step (first|(go_at_call 109;exact eL _ (F _))|(go_at_call 166;exact eL _ (s _)))
 refine wpQuiet_nil ?_;rintro _ ⟨⟨U,b⟩,rfl⟩;clear O P Q R;have f:=I.next b;go_wp2_with fail
 go_call a _ f (aM L b.size) as e w2 ⟨rfl,⟨y,z,d⟩,c⟩;have⟨p,t⟩:=aA ((gX.cT b k m).trans c) d;clear d c f a b;go_wp2;go_ret;exact⟨rfl,⟨_,_,t⟩,p⟩
def uJ.row{n k:Nat}{w':aI}{t:cC}{xs:List aN}(h:uJ n m i v w w')(a:Row w k t xs)(j:¬(t=103\/t=112\/t=5))(g:k≠m)(e:k≠i)(l:v.ownBlock≠some k):Row w' k t xs:=a.of_block (h.block k a.lt (.inr ⟨g,λ⟨C,q,p,b,d⟩=>by obtain⟨o,c,f,-⟩:=a;rw[f]at b;cases b;exact j d,e,l⟩))
def nE(n:Nat)(r:bH):List (cS×aL->Int×(cS×aL)):=[fun s=>((gO s.1 s.2).1,(gO s.1 s.2).2),fun s=>((s.2.create (iJ n)).1,(s.1,(s.2.create (iJ n)).2)),fun s=>((s.2.append (iJ n) (fC n++r)).1,(s.1,(s.2.append (iJ n) (fC n++r)).2))]
def cz5(k:Nat):Nat:=match k with
 |0=>152
 |1=>207
 |_=>209
def bq4(L:Nat)(k:Nat):Array aN:=match k with
 |0=>#[.pointer (some ⟨L,0,none⟩)]
 |_=>#[]
def cl8(b1 b2 b3:Nat)(k:Nat):Array aN:=match k with
 |0=>#[]
 |1=>#[.pointer (some ⟨b1,0,none⟩),.pointer (some ⟨b2,0,none⟩)]
 |_=>#[.pointer (some ⟨b1,0,none⟩),.pointer (some ⟨b2,0,none⟩),.pointer (some ⟨b3,0,none⟩)]
def V9:¬(70=103\/70=112\/70=5):=by decide
def bR1(h:l4 w k n i G j false v)(V:bJ w k n m D K H)(Y:k<=w)(h1:Nat)(W:h1<=1000000)(r:aS)(f:r.size<=100000)(R p o x:Nat) (F:Row w p 70 [zp i]) (P:Row w o 3 [h1]) (I:Row w x 9 [r]) (J:Row w R 76 [.func (.func 152) #[zp i] #[],.func (.func 207) #[] #[zp p,zp o],.func (.func 209) #[] #[zp p,zp o,zp x]]) (O:v.ownBlock≠some o) :Calls prog 206 #[.slice (zp R) 3 3] w λe u=>e=(runs (G,D) (nE h1 (lb r))).1/\(∃K H,bJ u k n m (runs (G,D) (nE h1 (lb r))).2.2 K H)/\l4 u k n i (runs (G,D) (nE h1 (lb r))).2.1 j false v/\uJ k m i v w u:=by
 have l:∀{h0:Nat} {t:cC} {B:List aN},Row w h0 t B->h0≠m:=λf=>V.rE f;have C:∀{h0:Nat} {t:cC} {B:List aN},Row w h0 t B->t≠171->h0≠i:=λf M a=>by subst a;exact M (dD f h.row)
 have N:∀{h0:Nat} {t:cC} {B:List aN},Row w h0 t B->t≠3->v.ownBlock≠some h0:=λf M a=>M (dD f (dX h.own a));obtain⟨-,Z,t3⟩:=IH;have S:∀wr,uJ k m i v w wr->Row wr p 70 [zp i]:=λwr b=>b.row F V9 (l F) (C F (by decide)) (N F (by decide));have T:∀wr,uJ k m i v w wr->Row wr o 3 [h1]:=λwr b=>b.row P iP.2.1 (l P) (C P (by decide)) O;have X:∀wr,uJ k m i v w wr->Row wr x 9 [r]:=λwr b=>b.row I Z (l I) (C I (by decide)) (N I (by decide));have y:=al1 (σ:=cS×aL) (λs wr=>(∃K H,bJ wr k n m s.2 K H)/\l4 wr k n i s.1 j false v/\uJ k m i v w wr) (nE h1 (lb r)) cz5 (bq4 i) (cl8 p o x) R (G,D) w (by simp[nE])
  (λE wr L h0 z=>by
   have f:=L.2.2.row J t3 (l J) (C J (by decide)) (N J (by decide));have A:h0<3:=z;rcases(show h0=0\/h0=1\/h0=2 from by omega)with rfl|rfl|rfl
   .exact f.lO
   .exact f.qD
   exact f.tW)
  (λh0 z c wr=>by
   have A:h0<3:=z;rcases(show h0=0\/h0=1\/h0=2 from by omega)with rfl|rfl|rfl
   .exact enters_of func152 (by kernel_rfl) rfl c wr
   .exact enters_of func207 (by kernel_rfl) rfl c wr
   exact enters_of func209 (by kernel_rfl) rfl c wr)
  (λh0 z E wr L=>by
   have A:h0<3:=z;obtain⟨⟨Q,U,g⟩,d,b⟩:=L;have q:k<=wr:=aM Y b.size;rcases(show h0=0\/h0=1\/h0=2 from by omega)with rfl|rfl|rfl
   .exact(aP6 d g q).mono λe u a=>⟨a.1,a.2.1,a.2.2.1,b.trans (lA.refl _ _) a.2.2.2⟩
   .exact(cI7 d g q h1 W p o (S wr b) (T wr b)).mono λe u a=>⟨a.1,a.2.1,d.yH g a.2.2,b.trans (lA.refl _ _) (uJ.nA a.2.2 _ _)⟩
   exact(cI6 d g q h1 W r f p o x (S wr b) (T wr b) (X wr b)).mono λe u a=>⟨a.1,a.2.1,d.yH g a.2.2,b.trans (lA.refl _ _) (uJ.nA a.2.2 _ _)⟩)
  ⟨⟨K,H,V⟩,h,uJ.refl _ _ _ _ _⟩
 exact y
def bq3(G:cS)(D:aL)(n:Nat)(r:bH)(h:¬(200<=n\/zR D (12+r)=false)):pX G D n r=if(runs (G,D) (nE n r)).1≠0 then((runs (G,D) (nE n r)).1,0,(runs (G,D) (nE n r)).2.1,(runs (G,D) (nE n r)).2.2)else(0,n*4096+12,{(runs (G,D) (nE n r)).2.1 with bV:=(runs (G,D) (nE n r)).2.1.bV++[12+r.length]},(runs (G,D) (nE n r)).2.2):=by
 unfold pX;rw[aP h];rcases i:gO G D with⟨g,f,a⟩;have e:runs (G,D) (nE n r)=if g=0 then(if(a.create (iJ n)).1=0 then(if((a.create (iJ n)).2.append (iJ n) (fC n++r)).1=0 then(0,(f,((a.create (iJ n)).2.append (iJ n) (fC n++r)).2))else(((a.create (iJ n)).2.append (iJ n) (fC n++r)).1,(f,((a.create (iJ n)).2.append (iJ n) (fC n++r)).2)))else((a.create (iJ n)).1,(f,(a.create (iJ n)).2)))else(g,(f,a)):=by simp only[nE,runs,i]
 rw[e];unfold FT kS;simp only;by_cases b:g=0
 .rw[aP (by simpa using b),aV b];by_cases c:(a.create (iJ n)).1=0
  .rw[aV c,aV c];by_cases d:((a.create (iJ n)).2.append (iJ n) (fC n++r)).1=0
   .rw[aP (by simpa using d),aV d];simp
   rw[aV d,aP d];simp[d]
  rw[aP c,aP c,aV c]
 rw[aV b,aP b];simp[b]
variable{X:List aN}{C l:mX}
section
open Go.Shelf
def az6:Go.Shelf.Ren:=⟨fun|4=>262|n=>n,fun|22=>33|25=>3|n=>n,fun|n=>n⟩
def ap3:Go.Proofs.Lays8.n4 prog az6:={
 mixed:=by kernel_rfl
 f4:=⟨f262.name,by decide,func262.trans (gQ some (by kernel_rfl))⟩
 t0:=underlying0
 a0:=isAgg0
 z0:=sizeOf0
 v0:=zeroValue0
 t3:=underlying3
 a3:=isAgg3
 z3:=sizeOf3
 v3:=zeroValue3
 t4:=underlying4
 a4:=isAgg4
 z4:=sizeOf4
 v4:=zeroValue4
 t9:=underlying9
 a9:=isAgg9
 z9:=sizeOf9
 v9:=zeroValue9
 t20:=underlying20
 a20:=isAgg20
 z20:=sizeOf20
 v20:=zeroValue20
 t22:=underlying33
 a22:=isAgg33
 z22:=sizeOf33
 v22:=zeroValue33}
def vA(w:aI)(v:aN)(l:mX):Prop:=∃a:List aN,a.length=l.length/\Reads w v 1 l.length a/\∀(k:Nat)(x:aN)(L:List Nat),a[k]?=some x->l[k]?=some L->Reads w x 1 L.length (fJ L)
def vA.next{w:aI}{v:aN}(h:vA w v C)(a:aR w w x):vA x v C:=by have⟨g,b,c,d⟩:=h;exact⟨g,b,c.next a,λk i L f e=>(d k i L f e).next a⟩
def WZ(n:Nat)(w:aI)(i:n<=1000000):Calls prog 262 #[zs,n] w λe b=>∃v,e=.returned v/\b.ownsRow w 3 1 v 0 []/\aR w w b:=by
 rcases dP n with rfl|h
 .go_call Any8.slices_Grow_room ap3 none 0 0 0 w dQ (by omega) (by omega) (by omega) as e b ⟨rfl,rfl⟩;exact⟨_,rfl,bM _ _ _ _,iH⟩
 have⟨i0,c,d,f,g⟩:=info_parts nH;go_call Any8.slices_Grow_grow ap3 i0 () c d (by rw[f];omega) none 0 0 n [] w dQ (by omega) (by rw[g];omega) (by omega) (by simp) (λ_=>rfl) (λa h=>by cases h) as e b ⟨rfl,rfl⟩;refine⟨_,rfl,⟨rfl,.inr ⟨w,_,#[]++Builtin.zeroCells (Value.int .i64 0).cells (0+n-0)++Builtin.zeroCells (Value.int .i64 0).cells (grownCap w (0+n) 0 (az6.t 25)-(0+n)),rfl,dQ,by simp[World.alloc];exact Array.getElem_push_eq,bK _,grownCap_le_maxLen _ _ _ _ (by unfold maxLen;omega),?_,by simp⟩⟩,(iH.drew).alloc dQ _⟩;have:=grownCap_ge w (0+n) 0 (az6.t 25);simp[Value.cells,size_zeroCells];simp at this;omega
def nX{T:cC}(e:x.ownsRow n T k v m X)(h:aR n w x)(a:x.grownBy y v.ownBlock)(d:n<=x):aR n w y:=⟨a.os.trans h.os,a.tape.trans h.tape,a.output.trans h.output,aM h.size a.size,λf b=>(a.block f (aW b d) (λc=>by have:=dH e f c.symm;omega)).trans (h.block f b)⟩
def bR4(h:n+k<=100000):n+k<=maxLen/\(n+k)*8<=140737488355328:=by unfold maxLen;omega
def ax5(a b:List Nat):fJ (a++b)=fJ a++fJ b:=by simp[fJ,EM]
def PJ(l:List Nat):∀u∈fJ l,u.oneCell'=true:=by intro u a;unfold fJ EM at a;simp only[DF,dS]at a;obtain⟨x,-,rfl⟩:=a;rfl
def aq2(h:C[n]?=M):(C.take (n+1)).flatten=(C.take n).flatten++M:=by rw[dL,h];simp
def ah4(v:aN)(l:mX)(w:aI)(h:vA w v l)(hl:l.length<=1000)(ht:l.flatten.length<=100000):Calls prog 217 #[v] w λe w'=>∃v',e=.returned v'/\w'.ownsRow w 3 1 v' l.flatten (fJ l.flatten)/\aR w w w':=by
 have⟨vs,hc,F,U⟩:=h;have⟨i0,h8,hd,he,hf⟩:=info_parts nH;obtain⟨A,c,rfl,h7,R,-⟩:=id F;unfold maxLen at R;have z:∀j,(l.take j).flatten.length<=l.flatten.length:=λj=>by
  conv=>rhs;rw[<-bX j l]
  rw[iO,aO];omega
 have g:∀(j:Nat),j<l.length->∃L x b r,l[j]?=some L/\vs[j]?=some x/\A=some ⟨b,r,none⟩/\Reads w x 1 L.length (fJ L)/\∀wr,aR w.heap.size w wr->wr.cell? ⟨b,r+j,none⟩=some x:=λj hj=>by
  obtain⟨b,r,hA,-,-,-,C⟩:=F.UK (by omega);have hx:vs[j]?=some (vs[j]'(by omega)):=aJ (by omega);have hL:l[j]?=some l[j]:=aJ hj;refine⟨_,_,b,r,hL,hx,hA,U j _ _ hx hL,λwr hb=>?_⟩;exact C wr hb j (by omega)
 have⟨n,X⟩:=fR l.length;rw[<-X]at h7 hl g|-;have⟨HN,HC,HT⟩:=aB X g z;have s:(l.take n).flatten=l.flatten:=(by rw[X,eX]);have HL:=aH s;clear U F g z X hc s;go_in;go_wp2_with fail
 go_loopw [3,5,11] (λsz _ i wr=>∃j:Nat,j<=n/\i=.int .i64 j/\sz=.int .i64 ((l.take j).flatten.length:Nat)/\aR w.heap.size w wr) (λ_ _ i _=>n-(intOf i).toNat)
 .exact⟨0,bK _,rfl,by simp,iH⟩
 obtain⟨j,hj,rfl,rfl,o⟩:=hrel;by_cases h9:j<n
 .obtain⟨L,x,b,r,K,h2,rfl,G,M⟩:=HC j h9;obtain⟨Ax,cx,rfl,W,y,-⟩:=id G;unfold maxLen at y;have c0:=M wr o;have f:=aH o;clear o;have D:=HT (j+1);have p:=aq2 K;have i1:(j:Int)<n:=(by omega);have d:(l.take (j+1)).flatten.length=(l.take j).flatten.length+L.length:=(by rw[p,aO]);have⟨q,hq⟩:=fR ((l.take j).flatten.length);have E:q+L.length<=100000:=(by omega);rw[<-hq]at d|-;have HQ:=aH d;clear d p D hq K h2 G M;go_wp2;go_roundw
  .exact⟨j+1,by omega,by go_num,by rw[HQ.zz];go_num,f⟩
  simp[intOf];omega
 obtain rfl:j=n:=(by omega);have i1:¬(j:Int)<j:=(by omega);have⟨T,hT⟩:=fR l.flatten.length;rw[HL.zz,<-hT];have hg:=WZ T wr (by omega);have hh:=aH hT;clear hT;have f:=aH o;clear o;go_wp2_with fail
 go_call hg as e w2 ⟨v2,rfl,a,P⟩;have⟨I,Y⟩:=aA (iI a f.size) (aK f P);clear hg a P;go_wp2_with fail
 go_loopw [6,8,27] (λh5 _ i wr=>∃k:Nat,k<=j/\i=.int .i64 k/\wr.ownsRow w.heap.size 3 1 h5 (l.take k).flatten.length (fJ (l.take k).flatten)/\aR w.heap.size w wr) (λ_ _ i _=>j-(intOf i).toNat)
 .exact⟨0,bK _,rfl,by first|exact I|(simp[fJ,EM];exact I),Y⟩
 obtain⟨k,hk,rfl,a,u⟩:=hrel;by_cases ha:k<j
 iterate 2
  ·(first|(obtain⟨L,x,b,r,K,h2,rfl,G,M⟩:=HC k ha;have V:=G.next u;obtain⟨Ax,cx,rfl,W,y,-⟩:=id G;unfold maxLen at y;have c0:=M wr u;have D:=HT (k+1);have p:=aq2 K;(have i1:(k:Int)<j:=by omega);(have d:(l.take (k+1)).flatten.length=(l.take k).flatten.length+L.length:=by rw[p,aO]);have⟨HF,H⟩:=aA p d;obtain⟨A1,c1,rfl,-⟩:=id (Reads.cX a))|((obtain rfl:k=j:=by omega);(have i1:¬(k:Int)<k:=by omega);rw[HL.zz]at a));have m:=aH a;(try have h0:=aH V);have f:=aH u;first|((have E:(l.take k).flatten.length+L.length<=100000:=by omega);have m1:=bR4 E;clear p d a V K h2 G M D E W y R;(have J:=aH (show fJ (l.take (k+1)).flatten=fJ (l.take k).flatten++fJ L from by rw[HF.zz,ax5]));have⟨Q,N⟩:=fR ((l.take k).flatten.length);have⟨XS,B⟩:=fR (fJ (l.take k).flatten);rw[<-N,<-B]at m;rw[<-N]at m1;rw[<-N]at H;rw[<-B]at J;try rw[<-N];clear N B;(go_wp2_with (at_builtin;refine rB _ rfl _ _ 33 rfl w.heap.size 3 i0 (.int .i64 0) 1 8 underlying33 h8 hd he hf rfl (by decide) (.slice A1 Q c1) Q XS rfl m (.slice Ax L.length cx) L.length (fJ L) rfl h0 (PJ L) m1.1 m1.2 f.size ?_;intro v3 w3 t S O;have h6:=aH (nX m f S f.size);have Z:=aH t;clear t S O));go_roundw;(case rel=>exact⟨k+1,by omega,by go_num,by rw[H.zz,J.zz];exact Z,h6⟩);(case measure=>simp[intOf];omega))|(clear a u;go_wp2;go_ret;(exact⟨_,rfl,by first|exact m|(rw[<-List.length_flatten];exact m),f⟩))
def tP(v:aN)(l:mX)(w:aI)(h:vA w v l)(g:l.length<=1000)(i:l.flatten.length<=100000):Calls prog 150 #[v] w λe c=>∃b,e=.returned b/\c.ownsRow w 3 1 b l.flatten (fJ l.flatten)/\aR w w c:=by
 have f:=ah4 v l w h g i;clear h;go_in;go_wp2_with fail
 go_call f as e c ⟨b,rfl,a,d⟩;go_wp2;go_ret;exact⟨_,rfl,a,d⟩
end
abbrev DmS:=DataW Unit
def ay4(n:Nat):Lit:=.int .i64 (n:Int)
def cp8{e:Int}(a:-9223372036854775808<=e)(b:e<=9223372036854775807):(Lit.int .i64 e).wf=true:=by unfold Lit.wf;rw[bL,bG,bG];exact⟨a,b⟩
def bx1(h:n≠k):ay4 n≠ay4 k:=by unfold ay4;intro a;simp at a;omega
def ae9(D:DmS)(a:List Nat):Prop:=IsMap D/\∀n:Nat,(n∈a->∀b,D.atKey (ay4 n) b=.lit (.int .i64 1))/\(n∉a->has D (ay4 n)=false)
def ae9.nil:ae9 (.map []) []:=⟨isMap_empty,λn=>⟨(λh=>by cases h),λ_=>rfl⟩⟩
def ae9.put{D:DmS}{x:Nat}(h:ae9 D M)(c:WideAt.IsKeyLit (ay4 x)):ae9 (D.put (ay4 x) (.lit (.int .i64 1))) (M++[x]):=by
 refine⟨h.1.put _ _,λn=>⟨λa d=>?_,λa=>?_⟩⟩
 .by_cases b:n=x
  .subst b;exact atKey_put_same h.1 c _ _
  rw[atKey_put_other (bx1 b)];refine(h.2 n).1 ?_ d;rcases cB.1 a with a|a
  .exact a
  exact absurd (bP.1 a) b
 simp only[cB,bP,not_or]at a;rw[has_put_other (bx1 a.2)];exact(h.2 n).2 a.1
def az2{r:Option Nat}(a:w.grownBy x r)(b:x.grownBy y r):w.grownBy y r:=⟨b.os.trans a.os,b.tape.trans a.tape,b.output.trans a.output,aM a.size b.size,λk d c=>(b.block k (aW d a.size) c).trans (a.block k d c)⟩
def bb0{l:mX}(h:5<l.length\/40<l.flatten.length):kR l=false:=by unfold kR;rw[cN];omega
def ba9{l:mX}(h:l.flatten[n]?=k)(c:k∈l.flatten.take n):kR l=false:=by unfold kR;rw[cN];rintro ⟨_,_,b⟩;rw[<-bX n l.flatten]at b;have a:=(aQ.1 h);refine(mG.1 b).2.2 k c k ?_ rfl;rw[<-gT a.1,a.2];simp
def IW(v:aN)(l:mX)(w:aI)(h:vA w v l)(hl:l.length<=1000)(ht:l.flatten.length<=100000)(G:∀n∈l.flatten,n<4294967296):Calls prog 223 #[v] w λe w'=>e=(kR l)/\aR w w w':=by
 have K:=tP v l w h hl ht;obtain⟨vs,-,h0,-⟩:=h;obtain⟨A,c,rfl,M,Y,-⟩:=id h0;clear h0;have⟨F,V⟩:=fR l.flatten;have⟨n,hn⟩:=fR l.length;have⟨T,W⟩:=fR F.length;rw[<-V]at K G ht;rw[<-W]at K ht;rw[<-hn]at K M hl|-;have⟨HF,HN,U,HS⟩:=aC V hn W G;by_cases r:5<n\/40<T
 .have hv:=aH (bb0 (l:=l) (by rw[<-hn,<-V,<-W];exact r));clear V hn W G M Y;rcases(show 5<n\/(¬5<n/\40<T)from by omega)with h1|⟨h1,h2⟩
  all_goals
   clear r;go_in;(go_wp2_with fail);go_call K as e R ⟨v1,rfl,f,C⟩;obtain⟨A1,c1,rfl,-⟩:=id (Reads.cX f);clear K f;go_wp2;go_ret;exact⟨by rw[hv.zz];rfl,C⟩
 have h1:n<=5:=(by omega);have h2:T<=40:=(by omega);have hh:=@run_makeMap prog;have KI:=int_keyed (P:=prog) (k:=3) underlying3;clear V hn W G M Y r hl ht;go_in;go_wp2_with fail
 go_call K as e R ⟨v1,rfl,f,C⟩;obtain⟨A1,c1,rfl,-⟩:=id (Reads.cX f);have⟨S,h4⟩:=aA f C;clear K f C;have E:=World.ownsMap_made (H:=Unit) R prog 3 (plainElem prog 3);have L:=(bR R R).alloc dQ (.map #[] 0);(go_wp2_with fail);have⟨B,hB⟩:=fR R.heap.size;rw[<-hB]at E|-;generalize R.alloc (.map #[] 0)=w2 at E L|-;have⟨HB,hc,I⟩:=aB hB E L;clear hB E L hh;go_loopw [6,20] (λ_ i wr=>∃(j Q:Nat)(D:DmS),j<=T/\i=.int .i64 j/\Q<=j/\(F.take j).Nodup/\ae9 D (F.take j)/\wr.ownsMap prog 3 (plainElem prog 3) B Q D/\w2.grownBy wr B) (λ_ i _=>T-(intOf i).toNat)
 .exact⟨0,0,_,bK _,rfl,dQ,by simp,by simpa using ae9.nil,hc,⟨rfl,rfl,rfl,dQ,λ_ _ _=>rfl⟩⟩
 obtain⟨j,Q,D,hj,rfl,hr,p,q,u,o⟩:=hrel;have X:=aH (aK h4 (I.grown o I.size (λk hk=>by cases hk;rw[HB.zz];exact cV _)));by_cases hq:j<T
 .have i1:(j:Int)<T:=(by omega);obtain⟨x,hx⟩:∃x,F[j]?=some x:=⟨_,aJ (by have:=U.zz;omega)⟩;have hp:=HS x (bC hx);have t:keyOf prog 3 x=some (ay4 x):=keyOf_int_mk underlying3 (cp8 (by omega) (by omega));have g:=bY S I;have y:wr.ownsRow w 3 1 (.slice A1 T c1) T (fJ F):=eS g λk hk=>o.block k (jN g k hk) (λJ=>by cases J;have:=jN S _ hk;have:=HB.zz;omega);obtain⟨b,hs,rfl,-,-,-,s⟩:=(Reads.cX y).UK (by omega);have cx:=s wr iH j (by simp;have:=U.zz;omega);rw[zX,show F[j]'(by have:=U.zz;omega)=x from(aQ.1 hx).2]at cx;have⟨cv,ho,m,hm⟩:=u.lookup_int KI underlying317 underlying3 (zeroValue3 wr) t;have HX:=aH hx;clear g y s hx hm;by_cases d:x∈F.take j
  .have N:cv=1:=by have:=(q.2 x).1 d (.lit (.int .i64 0));rw[this]at m;injection m with J;injection J with J h8;exact h8.symm
   subst N;have hv:=aH (ba9 (l:=l) (by rw[<-HF.zz];exact HX) (by rw[<-HF.zz];exact d));clear q u p m d o;go_wp2;go_ret;exact⟨by rw[hv.zz];rfl,X⟩
  have N:cv=0:=by rw[atKey_of_not_has ((q.2 x).2 d)]at m;injection m with J;injection J with J h8;exact h8.symm
  subst N;have h3:plainElem (H:=Unit) prog 3 (1:Int)=some (.lit (.int .i64 1),[]):=plainElem_int underlying3 (by decide);have O:F.take (j+1)=F.take j++[x]:=(by rw[dL,HX.zz];rfl);obtain⟨hg,hd,h5,hf,h7⟩:=aD (q.put (x:=x) (KI.key t)) (show(F.take (j+1)).Nodup from by rw[O];exact mG.2 ⟨p,by simp,λa ha b hb=>by rw[bP.1 hb];rintro rfl;exact d ha⟩) O u o;have hi:Q<maxLen:=(by unfold maxLen;omega);clear q p m d O u o;go_wp2_with (first
   |(at_mapUpdate;refine wpList_mapUpdate_own _ rfl _ _ _ 317 rfl 3 3 KI underlying317 (plainElem prog 3) B Q D rfl hf hi _ _ (ay4 x) rfl rfl t (.lit (.int .i64 1)) [] h3 ?_;intro w6 z Z))
  have⟨he,h6⟩:=aA z (az2 h7 Z);clear z Z;go_wp2;go_roundw
  .exact⟨j+1,Q+1,_,by omega,by go_num,by omega,hd,by rw[h5.zz];exact hg,he,h6⟩
  simp[intOf];omega
 obtain rfl:j=T:=(by omega);have i1:¬(j:Int)<j:=by omega
 have hv:=aH (show kR l=true from by
  unfold kR;rw[bG,<-HN.zz,<-HF.zz,<-U.zz];exact⟨h1,h2,by rw[U.zz,eX]at p;exact p⟩)
 clear q u p o;go_wp2;go_ret;exact⟨by rw[hv.zz];rfl,X⟩
def AF:(prog.info? 33).map (λi=>(i.zero,i.size,i.bytes))=some (some (.slice none 0 0),1,24):=by kernel_rfl
structure lS(w:aI)(a:Nat)(c:List aN)(l:mX):Prop where
 len:c.length=l.length
 own:∀(k:Nat)(x:aN)(L:List Nat),c[k]?=some x->l[k]?=some L->w.ownsRow a 3 1 x L.length (fJ L)
 apart:∀(i j:Nat)(x y:aN)(b:Nat),i≠j->c[i]?=some x->c[j]?=some y->x.ownBlock=some b->y.ownBlock≠some b
def lS.nil(w:aI)(a:Nat):lS w a [] []:=⟨rfl,(λk x L h=>by simp at h),(λi j x y b _ h=>by simp at h)⟩
def lS.eW{w':aI}(h:lS w n X C)(e:∀k t f,Row w k t f->t=3->w'.heap[k]?=w.heap[k]?):lS w' n X C:=⟨h.len,λk x L c a=>eS (h.own k x L c a) λb d=>e b _ _ (dX (h.own k x L c a) d) rfl,h.apart⟩
def lS.next{w:aI}{base:Nat}(h:lS w base X C)(a:aR w w x):lS x base X C:=h.eW λk t c b _=>a.block k b.lt
def lS.snoc{w:aI}{B:Nat}(h:lS w n X C)(A:w.ownsRow n 3 1 v M (fJ M))(o:∀(k:Nat)(y:aN)(b:Nat),X[k]?=y->y.ownBlock=b->b<B)(l:∀b,v.ownBlock=some b->B<=b):lS w n (X++[v]) (C++[M]):=by
 have c:∀{F:Type} (a:List F) (z y:F) (k:Nat),(a++[z])[k]?=y->(k<a/\a[k]?=y)\/(k=a/\y=z):=λa z y k e=>by
  rcases cK k a with r|r
  .exact .inl ⟨r,by rw[fO r]at e;exact e⟩
  have x:=(aQ.1 e).1;simp at x;have:k=a.length:=(by omega);subst this;rw[eF dQ]at e;simp at e;exact .inr ⟨rfl,e.symm⟩
 refine⟨by simp[h.len],λk y E t u=>?_,λi j y z b m t D s d=>?_⟩
 .rcases c _ _ _ _ t with⟨q,p⟩|⟨q,rfl⟩
  .rcases c _ _ _ _ u with⟨f,g⟩|⟨f,rfl⟩
   .exact h.own k y E p g
   have:=h.len;omega
  rcases c _ _ _ _ u with⟨f,g⟩|⟨f,rfl⟩
  .have:=h.len;omega
  exact A
 rcases c _ _ _ _ t with⟨q,p⟩|⟨q,rfl⟩
 iterate 2
  .rcases c _ _ _ _ D with⟨f,g⟩|⟨f,rfl⟩
   .first|exact h.apart i j y z b m p g s d|have:=o j z b g d;have:=l b s;omega
   first|have:=o i y b p s;have:=l b d;omega|(exact m (by omega))
def lS.lt{n:Nat}(h:lS w n X C):∀(k:Nat)(y:aN)(b:Nat),X[k]?=y->y.ownBlock=b->b<w:=λk y b a c=>by
 have d:=(aQ.1 a).1;exact jN (h.own k y _ a (aJ (by rw[<-h.len];exact d))) b c
def bS6(w:aI)(a:Nat)(v:aN)(l:mX):Prop:=(l=[]/\∃A,v=.slice A 0 0)\/∃b c,v=.slice (some ⟨b,0,none⟩) l.length l.length/\a<=b/\Row w b 33 c/\lS w a c l
def as2(h:Reads w v 1 M (fJ M))(D:M.length<=1000000):Calls prog 57 #[v] w λe g=>∃o,e=.returned o/\g.ownsRow w 3 1 o M (fJ M)/\aR w w g:=by
 have⟨i0,i,k,l,m⟩:=info_parts nH;obtain⟨A,c,rfl,z,B,C,p⟩:=id h;rcases dP M.length with f|f
 iterate 2
  .first|((have x:fJ M=[]:=eG.1 (by simpa using f));rw[f,x];rcases A with _|a)|(obtain⟨b,n,rfl,t,r⟩:=p f;(refine(slices_Clone i0 (.int .i64 0) 1 8 i k l m rfl (by omega) (λw=>sizeOf3 w) b n M.length c (fJ M) w (by simp) (by unfold maxLen;omega) (by omega) (λj u s=>?_) (PJ M)).mono ?_))
   .first|refine(slices_Clone_int_nil 0 c w).mono ?_;rintro e g ⟨rfl,rfl⟩;exact⟨_,rfl,bM _ _ _ _,iH⟩|have d:=aQ.1 s;rw[r j d.1];exact gQ some d.2
   (try refine(slices_Clone_int_zero a c w).mono ?_);rintro e g ⟨o,rfl,y,-,q⟩;exact⟨_,rfl,y,q⟩
def bd6(a:List aN)(h:∀(k:Nat)(x:aN),a[k]?=x->∃A n c,x=.slice A n c):∀u∈a,u.oneCell'=true:=by intro u e;obtain⟨k,d,rfl⟩:=fH e;have⟨A,n,c,b⟩:=h k _ (aJ d);rw[b];rfl
def II{l:mX}{n:Nat}(t:n<=l)(h:∀k L,n<=k->l[k]?=some L->L=[])(r:∀L,n≠0->l[n-1]?=some L->L≠[]):iQ l=l.take n:=by
 have e:l=l.take n++l.drop n:=(bX n l).symm;have f:∀a∈l.drop n,a=[]:=λa p=>by obtain⟨i,q,rfl⟩:=fH p;rw[eK]at q;rw[pQ];exact h (n+i) _ (by omega) (aJ (by omega))
 have o:∀(a z:mX),(∀x∈z,x=[])->iQ (a++z)=iQ a:=by
  intro a z f;unfold iQ;rw[zD];congr 1;have d:∀x∈z.reverse,x=[]:=λx g=>f x (List.mem_reverse.1 g);generalize z.reverse=y at d;clear f;induction y with
  |nil=>rfl
  |cons b y s=>rw[l8,nO,d b (by simp)];simp only[List.isEmpty_nil,eH];exact s λx g=>d x (by simp[g])
 conv=>lhs;rw[e]
 rw[o _ _ f];rcases dP n with j|j
 .subst j;rfl
 have c:=r (l[n-1]'(by omega)) (by omega) (aJ (by omega));have m:l.take n=l.take (n-1)++[l[n-1]'(by omega)]:=by
  conv=>lhs;rw[show n=n-1+1 from by omega]
  rw[jO (by omega)]
 rw[m];unfold iQ;rw[zD];show((l[n-1]'(by omega)::(l.take (n-1)).reverse).dropWhile List.isEmpty).reverse=_;rw[nO,aP (by rw[T5];exact c)];simp
def VF(A:Option Addr)(n c:Nat)(w:aI)(j:n<=c)(i:c<=9223372036854775807)(d:0<n->∃b,A=zp b):Calls prog 268 #[.slice A n c] w λe g=>(∃a,e=.returned (.slice a n n)/\(0<n->a=A))/\w=g:=by
 rcases dP n with rfl|f
 .go_in;go_wp2;go_ret;exact⟨⟨_,rfl,λh=>by omega⟩,rfl⟩
 obtain⟨b,rfl⟩:=d f;clear d;go_in;go_wp2;go_ret;exact⟨⟨_,rfl,λ_=>rfl⟩,rfl⟩
def VP(v:aN)(l:mX)(w:aI)(h:vA w v l)(hl:l.length<=1000)(ht:l.flatten.length<=100000):Calls prog 225 #[v] w λe w'=>∃v',e=.returned v'/\bS6 w' w v' (iQ l)/\aR w w w':=by
 have⟨vs,xj,h7,hq⟩:=h;have⟨i0,xt,xw,xx,xy⟩:=info_parts AF;obtain⟨A,c,rfl,xa,xb,-⟩:=id h7;have o:∀(j:Nat),j<l.length->∃L x b u,l[j]?=some L/\vs[j]?=some x/\A=some ⟨b,u,none⟩/\L.length<=100000/\Reads w x 1 L.length (fJ L)/\∀wr,aR w.heap.size w wr->wr.cell? ⟨b,u+j,none⟩=some x:=λj hj=>by
  obtain⟨b,u,hA,-,-,-,r⟩:=h7.UK (by omega);have P:vs[j]?=some (vs[j]'(by omega)):=aJ (by omega);have Q:l[j]?=some l[j]:=aJ hj;refine⟨_,_,b,u,Q,P,hA,?_,hq j _ _ P Q,λwr hb=>?_⟩
  .have e:l=l.take j++l[j]::l.drop (j+1):=(by rw[gT,bX]);have:=gQ (λz=>z.flatten.length) e;simp only[iO,iA,aO]at this;omega
  exact r wr hb j (by omega)
 have⟨n,hn⟩:=fR l.length;rw[<-hn]at xa hl o|-;have⟨HN,HC⟩:=aA hn o;clear hq h7 o hn xj xb;go_in;go_wp2_with fail
 go_loopw [3,5,8] (λJ _ i wr=>∃(j:Nat)(G:List aN),j<=n/\i=.int .i64 j/\G.length=j/\wr.ownsRow w.heap.size 33 1 J j G/\lS wr w.heap.size G (l.take j)/\aR w.heap.size w wr) (λ_ _ i _=>n-(intOf i).toNat)
 .exact⟨0,[],bK _,rfl,rfl,bM _ _ _ _,by simpa using lS.nil _ _,iH⟩
 obtain⟨j,G,hj,rfl,hz,d,q,F⟩:=hrel;obtain⟨A1,c1,rfl,xi,hw,-⟩:=id (Reads.cX d);by_cases xf:j<n
 .obtain⟨L,x,b,u,Z,h2,rfl,xo,h3,h4⟩:=HC.zz j xf;obtain⟨Ax,cx,rfl,-⟩:=id h3;have c0:=h4 wr F;have i1:(j:Int)<n:=(by omega);have s:=as2 (h3.next F) (by omega);have⟨V,C,E,H1,Y⟩:=aD d q F Z hz;clear Z h2 h3 h4 d q F xi hw;go_wp2_with fail
  go_call s as e w3 ⟨v3,rfl,a,K⟩;obtain⟨A3,c3,rfl,-⟩:=id (Reads.cX a);have⟨hf,H⟩:=aA a K;clear s a K;(go_wp2_with (at_builtin;refine MG AF underlying55 (bY V.zz H.zz) rfl rfl rfl rfl rfl (by omega) (by have:=E.zz.size;have:=H.zz.size;omega) ?_;intro v4 w4 N ho hm;have x5:=aH N;have hd:=aH ho;clear N ho hm));go_roundw
  .
   refine⟨j+1,G++[.slice A3 L.length c3],by omega,by go_num,by simp[Y.zz],x5.zz,?_,?_⟩
   iterate 2
    ·(try ((have xc:l.take (j+1)=l.take j++[L]:=by rw[dL,H1.zz];rfl);rw[xc]));have T:=(bR w3.heap.size w3).alloc dQ (.cells #[.slice A3 L.length c3] 33);(try (have hu:=(C.zz.next H.zz).next T;have xk:=bY (iI hf.zz E.zz.size) T));have a:=bY (bY V.zz H.zz) T
     first
      |have hs:=hu.snoc (B:=wr.heap.size) xk C.zz.lt (dH hf.zz)
       exact hs.eW λk t xs hr ht=>hd.zz.block k hr.lt (λh9=>by have:=dD (dX a h9.symm) hr;rw[ht]at this;exact absurd this (by decide))
      |have K:=aK E.zz (aK H.zz T)
       exact nX a K hd.zz K.size
  simp[intOf];omega
 obtain rfl:j=n:=(by omega);have i1:¬(j:Int)<j:=by omega
 have h5:0<j->∃b,A1=some ⟨b,0,none⟩/\w.heap.size<=b/\Row wr b 33 G:=λh0=>by
  rcases id d.2 with⟨h9,h8⟩|⟨g,xm,xn,h9,x9,hg,xu,xq,xr,xv⟩
  .omega
  cases h9;exact⟨g,rfl,x9,dX d (k:=g) (by simp[Value.ownBlock])⟩
 have D:∀k,k<j->∃b Ax cx L,A1=some ⟨b,0,none⟩/\l[k]?=some L/\G[k]?=some (.slice Ax L.length cx)/\∀x,aR wr.heap.size wr x->x.cell? ⟨b,k,none⟩=some (.slice Ax L.length cx):=λk hk=>by
  obtain⟨b,u,hA,-,-,-,r⟩:=(Reads.cX d).UK (by omega);obtain⟨b',S,-⟩:=h5 (by omega);rw[S]at hA;obtain⟨rfl,rfl⟩:b'=b/\u=0:=(by cases hA;exact⟨rfl,rfl⟩);obtain⟨L,x,_,_,Z,-⟩:=HC.zz k hk;have O:G[k]?=some (G[k]'(by omega)):=aJ (by omega);have xh:=q.own k _ L O (by rw[iV hk];exact Z);obtain⟨Ax,cx,x0,-⟩:=id (Reads.cX xh);refine⟨b',Ax,cx,L,S,Z,by rw[O,x0],λx P=>?_⟩;have:=r x P k (by omega);rwa[jC,x0]at this
 have⟨x2,x1,C,E,Y⟩:=aD D h5 q F hz;clear D h5 q F d;unfold maxLen at hw;go_wp2_with fail
 go_loopw [3] (λJ w5=>∃k:Nat,k<=j/\J=.slice A1 k c1/\(∀(i:Nat)(L:List Nat),k<=i->l[i]?=some L->L=[])/\aR wr.heap.size wr w5) (λJ _=>match J with|.slice _ k _=>k|_=>0)
 .exact⟨j,dQ,rfl,(λi L hi Q=>by have:=(aQ.1 Q).1;have:=HN.zz;omega),iH⟩
 obtain⟨k,hk,rfl,f,m⟩:=hrel;have xg:k<=l.length:=(by have:=HN.zz;omega);rcases k with _|p
 .have U:=aH (II (l:=l) (n:=0) (bK _) f (λL h=>absurd rfl h));have s:=VF A1 0 c1 wr (bK _) (by omega) (λh=>by omega);have I:=aH (aK E.zz m);clear f m;go_wp2_with fail
  go_call s as e w' ⟨⟨A',rfl,-⟩,rfl⟩;go_wp2;go_ret;exact⟨_,rfl,.inl ⟨by rw[U.zz];rfl,_,rfl⟩,I.zz⟩
 obtain⟨b,Ax,cx,L,rfl,Q,O,hc⟩:=x2.zz p (by omega);have c0:=hc wr m;by_cases R:L=[]
 .subst R;have ha:=aH (show∀(i:Nat)(L:List Nat),p<=i->l[i]?=some L->L=[]from λi L hi h6=>by
   rcases cK p i with h9|h9
   .exact f i L h9 h6
   have:i=p:=(by omega);subst this;rw[Q]at h6;cases h6;rfl)
  have i2:((p+1:Nat):Int)-1=(p:Int):=(by omega);have i3:(p:Int)+1-1=(p:Int):=(by omega);have I:=aH m;clear f Q O hc m;simp only[kG]at c0;go_wp2;go_roundw
  .exact⟨p,by omega,by go_num,ha.zz,I.zz⟩
  simp
 have xl:0<L.length:=qL.2 R;have U:=aH (II (l:=l) (n:=p+1) xg f (λM _ hM=>by rw[show p+1-1=p from rfl,Q]at hM;cases hM;exact R));have⟨b',S,hp,X⟩:=x1.zz (by omega);have x8:b=b':=(by cases S;rfl);subst x8;have s:=VF (some ⟨b,0,none⟩) (p+1) c1 wr (by omega) (by omega) (λ_=>⟨b,rfl⟩);have I:=aH (aK E.zz m);have hv:(iQ l).length=p+1:=by rw[U.zz,b8];omega
 have x6:=aH (show Row wr b 33 (G.take (p+1))from by
  have:=X.next m;rw[<-bX (p+1) G]at this;exact this.less)
 have W:lS wr w.heap.size (G.take (p+1)) (iQ l):=by
  rw[U.zz];have hi:=C.zz.next m;refine⟨by rw[b8,b8];have:=Y.zz;omega,λi x M P hM=>?_,λi j x y b xe P hy=>?_⟩
  .have xd:=(aQ.1 hM).1;rw[b8]at xd;rw[iV (by omega)]at P hM;exact hi.own i x M P (by rw[iV (by omega)];exact hM)
  have Z:=(aQ.1 P).1;have h2:=(aQ.1 hy).1;rw[b8]at Z h2;rw[iV (by omega)]at P hy;exact hi.apart i j x y b xe P hy
 have⟨he,x4,x3⟩:=aB W hv hp;have i4:¬(L.length:Int)=0:=(by omega);have xp:L.length≠0:=(by omega);clear f Q O hc m X W hv R hp;go_wp2_with fail
 go_call s as e w' ⟨⟨A',rfl,hh⟩,rfl⟩;have x7:=hh (by omega);subst x7;clear hh s;go_wp2;go_ret;exact⟨_,rfl,.inr ⟨b,G.take (p+1),by rw[x4.zz];rfl,x3.zz,x6.zz,he.zz⟩,I.zz⟩
end Go.Proofs.YtpopikndggffaaaGreatDoor
