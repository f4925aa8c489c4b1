/- TOP, part 31. -/
import Derived.Test.YtpopikndggffaaaGreatDoorGm30
namespace Go.Proofs.YtpopikndggffaaaGreatDoor
set_option linter.all false
set_option maxRecDepth 100000
set_option maxHeartbeats 16000000
open Go.RowKit Go.Maps Tryz
variable{d g i j k m n s:Nat}{w x:aI}{D:aM}{S:dW}
abbrev iP:=Option (cT×bA)
def IZ(w:aI)(base q:Nat)(h:dW)(D:aM)(o:iP)(cK aZ:Nat):Prop:=match o with
 |none=>∃blk dat,bM w base h.d h.m D blk dat
 |some (G,I)=>nQ w base q h D G I cK aZ
def tZ(w:aI)(q:Nat)(h:dW)(o:iP)(k:Nat):Prop:=match o with
 |none=>jE w h.d h.m k
 |some _=>gX w h k\/k=q
def sF(q:Nat)(o:iP):aN:=match o with|none=>.pointer none|some _=>.pointer (some ⟨q,0,none⟩)
structure iW(w:aI)(a W q:Nat)(h:dW)(D:aM)(o:iP)(b c:Nat):Prop where
 row:Row w W 69 [.pointer (some ⟨h.d,0,none⟩),sF q o,.int .u64 (c:Nat),.float .f64 b]
 it:IZ w a q h D o b c
 low:a<=W
 out:¬tZ w q h o W
def mD(w:aI)(W q:Nat)(h:dW)(o:iP)(k:Nat):Prop:=tZ w q h o k\/k=W
def oO(w:aI)(a W q:Nat)(h:dW)(o:iP)(D':aM)(o':iP)(b c:Nat)(e:aI):Prop:=
 ∃(f:Nat)(d:dW),(d.d=h.d/\d.m=h.m)/\iW e a W f d D' o' b c/\oD a (mD w W q h o) (mD e W f d o') w e
def sQ:¬(69=103\/69=112\/69=5)/\(69:cD)≠3:=by decide
section
variable {w w' w'':aI}{base W q:Nat}{h:dW}{D D':aM}{o o':iP}{cK aZ:Nat}
def IZ.eD(H:IZ w base q h D o cK aZ):∃a b,bM w base h.d h.m D a b:=by
 match o,H with
 |none,H=>exact H
 |some (G,I),H=>exact H.sys.eD
def iW.cells(H:iW w base W q h D o cK aZ):w.cell? ⟨W,0,none⟩=some (.pointer (some ⟨h.d,0,none⟩))/\w.cell? ⟨W,1,none⟩=some (sF q o)/\w.cell? ⟨W,2,none⟩=some (.int .u64 aZ)/\w.cell? ⟨W,3,none⟩=some (.float .f64 cK):=
 ⟨H.row.cell 0 (by simp),H.row.cell 1 (by simp),H.row.cell 2 (by simp),H.row.cell 3 (by simp)⟩
def nQ.KJ{G M:cT}{I J:bA}(H:nQ w base q h D G I cK aZ)(a:S.L=h.L/\S.x.X=h.x.X)(s:lB w' base S D' M J cK)(v:oD base (gX w h) (gX w' S) w w'):nQ w' base q S D' M J cK aZ/\oD base (λk=>gX w h k\/k=q) (λk=>gX w' S k\/k=q) w w':=
 ⟨H.BA a s v,v.or λk=>k=q⟩
def iW.BA{q':Nat}{h':dW}(H:iW w base W q h D o cK aZ)(b:h'.d=h.d)(c:sF q' o'=sF q o)(s:IZ w' base q' h' D' o' cK aZ)(v:oD base (tZ w q h o) (tZ w' q' h' o') w w'):iW w' base W q' h' D' o' cK aZ/\oD base (mD w W q h o) (mD w' W q' h' o') w w':=
 ⟨⟨by rw[b,c];exact H.row.of_block (v.block W H.row.lt (.inr H.out)),s,H.low,λa=>H.out (v.rC W H.row.lt a)⟩,v.or λk=>k=W⟩
def IZ.next(H:IZ w base q h D o cK aZ)(a:aS w.heap.size w w'):IZ w' base q h D o cK aZ/\oD base (tZ w q h o) (tZ w' q h o) w w':=by
 match o,H with
 |none,⟨c,d,b⟩=>exact⟨⟨_,_,b.next a⟩,jE.next a b.FJ⟩
 |some (G,I),H=>exact H.KJ ⟨rfl,rfl⟩ (H.sys.next a) (H.sys.l7 a)
def iW.next(H:iW w base W q h D o cK aZ)(a:aS w.heap.size w w'):iW w' base W q h D o cK aZ/\oD base (mD w W q h o) (mD w' W q h o) w w':=
 H.BA rfl rfl (H.it.next a).1 (H.it.next a).2
def iW.to(H:iW w base W q h D o cK aZ)(a:aS w.heap.size w w'):oO w base W q h o D o cK aZ w':=⟨q,h,⟨rfl,rfl⟩,(H.next a).1,(H.next a).2⟩
def oO.next(H:oO w base W q h o D' o' cK aZ w')(a:aS w'.heap.size w' w''):oO w base W q h o D' o' cK aZ w'':=by obtain⟨c,b,e,s,v⟩:=H;exact⟨c,b,e,(s.next a).1,v.trans (s.next a).2⟩
def oO.trans{a:iP}{n:Nat}(b:S.d=h.d/\S.m=h.m)(v:oD base (mD w W q h o) (mD w' W n S o') w w')(K:oO w' base W n S o' D a cK aZ w''):oO w base W q h o D a cK aZ w'':=by obtain⟨d,c,e,s,f⟩:=K;exact⟨d,c,⟨e.1.trans b.1,e.2.trans b.2⟩,s,v.trans f⟩
end
def sB{o:iP}(H:iW w k n m S D o i j):
 Calls prog 22 #[.pointer (some ⟨n,0,none⟩)] w λe a=>e=.returned (.bool false)/\w=a:=by
  obtain⟨b,-⟩:=H.cells;clear H;go_in;go_wp2;go_ret;exact⟨rfl,rfl⟩
def N1{o:iP}(H:iW w k n m S D o i j):
 Calls prog 28 #[.pointer (some ⟨n,0,none⟩)] w λe a=>e=.returned (.pointer (some ⟨S.d,0,none⟩))/\w=a:=by
  have b:=sB H;obtain⟨c,-⟩:=H.cells;clear H;go_in;(go_wp2_with fail);refine b.mono ?_;rintro e a ⟨rfl,rfl⟩;go_wp2;go_ret;exact⟨rfl,rfl⟩
def yF{o:iP}(H:iW w k n m S D o i j):
 Calls prog 12 #[.pointer (some ⟨n,0,none⟩)] w λe a=>e=.returned (sF m o)/\w=a:=by
  have b:=sB H;obtain⟨-,c,-⟩:=H.cells;generalize sF m o=P at c|-;clear H;go_in;(go_wp2_with fail);refine b.mono ?_;rintro e a ⟨rfl,rfl⟩;go_wp2;go_ret;exact⟨rfl,rfl⟩
variable{B:List kK}{K:bK->Nat}{H:bK->aN}
structure nI(c a s:Nat)(D:aM)(d:List kK)(S:Nat)(e:Int)(o:iP)(b:aM):Prop where
 tW:b.cap=D.cap
 bj1:b.bP=D.bP
 it:(e=61/\o=none/\b.down=true/\lN c a s b.files (d.map iT) S)\/
  (e=0/\∃G I k,o=some (G,I)/\k<=d.length/\S<=k/\jQ c a s b G I ((d.take k).map iT) k)
 calm:Calm D->e≠61
 next:∀m G I,o=some (G,I)->zH m=true->m.aZ=a->bR D.files fZ=some ⟨iV m,(iV m).length⟩->(∀n∈m.fC.flatten,n<=999999/\∃L,mY D.files n L)->I.cV.next=m.next
 fresh:D.files=[]->D.down=false->b=D/\∀G I,o=some (G,I)->G.bW=[]/\I.cV.next=0/\I.cV.fC=[]
def JO(a:D.files=[])(d:D.down=false):jF D=(0,some ⟨[],0⟩,D):=by have b:D.gE=(0,D):=(by unfold aM.gE;rw[a];rfl);have c:D.count=(0,true):=(by unfold aM.count aM.names;rw[a];rfl);unfold jF;rw[b];simp only;rw[c,d];rfl
def JI(b:D.files=[])(c:D.down=false)(G:cT)(a:Nat)(h:Nat->List lI):∃m,fD D G a h=(0,some ⟨⟨0,0,a,[]⟩,m,λ_=>none⟩,D):=by have d:oX D=(4,⟨0,0,0,[]⟩):=(by unfold oX;rw[b,c];rfl);have e:kQ D G a=(4,none):=(by unfold kQ;rw[d];rfl);have f:D.delete fZ=(4,D):=(by unfold aM.delete;rw[b,c];rfl);have g:lF D (wE a).cV=(0,D):=(by unfold lF aM.names;rw[b,c];rfl);unfold fD;rw[e];simp only;rw[f];unfold pQ;simp only;rw[g];exact⟨_,rfl⟩
def by6{l f:bZ}{R:List lI}(d:EN f k n R m)(e:iQ isI l f){M:iY}(q:zH M=true)(h:M.aZ=k)(a:k<18446744073709551616)(b:bR l fZ=some ⟨iV M,(iV M).length⟩):M.check<=m:=by obtain⟨g,j,c,-⟩:=e.sure M2 b (aO _);obtain⟨r,i⟩:=QD q (by rw[h];exact a);simp only at c;have o:=(d g j).2 (by rw[c];exact r) (by rw[c,i];exact h);have p:=o.check;rwa[c,i]at p
def aZ1(h:(jF D).1≠0):(jF D).2.1=none:=by
 unfold jF at h|-;split
 .rfl
 rename_i a;rw[aQ a]at h;split
 .rfl
 rename_i b;rw[aQ b]at h;split
 .rfl
 rename_i c;rw[aQ c]at h;split
 .rfl
 rename_i d;rw[aQ d]at h;exact absurd rfl h
def bN7(K:D.down=false)(r:D.cap=n)(E:n<=1048576)(Z:lN n m k D.files (B.map iT) i)(Y:kU B)(hf:B.length<=1000)(o:m<18446744073709551616):
 ((jF D).1=61/\(jF D).2.1=none/\nI n m k D B i 61 none (jF D).2.2)\/
 ∃j G h5,(jF D).1=0/\(jF D).2.1=some G/\aQ3 n m k (jF D).2.2 G j (B.take h5)/\(jF D).2.2.bP=D.bP/\
  ((fD (jF D).2.2 G m (iD j)).2.1=none->nI n m k D B i (fD (jF D).2.2 G m (iD j)).1 none (fD (jF D).2.2 G m (iD j)).2.2/\(fD (jF D).2.2 G m (iD j)).1≠0)/\
  ∀I,(fD (jF D).2.2 G m (iD j)).2.1=some I->(fD (jF D).2.2 G m (iD j)).1=0/\nI n m k D B i 0 (some (G,I)) (fD (jF D).2.2 G m (iD j)).2.2:=by
   obtain⟨w,z,F⟩:=bw7 (aZ:=m) (s:=k) K r E Z;rcases F with⟨a,b,c⟩|⟨j,V,a,b,c,d,e,f,g,h,h0⟩
   .refine .inl ⟨a,aZ1 (by rw[a];simp),w,z,.inl ⟨rfl,rfl,b,c⟩,λv=>?_,(λh6 G I u=>by cases u),λl p=>by rw[JO l p]at a;simp at a⟩;exact absurd a (XP v).2
   obtain⟨Q,p2⟩:=bN4 g;have H:aQ3 n m k (jF D).2.2 ⟨eL j,jJ (eL j)⟩ j (B.take j.flatten.length):=
    ⟨c,w.trans r,E,d,⟨V,e,f⟩,UU Y _,Q,by rw[bJ];omega,o⟩
   have J:=bL8 (aZ:=m) (s:=k) c (w.trans r) E d e f;refine .inr ⟨j,_,j.flatten.length,a,b,H,z,?_⟩;obtain⟨R,S,O⟩:=J;refine⟨λN=>?_,λI A=>?_⟩
   .rcases O with⟨I,s,q,x⟩|⟨s,q,x,L⟩
    .rw[q]at N;cases N
    rw[s];refine⟨⟨R.trans w,S.trans z,.inl ⟨rfl,rfl,x,?_⟩,λv=>absurd s (ac0 (XP v).1 _ _ _),(λh6 G I u=>by cases u),λl p=>?_⟩,by simp⟩
    .exact(L.less h).cq5 g
    obtain⟨m9,C⟩:=JI l p ⟨eL j,jJ (eL j)⟩ m (iD j);rw[JO l p]at s;simp only at s;rw[C]at s;simp at s
   rcases O with⟨I',s,q,x⟩|⟨s,q,x,L⟩
   .rw[q]at A;cases A;refine⟨s,⟨R.trans w,S.trans z,.inr ⟨rfl,_,_,j.flatten.length,rfl,p2,h,?_⟩,λ_=>by simp,(λh6 T U u M P t y=>?_),λl p=>?_⟩⟩
    .rw[<-Q];exact x
    .cases u;refine ao9 c o M P t y h0 ?_ q;have X:=by6 f h0 M P o t;exact aL X (at6 e.log)
    obtain⟨m9,C⟩:=JI l p ⟨eL j,jJ (eL j)⟩ m (iD j);have W:=JO l p;rw[W]at q b|-;simp only at q b|-;rw[C]at q|-;cases q;refine⟨rfl,λT U u=>?_⟩;cases u;exact⟨by rw[<-cS b],rfl,rfl⟩
   rw[q]at A;cases A
def ZQ(a d m c b g s:Nat)(D:aM)(k:List kK)(S:Nat)(w:aI)(e:eT)(h:aI):Prop:=
 ∃(j:Int)(o:iP)(i:aM)(q:Nat)(f:dW),e=.returned (.tuple #[sF q o,.int .i64 j])/\nI g b s D k S j o i/\(f.d=d/\f.m=m)/\IZ h a q f i o c b/\oD a (jE w d m) (tZ h q f o) w h
def noX:oG:=⟨0,0,0,.bool true,.bool true,fun _=>0,fun _=>False,fun _=>False⟩
def an4(D:aM):D.gE.2.bP=D.bP:=by
 unfold aM.gE;split
 .exact pP _ _
 rfl
def aH2(h:sA n m w.heap.size (.slice none 0 0) w x)(b:CI w k):oD n (jE w k m) (jE x k m) w x:=
 (oD.NV h b (kI.refl _ _)).mono (λd c a=>by
  rcases a with a|a|a
  .exact a
  .omega
  simp[Value.ownBlock]at a) (λd c a=>.inl (.inl a))
def aU3(hd:bM w k n i D K H)(hb:k<=w.heap.size)(F:D.down=false)(U:D.cap=j)(hc:j<=1048576)(C:lN j d m D.files (B.map iT) g)(A:kU B)(hf:B.length<=1000)(E:d<18446744073709551616)(f:Nat):
 Calls prog 49 #[.pointer (some ⟨n,0,none⟩),.int .u64 d,.float .f64 f] w (ZQ k n i f d j m D B g w):=by
  have h:=bQ4 hd hb;have⟨HB,P⟩:=aA hb hd.FJ;have hu:=an4 D;unfold ZQ;rcases bN7 F U hc C A hf E with⟨Q,R,M⟩|⟨C',G,h5,Q,R,M,a4,N,O⟩
  .rw[Q,R]at h;unfold bN8 at h;simp only at h;have A3:=aH M;clear hd hb F C A hf Q R M hu;go_in;(go_wp2_with fail);refine h.mono ?_;rintro e w1 ⟨L,rfl,Y,-,p⟩;have⟨V1,J⟩:=aA Y (aH2 p P.out);clear h Y p;go_wp2;go_ret2;exact⟨61,none,_,0,⟨n,i,0,.bool true,noX⟩,rfl,A3.out,⟨rfl,rfl⟩,V1.out,J.out⟩
  rw[Q,R]at h;rw[hu,<-a4]at h;obtain⟨D1,T⟩:∃D1,D1=(jF D).2.2:=⟨_,rfl⟩;rw[<-T]at h M N O;unfold bN8 at h;simp only at h;have⟨A3,A5,A6⟩:=aB M N O;clear hd hb F C A hf Q R M a4 N O hu T;go_in;(go_wp2_with fail);refine h.mono ?_;rintro e w1 ⟨L,rfl,⟨h3,h4,V⟩,W,p⟩;obtain⟨hL,v,X,h0⟩:=W G rfl;have x:=aH2 p P.out;have J:=aH (show oD k (jE w n i) (AE w1 n i L v) w w1 from⟨x.os,x.tape,x.output,x.size,x.block,λh5 C l=>by
   rcases l with l|l|l
   .exact x.rC h5 C l
   .omega
   have:=h0 h5 l;omega⟩)
  have c:=bL7 V X (aL HB.out x.size) A3.out f;obtain⟨⟨er,o,D2⟩,hr⟩:∃r,r=fD D1 G d (iD C'):=⟨_,rfl⟩;have q:=A5.out;have s:=A6.out;rw[<-hr]at c q s;unfold av8 at c;simp only at c q s;have⟨A5,A6⟩:=aA q s;clear h V W p hL X h0 x hr q s;cases o with
  |none=>(go_wp2_with fail);refine c.mono ?_;rintro e u ⟨S,-⟩;obtain⟨b,rfl,Z,a⟩:=S trivial;have⟨V2,E2⟩:=aA Z (J.out.trans a);obtain⟨N,O⟩:=A5.out trivial;have R2:=aH N;clear c S Z a N;go_wp2;go_ret2;exact⟨er,none,D2,0,⟨n,i,0,.bool true,noX⟩,rfl,R2.out,⟨rfl,rfl⟩,V2.out,E2.out⟩
  |some I=>
   obtain⟨O,a7⟩:=A6.out I rfl;subst O;have R2:=aH a7;(go_wp2_with fail);refine c.mono ?_;rintro e u ⟨-,S⟩;obtain⟨b,y,g1,g2,g3,rfl,t,a⟩:=S I rfl;have b3:=dO u (.cells #[.pointer (some ⟨L,0,none⟩),.pointer (some ⟨y.x.X,0,none⟩),.int .u64 d] 73);have r3:=Row.new u #[.pointer (some ⟨L,0,none⟩),.pointer (some ⟨y.x.X,0,none⟩),.int .u64 d] 73;have SV:=aH (show nQ (u.alloc (.cells #[.pointer (some ⟨L,0,none⟩),.pointer (some ⟨y.x.X,0,none⟩),.int .u64 d] 73)) k u.heap.size y D2 G I f d from
    ⟨t.next b3,by rw[g3];exact r3,aL HB.out (aL J.out.size a.size),t.BM b3 (aO _) (iL r3 (by decide))⟩)
   have z:=(J.out.trans a).trans (t.l7 b3);have EV:=aH (show oD k (jE w n i) (tZ (u.alloc (.cells #[.pointer (some ⟨L,0,none⟩),.pointer (some ⟨y.x.X,0,none⟩),.int .u64 d] 73)) u.heap.size y (some (G,I))) w (u.alloc (.cells #[.pointer (some ⟨L,0,none⟩),.pointer (some ⟨y.x.X,0,none⟩),.int .u64 d] 73))from
    ⟨z.os,z.tape,z.output,z.size,z.block,λh5 C l=>by
     rcases l with l|l
     .exact z.rC h5 C l
     have:=(J.out.trans a).size;omega⟩)
   have h2:=aH (And.intro g1 g2);clear c S t a b3 r3 z g1 g2 g3 a7;go_wp2;go_ret2;exact⟨0,some (G,I),D2,u.heap.size,y,rfl,R2.out,h2.out,SV.out,EV.out⟩
section
variable {w x y:aI}{base W q:Nat}{h:dW}{D D':aM}{o o':iP}{cK aZ:Nat}
def IZ.far(H:IZ x base q h D o cK aZ)(j:x.heap.size<=y)(d:∀k,k<x.heap.size->tZ x q h o k->y.heap[k]?=x.heap[k]?):IZ y base q h D o cK aZ/\∀k,k<x.heap.size->y.heap[k]?=x.heap[k]?->tZ y q h o k->tZ x q h o k:=by
 match o,H,d with
 |none,⟨f,g,i⟩,d=>
  refine⟨⟨f,g,i.far λk c r=>d k c r⟩,λk c e b=>?_⟩;rcases b with b|b|b
  .exact .inl b
  .have⟨C,t,l,m,n⟩:=b;exact .inr (.inl ⟨C,t,l,by rw[<-e];exact m,n⟩)
  refine .inr (.inr ?_);unfold OwnAt at b|-;rw[<-dH (a:=zp h.d 9) (d h.d i.lt.1 (.inr (.inl (pK (i.row.choose_spec.choose_spec.1) (.inl rfl)))))];exact b
 |some (G,I),H,d=>
  have⟨s,p⟩:=H.sys.far j λk c u=>d k c (.inl u);refine⟨nQ.far H j d,λk c e b=>?_⟩;rcases b with b|b
  .exact .inl (p k c e b)
  exact .inr b
def iW.az8(H:iW w base W q h D o cK aZ)(j:Nat)(u:aN):IZ (w.setCell (zp W j) u) base q h D o cK aZ/\¬tZ (w.setCell (zp W j) u) q h o W/\oD base (mD w W q h o) (mD (w.setCell (zp W j) u) W q h o) w (w.setCell (zp W j) u):=by
 have g:=jN w ⟨W,j,none⟩ u;have b:∀k,k≠W->(w.setCell ⟨W,j,none⟩ u).heap[k]?=w.heap[k]?:=λk c=>aV _ _ _ _ c;have⟨d,n⟩:=H.it.far (y:=w.setCell ⟨W,j,none⟩ u) g.size λk t s=>b k λa=>H.out (a▸s);have v:=H.row.set j u;have f:∀k,jE (w.setCell ⟨W,j,none⟩ u) h.d h.m k->k=W->False:=λk c e=>by subst e;have⟨l,m,r⟩:=d.eD;exact r.nE v sQ.1 sQ.2 c
 have p:¬tZ (w.setCell ⟨W,j,none⟩ u) q h o W:=by
  match o,H,d with
  |none,H,d=>exact λa=>f W a rfl
  |some (G,I),H,d=>
   rintro ((a|a)|a)
   .rcases a with a|a
    .exact f W a rfl
    exact H.out (.inl (.inl (.inr a)))
   .exact H.out (.inl (.inr a))
   exact H.out (.inr a)
 refine⟨d,p,⟨g.os,g.tape,g.output,g.size,λk c i=>?_,λk c a=>?_⟩⟩
 .rcases i with i|i
  .exact b k λa=>by have:=H.low;omega
  exact b k λa=>i (.inr a)
 rcases a with a|a
 .by_cases e:k=W
  .exact .inr e
  exact .inl (n k c (b k e) a)
 exact .inr a
def iW.closed(H:iW w base W q h D o cK aZ):iW (w.setCell (zp W 1) (.pointer none)) base W q h D none cK aZ/\oD base (mD w W q h o) (mD (w.setCell (zp W 1) (.pointer none)) W q h none) w (w.setCell (zp W 1) (.pointer none)):=by
 have⟨e,f,b⟩:=H.az8 1 (.pointer none);have a:∀z k,tZ z q h none k->tZ z q h o k:=λz k c=>by
  match o with
  |none=>exact c
  |some (G,I)=>exact .inl (.inl (.inl c))
 refine⟨⟨H.row.set 1 (.pointer none),e.eD,H.low,λd=>f (a _ _ d)⟩,⟨b.os,b.tape,b.output,b.size,b.block,λk c d=>b.rC k c (d.imp (a _ k) id)⟩⟩
def iW.bn7(H:iW w base W q h D none cK aZ)(e:∃a b,bM y base h.d h.m D' a b)(d:gS base h.m w y):iW y base W q h D' none cK aZ/\oD base (mD w W q h none) (mD y W q h none) w y:=by have⟨a,b,c⟩:=H.it;exact H.BA (o':=none) rfl rfl e (oD.lX d c.FJ)
def iW.put{n:Nat}(H:iW w base W q h D none cK aZ)(B:S.d=h.d/\S.m=h.m)(s:IZ x base n S D' o' cK aZ)(v:oD base (jE w h.d h.m) (tZ x n S o') w x):iW (x.setCell (zp W 1) (sF n o')) base W n S D' o' cK aZ/\oD base (mD w W q h none) (mD (x.setCell (zp W 1) (sF n o')) W n S o') w (x.setCell (zp W 1) (sF n o')):=by
 have F:IZ x base n S D' o' cK aZ/\¬tZ x n S o' W/\Row x W 69 [.pointer (some ⟨S.d,0,none⟩),sF q none,.int .u64 aZ,.float .f64 cK]:=
  ⟨s,λa=>H.out (v.rC W H.row.lt a),by rw[B.1];exact H.row.of_block (v.block W H.row.lt (.inr H.out))⟩
 have⟨J,f,K⟩:=F;have j:=jN x ⟨W,1,none⟩ (sF n o');have d:∀k,k≠W->(x.setCell ⟨W,1,none⟩ (sF n o')).heap[k]?=x.heap[k]?:=λk c=>aV _ _ _ _ c;have⟨g,r⟩:=J.far (y:=x.setCell ⟨W,1,none⟩ (sF n o')) j.size λk E C=>d k λa=>f (a▸C);have m:=K.set 1 (sF n o');have b:∀k,jE (x.setCell ⟨W,1,none⟩ (sF n o')) S.d S.m k->k=W->False:=λk c e=>by subst e;have⟨o,p,A⟩:=g.eD;exact A.nE m sQ.1 sQ.2 c
 have z:¬tZ (x.setCell ⟨W,1,none⟩ (sF n o')) n S o' W:=by
  match o',f,g,b with
  |none,f,g,b=>exact λa=>b W a rfl
  |some (G,I),f,g,b=>
   rintro ((a|a)|a)
   .rcases a with a|a
    .exact b W a rfl
    exact f (.inl (.inl (.inr a)))
   .exact f (.inl (.inr a))
   exact f (.inr a)
 refine⟨⟨m,g,H.low,z⟩,⟨j.os.trans v.os,j.tape.trans v.tape,j.output.trans v.output,aL v.size j.size,λk c i=>?_,λk c a=>?_⟩⟩
 .have l:k≠W:=by
   rcases i with i|i
   .have:=H.low;omega
   exact λa=>i (.inr a)
  exact(d k l).trans (v.block k c (i.imp id λu t=>u (.inl t)))
 rcases a with a|a
 .by_cases e:k=W
  .exact .inr e
  exact .inl (v.rC k c (r k (aW c v.size) (d k e) a))
 exact .inr a
end
def OZ(D:aM):aM:=D.start.2
def aP7(b W q:Nat)(h:dW)(o:iP)(c a d s:Nat)(D:aM)(j:List kK)(S:Nat)(w:aI)(e:eT)(k:aI):Prop:=
 ∃(g:Int)(i:iP)(f:aM),e=.returned (.int .i64 g)/\nI d a s (OZ D) j S g i f/\oO w b W q h o f i c a k
def bI2:(OZ D).down=false:=by
 unfold OZ aM.start;cases a:D.down with
 |true=>rfl
 |false=>simpa using a
def RQ(D:aM):(OZ D).files=D.files/\(OZ D).cap=D.cap:=by unfold OZ aM.start;split<;>exact⟨rfl,rfl⟩
def aS8(h:D.down=false):OZ D=D:=by unfold OZ aM.start;rw[h];rfl
def bY6(c W q:Nat)(h:dW)(D:aM)(a b:Nat)(z:aI):Prop:=
 z.cell? ⟨W,0,none⟩=some (.pointer (some ⟨h.d,0,none⟩))/\z.cell? ⟨W,2,none⟩=some (.int .u64 (b:Nat))/\z.cell? ⟨W,3,none⟩=some (.float .f64 a)
def WI{s S:Nat}{h:dW}{o:iP}{Bs:List kK}(H:iW w k n m h D o d j)(hb:k<=w)(N:D.cap=i)(hc:i<=1048576)(h6:D.bP<1000000000)(hk:lN i j s D.files (Bs.map iT) S)(Y:kU Bs)(hf:Bs.length<=1000)(J:j<18446744073709551616):
 Calls prog 26 #[zp n] w (aP7 k n m h o d j i s D Bs S w):=by
  obtain⟨c0,c1,-,-⟩:=H.cells;have f1:=H.row.J3;have⟨k1,k2⟩:=H.closed;have⟨Q,V1,HB⟩:=aB k1 k2 hb;have⟨p,hp⟩:=kX (sF m o);rw[<-hp]at c1;have K:=aH (λ(z:aI) (q:iW z k n m h (OZ D) none d j) (R:k<=z.heap.size) (y:aI) (hy:aS z.heap.size z y)=>(by
   have⟨W,X,Z⟩:=(q.next hy).1.it;exact aU3 Z (aL R hy.size) bI2 ((RQ D).2.trans N) hc (by rw[(RQ D).1];exact hk) Y hf J d:Calls prog 49 #[.pointer (some ⟨h.d,0,none⟩),.int .u64 j,.float .f64 d] y (ZQ k h.d h.m d j i s (OZ D) Bs S y)))
  have K:=aH (λ(z:aI) (q:iW z k n m h (OZ D) none d j) (R:k<=z.heap.size) (y:aI) (hy:aS z.heap.size z y)=>show Calls prog 49 #[.pointer (some ⟨h.d,0,none⟩),.int .u64 j,.float .f64 d] y (λe O=>∃(u:Int)(f:iP)(t:aM)(l:Nat)(g:dW)(P:Option Addr),e=.returned (.tuple #[.pointer P,.int .i64 u])/\sF l f=.pointer P/\nI i j s (OZ D) Bs S u f t/\(g.d=h.d/\g.m=h.m)/\IZ O k l g t f d j/\oD k (jE y h.d h.m) (tZ O l g f) y O)from(K.out z q R y hy).mono λe O ⟨u,f,t,l,g,h1,h2,h3,h4,h5⟩=>by
   obtain⟨P,hP⟩:∃P,sF l f=.pointer P:=by
    cases f with
    |none=>exact⟨none,rfl⟩
    |some x=>exact⟨_,rfl⟩
   exact⟨u,f,t,l,g,P,by rw[h1,hP],hP,h2,h3,h4,h5⟩)
  have c:=λ(z:aI)(q:iW z k n m h D none d j)=>(by
   have⟨W,X,Z⟩:=q.it;exact HY Z:Calls prog 29 #[.pointer (some ⟨h.d,0,none⟩)] z λe O=>e=.returned (.bool (!D.down))/\z=O)
  have h7:=aH (λ(z:aI)(q:iW z k n m h D none d j)=>(by
   have⟨W,X,Z⟩:=q.it;exact be8 Z h6:Calls prog 48 #[.pointer (some ⟨h.d,0,none⟩)] z (rI k h.d h.m D.start z)))
  have T:=aH (λ(z:aI) (q:iW z k n m h (OZ D) none d j) (ez:oD k (mD w n m h o) (mD z n m h none) w z) (x:aI) (u:Int) (f:iP) (t:aM) (l:Nat) (g:dW) (hR:nI i j s (OZ D) Bs S u f t) (he:g.d=h.d/\g.m=h.m) (hs:IZ x k l g t f d j) (hv:oD k (jE z.drew h.d h.m) (tZ x l g f) z.drew x)=>show aP7 k n m h o d j i s D Bs S w (.returned (.int .i64 u)) (x.setCell ⟨n,1,none⟩ (sF l f))from by
   have G:=(q.next mE.drew).1;have⟨r1,r2⟩:=G.put he hs hv;exact⟨u,f,t,rfl,hR,l,g,he,r1,ez.trans ((q.next mE.drew).2.trans r2)⟩)
  have v:=aH (λ(z:aI) (q:iW z k n m h (OZ D) none d j)=>show bY6 k n m h D d j z from⟨q.cells.1,q.cells.2.2.1,q.cells.2.2.2⟩);have V:=aH (λ(z x:aI) (q:iW z k n m h (OZ D) none d j) (f:iP) (l:Nat) (g:dW) (hv:oD k (jE z.drew h.d h.m) (tZ x l g f) z.drew x)=>show Row x n 69 [.pointer (some ⟨h.d,0,none⟩),sF m none,.int .u64 j,.float .f64 d]from by
   have G:=(q.next mE.drew).1;exact G.row.of_block (hv.block n G.row.lt (.inr G.out)))
  have A:=aH (λ(x:aI) (p:aN) (hr:Row x n 69 [.pointer (some ⟨h.d,0,none⟩),p,.int .u64 j,.float .f64 d])=>show bY6 k n m h D d j x from⟨hr.rY,hr.G8,hr.zc3⟩);unfold bY6 at v A;clear H hb N hc h6 hk Y hf J k1 k2 hp;cases L:D.down with
  |false=>
   rw[L]at c;have M:=c _ Q.out;have U:=aH (aS8 L);have C:=aH (show iW (w.setCell ⟨n,1,none⟩ (.pointer none)) k n m h (OZ D) none d j from by rw[U.out];exact Q.out);obtain⟨d0,d1,-,-⟩:=Q.out.cells;clear c;go_in;(go_wp2_with fail);go_call M as e O ⟨rfl,rfl⟩;have V2:=V1;have HO:=aH (K.out _ C.out (aL HB.out V1.out.size) _ mE.drew);(go_wp2_with fail);go_region_held3 (λz=>z.cell? ⟨n,0,none⟩=some (.pointer (some ⟨h.d,0,none⟩))/\z.cell? ⟨n,2,none⟩=some (.int .u64 j)/\z.cell? ⟨n,3,none⟩=some (.float .f64 d))
    (first|(exact A.out _ _ (a.set 1 _))|(exact A.out _ _ a)|(exact v.out _ (C.out.next mE.drew).1)|(exact v.out _ C.out)|fail)
    (first|(go_at_call 49;go_call HO.out as e x9 ⟨u,f,t,l,g,P9,rfl,E,F,I,b,r⟩;have a:=V.out _ _ C.out _ _ _ r;have u1:=a.xD;have u2:=a.J3;simp only[bX,bE,sF]at u1)|fail)
   have B:=aH (T.out _ C.out V2.out _ u f t l g F I b r);rw[E]at B;clear E F I b r a u1 u2;go_wp2;go_ret;exact B.out
  |true=>
   rw[L]at c;have M:=c _ Q.out;have b:=h7.out _ Q.out;have h9:D.start.1=0:=(by unfold aM.start;rw[L];rfl);unfold rI at b;rw[h9]at b;obtain⟨d0,d1,-,-⟩:=Q.out.cells;clear c h9;go_in;(go_wp2_with fail);go_call M as e O ⟨rfl,rfl⟩;(go_wp2_with fail);go_call b as e w2 ⟨rfl,h8,h0⟩;have⟨k3,v3⟩:=Q.out.bn7 h8 h0;have⟨C,V2⟩:=aA (show iW w2 k n m h (OZ D) none d j from k3) (V1.out.trans v3);have HO:=aH (K.out _ C.out (aL HB.out V2.out.size) _ mE.drew);clear M b h8 h0 k3 v3 d0 d1;(go_wp2_with fail);go_region_held3 (λz=>z.cell? ⟨n,0,none⟩=some (.pointer (some ⟨h.d,0,none⟩))/\z.cell? ⟨n,2,none⟩=some (.int .u64 j)/\z.cell? ⟨n,3,none⟩=some (.float .f64 d))
    (first|(exact A.out _ _ (a.set 1 _))|(exact A.out _ _ a)|(exact v.out _ (C.out.next mE.drew).1)|(exact v.out _ C.out)|fail)
    (first|(go_at_call 49;go_call HO.out as e x9 ⟨u,f,t,l,g,P9,rfl,E,F,I,b,r⟩;have a:=V.out _ _ C.out _ _ _ r;have u1:=a.xD;have u2:=a.J3;simp only[bX,bE,sF]at u1)|fail)
   have B:=aH (T.out _ C.out V2.out _ u f t l g F I b r);rw[E]at B;clear E F I b r a u1 u2;go_wp2;go_ret;exact B.out
def aa7(n a:Int)(w:aI):
 Calls prog 59 #[.int .i64 n,.int .i64 a] w λe b=>e=.returned (.agg #[.int .i64 a,.int .i64 n,.slice none 0 0])/\aS w.heap.size w b:=by
  go_in;go_wp2;refine bG (v:=.agg #[.int .i64 a,.int .i64 n,.slice none 0 0]) (by simp[results,results59,go_sem]) rfl ⟨rfl,cI _ _⟩
def TK(A:Option Addr)(n c:Nat)(a:Int)(w:aI):
 Calls prog 61 #[.slice A n c,.int .i64 a] w λe b=>e=.returned (.agg #[.int .i64 a,.int .i64 0,.slice A n c])/\aS w.heap.size w b:=by
  go_in;go_wp2;refine bG (v:=.agg #[.int .i64 a,.int .i64 0,.slice A n c]) (by simp[results,results61,go_sem]) rfl ⟨rfl,cI _ _⟩
def UM(h:6000<=n):lN n k m [] [] 0:=by refine⟨⟨⟨List.Pairwise.nil,(λd f a=>by cases a)⟩,(λd f a=>by cases a),by simpa[lM]using h⟩,[],0,.none λd _ _=>rfl,o7 _,λc b=>by cases b⟩
def al9(a:Nat):Calm (aM.tE a):=⟨rfl,rfl,List.Pairwise.nil⟩
def UW:kU []:=⟨(λb a=>by cases a),(λs i t h=>by simp[dF]at h),List.Pairwise.nil⟩
def ZO(c a b s:Nat)(w:aI)(e:eT)(f:aI):Prop:=
 ∃(W q:Nat)(h:dW)(G:cT)(I:bA)(d:aM),e=.returned (.tuple #[.pointer (some ⟨W,0,none⟩),.int .i64 0])/\nI b a s (aM.tE b) [] 0 0 (some (G,I)) d/\iW f w.heap.size W q h d (some (G,I)) c a/\aS w.heap.size w f
def cz1(d:bM x w.heap.size n m (aM.tE k) K H)(c:aS w.heap.size w x):
 iW (x.alloc (.cells #[.pointer (some ⟨n,0,none⟩),.pointer none,.int .u64 j,.float .f64 i] 69)) w.heap.size x.heap.size 0 ⟨n,m,0,.pointer none,⟨0,0,0,.pointer none,.pointer none,λ_=>0,λ_=>False,λ_=>False⟩⟩ (aM.tE k) none i j:=by have b:=Row.new x #[.pointer (some ⟨n,0,none⟩),.pointer none,.int .u64 j,.float .f64 i] 69;have a:=d.next (cI x (.cells #[.pointer (some ⟨n,0,none⟩),.pointer none,.int .u64 j,.float .f64 i] 69));exact⟨b,⟨_,_,a⟩,c.size,a.nE b sQ.1 sQ.2⟩
def cz2{s:dW}(t:k<=1048576)(f:6000<=k)(a:i<18446744073709551616)(H:iW x w.heap.size n 0 s (aM.tE k) none j i)(l:aS w.heap.size w x):
 Calls prog 26 #[.pointer (some ⟨n,0,none⟩)] x λe h=>e=.returned (.int .i64 0)/\∃(q:Nat)(s:dW)(G:cT)(I:bA)(b:aM),nI k i m (aM.tE k) [] 0 0 (some (G,I)) b/\iW h w.heap.size n q s b (some (G,I)) j i/\aS w.heap.size w h:=by
  refine(WI (s:=m) (S:=0) (Bs:=[]) H l.size rfl t (by simp[aM.tE]) (UM f) UW (by simp) a).mono ?_;rintro e h ⟨v,o,b,rfl,c,q,p,y,r,u⟩;have g:OZ (aM.tE k)=aM.tE k:=aS8 rfl;rw[g]at c;rcases c.it with⟨d,-⟩|⟨d,G,I,z,rfl,-⟩
  .exact absurd d (c.calm (al9 k))
  subst d;exact⟨rfl,q,p,G,I,b,c,r,u.below l (aO _)⟩
def aS1{w:aI}{cap aZ s cK:Nat}(o:cap<=1048576)(j:6000<=cap)(a:aZ<18446744073709551616):
 Calls prog 15 #[.int .i64 cap,.int .u64 aZ,.float .f64 cK] w (ZO cK aZ cap s w):=by
  have A:=bV5 w w.heap.size cap o (aO _);have⟨B,C⟩:=aA (λ(x:aI) (d m:Nat) (f:bK->Nat) (g:bK->aN) (k:bM x w.heap.size d m (aM.tE cap) f g) (n:aS w.heap.size w x)=>show iW (x.alloc (.cells #[.pointer (some ⟨d,0,none⟩),.pointer none,.int .u64 aZ,.float .f64 cK] 69)) w.heap.size x.heap.size 0 ⟨d,m,0,.pointer none,⟨0,0,0,.pointer none,.pointer none,λ_=>0,λ_=>False,λ_=>False⟩⟩ (aM.tE cap) none cK aZ from cz1 k n) (λ(x:aI) (W:Nat) (h:dW) (H:iW x w.heap.size W 0 h (aM.tE cap) none cK aZ) (n:aS w.heap.size w x)=>show Calls prog 26 #[.pointer (some ⟨W,0,none⟩)] x λe t=>e=.returned (.int .i64 0)/\∃(q:Nat)(h:dW)(G:cT)(I:bA)(b:aM),nI cap aZ s (aM.tE cap) [] 0 0 (some (G,I)) b/\iW t w.heap.size W q h b (some (G,I)) cK aZ/\aS w.heap.size w t from cz2 o j a H n);unfold ZO;clear o j a;go_in;(go_wp2_with fail);refine A.mono ?_;rintro e O ⟨d,rfl,⟨m,f,g,k⟩,c⟩;have K:=aH (B.out _ _ _ _ _ k c);have l:=aH (C.out _ _ _ K.out (c.alloc c.size _));(go_wp2_with fail);refine l.out.mono ?_;rintro e u ⟨rfl,q,h,G,I,b,p,r,i⟩;have R:=aH (show∃(W q:Nat)(h:dW)(G:cT)(I:bA)(b:aM),(Value.pointer (some ⟨O.heap.size,0,none⟩))=(Value.pointer (some ⟨W,0,none⟩))/\nI cap aZ s (aM.tE cap) [] 0 0 (some (G,I)) b/\iW u w.heap.size W q h b (some (G,I)) cK aZ/\aS w.heap.size w u from⟨_,q,h,G,I,b,rfl,p,r,i⟩);clear p r i k;go_wp2;go_ret2;obtain⟨J,N,M,z,D,y,L,E,F,v⟩:=R.out;exact⟨J,N,M,z,D,y,by rw[<-L];rfl,E,F,v⟩
def CC(w:aI)(q:Nat)(h:dW)(k:Nat):Prop:=gX w h k\/k=q
def rJ(a q:Nat)(h:dW)(b c:Nat)(w:aI)(er:Int)(D:aM)(G:cT)(I:bA)(x:aI):Prop:=
 ∃d:dW,(d.d=h.d/\d.m=h.m)/\(∃e f,bM x a h.d h.m D e f)/\(er≠61->nQ x a q d D G I b c)/\oD a (CC w q h) (CC x q d) w x
section
variable {base q W:Nat}{h:dW}{D D':aM}{G G':cT}{I I':bA}{cK aZ:Nat}{w x y z:aI}{er:Int}
def rJ.left(H:nQ w base q h D G I cK aZ)(K:EK w base h cK er D' G' I' x):rJ base q h cK aZ w er D' G' I' x:=by obtain⟨f,b,c,d,e,i,j,a⟩:=K;refine⟨f,⟨b,c⟩,i,λg=>H.BA ⟨d,e⟩ (j g) a,a.or λk=>k=q⟩
def rJ.kept(a:nQ w base q h D G I cK aZ)(b:l8 base q h D G I cK aZ K H w x):rJ base q h cK aZ w er D G I x:=
 ⟨h,⟨rfl,rfl⟩,⟨_,_,b.eD⟩,λ_=>b.wM,(a.sys.oC rfl ⟨_,_,b.eD⟩ b.fr).2.or λk=>k=q⟩
def rJ.before(H:nQ w base q h D G I cK aZ)(a:aS w.heap.size w x)(K:rJ base q h cK aZ x er D' G' I' y):rJ base q h cK aZ w er D' G' I' y:=by obtain⟨b,e,c,d,f⟩:=K;exact⟨b,e,c,d,((H.KJ ⟨rfl,rfl⟩ (H.sys.next a) (H.sys.l7 a)).2).trans f⟩
def rJ.grown{g:Nat}(e:S.d=h.d/\S.m=h.m)(o:∃j l,bM x base h.d h.m D' j l)(J:er≠61->nQ x base q S D' G' I' cK aZ)(i:oD base (CC w q h) (CC x q S) w x)(H:w.heap.size<=g)(I:¬CC x q S g)(b:x.grownBy y (some g)):rJ base q h cK aZ w er D' G' I' y:=by
 obtain⟨j,l,o⟩:=o;have n:∀k,CC x q S k->some k≠some g:=λk f c=>(by cases c;exact I f);have u:S.d<x.heap.size:=by rw[e.1];exact o.lt.1
 have v:CC x q S S.d:=by refine .inl (.inl (.inl (.inr (.inl ?_))));obtain⟨A,L,F,K,B⟩:=o.row;rw[e.1];exact pK F (.inl rfl)
 have s:=b.block _ u (n _ v);have m:∀k,k<w.heap.size->CC y q S k->CC x q S k:=λk d c=>by
  have z:k<x.heap.size:=aW d i.size;have D:=b.block k z (λp=>by cases p;omega);rcases c with(((c|c|c)|c)|c)|c
  .exact .inl (.inl (.inl (.inl c)))
  .obtain⟨C,t,E,B,G⟩:=c;exact .inl (.inl (.inl (.inr (.inl ⟨C,t,E,by rw[<-D];exact B,G⟩))))
  .refine .inl (.inl (.inl (.inr (.inr ?_))));unfold OwnAt at c|-;rw[<-dH (a:=⟨S.d,9,none⟩) s];exact c
  .exact .inl (.inl (.inr c))
  .exact .inl (.inr c)
  exact .inr c
 refine⟨S,e,⟨j,l,o.far λk d r=>b.block k d (n k (.inl (.inl (.inl ?_))))⟩,λc=>(J c).far b.size λk d f=>b.block k d (n k f),⟨b.os.trans i.os,b.tape.trans i.tape,b.output.trans i.output,aL i.size b.size,λk f r=>(b.block k (aW f i.size) (λp=>by cases p;omega)).trans (i.block k f r),λk f c=>i.rC k f (m k f c)⟩⟩;rw[e.1,e.2];exact r
def rJ.row{n:Nat}{T:cD}{X:List aN}(K:rJ base q h cK aZ w er D' G' I' x)(a:Row w n T X)(b:¬CC w q h n):Row x n T X:=by obtain⟨d,e,f,g,c⟩:=K;exact a.of_block (c.block n a.lt (.inr b))
end
def uN:¬(63=103\/63=112\/63=5)/\(63:cD)≠3:=by decide
def G9:¬(35=103\/35=112\/35=5)/\(35:cD)≠3:=by decide
abbrev uK:Array aN:=#[.int .i64 0,.int .i64 0,.slice none 0 0]
structure Sp where
 k:Int
 n:aT
 a:Int
 b:Int
 E:Option Addr
 e:Nat
 f:Nat
 K:Option Addr
 i:Nat
 j:Nat
 t:aT
abbrev Sp.c(s:Sp):Array aN:=#[.int .i64 s.k,.string s.n,.int .i64 s.a,.int .i64 s.b,.slice s.E s.e s.f,.slice s.K s.i s.j,.string s.t]
structure An where
 r:Int
 n:Int
 A:Option Addr
 k:Nat
 c:Nat
abbrev An.v(a:An):Array aN:=#[.int .i64 a.r,.int .i64 a.n,.slice a.A a.k a.c]
def bl3{e:Int}(h:e<9\/14<e):(e==9)=false/\(e==10)=false/\(e==11)=false/\(e==12)=false/\(e==13)=false/\(e==14)=false:=by simp;omega
def an5(w:aI)(X Y:Array aN):∃a,a=(w.alloc (.cells X 35)).alloc (.cells Y 63)/\aS w.heap.size w a/\a.heap.size=w.heap.size+2/\Row a w.heap.size 35 X.toList/\Row a (w.heap.size+1) 63 Y.toList:=by have h:=Row.new (w.alloc (.cells X 35)) Y 63;rw[bC]at h;exact⟨_,rfl,aJ (cI w _) (cI _ _),by simp,(Row.new w X _).next (cI _ _),h⟩
structure MI(d:aI)(c W q:Nat)(h:dW)(D:aM)(G:cT)(I:bA)(a b:Nat)(e:List aN)(x:aI):Prop where
 wM:nQ x c q h D G I a b
 sP:Row x W 69 [.pointer (some ⟨h.d,0,none⟩),.pointer (some ⟨q,0,none⟩),.int .u64 (b:Nat),.float .f64 a]
 box:Row x d.heap.size 35 e
 zI:Row x (d.heap.size+1) 63 uK.toList
 o0:¬CC x q h W
 o1:¬CC x q h d.heap.size
 o2:¬CC x q h (d.heap.size+1)
section
variable {base q W:Nat}{h:dW}{D D':aM}{G G':cT}{I I':bA}{cK aZ:Nat}{w x y z:aI}{er:Int}{xs:List aN}
def MI.next(H:MI w base W q h D G I cK aZ xs x)(b:aS x.heap.size x y):MI w base W q h D G I cK aZ xs y:=by obtain⟨s,v⟩:=H.wM.KJ ⟨rfl,rfl⟩ (H.wM.sys.next b) (H.wM.sys.l7 b);exact⟨s,H.sP.next b,H.box.next b,H.zI.next b,λa=>H.o0 (v.rC _ H.sP.lt a),λa=>H.o1 (v.rC _ H.box.lt a),λa=>H.o2 (v.rC _ H.zI.lt a)⟩
def MI.start(H:iW w base W q h D (some (G,I)) cK aZ)(a:Array aN):MI w base W q h D G I cK aZ a.toList ((w.alloc (.cells a 35)).alloc (.cells uK 63)):=by have m:=Row.new w a 35;have c:=Row.new (w.alloc (.cells a 35)) uK 63;rw[bC]at c;have i:=cI w (.cells a 35);have e:=cI (w.alloc (.cells a 35)) (.cells uK 63);have f:=aJ i e;have d:nQ w base q h D G I cK aZ:=H.it;obtain⟨k,v⟩:=H.next f;have g:=d.old;obtain⟨j,l,n⟩:=d.sys.eD;have K:=(l8.start d n).next f;have b:=m.next e;exact⟨k.it,k.row,b,c,k.out,K.nE g b (aO _) G9.1 G9.2,K.nE g c (gV _) uN.1 uN.2⟩
structure bi5(d:aI)(c W q:Nat)(h:dW)(a b:Nat)(e:List aN)(x:aI):Prop where
 sP:Row x W 69 [.pointer (some ⟨h.d,0,none⟩),.pointer (some ⟨q,0,none⟩),.int .u64 (b:Nat),.float .f64 a]
 box:Row x d.heap.size 35 e
 zI:Row x (d.heap.size+1) 63 uK.toList
def MI.r(H:MI w base W q h D G I cK aZ xs x):bi5 w base W q h cK aZ xs x:=⟨H.sP,H.box,H.zI⟩
def MI.behind(H:MI w base W q h D G I cK aZ xs x)(K:rJ base q h cK aZ x er D' G' I' y):bi5 w base W q h cK aZ xs y:=⟨K.row H.sP H.o0,K.row H.box H.o1,K.row H.zI H.o2⟩
def bi5.next(H:bi5 w base W q h cK aZ xs x)(a:aS x.heap.size x y):bi5 w base W q h cK aZ xs y:=⟨H.sP.next a,H.box.next a,H.zI.next a⟩
def ar9(z:aI)(g:Nat)(u0 u1 u2:aN):z.grownBy (((z.setCell ⟨g,0,none⟩ u0).setCell ⟨g,1,none⟩ u1).setCell ⟨g,2,none⟩ u2) (some g):=mR (mR (jN z ⟨g,0,none⟩ u0) (jN _ ⟨g,1,none⟩ u1)) (jN _ ⟨g,2,none⟩ u2)
def MI.put(i:iW w base W q h D (some (G,I)) cK aZ)(b:aS w.heap.size w x)(H:MI w base W q h D G I cK aZ xs x)(K:rJ base q h cK aZ x er D' G' I' y)(n:aS y.heap.size y z)(d f g:aN):
 rJ base q h cK aZ w er D' G' I' (((z.setCell ⟨w.heap.size+1,0,none⟩ d).setCell ⟨w.heap.size+1,1,none⟩ f).setCell ⟨w.heap.size+1,2,none⟩ g):=by have l:=oB n (ar9 z (w.heap.size+1) d f g);have a:nQ w base q h D G I cK aZ:=i.it;obtain⟨o,e,k,m,c⟩:=K;exact rJ.grown e k m (((a.KJ ⟨rfl,rfl⟩ (a.sys.next b) (a.sys.l7 b)).2).trans c) (gV _) (λj=>H.o2 (c.rC _ H.zI.lt j)) l
end
end Go.Proofs.YtpopikndggffaaaGreatDoor
