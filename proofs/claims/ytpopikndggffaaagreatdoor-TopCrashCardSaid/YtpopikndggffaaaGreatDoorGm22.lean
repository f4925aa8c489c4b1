/- TOP, part 22. -/
import Derived.Test.YtpopikndggffaaaGreatDoorGm21
namespace Go.Proofs.YtpopikndggffaaaGreatDoor
set_option linter.all false
set_option maxRecDepth 100000
set_option maxHeartbeats 16000000
open Go.RowKit Go.Maps Tryz
variable{i j k m:Nat}{w:aI}{D:aM}{v:aN}{K:bK->Nat}{H:bK->aN}{G:cT}
def kD.grown{w x y:aI}{d:Nat}{b:Bool}{u:aN}(h:kD w m k j G d b v)(I:bM w m k i D K H)(g:aS w w x)(n:Nat)(hn:n<=1048576)(U:G.bW.length<200)(z:Int)(X:z=(n:Int))
 (p:y.ownsRow m 3 1 u (G.bW+1) (gJ G.bW++[.int .i64 z])) (B:x.grownBy y v.ownBlock) (S:u.ownBlock=v.ownBlock\/u.ownBlock=x) :
 Row y j 171 [zp k,d,b,v,G.sure]/\kD (y.setCell (zp j 3) u) m k j {G with bW:=G.bW++[n]} d b u/\bM (y.setCell (zp j 3) u) m k i D K H/\sA m i j v w (y.setCell (zp j 3) u)/\kI w v u:=by
  subst X;have s:w.heap.size<=x:=g.size;have M:∀h0,v.ownBlock=some h0->h0≠j:=λh0 a e=>by subst e;exact iE.2.2 (dI h.row (dZ h.own a))
  have W:∀h0,v.ownBlock=some h0->k≠h0:=λh0 a=>oT h.eD (dZ h.own a) (by decide);have T:k≠j:=oT h.eD h.row (by decide);have O:∀h0,h0<w.heap.size->h0≠j->v.ownBlock≠some h0->(y.setCell (zp j 3) u).heap[h0]?=w.heap[h0]?:=λh0 c E Y=>by rw[aV _ _ _ _ E,B.block h0 (aW c s) (λa=>Y a.symm)];exact g.block h0 c
  have r:kI w v u:=λh0 a=>by
   rcases S with e|e
   .exact .inl (by rw[<-e];exact a)
   rw[e]at a;cases a;exact .inr s
  have Z:Row y j 171 _:=(h.row.next g).grown B (λa=>M j a.symm rfl);have l:=O k (mV h.eD).lt T (λa=>W k a rfl);have⟨e1,e2⟩:=kC (n:=(y.setCell (zp j 3) u).heap.size+1) l h.eD;have L:∀h0,u.ownBlock=some h0->h0≠j:=λh0 a=>by
   rcases r h0 a with e|e
   .exact M h0 e
   have:=h.row.lt;omega
  refine⟨Z,⟨?_,h.low,?_,λh0 a ho=>?_,e1,?_,λz N=>?_,h.sure⟩,I.far λh0 c f=>O h0 c (λa=>?_) (λa=>?_),⟨B.os.trans g.os,B.tape.trans g.tape,B.output.trans g.output,aL s (by simpa using B.size),λh0 c f=>O h0 c (λa=>?_) (λa=>?_),λh0 l=>kC (O h0 (mV l).lt (oT l h.row (by decide)) (λa=>oT l (dZ h.own a) (by decide) rfl)) l⟩,r⟩
  .exact Z.set 3 u
  .show(y.setCell (zp j 3) u).ownsRow m _ 1 u (G.bW++[n]).length (gJ (G.bW++[n]));rw[BI,aP];exact fG p λh0 a=>aV _ _ _ _ (L h0 a)
  .have c:h0<(y.setCell (zp j 3) u).heap.size+1:=by have:=jG p h0 a;simp;omega
   have J:=e2 h0 c ho;rcases r h0 a with e|e
   .exact h.apart h0 e J
   obtain⟨A,kv,E,-,Q⟩:=I.row;have⟨v9,F,R⟩:=J;rw[E.zc9]at F;cases F;have:=(Q.row R).1.lt;omega
  .show(G.bW++[n]).length<=200;rw[aP];simp;omega
  .rcases cE.1 N with N|N
   .exact h.small z N
   simp at N;omega
  .subst a;rcases f with f|⟨C,t,fr,o,V⟩|f
   .exact I.pX h.row f
   .obtain⟨C',P,q,-⟩:=h.row;rw[q]at o;cases o;exact iE.1 V
   have⟨A,kv,E,Y,Q⟩:=I.row;have⟨v9,F,R⟩:=f;rw[E.zc9]at F;cases F;exact iE.2.2 (dI h.row (Q.row R).1)
  .rcases f with f|⟨C,t,fr,o,V⟩|f
   .exact I.pX (dZ h.own a) f
   .obtain⟨C',P,q,-⟩:=dZ h.own a;rw[q]at o;cases o;exact iE.2.1 V
   exact h.apart h0 a f
  .rcases f with f|⟨-,-,e,-⟩
   .have:=h.low;omega
   exact e a
  rcases f with f|⟨-,-,-,e⟩
  .have:=dE h.own h0 a;omega
  exact e a
def aV6(G:cT)(D:aM)(n:Nat)(r:bK):(runs (G,D) (mS n r)).2.1.bW=G.bW:=by
 have d:(fY G D).2.1.bW=G.bW:=by
  unfold fY;split
  .rfl
  simp only;split<;>rfl
 rcases c:fY G D with⟨f,b,a⟩;rw[c]at d;have e:runs (G,D) (mS n r)=if f=0 then(if(a.create (gZ n)).1=0 then(if((a.create (gZ n)).2.append (gZ n) (eM n++r)).1=0 then(0,(b,((a.create (gZ n)).2.append (gZ n) (eM n++r)).2))else(((a.create (gZ n)).2.append (gZ n) (eM n++r)).1,(b,((a.create (gZ n)).2.append (gZ n) (eM n++r)).2)))else((a.create (gZ n)).1,(b,(a.create (gZ n)).2)))else(f,(b,a)):=by simp only[mS,runs,c]
 rw[e];repeat' split
 all_goals exact d
def ai6{n:Nat}(h:kD w k n i G j false v)(hd:bM w k n m D K H)(O:k<=w)(xc:Nat)(hN:G.bW=xc)(r:aT)(hr:r.size<=4000):
 Calls prog 143 #[zp i,xc,r] w (LOp k n m i j v (.tuple #[((pB G D xc (lb r)).2.1:Nat),(pB G D xc (lb r)).1]) (pB G D xc (lb r)).1 (pB G D xc (lb r)).2.2.1 (pB G D xc (lb r)).2.2.2 w):=by
  have hn:=h.many;rw[hN]at hn;obtain⟨A,c,rfl,hz,x0,-⟩:=id (Reads.dC h.own);unfold maxLen at x0;rw[hN]at h hz|-;have xa:∀(fn:Fn)(first he:Array aN)(w:aI),(Instr.makeFunc fn first he).run prog w=.ok (.func fn first he) w:=λ_ _ _ _=>rfl;have B:∀(x:aI)(o:Obj),aS x.heap.size x (x.alloc o):=λx o=>mE.alloc gC o;have M:aS w.heap.size w (((w.alloc (.cells #[.pointer (some ⟨i,0,none⟩)] 70)).alloc (.cells #[.int .i64 xc] 3)).alloc (.cells #[.string r] 9)):=aJ (B _ _) (aJ (B _ _) (B _ _));have d:Row (((w.alloc (.cells #[.pointer (some ⟨i,0,none⟩)] 70)).alloc (.cells #[.int .i64 xc] 3)).alloc (.cells #[.string r] 9)) w.heap.size 70 [.pointer (some ⟨i,0,none⟩)]/\Row (((w.alloc (.cells #[.pointer (some ⟨i,0,none⟩)] 70)).alloc (.cells #[.int .i64 xc] 3)).alloc (.cells #[.string r] 9)) (w.heap.size+1) 3 [.int .i64 xc]/\Row (((w.alloc (.cells #[.pointer (some ⟨i,0,none⟩)] 70)).alloc (.cells #[.int .i64 xc] 3)).alloc (.cells #[.string r] 9)) (w.heap.size+1+1) 9 [.string r]:=by have r1:=Row.new w #[.pointer (some ⟨i,0,none⟩)] 70;have z1:(w.alloc (.cells #[.pointer (some ⟨i,0,none⟩)] 70)).heap.size=w.heap.size+1:=bC _ _;generalize w.alloc (.cells #[.pointer (some ⟨i,0,none⟩)] 70)=w1 at r1 z1|-;have r2:=Row.new w1 #[.int .i64 xc] 3;have z2:(w1.alloc (.cells #[.int .i64 xc] 3)).heap.size=w1.heap.size+1:=bC _ _;have k2:=B w1 (.cells #[.int .i64 xc] 3);generalize w1.alloc (.cells #[.int .i64 xc] 3)=w2 at r2 z2 k2|-;have r3:=Row.new w2 #[.string r] 9;have k3:=B w2 (.cells #[.string r] 9);rw[z1]at r2;rw[z2,z1]at r3;exact⟨(r1.next k2).next k3,r2.next k3,r3⟩
  unfold LOp;have⟨HH,HD,HK,hc⟩:=aC h hd M d;by_cases hg:xc=200
  .have V:=aH (show pB G D xc (lb r)=(60,0,G,D)from by unfold pB;rw[aU (.inl (by omega))]);subst hg;clear h hd M d B hN;go_in;go_wp2;go_ret2;rw[V.zz];exact⟨rfl,⟨_,_,HD.next HK⟩,⟨_,_,HH.next HK,kI.refl _ _,λ_=>rfl⟩,sA.cQ HK _ _ _ _⟩
  have L:∀x,aS w.heap.size w x->Calls prog 204 #[.pointer (some ⟨i,0,none⟩),.int .i64 (12+(r.size:Int))] x λe g=>e=.returned (.bool (yK D (12+r.size)))/\aS x.heap.size x g:=λx hx=>by have:=aG8 (h.next hx) (hd.next hx) (12+r.size) (by omega);rwa[Int.natCast_add]at this
  have z:=L _ M;clear L;by_cases f:yK D (12+r.size)=true
  .have V:=bg5 G D xc (lb r) (by rw[bN,f];simp;omega);rw[bN]at V;have t:∀x,aS (((w.alloc (.cells #[.pointer (some ⟨i,0,none⟩)] 70)).alloc (.cells #[.int .i64 xc] 3)).alloc (.cells #[.string r] 9)).heap.size (((w.alloc (.cells #[.pointer (some ⟨i,0,none⟩)] 70)).alloc (.cells #[.int .i64 xc] 3)).alloc (.cells #[.string r] 9)) x->Calls prog 206 #[.slice (some ⟨x.heap.size,0,none⟩) 3 3] (x.alloc (.cells #[.func (.func 152) #[.pointer (some ⟨i,0,none⟩)] #[],.func (.func 207) #[] #[.pointer (some ⟨w.heap.size,0,none⟩),.pointer (some ⟨w.heap.size+1,0,none⟩)],.func (.func 209) #[] #[.pointer (some ⟨w.heap.size,0,none⟩),.pointer (some ⟨w.heap.size+1,0,none⟩),.pointer (some ⟨w.heap.size+1+1,0,none⟩)]] 76)) λe g=>e=.returned (.int .i64 (runs (G,D) (mS xc (lb r))).1)/\(∃K H,bM g k n m (runs (G,D) (mS xc (lb r))).2.2 K H)/\kD g k n i (runs (G,D) (mS xc (lb r))).2.1 j false (.slice A xc c)/\sA k m i (.slice A xc c) w g/\Row g w.heap.size 70 [.pointer (some ⟨i,0,none⟩)]/\Row g (w.heap.size+1) 3 [.int .i64 xc]/\Row g (w.heap.size+1+1) 9 [.string r]:=λx hx=>by
    have rf:=Row.new x #[.func (.func 152) #[.pointer (some ⟨i,0,none⟩)] #[],.func (.func 207) #[] #[.pointer (some ⟨w.heap.size,0,none⟩),.pointer (some ⟨w.heap.size+1,0,none⟩)],.func (.func 209) #[] #[.pointer (some ⟨w.heap.size,0,none⟩),.pointer (some ⟨w.heap.size+1,0,none⟩),.pointer (some ⟨w.heap.size+1+1,0,none⟩)]] 76;have kx:=aJ hx (B x (.cells #[.func (.func 152) #[.pointer (some ⟨i,0,none⟩)] #[],.func (.func 207) #[] #[.pointer (some ⟨w.heap.size,0,none⟩),.pointer (some ⟨w.heap.size+1,0,none⟩)],.func (.func 209) #[] #[.pointer (some ⟨w.heap.size,0,none⟩),.pointer (some ⟨w.heap.size+1,0,none⟩),.pointer (some ⟨w.heap.size+1+1,0,none⟩)]] 76));generalize x.alloc _=y at rf kx|-;have⟨N,P,R⟩:=hc.zz;have h0:=aJ HK kx;have N:=N.next kx;have P:=P.next kx;have R:=R.next kx;have x2:=HH.next h0;have Y:=HD.next h0;have a:∀xb,(Value.slice A xc c).ownBlock=some xb->xb<w.heap.size:=λxb hk=>jG HH.own xb hk;go_call bF1 x2 Y (aL O h0.size) xc (by omega) r (by omega) x.heap.size w.heap.size (w.heap.size+1) (w.heap.size+1+1) N P R rf (λE=>by have:=a _ E;omega) as e g ⟨e1,e2,e3,e4⟩;have hL:=HH.row.lt;refine⟨e1,e2,e3,(sA.cQ h0 k m i (.slice A xc c)).trans (kI.refl _ _) e4,e4.row N TO (Y.pX N) (by omega) (λE=>by have:=a _ E;omega),e4.row P iE.2.1 (Y.pX P) (by omega) (λE=>by have:=a _ E;omega),e4.row R GB.2.1 (Y.pX R) (by omega) (λE=>by have:=a _ E;omega)⟩
   obtain⟨⟨re,G2,D2⟩,h7⟩:∃q,q=runs (G,D) (mS xc (lb r)):=⟨_,rfl⟩;rw[<-h7]at t V;simp only at t V;have h8:=aH V;have h3:G2.bW=G.bW:=(by have:=aV6 G D xc (lb r);rwa[<-h7]at this);rw[f]at z;clear V h7 h hd M d B f;have⟨i0,x1,x3,x4,x5⟩:=info_parts oK;go_in;(go_wp2_with fail);go_call z as x w4 ⟨rfl,l⟩;have x9:=(hc.1.next l).rY;have U:=aH l;have h4:=t w4 l;clear t l z;(go_wp2_with fail);go_call h4 as x b ⟨rfl,⟨x6,x7,X⟩,J,C,N,P,R⟩;by_cases hq:re=0
   .subst hq;have HE:=aH (show pB G D xc (lb r)=(0,xc*4096+12,{G2 with bW:=G2.bW++[12+r.size]},D2)from h8.trans (aQ (by simp)));have a:∀xb,(Value.slice A xc c).ownBlock=some xb->xb<w.heap.size:=λxb hk=>jG HH.own xb hk;have h6:G2.bW.length<200:=(by rw[h3,hN];omega);have x8:=aH h3;clear h3 hN;have h2:=aH C;have S:aS b.heap.size b b.drew:=mE.drew;have T:aS b.heap.size b (b.alloc (.cells #[.int .i64 (IntKind.i64.wrap (12+(r.size:Int)))] 3)):=mE.alloc gC _;have F:=λg (O:aS b.heap.size b g)=>(N.next O).rY;have I:=λg (O:aS b.heap.size b g)=>(R.next O).rY;have hl:=λg (O:aS b.heap.size b g)=>(P.next O).rY;have h5:=λg (O:aS b.heap.size b g)=>(J.next O).row.zc3;have t1:=F _ S;have t3:=I _ S;have tL:=h5 _ S;have s1:=F _ T;have s3:=I _ T;have sL:=h5 _ T;have⟨ha,ht,HQ⟩:=aB J X (And.intro N (And.intro P R));have hh:k<=b.heap.size:=aL O C.size;have hs:w.heap.size<=b.heap.size:=C.size;clear F hl I h5 J X N P R C h4;(go_wp2_with fail);go_region_law (refine JA rfl _ _ 33 rfl k 3 i0 (.int .i64 0) 1 8 underlying33 x1 x3 x4 x5 rfl (by decide) (.slice A xc c) G2.bW.length (gJ G2.bW) rfl (cA ha.own (by first|exact T.drew|exact T|exact S.alloc S.size _)) _ 1 [.int .i64 (IntKind.i64.wrap (12+(r.size:Int)))] rfl (by first|exact Reads.DX (Row.new b #[.int .i64 (IntKind.i64.wrap (12+(r.size:Int)))] 3) rfl gC (by unfold maxLen;omega)|exact Reads.DX ((Row.new b #[.int .i64 (IntKind.i64.wrap (12+(r.size:Int)))] 3).next mE.drew) rfl gC (by unfold maxLen;omega)|exact Reads.DX (Row.new b.drew #[.int .i64 (IntKind.i64.wrap (12+(r.size:Int)))] 3) rfl gC (by unfold maxLen;omega)) (by intro u hu;simp at hu;subst hu;rfl) (by unfold maxLen;omega) (by omega) (aL hh (l9 (B:=b.heap.size) (w:=b) (by first|exact T.drew|exact T|exact S.alloc S.size _))) ?_;intro v2 w6 s Z h1;obtain⟨A2,hf,rfl,-,-,-,-⟩:=Reads.dC s;have W:=(show aS b.heap.size b _ from(by first|exact T.drew|exact T|exact S.alloc S.size _));have⟨p1,p2,p3,p4,p5⟩:=ha.grown ht W (12+r.size) (by omega) h6 (IntKind.i64.wrap (12+(r.size:Int))) (by rw[dM];omega) s Z h1;have f9:=p1.zf3;have c9:=p1.zc3;have b9:=((HQ.1.next W).grown Z (λE=>by have:=a _ E.symm;omega)).rY;have ho:w.heap.size+1≠i:=(by have:=HH.row.lt;omega);have n9:=(((HQ.2.1.next W).grown Z (λE=>by have:=a _ E.symm;omega)).far (p:=⟨i,3,none⟩) ho (.slice A2 (G2.bW.length+1) hf)).rY;have Q:=aH (And.intro p2 (And.intro p3 (And.intro p4 p5)));clear p1 p2 p3 p4 p5 s Z h1 W)
    all_goals
     go_wp2;go_ret2;rw[HE.zz];exact⟨rfl,⟨_,_,Q.2.1⟩,⟨_,_,Q.1,λxb hk=>(Q.2.2.2 xb hk).imp id (λh=>aL hs h),λ_=>rfl⟩,h2.trans (kI.refl _ _) Q.2.2.1⟩
   have HE:=aH (show pB G D xc (lb r)=(re,0,G2,D2)from h8.trans (aU hq));have hp:=Y7 J X re;have c1:=N.rY;have h2:=aH C;clear J X N P R C h4;(go_wp2_with fail);go_call hp as x w6 ⟨rfl,hi,hm,hj⟩;have⟨hv,hy,hw⟩:=aB hi hm (h2.trans (kI.refl _ _) hj);clear hi hm hj hp;go_wp2;go_ret2;rw[HE.zz];exact⟨rfl,⟨_,_,hv⟩,⟨_,_,hy,kI.refl _ _,λh=>cC h⟩,hw⟩
  have f:yK D (12+r.size)=false:=(by simpa using f);have V:=aH (show pB G D xc (lb r)=(60,0,G,D)from by unfold pB;rw[bN,aU (.inr f)]);rw[f]at z;clear h hd M d B f hN;go_in;go_wp2_with fail
  go_call z as x w4 ⟨rfl,l⟩;have U:=aH (aJ HK l);clear z l;go_wp2;go_ret2;rw[V.zz];exact⟨rfl,⟨_,_,HD.next U⟩,⟨_,_,HH.next U,kI.refl _ _,λ_=>rfl⟩,sA.cQ U _ _ _ _⟩
end Go.Proofs.YtpopikndggffaaaGreatDoor
