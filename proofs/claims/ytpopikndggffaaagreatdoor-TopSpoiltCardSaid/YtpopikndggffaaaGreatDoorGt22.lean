/- TOP, part 22. -/
import Derived.Test.YtpopikndggffaaaGreatDoorGt21
namespace Go.Proofs.YtpopikndggffaaaGreatDoor
set_option linter.all false
set_option maxRecDepth 100000
set_option maxHeartbeats 16000000
open Go.RowKit Go.Maps Tryz
variable{i j k m:Nat}{w:aI}{D:aL}{v:aN}{K:bH->Nat}{H:bH->aN}{G:cS}
def l4.grown{w x y:aI}{d:Nat}{b:Bool}{u:aN}(h:l4 w m k j G d b v)(I:bJ w m k i D K H)(g:aR w w x)(n:Nat)(hn:n<=1048576)(U:G.bV.length<200)(z:Int)(X:z=(n:Int)) (p:y.ownsRow m 3 1 u (G.bV+1) (fJ G.bV++[.int .i64 z])) (B:x.grownBy y v.ownBlock) (S:u.ownBlock=v.ownBlock\/u.ownBlock=x) :Row y j 171 [zp k,d,b,v,G.sure]/\l4 (y.setCell (zp j 3) u) m k j {G with bV:=G.bV++[n]} d b u/\bJ (y.setCell (zp j 3) u) m k i D K H/\uJ m i j v w (y.setCell (zp j 3) u)/\lA w v u:=by
 subst X;have s:w.heap.size<=x:=g.size;have M:∀h0,v.ownBlock=some h0->h0≠j:=λh0 a e=>by subst e;exact iP.2.2 (dD h.row (dX h.own a))
 have W:∀h0,v.ownBlock=some h0->k≠h0:=λh0 a=>oP h.eI (dX h.own a) (by decide);have T:k≠j:=oP h.eI h.row (by decide);have O:∀h0,h0<w.heap.size->h0≠j->v.ownBlock≠some h0->(y.setCell (zp j 3) u).heap[h0]?=w.heap[h0]?:=λh0 c E Y=>by rw[aU _ _ _ _ E,B.block h0 (aW c s) (λa=>Y a.symm)];exact g.block h0 c
 have r:lA w v u:=λh0 a=>by
  rcases S with e|e
  .exact .inl (by rw[<-e];exact a)
  rw[e]at a;cases a;exact .inr s
 have Z:Row y j 171 _:=(h.row.next g).grown B (λa=>M j a.symm rfl);have l:=O k (n7 h.eI).lt T (λa=>W k a rfl);have⟨e1,e2⟩:=jW (n:=(y.setCell (zp j 3) u).heap.size+1) l h.eI;have L:∀h0,u.ownBlock=some h0->h0≠j:=λh0 a=>by
  rcases r h0 a with e|e
  .exact M h0 e
  have:=h.row.lt;omega
 refine⟨Z,⟨?_,h.low,?_,λh0 a ho=>?_,e1,?_,λz N=>?_,h.sure⟩,I.far λh0 c f=>O h0 c (λa=>?_) (λa=>?_),⟨B.os.trans g.os,B.tape.trans g.tape,B.output.trans g.output,aM s (by simpa using B.size),λh0 c f=>O h0 c (λa=>?_) (λa=>?_),λh0 l=>jW (O h0 (n7 l).lt (oP l h.row (by decide)) (λa=>oP l (dX h.own a) (by decide) rfl)) l⟩,r⟩
 .exact Z.set 3 u
 .show(y.setCell (zp j 3) u).ownsRow m _ 1 u (G.bV++[n]).length (fJ (G.bV++[n]));rw[yM,aO];exact eS p λh0 a=>aU _ _ _ _ (L h0 a)
 .have c:h0<(y.setCell (zp j 3) u).heap.size+1:=by have:=jN p h0 a;simp;omega
  have J:=e2 h0 c ho;rcases r h0 a with e|e
  .exact h.apart h0 e J
  obtain⟨A,kv,E,-,Q⟩:=I.row;have⟨v9,F,R⟩:=J;rw[E.zc9]at F;cases F;have:=(Q.row R).1.lt;omega
 .show(G.bV++[n]).length<=200;rw[aO];simp;omega
 .rcases cB.1 N with N|N
  .exact h.small z N
  simp at N;omega
 .subst a;rcases f with f|⟨C,t,fr,o,V⟩|f
  .exact I.rE h.row f
  .obtain⟨C',P,q,-⟩:=h.row;rw[q]at o;cases o;exact iP.1 V
  have⟨A,kv,E,Y,Q⟩:=I.row;have⟨v9,F,R⟩:=f;rw[E.zc9]at F;cases F;exact iP.2.2 (dD h.row (Q.row R).1)
 .rcases f with f|⟨C,t,fr,o,V⟩|f
  .exact I.rE (dX h.own a) f
  .obtain⟨C',P,q,-⟩:=dX h.own a;rw[q]at o;cases o;exact iP.2.1 V
  exact h.apart h0 a f
 .rcases f with f|⟨-,-,e,-⟩
  .have:=h.low;omega
  exact e a
 rcases f with f|⟨-,-,-,e⟩
 .have:=dH h.own h0 a;omega
 exact e a
def be4(G:cS)(D:aL)(n:Nat)(r:bH):(runs (G,D) (nE n r)).2.1.bV=G.bV:=by
 have d:(gO G D).2.1.bV=G.bV:=by
  unfold gO;split
  .rfl
  simp only;split<;>rfl
 rcases c:gO G D with⟨f,b,a⟩;rw[c]at d;have e:runs (G,D) (nE n r)=if f=0 then(if(a.create (iJ n)).1=0 then(if((a.create (iJ n)).2.append (iJ n) (fC n++r)).1=0 then(0,(b,((a.create (iJ n)).2.append (iJ n) (fC n++r)).2))else(((a.create (iJ n)).2.append (iJ n) (fC n++r)).1,(b,((a.create (iJ n)).2.append (iJ n) (fC n++r)).2)))else((a.create (iJ n)).1,(b,(a.create (iJ n)).2)))else(f,(b,a)):=by simp only[nE,runs,c]
 rw[e];repeat' split
 all_goals exact d
def ap1{n:Nat}(h:l4 w k n i G j false v)(hd:bJ w k n m D K H)(O:k<=w)(xc:Nat)(hN:G.bV=xc)(r:aS)(hr:r.size<=4000):Calls prog 143 #[zp i,xc,r] w (LOp k n m i j v (.tuple #[((pX G D xc (lb r)).2.1:Nat),(pX G D xc (lb r)).1]) (pX G D xc (lb r)).1 (pX G D xc (lb r)).2.2.1 (pX G D xc (lb r)).2.2.2 w):=by
 have hn:=h.many;rw[hN]at hn;obtain⟨A,c,rfl,hz,x0,-⟩:=id (Reads.cX h.own);unfold maxLen at x0;rw[hN]at h hz|-;have xa:∀(fn:Fn)(first he:Array aN)(w:aI),(Instr.makeFunc fn first he).run prog w=.ok (.func fn first he) w:=λ_ _ _ _=>rfl;have B:∀(x:aI)(o:Obj),aR x.heap.size x (x.alloc o):=λx o=>iH.alloc dQ o;have M:aR w.heap.size w (((w.alloc (.cells #[.pointer (some ⟨i,0,none⟩)] 70)).alloc (.cells #[.int .i64 xc] 3)).alloc (.cells #[.string r] 9)):=aK (B _ _) (aK (B _ _) (B _ _));have d:Row (((w.alloc (.cells #[.pointer (some ⟨i,0,none⟩)] 70)).alloc (.cells #[.int .i64 xc] 3)).alloc (.cells #[.string r] 9)) w.heap.size 70 [.pointer (some ⟨i,0,none⟩)]/\Row (((w.alloc (.cells #[.pointer (some ⟨i,0,none⟩)] 70)).alloc (.cells #[.int .i64 xc] 3)).alloc (.cells #[.string r] 9)) (w.heap.size+1) 3 [.int .i64 xc]/\Row (((w.alloc (.cells #[.pointer (some ⟨i,0,none⟩)] 70)).alloc (.cells #[.int .i64 xc] 3)).alloc (.cells #[.string r] 9)) (w.heap.size+1+1) 9 [.string r]:=by have r1:=Row.new w #[.pointer (some ⟨i,0,none⟩)] 70;have z1:(w.alloc (.cells #[.pointer (some ⟨i,0,none⟩)] 70)).heap.size=w.heap.size+1:=bD _ _;generalize w.alloc (.cells #[.pointer (some ⟨i,0,none⟩)] 70)=w1 at r1 z1|-;have r2:=Row.new w1 #[.int .i64 xc] 3;have z2:(w1.alloc (.cells #[.int .i64 xc] 3)).heap.size=w1.heap.size+1:=bD _ _;have k2:=B w1 (.cells #[.int .i64 xc] 3);generalize w1.alloc (.cells #[.int .i64 xc] 3)=w2 at r2 z2 k2|-;have r3:=Row.new w2 #[.string r] 9;have k3:=B w2 (.cells #[.string r] 9);rw[z1]at r2;rw[z2,z1]at r3;exact⟨(r1.next k2).next k3,r2.next k3,r3⟩
 unfold LOp;have⟨HH,HD,HK,hc⟩:=aC h hd M d;by_cases hg:xc=200
 .have V:=aH (show pX G D xc (lb r)=(60,0,G,D)from by unfold pX;rw[aV (.inl (by omega))]);subst hg;clear h hd M d B hN;go_in;go_wp2;go_ret2;rw[V.zz];exact⟨rfl,⟨_,_,HD.next HK⟩,⟨_,_,HH.next HK,lA.refl _ _,λ_=>rfl⟩,uJ.cT HK _ _ _ _⟩
 have L:∀x,aR w.heap.size w x->Calls prog 204 #[.pointer (some ⟨i,0,none⟩),.int .i64 (12+(r.size:Int))] x λe g=>e=.returned (.bool (zR D (12+r.size)))/\aR x.heap.size x g:=λx hx=>by have:=aP7 (h.next hx) (hd.next hx) (12+r.size) (by omega);rwa[Int.natCast_add]at this
 have z:=L _ M;clear L;by_cases f:zR D (12+r.size)=true
 .have V:=bq3 G D xc (lb r) (by rw[bI,f];simp;omega);rw[bI]at V;have t:∀x,aR (((w.alloc (.cells #[.pointer (some ⟨i,0,none⟩)] 70)).alloc (.cells #[.int .i64 xc] 3)).alloc (.cells #[.string r] 9)).heap.size (((w.alloc (.cells #[.pointer (some ⟨i,0,none⟩)] 70)).alloc (.cells #[.int .i64 xc] 3)).alloc (.cells #[.string r] 9)) x->Calls prog 206 #[.slice (some ⟨x.heap.size,0,none⟩) 3 3] (x.alloc (.cells #[.func (.func 152) #[.pointer (some ⟨i,0,none⟩)] #[],.func (.func 207) #[] #[.pointer (some ⟨w.heap.size,0,none⟩),.pointer (some ⟨w.heap.size+1,0,none⟩)],.func (.func 209) #[] #[.pointer (some ⟨w.heap.size,0,none⟩),.pointer (some ⟨w.heap.size+1,0,none⟩),.pointer (some ⟨w.heap.size+1+1,0,none⟩)]] 76)) λe g=>e=.returned (.int .i64 (runs (G,D) (nE xc (lb r))).1)/\(∃K H,bJ g k n m (runs (G,D) (nE xc (lb r))).2.2 K H)/\l4 g k n i (runs (G,D) (nE xc (lb r))).2.1 j false (.slice A xc c)/\uJ k m i (.slice A xc c) w g/\Row g w.heap.size 70 [.pointer (some ⟨i,0,none⟩)]/\Row g (w.heap.size+1) 3 [.int .i64 xc]/\Row g (w.heap.size+1+1) 9 [.string r]:=λx hx=>by
   have rf:=Row.new x #[.func (.func 152) #[.pointer (some ⟨i,0,none⟩)] #[],.func (.func 207) #[] #[.pointer (some ⟨w.heap.size,0,none⟩),.pointer (some ⟨w.heap.size+1,0,none⟩)],.func (.func 209) #[] #[.pointer (some ⟨w.heap.size,0,none⟩),.pointer (some ⟨w.heap.size+1,0,none⟩),.pointer (some ⟨w.heap.size+1+1,0,none⟩)]] 76;have kx:=aK hx (B x (.cells #[.func (.func 152) #[.pointer (some ⟨i,0,none⟩)] #[],.func (.func 207) #[] #[.pointer (some ⟨w.heap.size,0,none⟩),.pointer (some ⟨w.heap.size+1,0,none⟩)],.func (.func 209) #[] #[.pointer (some ⟨w.heap.size,0,none⟩),.pointer (some ⟨w.heap.size+1,0,none⟩),.pointer (some ⟨w.heap.size+1+1,0,none⟩)]] 76));generalize x.alloc _=y at rf kx|-;have⟨N,P,R⟩:=hc.zz;have h0:=aK HK kx;have N:=N.next kx;have P:=P.next kx;have R:=R.next kx;have x2:=HH.next h0;have Y:=HD.next h0;have a:∀xb,(Value.slice A xc c).ownBlock=some xb->xb<w.heap.size:=λxb hk=>jN HH.own xb hk;go_call bR1 x2 Y (aM O h0.size) xc (by omega) r (by omega) x.heap.size w.heap.size (w.heap.size+1) (w.heap.size+1+1) N P R rf (λE=>by have:=a _ E;omega) as e g ⟨e1,e2,e3,e4⟩;have hL:=HH.row.lt;refine⟨e1,e2,e3,(uJ.cT h0 k m i (.slice A xc c)).trans (lA.refl _ _) e4,e4.row N V9 (Y.rE N) (by omega) (λE=>by have:=a _ E;omega),e4.row P iP.2.1 (Y.rE P) (by omega) (λE=>by have:=a _ E;omega),e4.row R IH.2.1 (Y.rE R) (by omega) (λE=>by have:=a _ E;omega)⟩
  obtain⟨⟨re,G2,D2⟩,h7⟩:∃q,q=runs (G,D) (nE xc (lb r)):=⟨_,rfl⟩;rw[<-h7]at t V;simp only at t V;have h8:=aH V;have h3:G2.bV=G.bV:=(by have:=be4 G D xc (lb r);rwa[<-h7]at this);rw[f]at z;clear V h7 h hd M d B f;have⟨i0,x1,x3,x4,x5⟩:=info_parts nH;go_in;go_wp2_with fail
  go_call z as x w4 ⟨rfl,l⟩;have x9:=(hc.1.next l).lO;have U:=aH l;have h4:=t w4 l;clear t l z;go_wp2_with fail
  go_call h4 as x b ⟨rfl,⟨x6,x7,X⟩,J,C,N,P,R⟩;by_cases hq:re=0
  .subst hq;have HE:=aH (show pX G D xc (lb r)=(0,xc*4096+12,{G2 with bV:=G2.bV++[12+r.size]},D2)from h8.trans (aP (by simp)));have a:∀xb,(Value.slice A xc c).ownBlock=some xb->xb<w.heap.size:=λxb hk=>jN HH.own xb hk;have h6:G2.bV.length<200:=(by rw[h3,hN];omega);have x8:=aH h3;clear h3 hN;have h2:=aH C;have S:aR b.heap.size b b.drew:=iH.drew;have T:aR b.heap.size b (b.alloc (.cells #[.int .i64 (IntKind.i64.wrap (12+(r.size:Int)))] 3)):=iH.alloc dQ _;have F:=λg (O:aR b.heap.size b g)=>(N.next O).lO;have I:=λg (O:aR b.heap.size b g)=>(R.next O).lO;have hl:=λg (O:aR b.heap.size b g)=>(P.next O).lO;have h5:=λg (O:aR b.heap.size b g)=>(J.next O).row.JF;have t1:=F _ S;have t3:=I _ S;have tL:=h5 _ S;have s1:=F _ T;have s3:=I _ T;have sL:=h5 _ T;have⟨ha,ht,HQ⟩:=aB J X (And.intro N (And.intro P R));have hh:k<=b.heap.size:=aM O C.size;have hs:w.heap.size<=b.heap.size:=C.size;clear F hl I h5 J X N P R C h4;(go_wp2_with fail);go_region_law (refine KN rfl _ _ 33 rfl k 3 i0 (.int .i64 0) 1 8 underlying33 x1 x3 x4 x5 rfl (by decide) (.slice A xc c) G2.bV.length (fJ G2.bV) rfl (bY ha.own (by first|exact T.drew|exact T|exact S.alloc S.size _)) _ 1 [.int .i64 (IntKind.i64.wrap (12+(r.size:Int)))] rfl (by first|exact Reads.FH (Row.new b #[.int .i64 (IntKind.i64.wrap (12+(r.size:Int)))] 3) rfl dQ (by unfold maxLen;omega)|exact Reads.FH ((Row.new b #[.int .i64 (IntKind.i64.wrap (12+(r.size:Int)))] 3).next iH.drew) rfl dQ (by unfold maxLen;omega)|exact Reads.FH (Row.new b.drew #[.int .i64 (IntKind.i64.wrap (12+(r.size:Int)))] 3) rfl dQ (by unfold maxLen;omega)) (by intro u hu;simp at hu;subst hu;rfl) (by unfold maxLen;omega) (by omega) (aM hh (xU (B:=b.heap.size) (w:=b) (by first|exact T.drew|exact T|exact S.alloc S.size _))) ?_;intro v2 w6 s Z h1;obtain⟨A2,hf,rfl,-,-,-,-⟩:=Reads.cX s;have W:=(show aR b.heap.size b _ from(by first|exact T.drew|exact T|exact S.alloc S.size _));have⟨p1,p2,p3,p4,p5⟩:=ha.grown ht W (12+r.size) (by omega) h6 (IntKind.i64.wrap (12+(r.size:Int))) (by rw[cQ];omega) s Z h1;have f9:=p1.zf3;have c9:=p1.JF;have b9:=((HQ.1.next W).grown Z (λE=>by have:=a _ E.symm;omega)).lO;have ho:w.heap.size+1≠i:=(by have:=HH.row.lt;omega);have n9:=(((HQ.2.1.next W).grown Z (λE=>by have:=a _ E.symm;omega)).far (p:=⟨i,3,none⟩) ho (.slice A2 (G2.bV.length+1) hf)).lO;have Q:=aH (And.intro p2 (And.intro p3 (And.intro p4 p5)));clear p1 p2 p3 p4 p5 s Z h1 W)
   all_goals
    go_wp2;go_ret2;rw[HE.zz];exact⟨rfl,⟨_,_,Q.2.1⟩,⟨_,_,Q.1,λxb hk=>(Q.2.2.2 xb hk).imp id (λh=>aM hs h),λ_=>rfl⟩,h2.trans (lA.refl _ _) Q.2.2.1⟩
  have HE:=aH (show pX G D xc (lb r)=(re,0,G2,D2)from h8.trans (aV hq));have hp:=ZS J X re;have c1:=N.lO;have h2:=aH C;clear J X N P R C h4;go_wp2_with fail
  go_call hp as x w6 ⟨rfl,hi,hm,hj⟩;have⟨hv,hy,hw⟩:=aB hi hm (h2.trans (lA.refl _ _) hj);clear hi hm hj hp;go_wp2;go_ret2;rw[HE.zz];exact⟨rfl,⟨_,_,hv⟩,⟨_,_,hy,lA.refl _ _,λh=>bN h⟩,hw⟩
 have f:zR D (12+r.size)=false:=(by simpa using f);have V:=aH (show pX G D xc (lb r)=(60,0,G,D)from by unfold pX;rw[bI,aV (.inr f)]);rw[f]at z;clear h hd M d B f hN;go_in;go_wp2_with fail
 go_call z as x w4 ⟨rfl,l⟩;have U:=aH (aK HK l);clear z l;go_wp2;go_ret2;rw[V.zz];exact⟨rfl,⟨_,_,HD.next U⟩,⟨_,_,HH.next U,lA.refl _ _,λ_=>rfl⟩,uJ.cT U _ _ _ _⟩
end Go.Proofs.YtpopikndggffaaaGreatDoor
