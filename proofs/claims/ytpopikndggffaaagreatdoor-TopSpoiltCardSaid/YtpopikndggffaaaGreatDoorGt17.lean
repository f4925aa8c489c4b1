/- TOP, part 17. -/
import Derived.Test.YtpopikndggffaaaGreatDoorGt14
namespace Go.Proofs.YtpopikndggffaaaGreatDoor
set_option linter.all false
set_option maxRecDepth 100000
set_option maxHeartbeats 16000000
open Go.RowKit Go.Maps Tryz
variable{M:List Nat}{T:List jU}{i j k m n:Nat}{w x:aI}
def bT9(N k:Nat)(b:N<=100000)(c:k<=1000):IntKind.i64.wrap (IntKind.i64.wrap (N:Int)+(k:Int))=(N:Int)+k:=by have a:IntKind.i64.wrap (N:Int)=N:=(by rw[cQ];omega);rw[a,cQ];omega
def nP(T:List jU)(s:aS)(x:Int)(l:List Ev):Int:=if eP (s,0,l)≠0 then eP (s,0,l)else if x< -2 then 2 else if x≠-2/\x≠((dJ T s).length:Int)-1 then 80 else eP (s,((dJ T s).length:Int),l)
def aY6(w:aI)(a g:Nat)(j m:aN)(i oM:Option Nat)(T:List jU)(M:List Nat)(b:Nat)(s:aS)(f:Int)(l:List Ev)(e:eY)(h:aI):Prop:=e=.returned (.tuple #[.int .i64 f,.int .i64 0])/\∃c d,xV h a g c d (T++eQ s f l) (M++[l.length]) b/\aR a w h/\(∀k,k<w.heap.size->k≠g->some k≠i->some k≠oM->h.heap[k]?=w.heap[k]?)/\(∀q,c.ownBlock=some q->j.ownBlock=some q\/w.heap.size<=q)/\(∀q,d.ownBlock=some q->m.ownBlock=some q\/w.heap.size<=q)
def kP.cP7(o:Option Nat)(h:kP w x n none):kP w x n o:=⟨h.os,h.tape,h.output,h.size,λk b a _=>h.block k b a (by simp)⟩
def VV{wr w:aI}{g:Nat}(b:aR wr wr w)(a:w.grownBy x none)(j:Nat)(u:aN):kP wr (x.setCell (zp g j) u) g none:=kP.trans (kP.cT b g none) (kP.trans ⟨a.os,a.tape,a.output,a.size,λk c _ _=>a.block k c (by simp)⟩ (kP.AT j _ _))
def bx8{d:Nat}{T:cC}{X:List aN}(h:l3 w n T j (.slice (zp m) i i) d X):aZ5 w n T j (.slice (zp m) i i) d X:=by
 rcases h with h|h
 .have p:=dX h (k:=m) (by simp[Value.ownBlock]);have o:=dH h m (by simp[Value.ownBlock]);rcases id h.2 with⟨a,-⟩|⟨g,c,e,a,-,-,-,b,-⟩
  .cases a
  have⟨q,f,l⟩:=eJ a;subst f;subst l;exact⟨m,rfl,o,p,h.1,b⟩
 exact h
def aK6{wr y:aI}{v u z t:aN}{s:aS}{l:List Ev}(a:aR w w x)(f oM:Option Nat)(b:kP x wr k f)(c:kP wr y k oM)(E:xV y n k z t (T++eQ s (i:Int) l) (M++[m]) j)(D:m=l) (F:n<=k) (h:n<=w) (B:∀q,f=some q->n<=q) (C:∀q,oM=some q->n<=q) (A:∀q,z.ownBlock=some q->v.ownBlock=some q\/w<=q) (d:∀q,t.ownBlock=some q->u.ownBlock=some q\/w<=q):aY6 w n k v u f oM T M j s (i:Int) l (.returned (.tuple #[i,()])) y:=by subst D;have e:∀m,m<w.heap.size->m≠k->some m≠f->some m≠oM->y.heap[m]?=w.heap[m]?:=λq g o p r=>(c.block q (aW g (aM a.size b.size)) o r).trans ((b.block q (aW g a.size) o p).trans (a.block q g));refine⟨rfl,z,t,E,⟨c.os.trans (b.os.trans a.os),c.tape.trans (b.tape.trans a.tape),c.output.trans (b.output.trans a.output),aM a.size (aM b.size c.size),λq G=>?_⟩,e,A,d⟩;exact e q (by omega) (by omega) (λd=>by have:=B q d.symm;omega) (λd=>by have:=C q d.symm;omega)
def aw2{w:World}{v u:Value}(h:xV w n k v u T M m)(s:ByteArray)(x:Int)(ve:Value)(l:List Ev)(hn:l.length<=1000)(hs:s<=maxLen)(hT:T.length<=100000)(hM:M.length<=100000)(x7:n<=w)(hx:-9223372036854775808<=x/\x<=9223372036854775807)(oL oM:Option Nat)(hl:∀w',Below n w w'->kP w w' k oL->Y2 w' ve l)(x9:oL=v.ownBlock\/(oL=none/\∃b yx,v=.slice (zp b) yx yx))(xa:oM=u.ownBlock\/(oM=none/\∃b yx,u=.slice (zp b) yx yx)):Calls prog 38 #[zp k,s,x,ve] w λe w'=>(nP T s x l≠0->cO6 w (nP T s x l) e w')/\(nP T s x l=0->aY6 w n k v u oL oM T M m s ((dJ T s):Int) l e w'):=by
 have⟨yg,yh⟩:=aA x9 xa;have xn:∀q,oL=some q->n<=q:=λq j=>by
  rcases x9 with f|⟨f,-⟩
  .exact(h.2.2.1.row (f▸j)).2
  rw[f]at j;cases j
 have xo:∀q,oM=some q->n<=q:=λq j=>by
  rcases xa with f|⟨f,-⟩
  .exact(h.2.2.2.1.row (f▸j)).2
  rw[f]at j;cases j
 have⟨hz,xg⟩:=aA xn xo;clear x9 xa xn xo;obtain⟨Am,cm,rfl,-⟩:=id h.2.2.2.1.reads;obtain⟨A,c,rfl,-⟩:=id (hl w ⟨rfl,rfl,rfl,dQ,λ_ _=>rfl⟩ ⟨rfl,rfl,rfl,dQ,λ_ _ _ _=>rfl⟩).1;have⟨N,hN⟩:=fR ((dJ T s).length);have x6:N<=100000:=(by have:=zO T s;omega);have yj:Y2 w (.slice A l.length c) l:=hl w ⟨rfl,rfl,rfl,dQ,λ_ _=>rfl⟩ ⟨rfl,rfl,rfl,dQ,λ_ _ _ _=>rfl⟩;have xs:MU w (.agg #[.string s,.int .i64 0,.slice A l.length c]) (s,0,l):=⟨A,c,rfl,yj,hs,by simp only[];omega,by simp only[];omega⟩;have ha:=YO _ _ w xs;have⟨H,HE,HN,HX,L⟩:=aD h hl hN hx x7;clear h hl xs hx;by_cases hc:eP (s,0,l)=0
 .rw[hc]at ha;have yv:=aj7 hc;have HC:=aH hc;clear hc;by_cases xc:x< -2
  .have G:nP T s x l=2:=(by unfold nP;rw[aP (by rw[HC.zz];decide),aV xc]);have h6:=aH G;clear G hN;go_in;(go_wp2_with fail);go_call ha as e w1 ⟨rfl,R⟩;go_wp2;go_ret2;rw[h6.zz];exact⟨λ_=>⟨rfl,R⟩,λh=>absurd h (by decide)⟩
  have xl:=aH xc;go_in;go_wp2_with fail
  go_call ha as e w1 ⟨rfl,R⟩;have V:=L0 k v _ T M m s w1 (H.r.next R) (by omega);rw[show(dJ T s).length=N from hN.symm]at V;go_wp2_with fail
  go_call V as e w2 ⟨vt,rfl,y0,xp⟩;obtain⟨At,ct,rfl,-⟩:=Reads.cX y0;have hp:=aK R xp;have J:=aH hp;clear y0 R xp hp V ha;by_cases y4:x=-2\/x=(N:Int)-1
  .have yo:(x != -2)=false\/((x != -2)=true/\(x != (N:Int)-1)=false):=by
    rcases(show x=-2\/(x≠-2/\x=(N:Int) - 1)from by omega)with xd|⟨xd,ym⟩
    .exact .inl (by rw[bne_eq_false_iff_eq];exact xd)
    exact .inr ⟨by rw[sW];exact xd,by rw[bne_eq_false_iff_eq];exact ym⟩
   have G:nP T s x l=eP (s,(N:Int),l):=(by unfold nP;rw[aP (by rw[HC.zz];decide),aP (by have:=xl.zz;omega),aP (by rw[<-HN.zz];omega),HN.zz]);have hw:=aH G;have xm:=HE w2 ⟨J.os,J.tape,J.output,J.size,λyw hk=>J.block yw (by omega)⟩ (kP.cT J k oL);have hr:MU w2 (.agg #[.string s,.int .i64 N,.slice A l.length c]) (s,(N:Int),l):=⟨A,c,rfl,xm,hs,by simp only[];omega,by simp only[];omega⟩;have y1:=bY9 _ _ w2 hr;have yi:=aH y1;clear G xm hr y1 y4 hN;rcases yo with y5|⟨y5,yn⟩
   all_goals
    (go_wp2_with fail);go_call yi as e w3 ⟨rfl,xq⟩;have ho:=cU J xq dQ;have E:=aH ho;clear xq ho;by_cases S:eP (s,(N:Int),l)=0
    .rw[S];have hi:=aH S;clear S xc;have⟨yy,x8⟩:=fR l.length;have x0:=aH x8;rw[show l.length=yy from x8.symm];rw[<-x8]at hn;have⟨i0,xv,y9,ya,yb⟩:=info_parts LW;have ys:=hT;(go_wp2_with fail);go_loopw [12] (λi wr=>∃(yw:Nat)(P:Value),yw<=yy/\i=.int .i64 yw/\xV wr n k P (.slice Am M.length cm) (T++eQ s (N:Int) (l.take yw)) M m/\kP w3 wr k oL/\((P.ownBlock=oL\/∀q,P.ownBlock=some q->w3.heap.size<=q)\/∃b yx,P=.slice (some ⟨b,0,none⟩) yx yx)/\(P.ownBlock=v.ownBlock\/∀q,P.ownBlock=some q->w3.heap.size<=q)) (λi _=>yy-(intOf i).toNat)
     .exact⟨0,v,by omega,rfl,by rw[DE];simpa[eQ]using H.next E,⟨rfl,rfl,rfl,dQ,λ_ _ _ _=>rfl⟩,by
      rcases yg.zz with f|⟨-,f⟩
      .exact .inl (.inl f.symm)
      exact .inr f,.inl rfl⟩
     obtain⟨yw,P,hk,rfl,y2,hu,xx,xz⟩:=hrel;have x1:=aH xz;clear xz;have⟨C,F,yf⟩:=aB y2 hu xx;have h0:Below n w wr:=by have h1:=F.below (B:=n) (by have:=L.zz;have:=E.size;omega) H.2.1 hz;have h2:=E.zz;exact⟨h1.os.trans h2.os,h1.tape.trans h2.tape,h1.output.trans h2.output,aM h2.size h1.size,λq j=>(h1.block q j).trans (h2.block q (by have:=L.zz;omega))⟩
     have⟨h4,ye⟩:=aA h0 (kP.trans (kP.cT E k oL) F);clear y2 hu xx h0;by_cases yu:yw<yy
     .have i1:(yw:Int)<yy:=(by omega);obtain⟨e,he⟩:∃e,l[yw]?=some e:=⟨_,aJ (by have:=x0.zz;omega)⟩;have x5:=HE wr h4 ye;have xy:=x5.ok he;obtain⟨be,oe,rfl,xr,xu⟩:=x5.later (by have:=x0.zz;omega);have xj:=aH (O5 s (N:Int) he);have⟨Q,Y⟩:=fR ((T++eQ s (N:Int) (l.take yw)).length);have yp:Q<=200000:=by rw[Y,aO,QU,b8];omega
      obtain⟨A',I,y3,xt,ht,-⟩:=id C.2.2.1.reads;rw[<-Y]at y3 xt;subst y3;have h5:=aH Y.symm;have r:Below wr.heap.size wr wr.drew:=iH.drew;have⟨e1,e2,e3⟩:=e;have xb:IntKind.i64.wrap (IntKind.i64.wrap (N:Int)+(yw:Int))=(N:Int)+yw:=bT9 N yw x6 (by omega);obtain⟨xk,xh⟩:=aA xb (show okT (s,IntKind.i64.wrap (IntKind.i64.wrap (N:Int)+(yw:Int)),e1,e2,e3)from⟨hs,by rw[xb];simp only[];omega,xy⟩);have t:Below wr.heap.size wr (wr.alloc (.cells #[.string s,.int .i64 (IntKind.i64.wrap (IntKind.i64.wrap (N:Int)+(yw:Int))),.string e1,.string e2,.float .f64 e3] 133)):=cD wr _;have t0:=(C.1.next r).lO;have l0:=(C.1.next t).lO;have⟨b0,b1,b2⟩:=xu yw _ he _ r;dsimp only at b0 b1 b2;have⟨W,yr⟩:=aA (GC wr (s,IntKind.i64.wrap (IntKind.i64.wrap (N:Int)+(yw:Int)),e1,e2,e3)) x6;clear x6 xb x5 xu he xy Y xr;(go_wp2_with fail);have hf:(wr.ownsRow n 133 5 (.slice A' Q I) (T++eQ s (N:Int) (l.take yw)).length (fU (T++eQ s (N:Int) (l.take yw)))/\((Value.slice A' Q I).ownBlock=oL\/∀q,(Value.slice A' Q I).ownBlock=some q->w3.heap.size<=q))\/aZ5 wr n 133 5 (.slice A' Q I) (T++eQ s (N:Int) (l.take yw)).length (fU (T++eQ s (N:Int) (l.take yw))):=by
       rcases C.zz.2.2.1 with f|f
       .rcases yf.zz with K|⟨b9,m9,K⟩
        .exact .inl ⟨f,K⟩
        have h7:=C.zz.2.2.1;rw[K]at h7;rw[K];exact .inr (bx8 h7)
       exact .inr f
      rcases hf with⟨D,O⟩|D
      .have X:=aH O;clear O;have hh:=D;rw[h5.zz]at hh;have HW:=aH hh;have g:Hid (I8 wr n 133 5 (.slice A' Q I) (T++eQ s (N:Int) (l.take yw)).length (fU (T++eQ s (N:Int) (l.take yw))) (Value.slice A' Q I).ownBlock):=aH (.inr ⟨rfl,D⟩);clear D hh;go_region_law (refine KN rfl _ _ 46 rfl n 133 i0 _ 5 64 underlying46 xv y9 ya yb rfl (by decide) (.slice A' Q I) Q (fU (T++eQ s (N:Int) (l.take yw))) rfl (bY HW (by first|exact t.drew|exact t|exact r.alloc r.size _)) _ 1 (fU [(s,IntKind.i64.wrap (IntKind.i64.wrap (N:Int)+(yw:Int)),e1,e2,e3)]) rfl (by first|exact W|exact Reads.cD3 W) (tE _) (by unfold maxLen;omega) (by omega) (aM (aM L h4.size) (xU (B:=wr.heap.size) (w:=wr) (by first|exact t.drew|exact t|exact r.alloc r.size _))) ?_;intro v2 w2 a o Z;obtain⟨A2,p,rfl,-,-,-,-⟩:=Reads.cX a;have d:=(C.1.next (by first|exact t.drew|exact t|exact r.alloc r.size _)).grown o (I8.ne (I8.next g (by first|exact t.drew|exact t|exact r.alloc r.size _)) (C.1.next (by first|exact t.drew|exact t|exact r.alloc r.size _)) mT.1);have x2:=d.lO;have x3:=d.NV;have V:=aH (aJ2 C g (by first|exact t.drew|exact t|exact r.alloc r.size _) o (by rw[h5.zz];exact a) xh);have U:=aH (ZY (g:=k) g (by first|exact t.drew|exact t|exact r.alloc r.size _) o 0 (.slice A2 (Q+1) p));have hj:=aH (show((Value.slice A2 (Q+1) p).ownBlock=(Value.slice A' Q I).ownBlock\/∀q,(Value.slice A2 (Q+1) p).ownBlock=some q->wr.heap.size<=q)from Z.elim (λf=>.inl f) (λf=>.inr (λq j=>by rw[f]at j;cases j;exact xU (B:=wr.heap.size) (w:=wr) (by first|exact t.drew|exact t|exact r.alloc r.size _)))))
       all_goals
        clear o a d;go_wp2;go_roundw
        .
         refine⟨yw+1,.slice A2 (Q+1) p,by omega,by go_num,?_,kP.trans' F U X,.inl ?_,?_⟩
         .rw[xj.zz,<-bT,<-xk.zz];exact V
         .rcases hj.zz with f|f
          .rcases X.zz with K|K
           .exact .inl (f.trans K)
           exact .inr (λq j=>K q (by rw[<-f];exact j))
          exact .inr (λq j=>aM F.size (f q j))
         rcases hj.zz with f|f
         .rcases x1.zz with K|K
          .exact .inl (f.trans K)
          exact .inr (λq j=>K q (by rw[<-f];exact j))
         exact .inr (λq j=>aM F.size (f q j))
        simp[intOf];omega
      obtain⟨bF,hg,-⟩:=id D;obtain⟨x4,-,hm⟩:=eJ hg;have yk:I=Q:=hm.trans h5;subst x4;subst yk;have yl:=D;have hy:Hid (Reads wr (.slice (some ⟨bF,0,none⟩) I I) 5 I (fU (T++eQ s (N:Int) (l.take yw)))):=aH (by
       have:=C.zz.2.2.1.reads;rwa [h5.zz]at this)
      have g:Hid (I8 wr n 133 5 (.slice (some ⟨bF,0,none⟩) I I) (T++eQ s (N:Int) (l.take yw)).length (fU (T++eQ s (N:Int) (l.take yw))) none):=aH (.inl rfl);clear D yl hg hm;go_region_law (refine GL rfl _ _ 46 rfl 133 i0 _ 5 64 underlying46 xv y9 ya yb rfl _ I (fU (T++eQ s (N:Int) (l.take yw))) rfl (hy.next (by first|exact t.drew|exact t|exact r.alloc r.size _)) (tE _) _ 1 (fU [(s,IntKind.i64.wrap (IntKind.i64.wrap (N:Int)+(yw:Int)),e1,e2,e3)]) rfl (by first|exact W|exact Reads.cD3 W) (tE _) (by unfold maxLen;omega) (by omega) ?_;intro v2 w2 hv h3 o;have a:=vZ (h3 (by omega)) (aM (aM L h4.size) (xU (B:=wr.heap.size) (w:=wr) (by first|exact t.drew|exact t|exact r.alloc r.size _)));obtain⟨A2,p,rfl,-,-,-,-⟩:=Reads.cX a;have d:=(C.1.next (by first|exact t.drew|exact t|exact r.alloc r.size _)).grown o (I8.ne (I8.next g (by first|exact t.drew|exact t|exact r.alloc r.size _)) (C.1.next (by first|exact t.drew|exact t|exact r.alloc r.size _)) mT.1);have x2:=d.lO;have x3:=d.NV;have V:=aH (aJ2 C g (by first|exact t.drew|exact t|exact r.alloc r.size _) o (by rw[h5.zz];exact a) xh);have U:=aH (VV (g:=k) (by first|exact t.drew|exact t|exact r.alloc r.size _) o 0 (.slice A2 (I+1) p));have hj:=aH (show(∀q,(Value.slice A2 (I+1) p).ownBlock=some q->wr.heap.size<=q)from(λq j=>aM (xU (B:=wr.heap.size) (w:=wr) (by first|exact t.drew|exact t|exact r.alloc r.size _)) (dH (h3 (by omega)) q j))))
      all_goals
       clear o a d;go_wp2;go_roundw
       .
        refine⟨yw+1,.slice A2 (I+1) p,by omega,by go_num,?_,kP.trans' F U (.inr (λq j=>by cases j)),.inl (.inr ?_),.inr ?_⟩
        .rw[xj.zz,<-bT,<-xk.zz];exact V
        iterate 2
         .exact λq j=>aM F.size (hj q j)
       simp[intOf];omega
     obtain rfl:yw=yy:=(by omega);have⟨m0,xw,y6,y7,y8⟩:=info_parts nH;have hd:xV wr n k P (.slice Am M.length cm) (T++eQ s (N:Int) l) M m:=by have:=C.zz;rwa [aT (by rw[<-x0.zz];exact cV _)]at this
     have z:=aH hd;have g1:=hd.1.qD;have xf:=aH (bP7 wr l.length);have yc:=cD wr (.cells #[.int .i64 (l.length:Int)] 3);have y:=aH yc;have yd:yw<=1000:=hn;clear hd yc;have hf:(wr.ownsRow n 3 1 (.slice Am M.length cm) M.length (rQ M)/\oM=(Value.slice Am M.length cm).ownBlock)\/aZ5 wr n 3 1 (.slice Am M.length cm) M.length (rQ M):=by
      rcases z.zz.2.2.2.1 with f|f
      .rcases yh.zz with K|⟨-,b9,m9,K⟩
       .exact .inl ⟨f,K⟩
       have h7:=z.zz.2.2.2.1;rw[K]at h7;rw[K];exact .inr (bx8 h7)
      exact .inr f
     rcases hf with⟨D,O⟩|D
     .have⟨HW,X⟩:=aA D O;clear D O;go_wp2_with (first
       |(at_builtin;refine rB _ rfl _ _ 33 rfl n 3 m0 _ 1 8 underlying33 xw y6 y7 y8 rfl (by decide) (.slice Am M.length cm) M.length (rQ M) rfl (bY HW y) _ 1 (rQ [l.length]) rfl xf (U2 _) (by unfold maxLen;omega) (by omega) (aM (aM L h4.size) y.size) ?_;intro v2 w2 a o Z;obtain⟨A2,p,rfl,-,-,-,-⟩:=Reads.cX a;have g:Hid (I8 wr n 3 1 (.slice Am M.length cm) M.length (rQ M) (Value.slice Am M.length cm).ownBlock):=aH (.inr ⟨rfl,HW⟩);have d:=(z.1.next y).grown o (I8.ne (I8.next g y) (z.1.next y) mT.2.1);have x2:=d.qD;have x3:=d.JE))
      have⟨hb,U,xe⟩:=aB (am5 z g y o a) (ZY (g:=k) g y o 1 (.slice A2 (M.length+1) p)) Z;clear o a d Z;go_wp2;go_ret2;rw[hw.zz];refine⟨λh=>absurd hi h,λ_=>?_⟩;rw[show(dJ T s).length=N from HN.zz.symm];exact aK6 E oL oM F (by rw[X.zz];exact U) hb rfl H.2.1 L hz xg (λq j=>by
       rcases x1.zz with f|f
       .exact .inl (by rw[<-f];exact j)
       .exact .inr (aM E.size (f q j))) (λq j=>by
       rcases xe.zz with f|f
       .exact .inl (by rw[<-f];exact j)
       rw[f]at j;cases j;exact .inr (aM E.size (aM F.size y.size)))
     obtain⟨bF,hg,-⟩:=id D;obtain⟨x4,-,hm⟩:=eJ hg;subst x4;subst hm;have hy:=aH z.2.2.2.1.reads;clear D hg;go_wp2_with (first
      |(at_builtin;refine CA _ rfl _ _ 33 rfl 3 m0 _ 1 8 underlying33 xw y6 y7 y8 rfl _ M.length (rQ M) rfl (hy.next y) (U2 _) _ 1 (rQ [l.length]) rfl xf (U2 _) (by unfold maxLen;omega) (by omega) ?_;intro v2 w2 hv h3 o;have a:=vZ (h3 (by omega)) (aM (aM L h4.size) y.size);obtain⟨A2,p,rfl,-,-,-,-⟩:=Reads.cX a;have g:Hid (I8 wr n 3 1 (.slice (some ⟨bF,0,none⟩) M.length M.length) M.length (rQ M) none):=aH (.inl rfl);have d:=(z.1.next y).grown o (I8.ne (I8.next g y) (z.1.next y) mT.2.1);have x2:=d.qD;have x3:=d.JE))
     obtain⟨hb,U,xi⟩:=aB (am5 z g y o a) (VV (g:=k) y o 1 (.slice A2 (M.length+1) p)) (λq j=>dH (h3 (by omega)) q j);clear o a d hv h3;go_wp2;go_ret2;rw[hw.zz];refine⟨λh=>absurd hi h,λ_=>?_⟩;rw[show(dJ T s).length=N from HN.zz.symm];exact aK6 E oL oM F (U.cP7 oM) hb rfl H.2.1 L hz xg (λq j=>by
      rcases x1.zz with f|f
      .exact .inl (by rw[<-f];exact j)
      exact .inr (aM E.size (f q j))) (λq j=>.inr (aM E.size (aM F.size (aM y.size (xi q j)))))
    have hi:=aH S;have ht:(eP (s,(N:Int),l)==0)=false:=(by rw[bA];exact S);have yq:(eP (s,(N:Int),l) != 0)=true:=(by rw[sW];exact S);clear S;go_wp2;go_ret2;rw[hw.zz];exact⟨λ_=>⟨rfl,E⟩,λh=>absurd h hi⟩
  have G:nP T s x l=80:=(by unfold nP;rw[aP (by rw[HC.zz];decide),aP (by have:=xl.zz;omega),aV (by rw[<-HN.zz];omega)]);have y5:(x != -2)=true:=(by rw[sW];omega);have yn:(x != (N:Int)-1)=true:=(by rw[sW];omega);have h6:=aH G;clear G y4 hN;go_wp2;go_ret2;rw[h6.zz];exact⟨λ_=>⟨rfl,J⟩,λh=>absurd h (by decide)⟩
 have G:nP T s x l=eP (s,0,l):=(by unfold nP;rw[aV hc]);have yt:(eP (s,0,l)==0)=false:=(by rw[bA];exact hc);have ht:(eP (s,0,l) != 0)=true:=(by rw[sW];exact hc);have⟨h6,HC⟩:=aA G hc;clear G hc hN;go_in;go_wp2_with fail
 go_call ha as e w1 ⟨rfl,R⟩;go_wp2;go_ret2;rw[h6.zz];exact⟨λ_=>⟨rfl,R⟩,λh=>absurd h HC⟩
end Go.Proofs.YtpopikndggffaaaGreatDoor
