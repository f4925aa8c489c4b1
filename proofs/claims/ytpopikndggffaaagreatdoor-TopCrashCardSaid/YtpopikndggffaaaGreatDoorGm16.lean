/- TOP, part 16. -/
import Derived.Test.YtpopikndggffaaaGreatDoorGm15
namespace Go.Proofs.YtpopikndggffaaaGreatDoor
set_option linter.all false
set_option maxRecDepth 100000
set_option maxHeartbeats 16000000
open Go.RowKit Go.Maps Tryz
variable{M:List Nat}{T:List jL}{i j k m n:Nat}{w x:aI}
def bH8(N k:Nat)(b:N<=100000)(c:k<=1000):IntKind.i64.wrap (IntKind.i64.wrap (N:Int)+(k:Int))=(N:Int)+k:=by have a:IntKind.i64.wrap (N:Int)=N:=(by rw[dM];omega);rw[a,dM];omega
def nB(T:List jL)(s:aT)(x:Int)(l:List Ev):Int:=
 if eF (s,0,l)≠0 then eF (s,0,l)else if x< -2 then 2 else if x≠-2/\x≠((dF T s).length:Int)-1 then 80 else eF (s,((dF T s).length:Int),l)
def aQ4(w:aI)(a g:Nat)(j m:aN)(i oM:Option Nat)(T:List jL)(M:List Nat)(b:Nat)(s:aT)(f:Int)(l:List Ev)(e:eT)(h:aI):Prop:=
 e=.returned (.tuple #[.int .i64 f,.int .i64 0])/\∃c d,wO h a g c d (T++eG s f l) (M++[l.length]) b/\aS a w h/\(∀k,k<w.heap.size->k≠g->some k≠i->some k≠oM->h.heap[k]?=w.heap[k]?)/\(∀q,c.ownBlock=some q->j.ownBlock=some q\/w.heap.size<=q)/\(∀q,d.ownBlock=some q->m.ownBlock=some q\/w.heap.size<=q)
def jZ.cy9(o:Option Nat)(h:jZ w x n none):jZ w x n o:=⟨h.os,h.tape,h.output,h.size,λk b a _=>h.block k b a (by simp)⟩
def UC{wr w:aI}{g:Nat}(b:aS wr wr w)(a:w.grownBy x none)(j:Nat)(u:aN):jZ wr (x.setCell (zp g j) u) g none:=
 jZ.trans (jZ.cQ b g none) (jZ.trans ⟨a.os,a.tape,a.output,a.size,λk c _ _=>a.block k c (by simp)⟩ (jZ.DV j _ _))
def bn1{d:Nat}{T:cD}{X:List aN}(h:lK w n T j (.slice (zp m) i i) d X):aR1 w n T j (.slice (zp m) i i) d X:=by
 rcases h with h|h
 .have p:=dZ h (k:=m) (by simp[Value.ownBlock]);have o:=dE h m (by simp[Value.ownBlock]);rcases id h.2 with⟨a,-⟩|⟨g,c,e,a,-,-,-,b,-⟩
  .cases a
  have⟨q,f,l⟩:=eV a;subst f;subst l;exact⟨m,rfl,o,p,h.1,b⟩
 exact h
def aC0{wr y:aI}{v u z t:aN}{s:aT}{l:List Ev}(a:aS w w x)(f oM:Option Nat)(b:jZ x wr k f)(c:jZ wr y k oM)(E:wO y n k z t (T++eG s (i:Int) l) (M++[m]) j)(D:m=l)
 (F:n<=k) (h:n<=w) (B:∀q,f=some q->n<=q) (C:∀q,oM=some q->n<=q) (A:∀q,z.ownBlock=some q->v.ownBlock=some q\/w<=q) (d:∀q,t.ownBlock=some q->u.ownBlock=some q\/w<=q):aQ4 w n k v u f oM T M j s (i:Int) l (.returned (.tuple #[i,()])) y:=by
  subst D;have e:∀m,m<w.heap.size->m≠k->some m≠f->some m≠oM->y.heap[m]?=w.heap[m]?:=λq g o p r=>(c.block q (aW g (aL a.size b.size)) o r).trans ((b.block q (aW g a.size) o p).trans (a.block q g));refine⟨rfl,z,t,E,⟨c.os.trans (b.os.trans a.os),c.tape.trans (b.tape.trans a.tape),c.output.trans (b.output.trans a.output),aL a.size (aL b.size c.size),λq G=>?_⟩,e,A,d⟩;exact e q (by omega) (by omega) (λd=>by have:=B q d.symm;omega) (λd=>by have:=C q d.symm;omega)
def ao6{w:World}{v u:Value}(h:wO w n k v u T M m)(s:ByteArray)(x:Int)(ve:Value)(l:List Ev)(hn:l.length<=1000)(hs:s<=maxLen)(hT:T.length<=100000)(hM:M.length<=100000)(x7:n<=w)(hx:-9223372036854775808<=x/\x<=9223372036854775807)(oL oM:Option Nat)(hl:∀w',Below n w w'->jZ w w' k oL->WE w' ve l)(x9:oL=v.ownBlock\/(oL=none/\∃b yx,v=.slice (zp b) yx yx))(xa:oM=u.ownBlock\/(oM=none/\∃b yx,u=.slice (zp b) yx yx)):
 Calls prog 38 #[zp k,s,x,ve] w λe w'=>
  (nB T s x l≠0->cx7 w (nB T s x l) e w')/\(nB T s x l=0->aQ4 w n k v u oL oM T M m s ((dF T s):Int) l e w'):=by
   have yg:=aH x9;have yh:=aH xa;have xn:∀q,oL=some q->n<=q:=λq j=>by
    rcases x9 with f|⟨f,-⟩
    .exact(h.2.2.1.row (f▸j)).2
    rw[f]at j;cases j
   have xo:∀q,oM=some q->n<=q:=λq j=>by
    rcases xa with f|⟨f,-⟩
    .exact(h.2.2.2.1.row (f▸j)).2
    rw[f]at j;cases j
   have hz:=aH xn;have xg:=aH xo;clear x9 xa xn xo;obtain⟨Am,cm,rfl,-⟩:=id h.2.2.2.1.reads;obtain⟨A,c,rfl,-⟩:=id (hl w ⟨rfl,rfl,rfl,gC,λ_ _=>rfl⟩ ⟨rfl,rfl,rfl,gC,λ_ _ _ _=>rfl⟩).1;have⟨N,hN⟩:=kX ((dF T s).length);have x6:N<=100000:=(by have:=yI T s;omega);have yj:WE w (.slice A l.length c) l:=hl w ⟨rfl,rfl,rfl,gC,λ_ _=>rfl⟩ ⟨rfl,rfl,rfl,gC,λ_ _ _ _=>rfl⟩;have xs:LH w (.agg #[.string s,.int .i64 0,.slice A l.length c]) (s,0,l):=⟨A,c,rfl,yj,hs,by simp only[];omega,by simp only[];omega⟩;have ha:=X4 _ _ w xs;have H:=aH h;have HE:=aH hl;have HN:=aH hN;have HX:=aH hx;have L:=aH x7;clear h hl xs hx;by_cases hc:eF (s,0,l)=0
   .rw[hc]at ha;have yv:=ad7 hc;have HC:=aH hc;clear hc;by_cases xc:x< -2
    .have G:nB T s x l=2:=(by unfold nB;rw[aQ (by rw[HC.zz];decide),aU xc]);have h6:=aH G;clear G hN;go_in;(go_wp2_with fail);go_call ha as e w1 ⟨rfl,R⟩;go_wp2;go_ret2;rw[h6.zz];exact⟨λ_=>⟨rfl,R⟩,λh=>absurd h (by decide)⟩
    have xl:=aH xc;go_in;(go_wp2_with fail);go_call ha as e w1 ⟨rfl,R⟩;have V:=JF k v _ T M m s w1 (H.r.next R) (by omega);rw[show(dF T s).length=N from hN.symm]at V;(go_wp2_with fail);go_call V as e w2 ⟨vt,rfl,y0,xp⟩;obtain⟨At,ct,rfl,-⟩:=Reads.dC y0;have hp:=aJ R xp;have J:=aH hp;clear y0 R xp hp V ha;by_cases y4:x=-2\/x=(N:Int)-1
    .have yo:(x != -2)=false\/((x != -2)=true/\(x != (N:Int)-1)=false):=by
      rcases(show x=-2\/(x≠-2/\x=(N:Int) - 1)from by omega)with xd|⟨xd,ym⟩
      .exact .inl (by rw[bne_eq_false_iff_eq];exact xd)
      exact .inr ⟨by rw[mW];exact xd,by rw[bne_eq_false_iff_eq];exact ym⟩
     have G:nB T s x l=eF (s,(N:Int),l):=(by unfold nB;rw[aQ (by rw[HC.zz];decide),aQ (by have:=xl.zz;omega),aQ (by rw[<-HN.zz];omega),HN.zz]);have hw:=aH G;have xm:=HE w2 ⟨J.os,J.tape,J.output,J.size,λyw hk=>J.block yw (by omega)⟩ (jZ.cQ J k oL);have hr:LH w2 (.agg #[.string s,.int .i64 N,.slice A l.length c]) (s,(N:Int),l):=⟨A,c,rfl,xm,hs,by simp only[];omega,by simp only[];omega⟩;have y1:=bL3 _ _ w2 hr;have yi:=aH y1;clear G xm hr y1 y4 hN;rcases yo with y5|⟨y5,yn⟩
     all_goals
      (go_wp2_with fail);go_call yi as e w3 ⟨rfl,xq⟩;have ho:=dK J xq gC;have E:=aH ho;clear xq ho;by_cases S:eF (s,(N:Int),l)=0
      .rw[S];have hi:=aH S;clear S xc;have⟨yy,x8⟩:=kX l.length;have x0:=aH x8;rw[show l.length=yy from x8.symm];rw[<-x8]at hn;have⟨i0,xv,y9,ya,yb⟩:=info_parts K8;have ys:=hT;(go_wp2_with fail);go_loopw [12] (λi wr=>∃(yw:Nat)(P:Value),yw<=yy/\i=.int .i64 yw/\wO wr n k P (.slice Am M.length cm) (T++eG s (N:Int) (l.take yw)) M m/\jZ w3 wr k oL/\((P.ownBlock=oL\/∀q,P.ownBlock=some q->w3.heap.size<=q)\/∃b yx,P=.slice (some ⟨b,0,none⟩) yx yx)/\(P.ownBlock=v.ownBlock\/∀q,P.ownBlock=some q->w3.heap.size<=q)) (λi _=>yy-(intOf i).toNat)
       .exact⟨0,v,by omega,rfl,by rw[C6];simpa[eG]using H.next E,⟨rfl,rfl,rfl,gC,λ_ _ _ _=>rfl⟩,by
        rcases yg.zz with f|⟨-,f⟩
        .exact .inl (.inl f.symm)
        exact .inr f,.inl rfl⟩
       obtain⟨yw,P,hk,rfl,y2,hu,xx,xz⟩:=hrel;have x1:=aH xz;clear xz;have C:=aH y2;have F:=aH hu;have yf:=aH xx;have h0:Below n w wr:=by have h1:=F.below (B:=n) (by have:=L.zz;have:=E.size;omega) H.2.1 hz;have h2:=E.zz;exact⟨h1.os.trans h2.os,h1.tape.trans h2.tape,h1.output.trans h2.output,aL h2.size h1.size,λq j=>(h1.block q j).trans (h2.block q (by have:=L.zz;omega))⟩
       have h4:=aH h0;have ye:=aH (jZ.trans (jZ.cQ E k oL) F);clear y2 hu xx h0;by_cases yu:yw<yy
       .have i1:(yw:Int)<yy:=(by omega);obtain⟨e,he⟩:∃e,l[yw]?=some e:=⟨_,aK (by have:=x0.zz;omega)⟩;have x5:=HE wr h4 ye;have xy:=x5.ok he;obtain⟨be,oe,rfl,xr,xu⟩:=x5.later (by have:=x0.zz;omega);have xj:=aH (MK s (N:Int) he);have⟨Q,Y⟩:=kX ((T++eG s (N:Int) (l.take yw)).length);have yp:Q<=200000:=by rw[Y,aP,PD,bJ];omega
        obtain⟨A',I,y3,xt,ht,-⟩:=id C.2.2.1.reads;rw[<-Y]at y3 xt;subst y3;have h5:=aH Y.symm;have r:Below wr.heap.size wr wr.drew:=mE.drew;have⟨e1,e2,e3⟩:=e;have xb:IntKind.i64.wrap (IntKind.i64.wrap (N:Int)+(yw:Int))=(N:Int)+yw:=bH8 N yw x6 (by omega);have xk:=aH xb;have xh:=aH (show okT (s,IntKind.i64.wrap (IntKind.i64.wrap (N:Int)+(yw:Int)),e1,e2,e3)from⟨hs,by rw[xb];simp only[];omega,xy⟩);have t:Below wr.heap.size wr (wr.alloc (.cells #[.string s,.int .i64 (IntKind.i64.wrap (IntKind.i64.wrap (N:Int)+(yw:Int))),.string e1,.string e2,.float .f64 e3] 133)):=cI wr _;have t0:=(C.1.next r).rY;have l0:=(C.1.next t).rY;have⟨b0,b1,b2⟩:=xu yw _ he _ r;dsimp only at b0 b1 b2;have W:=aH (EW wr (s,IntKind.i64.wrap (IntKind.i64.wrap (N:Int)+(yw:Int)),e1,e2,e3));have yr:=aH x6;clear x6 xb x5 xu he xy Y xr;(go_wp2_with fail);have hf:(wr.ownsRow n 133 5 (.slice A' Q I) (T++eG s (N:Int) (l.take yw)).length (fH (T++eG s (N:Int) (l.take yw)))/\((Value.slice A' Q I).ownBlock=oL\/∀q,(Value.slice A' Q I).ownBlock=some q->w3.heap.size<=q))\/aR1 wr n 133 5 (.slice A' Q I) (T++eG s (N:Int) (l.take yw)).length (fH (T++eG s (N:Int) (l.take yw))):=by
         rcases C.zz.2.2.1 with f|f
         .rcases yf.zz with K|⟨b9,m9,K⟩
          .exact .inl ⟨f,K⟩
          have h7:=C.zz.2.2.1;rw[K]at h7;rw[K];exact .inr (bn1 h7)
         exact .inr f
        rcases hf with⟨D,O⟩|D
        .have X:=aH O;clear O;have hh:=D;rw[h5.zz]at hh;have HW:=aH hh;have g:Hid (FU wr n 133 5 (.slice A' Q I) (T++eG s (N:Int) (l.take yw)).length (fH (T++eG s (N:Int) (l.take yw))) (Value.slice A' Q I).ownBlock):=aH (.inr ⟨rfl,D⟩);clear D hh;go_region_law (refine JA rfl _ _ 46 rfl n 133 i0 _ 5 64 underlying46 xv y9 ya yb rfl (by decide) (.slice A' Q I) Q (fH (T++eG s (N:Int) (l.take yw))) rfl (cA HW (by first|exact t.drew|exact t|exact r.alloc r.size _)) _ 1 (fH [(s,IntKind.i64.wrap (IntKind.i64.wrap (N:Int)+(yw:Int)),e1,e2,e3)]) rfl (by first|exact W|exact Reads.cn6 W) (sC _) (by unfold maxLen;omega) (by omega) (aL (aL L h4.size) (l9 (B:=wr.heap.size) (w:=wr) (by first|exact t.drew|exact t|exact r.alloc r.size _))) ?_;intro v2 w2 a o Z;obtain⟨A2,p,rfl,-,-,-,-⟩:=Reads.dC a;have d:=(C.1.next (by first|exact t.drew|exact t|exact r.alloc r.size _)).grown o (FU.ne (FU.next g (by first|exact t.drew|exact t|exact r.alloc r.size _)) (C.1.next (by first|exact t.drew|exact t|exact r.alloc r.size _)) mC.1);have x2:=d.rY;have x3:=d.TI;have V:=aH (aB0 C g (by first|exact t.drew|exact t|exact r.alloc r.size _) o (by rw[h5.zz];exact a) xh);have U:=aH (YE (g:=k) g (by first|exact t.drew|exact t|exact r.alloc r.size _) o 0 (.slice A2 (Q+1) p));have hj:=aH (show((Value.slice A2 (Q+1) p).ownBlock=(Value.slice A' Q I).ownBlock\/∀q,(Value.slice A2 (Q+1) p).ownBlock=some q->wr.heap.size<=q)from Z.elim (λf=>.inl f) (λf=>.inr (λq j=>by rw[f]at j;cases j;exact l9 (B:=wr.heap.size) (w:=wr) (by first|exact t.drew|exact t|exact r.alloc r.size _)))))
         all_goals
          clear o a d;go_wp2;go_roundw
          .
           refine⟨yw+1,.slice A2 (Q+1) p,by omega,by go_num,?_,jZ.trans' F U X,.inl ?_,?_⟩
           .rw[xj.zz,<-bV,<-xk.zz];exact V
           .rcases hj.zz with f|f
            .rcases X.zz with K|K
             .exact .inl (f.trans K)
             exact .inr (λq j=>K q (by rw[<-f];exact j))
            exact .inr (λq j=>aL F.size (f q j))
           rcases hj.zz with f|f
           .rcases x1.zz with K|K
            .exact .inl (f.trans K)
            exact .inr (λq j=>K q (by rw[<-f];exact j))
           exact .inr (λq j=>aL F.size (f q j))
          simp[intOf];omega
        obtain⟨bF,hg,-⟩:=id D;obtain⟨x4,-,hm⟩:=eV hg;have yk:I=Q:=hm.trans h5;subst x4;subst yk;have yl:=D;have hy:Hid (Reads wr (.slice (some ⟨bF,0,none⟩) I I) 5 I (fH (T++eG s (N:Int) (l.take yw)))):=aH (by
         have:=C.zz.2.2.1.reads;rwa [h5.zz]at this)
        have g:Hid (FU wr n 133 5 (.slice (some ⟨bF,0,none⟩) I I) (T++eG s (N:Int) (l.take yw)).length (fH (T++eG s (N:Int) (l.take yw))) none):=aH (.inl rfl);clear D yl hg hm;go_region_law (refine qH rfl _ _ 46 rfl 133 i0 _ 5 64 underlying46 xv y9 ya yb rfl _ I (fH (T++eG s (N:Int) (l.take yw))) rfl (hy.next (by first|exact t.drew|exact t|exact r.alloc r.size _)) (sC _) _ 1 (fH [(s,IntKind.i64.wrap (IntKind.i64.wrap (N:Int)+(yw:Int)),e1,e2,e3)]) rfl (by first|exact W|exact Reads.cn6 W) (sC _) (by unfold maxLen;omega) (by omega) ?_;intro v2 w2 hv h3 o;have a:=FD (h3 (by omega)) (aL (aL L h4.size) (l9 (B:=wr.heap.size) (w:=wr) (by first|exact t.drew|exact t|exact r.alloc r.size _)));obtain⟨A2,p,rfl,-,-,-,-⟩:=Reads.dC a;have d:=(C.1.next (by first|exact t.drew|exact t|exact r.alloc r.size _)).grown o (FU.ne (FU.next g (by first|exact t.drew|exact t|exact r.alloc r.size _)) (C.1.next (by first|exact t.drew|exact t|exact r.alloc r.size _)) mC.1);have x2:=d.rY;have x3:=d.TI;have V:=aH (aB0 C g (by first|exact t.drew|exact t|exact r.alloc r.size _) o (by rw[h5.zz];exact a) xh);have U:=aH (UC (g:=k) (by first|exact t.drew|exact t|exact r.alloc r.size _) o 0 (.slice A2 (I+1) p));have hj:=aH (show(∀q,(Value.slice A2 (I+1) p).ownBlock=some q->wr.heap.size<=q)from(λq j=>aL (l9 (B:=wr.heap.size) (w:=wr) (by first|exact t.drew|exact t|exact r.alloc r.size _)) (dE (h3 (by omega)) q j))))
        all_goals
         clear o a d;go_wp2;go_roundw
         .
          refine⟨yw+1,.slice A2 (I+1) p,by omega,by go_num,?_,jZ.trans' F U (.inr (λq j=>by cases j)),.inl (.inr ?_),.inr ?_⟩
          .rw[xj.zz,<-bV,<-xk.zz];exact V
          iterate 2
           .exact λq j=>aL F.size (hj q j)
         simp[intOf];omega
       obtain rfl:yw=yy:=(by omega);have⟨m0,xw,y6,y7,y8⟩:=info_parts oK;have hd:wO wr n k P (.slice Am M.length cm) (T++eG s (N:Int) l) M m:=by have:=C.zz;rwa [aX (by rw[<-x0.zz];exact aO _)]at this
       have z:=aH hd;have g1:=hd.1.xD;have xf:=aH (bD8 wr l.length);have yc:=cI wr (.cells #[.int .i64 (l.length:Int)] 3);have y:=aH yc;have yd:yw<=1000:=hn;clear hd yc;have hf:(wr.ownsRow n 3 1 (.slice Am M.length cm) M.length (qQ M)/\oM=(Value.slice Am M.length cm).ownBlock)\/aR1 wr n 3 1 (.slice Am M.length cm) M.length (qQ M):=by
        rcases z.zz.2.2.2.1 with f|f
        .rcases yh.zz with K|⟨-,b9,m9,K⟩
         .exact .inl ⟨f,K⟩
         have h7:=z.zz.2.2.2.1;rw[K]at h7;rw[K];exact .inr (bn1 h7)
        exact .inr f
       rcases hf with⟨D,O⟩|D
       .have HW:=aH D;have X:=aH O;clear D O;go_wp2_with (first
         |(at_builtin;refine qF _ rfl _ _ 33 rfl n 3 m0 _ 1 8 underlying33 xw y6 y7 y8 rfl (by decide) (.slice Am M.length cm) M.length (qQ M) rfl (cA HW y) _ 1 (qQ [l.length]) rfl xf (SI _) (by unfold maxLen;omega) (by omega) (aL (aL L h4.size) y.size) ?_;intro v2 w2 a o Z;obtain⟨A2,p,rfl,-,-,-,-⟩:=Reads.dC a;have g:Hid (FU wr n 3 1 (.slice Am M.length cm) M.length (qQ M) (Value.slice Am M.length cm).ownBlock):=aH (.inr ⟨rfl,HW⟩);have d:=(z.1.next y).grown o (FU.ne (FU.next g y) (z.1.next y) mC.2.1);have x2:=d.xD;have x3:=d.J3))
        have hb:=aH (ag7 z g y o a);have U:=aH (YE (g:=k) g y o 1 (.slice A2 (M.length+1) p));have xe:=aH Z;clear o a d Z;go_wp2;go_ret2;rw[hw.zz];refine⟨λh=>absurd hi h,λ_=>?_⟩;rw[show(dF T s).length=N from HN.zz.symm];exact aC0 E oL oM F (by rw[X.zz];exact U) hb rfl H.2.1 L hz xg (λq j=>by
         rcases x1.zz with f|f
         .exact .inl (by rw[<-f];exact j)
         .exact .inr (aL E.size (f q j))) (λq j=>by
         rcases xe.zz with f|f
         .exact .inl (by rw[<-f];exact j)
         rw[f]at j;cases j;exact .inr (aL E.size (aL F.size y.size)))
       obtain⟨bF,hg,-⟩:=id D;obtain⟨x4,-,hm⟩:=eV hg;subst x4;subst hm;have hy:=aH z.2.2.2.1.reads;clear D hg;go_wp2_with (first
        |(at_builtin;refine B3 _ rfl _ _ 33 rfl 3 m0 _ 1 8 underlying33 xw y6 y7 y8 rfl _ M.length (qQ M) rfl (hy.next y) (SI _) _ 1 (qQ [l.length]) rfl xf (SI _) (by unfold maxLen;omega) (by omega) ?_;intro v2 w2 hv h3 o;have a:=FD (h3 (by omega)) (aL (aL L h4.size) y.size);obtain⟨A2,p,rfl,-,-,-,-⟩:=Reads.dC a;have g:Hid (FU wr n 3 1 (.slice (some ⟨bF,0,none⟩) M.length M.length) M.length (qQ M) none):=aH (.inl rfl);have d:=(z.1.next y).grown o (FU.ne (FU.next g y) (z.1.next y) mC.2.1);have x2:=d.xD;have x3:=d.J3))
       have hb:=aH (ag7 z g y o a);have U:=aH (UC (g:=k) y o 1 (.slice A2 (M.length+1) p));have xi:=aH (λq j=>dE (h3 (by omega)) q j);clear o a d hv h3;go_wp2;go_ret2;rw[hw.zz];refine⟨λh=>absurd hi h,λ_=>?_⟩;rw[show(dF T s).length=N from HN.zz.symm];exact aC0 E oL oM F (U.cy9 oM) hb rfl H.2.1 L hz xg (λq j=>by
        rcases x1.zz with f|f
        .exact .inl (by rw[<-f];exact j)
        exact .inr (aL E.size (f q j))) (λq j=>.inr (aL E.size (aL F.size (aL y.size (xi q j)))))
      have hi:=aH S;have ht:(eF (s,(N:Int),l)==0)=false:=(by rw[bI];exact S);have yq:(eF (s,(N:Int),l) != 0)=true:=(by rw[mW];exact S);clear S;go_wp2;go_ret2;rw[hw.zz];exact⟨λ_=>⟨rfl,E⟩,λh=>absurd h hi⟩
    have G:nB T s x l=80:=(by unfold nB;rw[aQ (by rw[HC.zz];decide),aQ (by have:=xl.zz;omega),aU (by rw[<-HN.zz];omega)]);have y5:(x != -2)=true:=(by rw[mW];omega);have yn:(x != (N:Int)-1)=true:=(by rw[mW];omega);have h6:=aH G;clear G y4 hN;go_wp2;go_ret2;rw[h6.zz];exact⟨λ_=>⟨rfl,J⟩,λh=>absurd h (by decide)⟩
   have G:nB T s x l=eF (s,0,l):=(by unfold nB;rw[aU hc]);have yt:(eF (s,0,l)==0)=false:=(by rw[bI];exact hc);have ht:(eF (s,0,l) != 0)=true:=(by rw[mW];exact hc);have h6:=aH G;have HC:=aH hc;clear G hc hN;go_in;(go_wp2_with fail);go_call ha as e w1 ⟨rfl,R⟩;go_wp2;go_ret2;rw[h6.zz];exact⟨λ_=>⟨rfl,R⟩,λh=>absurd h HC⟩
end Go.Proofs.YtpopikndggffaaaGreatDoor
