/- TOP, part 30. -/
import Derived.Test.YtpopikndggffaaaGreatDoorGt29
namespace Go.Proofs.YtpopikndggffaaaGreatDoor
set_option linter.all false
set_option maxRecDepth 100000
set_option maxHeartbeats 16000000
open Go.RowKit Go.Maps Tryz
variable{C:List (List bH)}{X:List aN}{B:List kM}{d g i j k m n:Nat}{w x y:aI}{D:aL}{v:aN}{I:aZ}{K:bH->Nat}{H:bH->aN}{G:cS}{S h:dV}
def JD(a q:Nat)(h:dV)(D:aL)(G:cS)(I:aZ)(b c:Nat)(d:bH->Nat)(f:bH->aN)(T:List jU)(w:aI)(e:eY)(i:aI):Prop:=∃g,e=.returned (.tuple #[g,.int .i64 0])/\i.ownsRow w.heap.size 133 5 g T.length (fU T)/\lL a q h D G I b c d f w i
def J9.an1(P:J9 D G I n C B)(k:Nat)(f t:Int):(FE I k f t).length<=8000:=by have⟨s,d,h⟩:=P.ix;have⟨a,b⟩:=TU h k f t;exact aM (uS (vK a) λe c=>((b e).1 c).1) P.ab6
def lL.bv4(b:lL n k S D G I m i K H x x)(a:yA n S.m S.d S.x I m D K H x.drew w):lL n k S D G I m i K H x w:=(b.next iH.drew).yH a.eI a.fr
def lL.OU(e:lL n k S D G I m i K H y x)(d:aY8 y k S)(a:x.ownsRow y 133 5 v j X)(c:x.grownBy w v.ownBlock):lL n k S D G I m i K H y w:=e.grown c λg b=>⟨dH a g b,e.nS d (dX a b) (dH a g b) vQ.1 vQ.2.1⟩
def M2(R:List lW)(a:aS)(L:List dB)(k:Nat):List jU:=(L.take k).filterMap (xL R a)
def bn2{R:List lW}{st:aS}{L:List dB}{o:dB}(h:L[n]?=o):M2 R st L (n+1)=M2 R st L n++(xL R st o).toList:=by unfold M2;rw[dL,h,XG];show _++List.filterMap (xL R st) [o]=_;rw[cP5];cases xL R st o<;>rfl
def bN5(R:List lW)(a:aS)(L:List dB)(k:Nat):(M2 R a L k)<=k:=by unfold M2;exact aM (QI _ _) (by rw[b8];omega)
def cO5(a q:Nat)(h:dV)(D:aL)(G:cS)(I:aZ)(b c:Nat)(d:bH->Nat)(e:bH->aN)(g:List lW)(i:aS)(R:List dB)(j:aN)(n:Nat)(w:aI)(k:Nat)(f:aN)(wr:aI):Prop:=wr.ownsRow w.heap.size 133 5 f (M2 g i R k).length (fU (M2 g i R k))/\lL a q h D G I b c d e w wr/\wr.ownsRow w.heap.size 152 3 j n (gV R)
def FD(xa:oE w n k S D G I m i)(hd:bJ w n S.d S.m D K H)(P:J9 D G I i C B)(hb:n<=w)(a:aS)(hu:a.size<=1000000)(f t:Int)(hf:-9223372036854775808<=f/\f<=9223372036854775807)(hv:-9223372036854775808<=t/\t<=9223372036854775807):Calls prog 96 #[zp k,a,f,t] w (JD n k S D G I m i K H (nI (dF C) I i a f t) w):=by
 have K0:=lL.start xa hd;have⟨R,hR⟩:=fR (FE I (mA i (lb a)) f t);have hj:nI (dF C) I i a f t=M2 (dF C) a R R.length:=(by unfold nI M2;rw[eX,hR]);rw[hj];have p:∀e∈R,∃r∈dF C,e.2.2=(r.1:Int)/\L2 (dF C) e.2.2=some r.2/\wC e/\∃xb:Nat,xb<(lH r.2).2.2.length/\e.2.1=(lH r.2).2.1+(xb:Int):=λe W=>P.place (by rwa[hR]at W);have h:=λ(y:aI)(hy:lL n k S D G I m i K H w y)=>aR2 hy.idx P.up P.bc2 (aM hb hy.size) (mA i (lb a)) f t (aa2 i _) hf hv;rw[<-hR]at h;have V:=λ(y:aI)(hy:lL n k S D G I m i K H w y)(e:dB)(W:e∈R)=>(by
  have⟨r,h1,h2,h3,h4,xb,h5,h6⟩:=p e W;exact aH2 hy.wX hy.eI P (aM hb hy.size) e h4 r h1 h2 h3 xb h5 h6 a (by unfold maxLen;omega):Calls prog 148 #[.pointer (some ⟨k,0,none⟩),.agg (iT e),.string a] y (Y1 n k S D G I m i K H (xL (dF C) a e) y))
 have HH:=λy:aI=>EO i a y P.KT hu;have hl:R.length<=8000:=(by rw[hR];exact P.an1 _ _ _);have⟨xe,hN⟩:=fR R.length;have⟨i0,hr,hw,x0,x4⟩:=info_parts LW;generalize mA i (lb a)=hx at h HH;have⟨hh,K0,HP,hi,HN,HS⟩:=aE xa.old K0 V h hN (λ(z:aI)(hz:lL n k S D G I m i K H w z)=>show z.cell? ⟨k,1,none⟩=some (.pointer (some ⟨S.x.X,0,none⟩))/\z.cell? ⟨k,2,none⟩=some (.int .u64 i)from⟨hz.wX.cells.2.1,hz.wX.cells.2.2⟩);unfold cJ2 at hi;unfold JD;rw[<-hN]at hl;clear xa hd P hb hR hj p h V hN;go_in;go_wp2_with fail
 go_region_held3 (λz=>z.cell? ⟨k,1,none⟩=some (.pointer (some ⟨S.x.X,0,none⟩))/\z.cell? ⟨k,2,none⟩=some (.int .u64 i))
  (first|(exact HS _ (K0.next iH.drew))|(exact HS _ (K0.bv4 hk)))
  (first|(go_at_call 93;go_call HH _ as e w' ⟨rfl,rfl⟩)|(go_at_call 147;go_call hi _ (K0.next iH.drew) as e w2 ⟨v2,rfl,j,X,hk⟩)|fail)
 obtain⟨A1,c1,rfl,hq,-⟩:=id (Reads.cX j);rw[<-HN.zz]at j hq|-;have⟨HB,hc⟩:=aA (show cO5 n k S D G I m i K H (dF C) a R (.slice A1 xe c1) xe w 0 (.slice none 0 0) w2 from⟨bM _ _ _ _,K0.bv4 hk,j⟩) X;clear j X hk;go_wp2_with fail
 go_loopw [12,14,15,16,17,39] (λx5 _ _ _ _ xb wr=>∃xc:Nat,xc<=xe/\xb=.int .i64 xc/\cO5 n k S D G I m i K H (dF C) a R (.slice A1 xe c1) xe w xc x5 wr) (λ_ _ _ _ _ xb _=>xe-(intOf xb).toNat)
 .exact⟨0,bK _,rfl,HB⟩
 obtain⟨xc,x7,rfl,q,M,U⟩:=hrel;have⟨xd,hm⟩:=fR ((M2 (dF C) a R xc).length);have ht:=bN5 (dF C) a R xc;rw[<-hm]at q ht;have HM:=aH hm;obtain⟨A2,c2,rfl,-⟩:=id (Reads.cX q);by_cases hs:xc<xe
 .have i1:(xc:Int)<xe:=(by omega);obtain⟨e,W⟩:∃e,R[xc]?=some e:=⟨_,aJ (by rw[<-HN.zz];exact hs)⟩;have ha:pJ w2 (.slice A1 xe c1) R->True:=λ_=>trivial;obtain⟨b,x9,rfl,-,L⟩:=pJ.later (w:=wr) (A:=A1) (n:=xe) (c:=c1) (l:=R) ⟨by rw[<-HN.zz];exact Reads.cX U,hc⟩ (by rw[<-HN.zz];omega);have b4:=eA wr (.cells (iT e) 152);have r4:=Row.new wr (iT e) 152;have⟨c0,c3,c4⟩:=L xc e W wr iH;have d:=HP _ (M.next b4) e (bC W);have h0:=aH (bn2 (R:=dF C) (st:=a) W);unfold Y1 at d;have d0:=r4.cell 0 (by simp[iT]);have d1:=r4.cell 1 (by simp[iT]);have d2:=r4.cell 2 (by simp[iT]);obtain⟨o,ho⟩:∃o,xL (dF C) a e=o:=⟨_,rfl⟩;rw[ho]at d h0;have x6:=aH (λt (h9:o=some t)=>show xL (dF C) a e=some t from ho.trans h9);have⟨x1,x2,x3⟩:=e;unfold iT at *;have⟨F,Y,hp⟩:=aB (M.next b4) (bY q b4) (bY U b4);have x8:=bD wr (.cells #[.int .u64 x1,.int .i64 x2,.int .i64 x3] 152);clear L W ha b4 r4 ho M q U hm;go_wp2_with fail
  go_call d as e w6 ⟨rfl,T⟩;have⟨K6,O6,L6⟩:=aB (F.trans T) (T.fr.own Y vQ.1 F.eI.map) (T.fr.own hp qB F.eI.map);clear T d d0 d1 d2 c0 c3 c4;cases o with
  |none=>
   unfold cq3 pB;simp only[SX,MK];have B7:=aH (eA w6 (.cells #[.string ⟨#[]⟩,.int .i64 0,.string ⟨#[]⟩,.string ⟨#[]⟩,.float .f64 0] 133));go_wp2;go_roundw
   .refine⟨xc+1,by omega,by go_num,?_,K6.next B7,bY L6 B7⟩;rw[h0.zz];simp only[Option.toList_none,gM];rw[<-HM.zz];exact bY O6 B7
   simp[intOf];omega
  |some t=>
   have⟨s,u,v,x,E⟩:=t;unfold pB;simp only[lX,MJ];have Q:=eA w6 (.cells #[.string s,.int .i64 u,.string v,.string x,.float .f64 E] 133);have r7:=Row.new w6 #[.string s,.int .i64 u,.string v,.string x,.float .f64 E] 133;have e0:=r7.lO;have e1:=r7.qD;have e2:=r7.tW;have e3:=r7.JF;have e4:=r7.zc4;have⟨K7,O7,L7⟩:=aB (K6.next Q) (bY O6 Q) (bY L6 Q);have h7:=aH (aM K7.size (cD (w6.alloc (.cells #[.string s,.int .i64 u,.string v,.string x,.float .f64 E] 133)) (.cells (pB (s,u,v,x,E)) 133)).size);have O:=GC (w6.alloc (.cells #[.string s,.int .i64 u,.string v,.string x,.float .f64 E] 133)) (s,u,v,x,E);rw[bD]at O;have⟨J,Z⟩:=aA O (bY O7 (cD (w6.alloc (.cells #[.string s,.int .i64 u,.string v,.string x,.float .f64 E] 133)) (.cells (pB (s,u,v,x,E)) 133)));unfold pB at J Z h7;simp only at J Z h7;clear Q r7 O;go_wp2_with (first
    |(at_builtin;refine iF _ rfl _ _ 46 rfl w.heap.size 133 i0 _ 5 64 underlying46 hr hw x0 x4 rfl (by decide) (.slice A2 xd c2) xd (fU (M2 (dF C) a R xc)) rfl Z _ 1 (fU [(s,u,v,x,E)]) rfl J (tE _) (by unfold maxLen;omega) (by omega) h7 ?_;intro v9 w9 N hn;have H9:=aH (And.intro N hn);clear N hn))
   have K9:=aH ((K7.next (cD _ (.cells (pB (s,u,v,x,E)) 133))).OU hh (bY O7 (cD _ _)) H9.2);have L9:=aH (eS (bY L7 (cD _ (.cells (pB (s,u,v,x,E)) 133))) λg hg=>H9.2.block g (jN (bY L7 (cD _ _)) g hg) λh9=>by have h8:=dD (dX (bY L7 (cD _ _)) hg) (dX (bY O7 (cD _ (.cells (pB (s,u,v,x,E)) 133))) h9.symm);exact absurd h8 (by decide));go_wp2;go_roundw
   .refine⟨xc+1,by omega,by go_num,?_,K9,L9⟩;rw[h0.zz];simp only[aD7];rw[aO,<-HM.zz,sN];exact H9.1
   simp[intOf];omega
 obtain rfl:xc=xe:=(by omega);have i1:¬(xc:Int)<xc:=(by omega);have⟨Y,F⟩:=aA q M;clear q M U hm;go_wp2;go_ret2;refine⟨_,rfl,?_,F⟩;rw[<-HN.zz,<-HM.zz];exact Y
def lL.cG0(b:lL n k S D G I m i K H y x)(a:yA n S.m S.d S.x I m D K H x w):lL n k S D G I m i K H y w:=b.yH a.eI a.fr
def af7(a q:Nat)(h:dV)(D:aL)(G:cS)(I:aZ)(b c:Nat)(d:bH->Nat)(f:bH->aN)(v g:Int)(w:aI)(e:eY)(i:aI):Prop:=e=.returned (.tuple #[.int .i64 v,.int .i64 g])/\lL a q h D G I b c d f w i
def n6(a:List kM)(b:aS):Nat:=(dJ (a.flatMap dO) b).length
def YH(hg:oE w n k S D G I m i)(hd:bJ w n S.d S.m D K H)(P:J9 D G I i C B)(X:n<=w)(a:aS)(J:a.size<=1000000):Calls prog 64 #[zp k,a] w (af7 n k S D G I m i K H (if iZ a then(n6 B a:Int)-1 else -1) (if iZ a then 0 else 2) w):=by
 have K0:=aH (lL.start hg hd);have R:=tG hg;have q:=λy:aI=>RL a y (by unfold maxLen;omega);have HL:=aH (λ(y:aI)(j:lL n k S D G I m i K H w y)(u:Int)(o:-9223372036854775808<=u/\u<=9223372036854775807)=>show Calls prog 99 #[zp S.x.X,zu (mA i (lb a):Nat),u] y (λe l=>e=.returned (.tuple #[yE I (mA i (lb a)) u,()])/\lL n k S D G I m i K H w l)from
  (bl9 j.idx P.up P.bc2 (aM X j.size) (mA i (lb a)) u (aa2 i _) o).mono λe l h9=>⟨h9.1,j.cG0 h9.2⟩)
 have⟨O,U⟩:=aA (λ(y:aI)(j:lL n k S D G I m i K H w y)(u:Int)(o:-9223372036854775808<=u/\u<=9223372036854775807)=>FD j.wX j.eI P (aM X j.size) a J u u o o) (λ(u:Int) (o:(n6 B a:Int)-1<=u)=>P.bL7 a o);have h7:n6 B a<1073741825:=by
  unfold n6;rcases dP (dJ (B.flatMap dO) a) with s|s
  .omega
  have hi:(dJ (B.flatMap dO) a).length-1<(dJ (B.flatMap dO) a):=(by omega);have h1:=vH P.mU (dC hi);have h2:=P.mU.row a _ _ (aJ hi);omega
 have Q:=λy:aI=>EO i a y P.KT J;have⟨N,W⟩:=fR (n6 B a);rw[<-W]at h7|-;have d:=aH W;obtain⟨-,c1,c2⟩:=hg.cells;obtain⟨hx,h⟩:∃hx,mA i (lb a)=hx:=⟨_,rfl⟩;rw[h]at HL Q;have HX:=aH h;unfold af7;clear hg hd P X W h;by_cases M:iZ a=true
 .rw[M]at q|-;simp only[eH];go_in;go_wp2_with fail
  go_call R as e l ⟨rfl,rfl⟩;go_wp2_with fail
  go_call q _ as e l ⟨rfl,rfl⟩;go_wp2_with fail
  go_call Q _ as e l ⟨rfl,rfl⟩;clear R q Q;go_wp2_with fail
  go_loopw [7,8,9,10] (λu _ _ _ wr=>∃z:Int,u=.int .i64 z/\(N:Int)-1<=z/\z<=1073741824/\lL n k S D G I m i K H w wr) (λu _ _ _ _=>(intOf u+2).toNat)
  .exact⟨1073741824,rfl,by omega,by omega,K0⟩
  obtain⟨z,rfl,ha,he,Y⟩:=hrel;have b:=U z (by rw[<-d.zz];exact ha);have Z:=HL wr Y z (by omega);obtain⟨-,c1,c2⟩:=Y.wX.cells;have⟨v,hv⟩:=fR (yE I hx z);rw[HX.zz,<-hv]at b;rw[<-hv]at Z;have r:=aH b;clear Y b hv;go_wp2_with fail
  go_call Z as e w2 ⟨rfl,A⟩;have g:=aH A;clear Z A c1 c2;rcases r.zz with⟨h8,s⟩|⟨s,h1,h2,h3⟩
  .subst h8;have T:=aH (show(N:Int)-1=-1 from by rw[d.zz];unfold n6;rw[s];rfl);clear s;go_wp2;go_ret2;rw[T.zz];exact⟨rfl,g⟩
  have f:=O w2 g v (by omega);unfold JD at f;have⟨hf,V⟩:=fR (nI (dF C) I i a v v);rw[<-V]at f;have i1:¬v<0:=(by omega);have⟨H3,HB⟩:=aA h3 V;clear h3 V;go_wp2_with fail
  go_call f as e w3 ⟨v3,rfl,c,E⟩;obtain⟨A3,c3,rfl,-⟩:=id (Reads.cX c);have p:=aH (g.trans E);clear f E c;rcases H3.zz with⟨t,x⟩|⟨t,x⟩
  .have F:0<hf.length:=qL.2 (by rw[HB.zz];exact t);have⟨hh,hm⟩:=fR hf.length;rw[<-hm]at F|-;have hc:(0:Int)<(hh:Int):=(by omega);have HV:=aH (show v=(N:Int)-1 from by rw[x,d.zz];rfl);clear t x hm;go_wp2;go_ret2;rw[<-HV.zz];exact⟨rfl,p⟩
  have L:hf.length=0:=(by rw[HB.zz,t];rfl);rw[L];have h6:(N:Int)-1<=v-1:=(by rw[d.zz];exact x);clear t x L;go_wp2;go_roundw
  .exact⟨v-1,by go_num,by omega,by omega,p⟩
  simp[intOf];omega
 rw[aP M,aP M];rw[show iZ a=false from by simpa using M]at q;go_in;go_wp2_with fail
 go_call R as e l ⟨rfl,rfl⟩;go_wp2_with fail
 go_call q _ as e l ⟨rfl,rfl⟩;go_wp2;go_ret2;exact⟨rfl,K0⟩
variable{e:Int}{s:aS}
def YF(H:oE w n k S D G I m i)(d:aS)(o:d.size<=1000000)(f c:Int)(q:DI f)(p:DI c):Calls prog 95 #[zp k,d,f,c] w λe a=>e=(if KC d f c then 2 else 0:Int)/\w=a:=by
 have g:=tG H;have b:=λy:aI=>RL d y (by unfold maxLen;omega);unfold KC;clear H;rcases l:iZ d with _|_
 .rw[l]at b;simp only[DM,Bool.true_or,eH];go_in;go_wp2_with fail
  go_call g as e a ⟨rfl,rfl⟩;go_wp2_with fail
  go_call b _ as e a ⟨rfl,rfl⟩;go_wp2;go_ret;exact⟨rfl,rfl⟩
 rw[l]at b;by_cases h:f<0
 .simp only[h,decide_true,p8,G9,Bool.true_or,eH];go_in;go_wp2_with fail
  go_call g as e a ⟨rfl,rfl⟩;go_wp2_with fail
  go_call b _ as e a ⟨rfl,rfl⟩;go_wp2;go_ret;exact⟨rfl,rfl⟩
 by_cases j:c<1
 iterate 2
  ·(first|simp only[h,j,decide_true,decide_false,p8,G9,eH]|simp only[h,j,decide_false,p8,G9,bU,dW]);go_in;(go_wp2_with fail);go_call g as e a ⟨rfl,rfl⟩;(go_wp2_with fail);go_call b _ as e a ⟨rfl,rfl⟩;go_wp2;go_ret;exact⟨rfl,rfl⟩
def by7{a:Int}(h:KC s e a=false):0<=e/\1<=a:=by unfold KC at h;simp only[Bool.or_eq_false_iff,cN]at h;omega
section
variable {D:aL}{G:cS}{I:aZ}{aX:Nat}{C:List (List bH)}{Bs:List kM}
def J9.fwd(P:J9 D G I aX C Bs)(b:aS){e a:Int}(d:0<=e)(c:1<=a):nI (dF C) I aX b e (e+min a 1073741824-1)=BE (dJ (Bs.flatMap dO) b) e a false:=by have⟨s,f,h⟩:=P.ix;exact cx3 h (rZ P.ok) P.mU P.told.1 b d c
def J9.bwd(P:J9 D G I aX C Bs)(b:aS){e a:Int}(d:0<=e)(c:1<=a):(nI (dF C) I aX b (e-a+1) e).reverse=BE (dJ (Bs.flatMap dO) b) e a true:=by have⟨s,f,h⟩:=P.ix;exact cz1 h (rZ P.ok) P.mU P.told.1 b d c
def J9.aW5(P:J9 D G I aX C Bs)(a:aS)(f t:Int):(nI (dF C) I aX a f t).length<=8000:=by unfold nI;exact aM (QI _ _) (P.an1 _ _ _)
end
def aD5(a q:Nat)(h:dV)(D:aL)(G:cS)(I:aZ)(b c:Nat)(d:bH->Nat)(f:bH->aN)(T:List jU)(j:Int)(w:aI)(e:eY)(i:aI):Prop:=∃g,e=.returned (.tuple #[g,.int .i64 j])/\i.ownsRow w.heap.size 133 5 g T.length (fU T)/\lL a q h D G I b c d f w i
def pgT(b:List kM)(a:aS)(f c:Int)(d:Bool):List jU:=if KC a f c then[]else BE (dJ (b.flatMap dO) a) f c d
def pgE(a:aS)(f c:Int):Int:=if KC a f c then 2 else 0
def ah2(O:oE w n k S D G I m i)(p:bJ w n S.d S.m D K H)(P:J9 D G I i C B)(q:n<=w)(d:aS)(o:d.size<=1000000)(f c:Int)(t:DI f)(s:DI c):Calls prog 62 #[zp k,d,f,c] w (aD5 n k S D G I m i K H (pgT B d f c false) (pgE d f c) w):=by
 have h:=YF O d o f c t s;have r:=aH (lL.start O p);unfold DI at t s;unfold aD5 pgT pgE;cases b:KC d f c with
 |true=>
  rw[b]at h;simp only[eH]at h|-;clear O p P q;go_in;go_wp2_with fail
  go_call h as e A ⟨rfl,rfl⟩;go_wp2;go_ret2;exact⟨_,rfl,bM _ _ _ _,r⟩
 |false=>
  have⟨x,y⟩:=by7 b;rw[b]at h;simp only[bU,dW]at h|-;by_cases j:1073741824<f
  iterate 2
   ·(first|rw[cx5 P.mU d j]|(obtain⟨Q,z⟩:∃Q,min c 1073741824=Q:=⟨_,rfl⟩;(have g:=FD O p P q d o f (f+Q-1) ⟨by omega,by omega⟩ ⟨by omega,by omega⟩);rw[<-P.fwd d x y,z];unfold JD at g;generalize nI (dF C) I i d f (f+Q-1)=T at g|-;(have J:Q<=1073741824:=by omega);(have L:1<=Q:=by omega)));clear O p P q;go_in;(go_wp2_with fail);go_call h as e A ⟨rfl,rfl⟩;(try (go_wp2_with fail;go_call g as e N ⟨M,rfl,a,l⟩;obtain⟨E,F,rfl,-⟩:=id (Reads.cX a);have⟨v,u⟩:=aA a l;clear a l g));go_wp2;go_ret2;first|exact⟨_,rfl,bM _ _ _ _,r⟩|exact⟨_,rfl,v,u⟩
def YI(V:oE w n k S D G I m i)(t:bJ w n S.d S.m D K H)(P:J9 D G I i C B)(x:n<=w)(g:aS)(s:g.size<=1000000)(f c:Int)(z:DI f)(y:DI c):Calls prog 63 #[zp k,g,f,c] w (aD5 n k S D G I m i K H (pgT B g f c true) (pgE g f c) w):=by
 have j:=YF V g s f c z y;have⟨F,l⟩:=aA (lL.start V t) V.old;unfold DI at z y;unfold aD5 pgT pgE;cases b:KC g f c with
 |true=>
  rw[b]at j;simp only[eH]at j|-;clear V t P x;go_in;go_wp2_with fail
  go_call j as e M ⟨rfl,rfl⟩;go_wp2;go_ret2;exact⟨_,rfl,bM _ _ _ _,F⟩
 |false=>
  have⟨J,L⟩:=by7 b;rw[b]at j;simp only[bU,dW]at j|-;have h:=FD V t P x g s (f-c+1) f ⟨by omega,by omega⟩ ⟨by omega,by omega⟩;have o:=P.aW5 g (f-c+1) f;rw[<-P.bwd g J L];unfold JD at h;generalize nI (dF C) I i g (f-c+1) f=T at h o|-;clear V t P x;go_in;go_wp2_with fail
  go_call j as e M ⟨rfl,rfl⟩;go_wp2_with fail
  go_call h as e R ⟨Q,rfl,a,q⟩;have r:=WY a rfl (by omega);obtain⟨N,O,rfl,-⟩:=id (Reads.cX a);have⟨E,A⟩:=aA a q;clear a q h;go_wp2_with fail
  go_call r as e U ⟨rfl,d,p⟩;have⟨v,u⟩:=aA d (A.OU l E p);clear d p r;go_wp2;go_ret2;refine⟨_,rfl,?_,u⟩;rw[zF];exact v
variable{l:List Ev}
def ah6(C:List (List bH)):iN C 0=dF C:=by unfold iN;rw[qM];intro r a;simp
def bR7(A:List lW)(r:lW):AZ (A++[r])=AZ A++dO (lH r.2):=by unfold AZ;rw[eB];simp
def av0(s:aS)(f:Int)(l:List Ev)(k:Nat):(eQ s f (l.take k))<=k:=by rw[zG,b8];omega
def cQ8(b q:Nat)(h:dV)(D:aL)(G:cS)(I:aZ)(c d:Nat)(e:bH->Nat)(f:bH->aN)(R:List lW)(w:aI)(g i:aN)(wr:aI):Prop:=∃(A B:List lW)(a:Nat),i=.int .i64 (a:Int)/\R=A++B/\MT G D a B/\a<=1000000/\wr.ownsRow w.heap.size 133 5 g (AZ A).length (fU (AZ A))/\lL b q h D G I c d e f w wr
structure co5(a q:Nat)(h:dV)(D:aL)(G:cS)(I:aZ)(c d:Nat)(j:bH->Nat)(m:bH->aN)(A:List lW)(s:aS)(f:Int)(l:List Ev)(B i:Nat)(o:List aN)(n w:aI)(b:aN)(k:Nat)(e:aI):Prop where
 own:e.ownsRow w.heap.size 133 5 b (AZ A++eQ s f (l.take k)).length (fU (AZ A++eQ s f (l.take k)))
 k:lL a q h D G I c d j m w e
 box:Row e B 129 o
 ev:e.heap[i]?=n.heap[i]?
 apart:∀g,b.ownBlock=some g->g≠i
 sz:i<e.heap.size
def co5.next{base n:Nat}{h:dV}{I:aZ}{R:List lW}{f:Int}{B j:Nat}{w:aI}{v:aN}{k:Nat}{W:aI}(b:co5 base n h D G I m i K H R s f l B j X x w v k y)(a:aR y y W):co5 base n h D G I m i K H R s f l B j X x w v k W:=⟨bY b.own a,b.k.next a,b.box.next a,(a.block j b.sz).trans b.ev,b.apart,aW b.sz a.size⟩
def al6(xi:oE w n k S D G I m i)(hd:bJ w n S.d S.m D K H)(P:J9 D G I i C B)(hb:n<=w):Calls prog 44 #[zp k] w (JD n k S D G I m i K H (B.flatMap dO) w):=by
 rw[<-P.told.2];have HN:=tG xi;have⟨K0,hi⟩:=aA (lL.start xi hd) xi.old;have hw:=aH (show MT G D 0 (dF C)from by
  have:=ad3 P.whole P.ok P.bV 0;rw[<-ah6 C];exact this)
 have⟨hv,HP⟩:=aA hb P;obtain⟨c0,-,-⟩:=xi.cells;have⟨i0,x7,xc,xd,xe⟩:=info_parts LW;have h0:∀A xh r,dF C=A++r::xh->(AZ A).length<=8000:=λA xh r e=>by
  have h1:(AZ (dF C)).length<=8000:=by
   rw[P.told.2];have h2:∀(X:List kM),(∀b∈X,b.2.2.length<=8)->(X.flatMap dO).length<=8*X:=λX=>by
    induction X with
    |nil=>intro _;simp
    |cons b X ih=>intro N;rw[eN,aO,bB2,cE];have:=N b B9;have:=ih λx hx=>N x (iU _ hx);omega
   have h3:=h2 B λb hb=>(j8 (P.mU.uW b hb).2).2.2.2.1;have:=P.yG;omega
  rw[e]at h1;unfold AZ at h1|-;rw[eB,aO]at h1;omega
 have HF:=aH h0;unfold JD;clear xi hd P hb h0;go_in;go_wp2_with fail
 go_call HN as e w' ⟨rfl,rfl⟩;clear HN c0;go_wp2_with fail
 go_loopw [4,5,6,7,8,9,10,11,12] (λhf xj _ _ _ _ _ _ _ wr=>cQ8 n k S D G I m i K H (dF C) w hf xj wr) (λ_ xj _ _ _ _ _ _ _ _=>1000000-(intOf xj).toNat)
 .exact⟨[],dF C,0,rfl,rfl,hw,bK _,bM _ _ _ _,K0⟩
 obtain⟨A,xh,hs,rfl,p,hc,xf,T,hk⟩:=hrel;have R:=aP8 hk.wX.sys.log hk.eI HP.up (aM hv hk.size) HP.cl1 hs (by omega);obtain⟨c0,-,-⟩:=hk.wX.cells;have⟨KK,hu,HO⟩:=aB hk p T;obtain⟨A1,c1,rfl,-⟩:=id (Reads.cX T);cases xh with
 |nil=>
  rw[show EH G D (hs:Nat)=(4,[],0,0)from hc]at R;have HR:=aH (show dF C=A from by rw[p,gM]);clear hc hk p T;simp only at R;go_wp2_with fail
  go_call R as e w2 ⟨rfl,F,-,h⟩;have⟨K2,O2⟩:=aA (KK.yH F h) (h.own HO vQ.1 KK.eI.map);clear R F h c0;go_wp2;go_ret2;refine⟨_,rfl,?_,K2⟩;rw[HR.zz];exact O2
 |cons r xh=>
  have⟨hq,x9,Z⟩:=hc;rw[hq]at R;have U:r∈dF C:=(by rw[p];simp);have q1:=(HP.GV.2 r U).2;have q2:=HP.bu0 U;have q3:=HP.bu1 U;have j:=j8 (GU q1).1;have⟨ht,x3⟩:=aA (HF A xh r p) Z;have⟨r1,r2⟩:=r;have E:=λy:aI=>SQ (bs r2) y (by rw[eO];simp only at q2;omega);rw[gP]at E;rw[show QD r2=0 from by unfold QD;rw[aV q1]]at E;unfold M1 at R;simp only at R q2 q3 x9 j;obtain⟨bv,hV⟩:∃bv,lH r2=bv:=⟨_,rfl⟩;rw[hV]at E j;have⟨o,l,V⟩:=bv;obtain⟨p1,p2,p3,p4,p5,p6,-⟩:=j;have HV:=aH hV;clear hq Z hk p T q1 U hV;go_wp2_with fail
  go_call R as e w2 ⟨rfl,F,-,h⟩;have⟨K2,O2⟩:=aA (KK.yH F h) (h.own HO vQ.1 KK.eI.map);clear R F h c0;go_wp2_with fail
  go_call E w2 as e W ⟨vb,rfl,⟨⟨A9,c9,rfl,Q,xa,x6,h⟩,h4⟩,h6⟩;simp only at Q xa x6 h p1 p2 p3 p4 p5 p6|-;have⟨xm,hN⟩:=fR V.length;obtain⟨f,c,rfl,ha,hl⟩:=Y2.later Q (by omega);obtain⟨A',c',xb,x5,-⟩:=id Q.1;cases xb;have x4:=h4 _ _ _ _ _ rfl f (by simp[Value.ownBlock]);rw[<-hN]at x5 p3 p4 p6|-;have b4:=eA W (.cells #[o,l,.slice (zp f c) xm c9] 129);have r4:=Row.new W #[o,l,.slice (zp f c) xm c9] 129;have O4:=bY (bY O2 h6) b4;have S4:=aH (show co5 n k S D G I m i K H A o l V W f [o,l,.slice (zp f c) xm c9] W w (.slice A1 (AZ A) c1) 0 (W.alloc (.cells #[o,l,.slice (zp f c) xm c9] 129))from
   ⟨by simpa[eQ]using O4,(K2.next h6).next b4,r4,b4.block f ha,λg hg N=>by have:=jN O2 g hg;omega,aW ha b4.size⟩)
  have hy:=aH (λ(xj:Nat)(e:Ev)(he:V[xj]?=e)(z:aI)(hz:z.heap[f]?=W.heap[f]?)=>show z.cell? (zp f (c+xj*3))=e.1/\z.cell? (zp f (c+xj*3+1))=e.2.1/\z.cell? (zp f (c+xj*3+2))=some (.float .f64 e.2.2)from by
   have⟨x0,x1,x2⟩:=hl xj e he W iH;exact⟨(dK (a:=zp f (c+xj*3)) hz).trans x0,(dK (a:=zp f (c+xj*3+1)) hz).trans x1,(dK (a:=zp f (c+xj*3+2)) hz).trans x2⟩)
  have hh:=aH hN;clear E h6 Q h4 ha hl b4 r4 O4 hN x4;go_wp2_with fail
  go_loopw [4,11,12,44] (λhf _ _ xj wq=>∃xk:Nat,xk<=xm/\xj=.int .i64 xk/\co5 n k S D G I m i K H A o l V W f [o,l,.slice (zp f c) xm c9] W w hf xk wq) (λ_ _ _ xj _=>xm-(intOf xj).toNat)
  .exact⟨0,bK _,rfl,S4⟩
  obtain⟨xk,hk,rfl,O⟩:=hrel;by_cases x8:xk<xm
  .have i1:(xk:Int)<xm:=(by omega);obtain⟨e,he⟩:∃e,V[xk]?=some e:=⟨_,aJ (by rw[<-hh.zz];exact x8)⟩;have⟨x0,x1,x2⟩:=hy xk e he wr O.ev;have hj:=aH (O5 o l he);have⟨xl,hm⟩:=fR ((AZ A++eQ o l (V.take xk)).length);have xg:xl<=8008:=by have h1:=av0 o l V xk;have h2:=ht.zz;rw[hm,aO];omega
   have T:=O.own;rw[<-hm]at T;obtain⟨A2,c2,rfl,-⟩:=id (Reads.cX T);have⟨t,u,v⟩:=e;simp only at x0 x1 x2 hj;have b5:=eA wr (.cells #[t,u,.float .f64 v] 44);have r5:=Row.new wr #[t,u,.float .f64 v] 44;have y0:=(O.next b5).box.lO;have y1:=(O.next b5).box.qD;have z0:=r5.lO;have z1:=r5.qD;have z2:=r5.tW;have L:=GC (wr.alloc (.cells #[t,u,.float .f64 v] 44)) (o,l+(xk:Int),t,u,v);rw[bD]at L;have s:=aH L;have hr:=bY (bY T b5) (cD (wr.alloc (.cells #[t,u,.float .f64 v] 44)) (.cells (pB (o,l+(xk:Int),t,u,v)) 133));have⟨q,h5,M⟩:=aB hr (aM O.k.size (aM b5.size (cD (wr.alloc (.cells #[t,u,.float .f64 v] 44)) (.cells (pB (o,l+(xk:Int),t,u,v)) 133)).size)) (O.next b5);unfold pB at s q h5;simp only at s q h5;have HM:=aH hm;clear T hr L b5 r5 he O hm;go_wp2_with (first
    |(at_builtin;refine rB _ rfl _ _ 46 rfl w 133 i0 _ 5 64 underlying46 x7 xc xd xe rfl (by decide) (.slice A2 xl c2) xl (fU (AZ A++eQ o l (V.take xk))) rfl q _ 1 (fU [(o,l+(xk:Int),t,u,v)]) rfl s (tE _) (by unfold maxLen;omega) (by omega) h5 ?_;intro v9 w9 J hp Y;have H9:=aH (And.intro J (And.intro hp Y));clear J hp Y))
   have d:=aH (M.next (cD (wr.alloc (.cells #[t,u,.float .f64 v] 44)) (.cells (pB (o,l+(xk:Int),t,u,v)) 133)));go_wp2;go_roundw
   .
    refine⟨xk+1,by omega,by go_num,⟨?_,d.k.OU hi q H9.2.1,?_,?_,?_,aW d.sz H9.2.1.size⟩⟩
    .rw[hj.zz,<-bT,aO,<-HM.zz,sN];exact H9.1
    .exact d.box.of_block (H9.2.1.block _ d.box.lt λN=>by have h8:=dD d.box (dX q N.symm);exact absurd h8 (by decide))
    .exact(H9.2.1.block f d.sz λN=>d.apart f N.symm rfl).trans d.ev
    intro g hg N;subst N;rcases H9.zz.2.2 with h8|h8
    .exact d.apart g (by rw[<-h8];exact hg) rfl
    rw[hg]at h8;have h7:=cJ h8;have:=d.sz;unfold pB at this;simp only at this;omega
   simp[intOf];omega
  obtain rfl:xk=xm:=(by omega);have i1:¬(xk:Int)<xk:=(by omega);have M:=aH O;clear O;go_wp2;go_roundw
  .
   refine⟨A++[(r1,r2)],xh,r1+r2+12,by go_num,by rw[hu.zz];simp,x3,q3,?_,M.k⟩;have e9:AZ (A++[(r1,r2)])=AZ A++eQ o l (V.take xk):=by rw[bR7];simp only[HV.zz];unfold dO;rw[hh.zz,eX]
   rw[e9];exact M.own
  simp[intOf];omega
def lL.evo(f:lL n k S D G I m i K H x w)(e:DT x S.d):p7 n (iG x S) (iG w S) x w:=by
 refine⟨f.fr.os,f.fr.tape,f.fr.output,f.fr.size,λg c d=>f.fr.block g c (d.imp id λa=>⟨λb=>a (.inl (.inl (.inl b))),λb=>a (.inl (.inl (.inr (.inl b))))⟩),λg c a=>?_⟩;rcases a with(a|a)|a
 .exact .inl (.inl (ab0 f.fr e g c a))
 .exact .inl (.inr a)
 exact .inr a
def wM.left{n:Nat}{k:Nat}(H:wM w n S k D G I x)(e:Int):FZ w n S k e D G I x:=by obtain⟨f,⟨a,b,c,d⟩,s,v⟩:=H;exact s.left a b c d v
def cn0(c q:Nat)(h:dV)(D:aL)(G:cS)(I:aZ)(d f:Nat)(g:bH->Nat)(i:bH->aN)(b:List kM)(a:aS)(x:Int)(l:List Ev)(w:aI)(e:eY)(j:aI):Prop:=(nP (b.flatMap dO) a x l≠0->e=.returned (.tuple #[.int .i64 0,.int .i64 (nP (b.flatMap dO) a x l)])/\lL c q h D G I d f g i w j)/\
 (nP (b.flatMap dO) a x l=0->
  ((iE G D (jG (a,(n6 b a:Int),l))).1≠0->e=.returned (.tuple #[.int .i64 0,.int .i64 (iE G D (jG (a,(n6 b a:Int),l))).1])/\FZ w c h d (iE G D (jG (a,(n6 b a:Int),l))).1 (iE G D (jG (a,(n6 b a:Int),l))).2.2.2 (iE G D (jG (a,(n6 b a:Int),l))).2.2.1 I j)/\
  ((iE G D (jG (a,(n6 b a:Int),l))).1=0->e=.returned (.tuple #[.int .i64 (n6 b a:Nat),.int .i64 0])/\FZ w c h d 0 (iE G D (jG (a,(n6 b a:Int),l))).2.2.2 (iE G D (jG (a,(n6 b a:Int),l))).2.2.1 {I with mem:=(uY f ((iE G D (jG (a,(n6 b a:Int),l))).2.1,jG (a,(n6 b a:Int),l))).foldl pW I.mem} j))
def GB:¬(129=103\/129=112\/129=5)/\(129:cC)≠3:=by decide
structure QM(a q:Nat)(h:dV)(D:aL)(G:cS)(I:aZ)(b c:Nat)(d:bH->Nat)(e:bH->aN)(f:List aN)(w x:aI):Prop where
 k:lL a q h D G I b c d e w x
 box:Row x w.heap.size 129 f
section
variable {base q:Nat}{h:dV}{D:aL}{G:cS}{I:aZ}{cF aX:Nat}{blk:bH->Nat}{dat:bH->aN}{xs:List aN}{w x y:aI}
def QM.of(H:QM base q h D G I cF aX blk dat xs w x)(K:lL base q h D G I cF aX blk dat x y):QM base q h D G I cF aX blk dat xs w y:=⟨H.k.trans K,K.fr.row H.box GB.1 (H.k.eI.rE H.box)⟩
def QM.next(H:QM base q h D G I cF aX blk dat xs w x)(a:aR x x y):QM base q h D G I cF aX blk dat xs w y:=⟨H.k.next a,H.box.next a⟩
def QM.set(H:QM base q h D G I cF aX blk dat xs w x)(a:aY8 w q h)(j:Nat)(u:aN):QM base q h D G I cF aX blk dat (xs.set j u) w (x.setCell (zp w j) u):=⟨H.k.set a H.box dQ GB.1 GB.2 j u,H.box.set j u⟩
def QM.start(H:oE w base q h D G I cF aX)(a:bJ w base h.d h.m D blk dat)(C:Array aN):QM base q h D G I cF aX blk dat C.toList w (w.alloc (.cells C 129)):=⟨(lL.start H a).next (eA w _),Row.new w C _⟩
def QM.out(H:QM base q h D G I cF aX blk dat xs w x)(b:aY8 w q h):¬iG x h w:=λa=>H.k.nS b H.box dQ GB.1 GB.2 (.inl a)
end
def aH1(h:eP (s,e,l)=0):iZ s=true:=by obtain⟨a,b,-⟩:=j8 h;unfold iZ;simp only at a b;rw[bZ a,bZ b];rfl
def cA0{T:List jU}{x:Int}(h:eP (s,0,l)≠0):nP T s x l=eP (s,0,l):=by unfold nP;rw[aV h]
def cm5{T:List jU}(h:eP (s,0,l)=0)(a:e< -2):nP T s e l=2:=by unfold nP;rw[aP (by simp[h]),aV a]
def cm3{T:List jU}(h:eP (s,0,l)=0)(b:-2<=e)(a:e≠-2/\e≠((dJ T s):Int)-1):nP T s e l=80:=by unfold nP;rw[aP (by simp[h]),aP (by omega),aV a]
def cm4{T:List jU}(h:eP (s,0,l)=0)(b:-2<=e)(a:¬(e≠-2/\e≠((dJ T s):Int)-1)):nP T s e l=eP (s,((dJ T s):Int),l):=by unfold nP;rw[aP (by simp[h]),aP (by omega),aP a]
def QN.next{w:aI}{n:Nat}{h:dV}{k:Nat}{I:aZ}{B:Nat}{r:lW}(H:QN w n h k D G I B X i r m x)(a:aR x x y):QN w n h k D G I B X i r m y:=by have⟨c,e,s,v,b,f⟩:=H;exact⟨c,e,s.next a,v.trans (s.mB a),b.next a,λd=>f ((s.mB a).rJ B b.lt d)⟩
def av4{M:List kM}(y3:oE w n m S D G I j d)(hd:bJ w n S.d S.m D K H)(P:J9 D G I d C M)(hS:jJ g d k D G I (M.map jG) i)(hb:n<=w)(b:aS)(xi:b.size<=1000000)(x:Int)(hx:DI x)(ve:aN)(l:List Ev)(hl:∀w',gX n S.m w w'->Y2 w' ve l)(hn:l.length<=1000):Calls prog 60 #[zp m,b,x,ve] w (cn0 n m S D G I j d K H M b x l w):=by
 have xb:=hl w (gX.refl _ _ _);obtain⟨A,c,rfl,xt,-⟩:=id xb.1;have h0:=QM.start y3 hd #[.string b,.int .i64 0,.slice A l.length c];obtain⟨hu,hv,xn,xm,xk,x0,x7,HP,xr⟩:=cT1 y3.old (λ(z:aI)(V:gX n S.m w z)(f:Int)(hf:DI f)=>show MU z (.agg #[.string b,.int .i64 f,.slice A l.length c]) (b,f,l)from⟨A,c,rfl,hl z V,by unfold maxLen;simp only;omega,hf.1,hf.2⟩) (λ(z:aI)(V:lL n m S D G I j d K H w z)=>tG V.wX) (λ(z:aI)(V:lL n m S D G I j d K H w z)=>YH V.wX V.eI P (aM hb V.size) b xi) hd.IZ (And.intro y3.row y3.out) hb P hS;have ho:=FV _ _ _ (hv.out _ h0.k.fr 0 ⟨by omega,by omega⟩);obtain⟨y0,y1,y2⟩:(w.alloc (.cells #[.string b,.int .i64 0,.slice A l.length c] 129)).cell? ⟨w.heap.size,0,none⟩=some (.string b)/\(w.alloc (.cells #[.string b,.int .i64 0,.slice A l.length c] 129)).cell? ⟨w.heap.size,1,none⟩=some (.int .i64 0)/\(w.alloc (.cells #[.string b,.int .i64 0,.slice A l.length c] 129)).cell? ⟨w.heap.size,2,none⟩=some (.slice A l.length c):=⟨h0.box.lO,h0.box.qD,h0.box.tW⟩;have⟨y6,hN⟩:=fR l.length;rw[<-hN]at xt hn y0 y1 y2 ho h0|-;have⟨H0,hy⟩:=aA h0 hN;have⟨ck,Y⟩:=fR (eP (b,0,l));rw[<-Y]at ho;have E:=aH Y;unfold DI at hx;clear y3 hd P hS hl xb h0 hb hN Y;go_in;go_wp2_with fail
 go_call ho as e w2 ⟨rfl,xc⟩;have K2:=aH (show QM n m S D G I j d K H [.string b,.int .i64 0,.slice A y6 c] w w2 from H0.out.next xc);clear ho xc y0 y1 y2;have x6:=xn.out w2 K2.out.k;by_cases h1:ck=0
 .subst h1;by_cases h2:x< -2
  .have W:=aH (cm5 (T:=M.flatMap dO) E.out.symm h2);(go_wp2_with fail);go_call x6 as e w' ⟨rfl,rfl⟩;go_wp2;go_ret2;refine⟨λ_=>⟨by rw[W.out];rfl,K2.out.k⟩,λa=>?_⟩;rw[W.out]at a;exact absurd a (by decide)
  have xa:=aH h2;have Q:=xm.out w2 K2.out.k;unfold af7 at Q;rw[aH1 E.out.symm]at Q;simp only[eH]at Q;have⟨N,hm⟩:=fR (n6 M b);rw[<-hm]at Q;have t:=aH hm;have xz:N<=1073741824:=by
   rw[hm];unfold n6;rcases dP (dJ (M.flatMap dO) b).length with h0|h0
   .omega
   have hi:(dJ (M.flatMap dO) b).length-1<(dJ (M.flatMap dO) b).length:=(by omega);have h1:=vH HP.out.mU (dC hi);have h2:=HP.out.mU.row b _ _ (aJ hi);omega
  clear hm;go_wp2_with fail
  go_call x6 as e w' ⟨rfl,rfl⟩;go_wp2_with fail
  go_call Q as e w3 ⟨rfl,x5⟩;have K3:=aH (K2.out.of x5);have xx:=x5.fr.size;clear Q x5;by_cases h3:x≠-2/\x≠(N:Int)-1
  .have W:=aH (cm3 (T:=M.flatMap dO) E.out.symm (by have:=xa.out;omega) (by rwa[t.out]at h3));have⟨h4,h5⟩:=h3;have i1:(x != -2)=true:=sW.2 h4;have i2:(x != (N:Int)-1)=true:=sW.2 h5;go_wp2;go_ret2;refine⟨λ_=>⟨by rw[W.out];rfl,K3.out.k⟩,λa=>?_⟩;rw[W.out]at a;exact absurd a (by decide)
  have W:=aH (cm4 (T:=M.flatMap dO) E.out.symm (by have:=xa.out;omega) (by rwa[t.out]at h3));have xv:(x != -2)=false\/((x != -2)=true/\(x != (N:Int)-1)=false):=by
   by_cases h4:x=-2
   .exact .inl (by rw[h4];rfl)
   refine .inr ⟨sW.2 h4,?_⟩;have:x=(N:Int)-1:=by
    by_cases h5:x=(N:Int)-1
    .exact h5
    exact absurd ⟨h4,h5⟩ h3
   rw[this];simp
  have f1:=K3.out.box.JE;have y0:=K3.out.box.lO;have y1:=K3.out.box.qD;have y2:=K3.out.box.tW;have K4:=aH (K3.out.set hu.out 1 (.int .i64 N));have L:=aW8 _ _ _ (hv.out _ K4.out.k.fr (N:Int) ⟨by omega,by omega⟩);rw[<-hy.out]at L;have⟨c2,x4⟩:=fR (eP (b,(N:Int),l));have⟨PB,x3⟩:=fR (bs (jG (b,(N:Int),l)));rw[<-x4,<-x3]at L;have⟨hw,x8⟩:=aA x4 x3;have i3:(N:Int)-1+1=(N:Int):=(by omega);clear h3 h2 x4 x3;rcases xv with i1|⟨i1,i2⟩
  all_goals
   (go_wp2_with fail);go_call L as e w5 ⟨rfl,xd⟩;have O:=aH (K4.out.next xd);clear L xd y0 y1 y2 f1;by_cases h4:c2=0
   .subst h4;have o:uV (b,(N:Int),l):=⟨(hv.out _ K4.out.k.fr (N:Int) ⟨by omega,by omega⟩).okB,hw.out.symm⟩;have hs:=(aL1 o.2).2;have xg:PB.size<=2000:=(by rw[x8.out,eO];exact hs);have F:=bk4 O.out.k.wX.sys.log O.out.k.eI HP.out.up (aM x7.out O.out.k.size) PB xg;have xf:lb PB=jG (b,(N:Int),l):=(by rw[x8.out,gP]);have ht:=SU xr.out hs;rw[xf]at F;have X:=aH (show nP (M.flatMap dO) b x l=0 from by rw[W.out];have:=hw.out;rw[t.out]at this;exact this.symm);have h6:=(az7 o.2 o.1).1;have⟨p,hp⟩:=fR (jG (b,(N:Int),l));rw[<-hp]at F ht h6 hs;have he:=aH hp;have ha:rN p=true:=by
     have:=(az7 o.2 o.1).2;rw[<-hp]at this;unfold QD at this;by_cases a:rN p=true
     .exact a
     rw[aP a]at this;exact absurd this (by decide)
    obtain⟨⟨er,h,G',D'⟩,hr⟩:∃r,r=iE G D p:=⟨_,rfl⟩;rw[<-hr]at F ht;have⟨HR,x9,hc,xq⟩:=aC hr.symm ht h6 ha;unfold LOp at F;simp only at F;have⟨c0,c1,c2⟩:=O.out.k.wX.cells;clear xf hp hr ht h6 ha o xg hs;(go_wp2_with fail);go_call F as e w6 ⟨rfl,U,⟨v',xs,hq,h7,s⟩,Z⟩;have ES:=p7.orS (h:=S) (h':={S with v:=v'}) rfl (p7.PH Z O.out.k.wX.sys.log.eI h7);have E6:=aH ((O.out.k.evo xk.out).trans ES);have u:=x9.out.bQ;simp only at u;have V6:=aH U;clear F c0 c1 c2;by_cases h5:er=0
    .subst h5;obtain rfl:=s (by decide);have K6:=(O.out.k.wX.sys.yN U (by rw[u];exact hq) Z h7).1;have J:=O.out.out hu.out;have xw:h<1000000:=by
      rcases x9.out.it with⟨a,-⟩|⟨-,a,-⟩|⟨a,-⟩
      .exact absurd (gQ Prod.fst a) (by simp)
      .exact a
      exact absurd a (by simp)
     have S6:=aH (show QN w n S j D' G' I w.heap.size [.string b,.int .i64 N,.slice A y6 c] d (h,p) 0 w6 from⟨{S with v:=v'},⟨rfl,rfl,rfl,rfl⟩,K6,E6.out,O.out.box.of_block (ES.block _ O.out.box.lt (.inr J)),λa=>J (ES.rJ _ O.out.box.lt a)⟩);have hg:=aH (λ(z:aI) (y5:Nat) (V:QN w n S j D' G' I w.heap.size [.string b,.int .i64 N,.slice A y6 c] d (h,p) y5 z)=>show z.cell? ⟨m,1,none⟩=some (.pointer (some ⟨S.x.X,0,none⟩))/\z.cell? ⟨m,2,none⟩=some (.int .u64 d)/\z.cell? ⟨w.heap.size,1,none⟩=some (.int .i64 N)from by
      have e9:=V.to.stays x0.out.1.lt x0.out.2;have rq:=x0.out.1.of_block e9;obtain⟨xy,-,-,-,rb,-⟩:=V;exact⟨rq.qD,rq.tW,rb.qD⟩)
     have xl:=aH (λ(y5:Nat)(hk:y5<y6)=>show wC (mA d (lb b),(N:Int)+(y5:Int),(h:Int))/\qF (mA d (lb b),(N:Int)+(y5:Int),(h:Int))=true from by
      have:=by0 (aX:=d) (R:=[(h,p)]) (λr hr=>by
       rw[bP]at hr;subst hr;exact⟨xq.out,by simp only;omega⟩) (mA d (lb b),(N:Int)+(y5:Int),(h:Int)) (by
       have:=ci9 (aX:=d) (A:=[]) (B:=[]) (r:=(h,p)) (k:=y5) (by simp only;rw[hc.out,<-hy.out];exact hk);simp only[hc.out]at this;exact this)
      exact this)
     have⟨q1,q2,q3⟩:=hg.out w6 0 S6.out;have hh:=λy:aI=>EO d b y HP.out.KT xi;clear U hq h7 s Z ES K6 J u;(go_wp2_with fail);go_call hh _ as e w' ⟨rfl,rfl⟩;clear hh q1 q2 q3;(go_wp2_with fail);go_loopw [17,18,83] (λ_ _ y4 wq=>∃y5:Nat,y5<=y6/\y4=.int .i64 y5/\QN w n S j D' G' I w.heap.size [.string b,.int .i64 N,.slice A y6 c] d (h,p) y5 wq) (λ_ _ y4 _=>y6-(intOf y4).toNat)
     .exact⟨0,bK _,rfl,S6.out⟩
     obtain⟨y5,hk,rfl,h8⟩:=hrel;have hj:=aH h8;by_cases xu:y5<y6
     .have i4:(y5:Int)<y6:=(by omega);have⟨x1,x2⟩:=xl.out y5 xu;have q:=λ(z:aI)(V:aR wr.heap.size wr z)=>(hj.out.next V).call (aM x7.out (hj.out.next V).to.size) (mA d (lb b),(N:Int)+(y5:Int),(h:Int)) (by simp only[hc.out]) x1 x2 (by
       have h1:=xM (AG d (h,p) y5) I.mem;have h2:(AG d (h,p) y5).length=y5:=(by simp[AG]);have h3:=HP.out.ZN.1;omega)
      unfold iT at q;simp only at q;obtain⟨-,⟨j1,j2⟩,j3⟩:=id x1;simp only at j1 j2;have z1:∀x:dR wr,x.it.cell? ⟨m,1,none⟩=some (.pointer (some ⟨S.x.X,0,none⟩)):=λx=>(hg.out _ y5 (hj.out.next x.ok)).1;have z2:∀x:dR wr,x.it.cell? ⟨w.heap.size,1,none⟩=some (.int .i64 N):=λx=>(hg.out _ y5 (hj.out.next x.ok)).2.2;clear h8 x1 x2 j3;(go_wp2_with fail);refine jF (by kernel_rfl) (by kernel_rfl) (by kernel_rfl) (by kernel_rfl) (by kernel_rfl) ?_;simp only[List.dropLast,List.drop,List.length];(repeat go_big_quiet_step (fail));refine wpQuiet_nil ?_;rintro _ ⟨⟨wz,xj⟩,rfl⟩;have xe:=q _ xj;clear q z1 z2 xj;(go_wp2_with fail);go_call xe as e w7 ⟨rfl,xh⟩;have xo:=aH xh;clear xe xh;go_wp2;go_roundw
      .exact⟨y5+1,by omega,by go_num,xo.out⟩
      simp[intOf];omega
     obtain rfl:y5=y6:=(by omega);have i4:¬(y5:Int)<y5:=(by omega);obtain⟨-,-,q3⟩:=hg.out wr y5 h8;have xp:=aH h8.to;clear h8;go_wp2;go_ret2;refine⟨λa=>absurd X.out a,λ_=>⟨λa=>?_,λ_=>?_⟩⟩
     .rw[<-t.out,<-he.out,HR.out]at a;exact absurd rfl a
     rw[<-t.out,<-he.out,HR.out];refine⟨rfl,?_⟩;have e9:uY d (h,p)=AG d (h,p) y5:=by rw[<-aq9];simp only[hc.out];rw[<-hy.out]
     simp only[e9];exact xp.out.left 0
    have SL:=aH (show FZ w n S j er D' G' I w6 from⟨{S with v:=v'},rfl,rfl,rfl,rfl,U,λa=>by obtain rfl:=s a;exact(O.out.k.wX.sys.yN U (by rw[u];exact hq) Z h7).1,E6.out⟩);clear U hq h7 s Z ES u;go_wp2;go_ret2;refine⟨λa=>absurd X.out a,λ_=>⟨λ_=>?_,λa=>?_⟩⟩
    .rw[<-t.out,<-he.out,HR.out];exact⟨rfl,SL.out⟩
    rw[<-t.out,<-he.out,HR.out]at a;exact absurd a h5
   have X:=aH (show nP (M.flatMap dO) b x l=c2 from by rw[W.out];have:=hw.out;rw[t.out]at this;exact this.symm);go_wp2;go_ret2;refine⟨λ_=>⟨by rw[X.out];rfl,O.out.k⟩,λa=>?_⟩;rw[X.out]at a;exact absurd a h4
 have W:=aH (cA0 (T:=M.flatMap dO) (x:=x) (by rw[<-E.out];exact h1));go_wp2_with fail
 go_call x6 as e w' ⟨rfl,rfl⟩;go_wp2;go_ret2;refine⟨λ_=>⟨by rw[W.out,<-E.out];rfl,K2.out.k⟩,λa=>?_⟩;rw[W.out,<-E.out]at a;exact absurd a h1
variable{M:jD}
def cn4(a m d:Nat)(D:aL)(o:Option aZ)(i:Int)(b:Nat)(w:aI)(e:eY)(c:aI):Prop:=∃h:oZ,
 e=.returned (.tuple #[bM4 h.X o,.int .i64 i])/\(∃f g,bJ c a d m D f g)/\gX a m w c/\∀I,o=some I->pI c a d h I b/\∀k,h.T k->DS w c d m k
def PU{G:cS}{aX:Nat}(h:(pP D).1≠0):lC D G aX=((pP D).1,none):=by unfold lC;rw[aV h]
def BM{G:cS}{aX:Nat}(h:pP D=(0,M))(a:M.aX≠aX\/kF G.bV<M.check):lC D G aX=(90,none):=by unfold lC;rw[h];simp only[ne_eq,not_true_eq_false,dW];rw[aV a]
def LP{G:cS}{aX:Nat}(h:pP D=(0,M))(a:¬(M.aX≠aX\/kF G.bV<M.check)):lC D G aX=xF D M:=by unfold lC;rw[h];simp only[ne_eq,not_true_eq_false,dW];rw[aP a]
def aP9(h:pP D=(0,M)):wU M=true:=by
 unfold pP at h;split at h
 .cases h
 split at h
 .cases h
 rename_i f c;by_cases a:sB f.data=true
 .have b:M=getM f.data:=(Prod.mk.inj h).2.symm;rw[b];exact(az8 a).1
 unfold UC at h;rw[aP a]at h;cases h
def bF5(hd:bJ w k n m D K H)(hl:l4 w k n i G D.bQ false v)(hb:k<=w)(V:D.down=false)(a:Nat)(F:a<18446744073709551616)(l:Nat):Calls prog 120 #[zp n,zp i,zu a,.float .f64 l] w (cn4 k m n D (lC D G a).2 (lC D G a).1 l w):=by
 have P:=cw6 hd;unfold aE2 at P;obtain⟨⟨er,M⟩,hM⟩:∃r,r=pP D:=⟨_,rfl⟩;rw[<-hM]at P;have⟨L,HD,h2,h6⟩:=aC hM.symm hd hl V;unfold cn4 mN at *;have⟨J,j,f,s⟩:=M;simp only at P;clear hd hl V hM;go_in;go_wp2_with fail
 go_call P as e t ⟨lv,rfl,B,R,A⟩;have⟨u,z,h7⟩:=(B.ai3 dQ).slice;subst h7;have Z:=eA t (.cells #[J,j,zu f,.slice u s z] 57);have O:=Row.new t #[J,j,zu f,.slice u s z] 57;have⟨p,d,g,h5,h3,h1⟩:=aE R A Z O B (h2.yH HD A);clear P B R A;by_cases h0:er=0
 .subst h0;have C:=aP9 L;by_cases hs:f=a
  iterate 2
   .first|subst hs;have Y:=λy (hy:aR (t.alloc (.cells #[J,j,zu f,.slice u s z] 57)) (t.alloc (.cells #[J,j,zu f,.slice u s z] 57)) y)=>XP ((h1.next g).next hy);have⟨E,hE⟩:=fR (kF G.bV);rw[<-hE]at Y|(have i1:((f:Int) != (a:Int))=true:=sW.2 (by omega))
    have z2:∀x:dR (t.alloc (.cells #[J,j,zu f,.slice u s z] 57)),x.it.cell? (zp t 2)=some (.int .u64 f):=λx=>(O.next x.ok).tW
    first
     |have z1:∀x:dR (t.alloc (.cells #[J,j,zu f,.slice u s z] 57)),x.it.cell? (zp t 1)=some j:=λx=>(O.next x.ok).qD
      by_cases he:E<j
      iterate 2
       ·(first|((have i1:¬(E:Int)<(j:Int):=by omega);(have N:=aH (LP (aX:=f) (G:=G) L (λo=>o.elim (λh=>h rfl) (λh=>he (by rw[hE];exact h)))));have h4:=aH C)|((have i1:(E:Int)<(j:Int):=by omega);(have N:=aH (BM (aX:=f) (G:=G) L (.inr (by rw[<-hE];exact he))))));clear hE Z O C;(go_wp2_with fail);refine cI (by kernel_rfl) (by kernel_rfl) ?_;(repeat go_big_quiet_step ((rename_i x;first|(go_at_call 119;exact eL x (Y _ x.ok)))));refine wpQuiet_nil ?_;intro _ W;obtain⟨⟨wq,c⟩,rfl⟩:=W;have b:=aH (aK g c);(first|(have Q:=h5.next c;(have c0:=Q.lO);(have c1:=Q.qD);(have c2:=Q.tW);(have c3:=Q.JF);have q:=aa0 (p.next b) (aM hb (aM d.size b.size)) h6 (.slice u s z) ⟨J,j,f,s⟩ (h3.GQ.next b) h4 F l;unfold XX mN at q;simp only at q;clear z1 z2 Y c Q;go_wp2_with fail;go_call q as e w5 ⟨W,rfl,S,T,U⟩;have X:=aH (And.intro S (And.intro T U));clear q S T U c0 c1 c2 c3)|clear z1 z2 Y c);go_wp2;go_ret2;rw[N.zz];first|exact⟨W,rfl,X.1,(d.trans (gX.cT b _ _)).trans X.2.1,λI o=>⟨(X.2.2 I o).1,λh8 hk=>DS.of (aM d.size b.size) ((X.2.2 I o).2 h8 hk)⟩⟩|(exact⟨⟨0,0,0,true,true,λ_=>0,λ_=>False,λ_=>False⟩,rfl,⟨_,_,p.next b⟩,d.trans (gX.cT b _ _),λI o=>by cases o⟩)
     |have N:=aH (BM (aX:=a) (G:=G) L (.inl hs))
      clear Z O C;(go_wp2_with fail);refine cI (by kernel_rfl) (by kernel_rfl) ?_;(repeat go_big_quiet_step (fail));refine wpQuiet_nil ?_;intro _ W;obtain⟨⟨wq,c⟩,rfl⟩:=W;have b:=aH (aK g c);clear z2 c;go_wp2;go_ret2;rw[N.zz];exact⟨⟨0,0,0,true,true,λ_=>0,λ_=>False,λ_=>False⟩,rfl,⟨_,_,p.next b⟩,d.trans (gX.cT b _ _),λI o=>by cases o⟩
 have N:=aH (PU (G:=G) (aX:=a) (by rw[L.zz];exact h0));clear Z O;go_wp2;go_ret2;rw[N.zz,L.zz];exact⟨⟨0,0,0,true,true,λ_=>0,λ_=>False,λ_=>False⟩,rfl,⟨_,_,p.next g⟩,d.trans (gX.cT g _ _),λI o=>by cases o⟩
variable{a:Nat->List lW}
def aV2(g:MH D.files C)(c:KH C)(b:G.bV=fB C):ag1 G D:=λn i=>by have h:G.bV.length=C:=(by rw[b];simp);have a:n<C.length:=(by omega);have⟨f,e,d⟩:=g n a;refine⟨f,e,?_,by rw[d];exact c.2.2 n a⟩;rw[d,b,aY];unfold fB;rw[IC,aJ a];rfl
structure aY5(b a s:Nat)(D:aL)(G:cS)(C:List (List bH))(c:List kM):Prop where
 up:D.down=false
 tA:D.cap=b
 small:b<=1048576
 sys:Sys b 98 D.files
 log:∃P,wQ D.files G C C.flatten.length P/\BV D.files a s (dF C) P
 mU:lG c
 same:C.flatten=c.map jG
 yG:c.length<=1000
 KT:a<18446744073709551616
def aP3(h:(lC D G n).2=I):(lC D G n).1=0/\wU I.cZ=true/\I.cZ.aX=n/\I.mem=[]/\I.cZ.check<=kF G.bV:=by
 by_cases d:(pP D).1=0
 .obtain⟨M,c⟩:∃M,pP D=(0,M):=⟨(pP D).2,by rw[<-d]⟩;by_cases a:M.aX≠n\/kF G.bV<M.check
  .rw[BM c a]at h;cases h
  rw[LP c a]at h|-;have e:M.aX=n:=Classical.byContradiction λb=>a (.inl b);have i:¬kF G.bV<M.check:=λb=>a (.inr b);unfold xF at h|-;split at h
  .cases h
  rename_i f;rw[aP f];split at h
  .cases h
  rename_i g;rw[aP g];cases h;exact⟨rfl,aP9 c,e,rfl,by simp only;omega⟩
 rw[PU d]at h;cases h
structure XW(c:Nat)(D a:aL)(G:cS)(I:aZ)(b:Nat->List lW):Prop where
 cZ:wU I.cZ=true
 zQ:I.cZ.aX<18446744073709551616
 check:I.cZ.check<=1000000
 err:(mE a I.cZ).1≠0->(mE a I.cZ).1=61
 rep:(mE a I.cZ).1=0->(mE a I.cZ).2.down=false/\(mE a I.cZ).2.bQ=D.bQ/\cD6 G (mE a I.cZ).2 I (b I.cZ.check)/\MT G (mE a I.cZ).2 I.cZ.check (b I.cZ.check)
def as3(h:(mE D I.cZ).1=0):qQ D I n a=(0,some {I with mem:=(fZ n (a I.cZ.check)).foldl pW I.mem},(mE D I.cZ).2):=by unfold qQ;rw[aP (by rw[h];simp)]
def as4(h:(mE D I.cZ).1≠0):qQ D I n a=((mE D I.cZ).1,none,(mE D I.cZ).2):=by unfold qQ;rw[aV h]
def aY5.tail(h:aY5 n m k D G C B){E:aL}{I:aZ}(o:fY D G m (iN C)=qQ E I m (iN C))(F:wU I.cZ=true)(t:I.cZ.aX=m)(L:I.mem=[])(N:I.cZ.check<=kF G.bV):XW m D E G I (iN C):=by
 have⟨P,w,v⟩:=h.log;have i:=w.log.ok;have A:kF G.bV<=1000000:=(by rw[w.bV];have:=zJ i;have:=i.1;omega);have p:=VH h.up h.small h.sys w v;have y:fY D G m (λO=>(dF C).filter λr=>!decide (r.1<O))=qQ E I m (iN C):=o;simp only at p;rw[y]at p;refine⟨F,by rw[t];exact h.KT,by omega,λs=>?_,λs=>?_⟩
 .rw[as4 s]at p;rcases p with⟨J,a,-⟩|⟨a,-⟩
  .exact absurd a s
  exact a
 rw[as3 s]at p;rcases p with⟨J,a,b,c,d,e,f,g,O⟩|⟨a,-⟩
 .simp only at c e g;have l:=AD i h.same (rG h.mU.uW) m;have j:∀r∈iN C I.cZ.check,r∈dF C:=λr o=>(fL.1 o).1;refine⟨c,e,⟨F,by rw[t];exact h.KT,aV2 g.whole i g.bV,λr o=>?_,λx H=>?_,?_⟩,ad3 g.whole i g.bV _⟩
  .have u:=GM i (j r o);have q:r.2∈C.flatten:=(by rw[<-tZ];exact ak3 (j r o));have⟨M,z,K⟩:=tS.1 q;exact⟨(l.2.2 r (j r o)).2,i.2.1 M z _ K,by have:=i.1;omega⟩
  .rw[t]at H;have⟨r,u,q⟩:=oC.1 H;exact l.1 x (oC.2 ⟨r,j r u,q⟩)
  rw[L,t];have u:=CU (aX:=m) (R:=iN C I.cZ.check) λr o=>(l.2.2 r (j r o)).2;have q:(iN C I.cZ.check).length<=(dF C):=jE _ _;have z:=aJ6 i;simp only[kG];omega
 exact absurd a (by simp)
def YR(h:(lC D G n).2=I):fY D G n a=qQ D I n a:=by have b:=(aP3 h).1;unfold fY;rw[b,h];rfl
def ai0{D:aL}{G:cS}{aX:Nat}{rs:Nat->List lW}(h:(lC D G aX).2=none)(a:(lC D G aX).1≠61)(b:(D.delete fE).1≠61):fY D G aX rs=qQ (D.delete fE).2 (xP aX) aX rs:=by
 unfold fY;rw[aP a,h];split
 .rename_i c;cases c
 rw[aP b]
def ah8{d:Nat->List lW}(h:(lC D G n).2=none)(a:(lC D G n).1≠61)(b:(D.delete fE).1=61):fY D G n d=(61,none,(D.delete fE).2):=by
 unfold fY;rw[aP a,h];split
 .rename_i c;cases c
 rw[aV b]
def bj9{D:aL}(e:D.down=false)(G:cS)(b:Nat)(h:(lC D G b).2=none):(lC D G b).1=4\/(lC D G b).1=90:=by
 have k:∀M,(xF D M).2=none->(xF D M).1=90:=λM d=>by
  unfold xF at d|-;rw[e]at d|-;simp only[bU,dW]at d|-;rcases PG e M.fP.flatten (λ_=>none)with⟨a,-⟩|a
  .rw[aP (by rw[a];simp)]at d;cases d
  rw[aV (by rw[a];simp)];exact a
 by_cases c:(pP D).1=0
 .obtain⟨M,i⟩:∃M,pP D=(0,M):=⟨(pP D).2,by rw[<-c]⟩;by_cases g:M.aX≠b\/kF G.bV<M.check
  .rw[BM i g];exact .inr rfl
  rw[LP i g]at h|-;exact .inr (k M h)
 rw[PU c];unfold pP at c|-;rw[e]at c|-;simp only[bU,dW]at c|-;cases j:bO D.files fE with
 |none=>exact .inl rfl
 |some f=>
  rw[j]at c;simp only at c|-;unfold UC at c|-;split
  .rename_i d;rw[aV d]at c;exact absurd rfl c
  exact .inr rfl
def p7.bB3{N R:Nat->Prop}(h:p7 n N R w x)(d:∀g,jQ x k m g->R g)(a:p7 n (jQ x k m) (jQ y k m) x y):p7 n N (jQ y k m) w y:=⟨a.os.trans h.os,a.tape.trans h.tape,a.output.trans h.output,aM h.size a.size,
 λg b e=>(a.block g (aW b h.size) (e.imp id λc f=>c (h.rJ g b (d g f)))).trans (h.block g b e),
 λg b c=>h.rJ g b (d g (a.rJ g (aW b h.size) c))⟩
def bo6{D:aL}{n:bH}(h:(D.delete n).1≠61):(D.delete n).2.down=D.down:=by
 rcases Q5 D n with a|a|a
 .exact ar5 D n a
 .unfold aL.delete at a|-;by_cases b:D.down=true
  .rw[aV b]
  rw[aP b]at a|-;cases c:bO D.files n with
  |none=>rfl
  |some f=>rw[c]at a;simp only at a;unfold aL.change at a;split at a<;>simp at a
 exact absurd a h
def ce7(w:aI):vA w zs []:=⟨[],rfl,Reads.nil _ _,λk x L h=>by simp at h⟩
def aM8(b:D.down=false)(a:Nat):xF D ⟨0,0,a,[]⟩=(0,some (xP a)):=by unfold xF;rw[b,aP (by simp)];rfl
def lQ.opened{d:oZ}(l:bJ w k n m D K H)(c:l4 w k n i G D.bQ false v)(e:∃K H,bJ x k n m D K H)(g:gX k m w x)(o:pI x k n d I j)(h:∀s,d.T s->DS w x n m s):lQ x k ⟨n,m,i,v,d⟩ D G I j/\p7 k (BH w n m i v) (iG x ⟨n,m,i,v,d⟩) w x:=by
 have b:=p7.PH (uJ.nA g i v) c.eI (lA.refl w v);refine⟨⟨e,c.yH l g,o,λs f a=>?_⟩,⟨b.os,b.tape,b.output,b.size,b.block,λs f a=>?_⟩⟩
 .have⟨q,r,p⟩:=h s f;rcases a with a|a|a
  .exact p a
  .have:=c.row.lt;have a:s=i:=a;omega
  have:=jN c.own s a;omega
 rcases a with a|a
 .exact b.rJ s f a
 have:=(h s a).1;omega
def aD4(a d m L:Nat)(v:aN)(g:Nat)(G:cS)(r:Int×Option aZ×aL)(w:aI)(e:eY)(f:aI):Prop:=(r.2.1=none->∃b:Bool,e=.returned (.tuple #[.pointer none,.bool b,.int .i64 r.1])/\(∃h i,bJ f a d m r.2.2 h i)/\p7 a (BH w d m L v) (jQ f d m) w f)/\
 (∀I,r.2.1=some I->∃(b:Bool)(c:dV),c.d=d/\c.m=m/\c.L=L/\e=.returned (.tuple #[.pointer (some ⟨c.x.X,0,none⟩),.bool b,.int .i64 r.1])/\lQ f a c r.2.2 G I g/\p7 a (BH w d m L v) (iG f c) w f)
def bZ3{q:Nat}(hd:bJ w m k j D K H)(hl:l4 w m k d G D.bQ false v)(hb:m<=w)(hc:aY5 g q i D G C B)(x:Nat):Calls prog 77 #[zp k,zp d,zu q,.float .f64 x] w (aD4 m k j d v x G (fY D G q (iN C)) w):=by
 have M:=bF5 hd hl hb hc.up q hc.KT x;unfold cn4 at M;obtain⟨f,hh⟩:∃f,f=iN C:=⟨_,rfl⟩;obtain⟨⟨W,o1⟩,he⟩:∃r,r=lC D G q:=⟨_,rfl⟩;rw[<-he]at M;have⟨V,HD,h2,U,L,N⟩:=aE he.symm hd hl hb hc hh;rw[<-hh];unfold aD4;simp only at M;clear hd hl hb he hh;go_in;(go_wp2_with fail);refine M.mono ?_;rintro e w3 ⟨hx,rfl,p,E,X⟩;clear M;rcases o1 with _|b;rotate_left
 focus
  have li:=aP3 (show(lC D G q).2=some b from by rw[V.out]);rw[V.out]at li;obtain⟨z1,z2,z3,z4,z5⟩:=li;simp only at z1;subst z1;have hk:=aH (show fY D G q f=qQ D b q f from by rw[N.out];exact YR (by rw[V.out]));obtain⟨x2,SD⟩:=aA (show XW q D D G b f from by rw[N.out];exact L.out.tail (by rw[<-N.out];exact hk.out) z2 z3 z4 z5) z3;obtain⟨sv,ev⟩:=lQ.opened HD.out h2.out p E (X b rfl).1 (X b rfl).2;obtain⟨J,P⟩:∃J,J=D:=⟨_,rfl⟩;obtain⟨o,c⟩:∃o,o=(⟨k,j,d,v,hx⟩:dV):=⟨_,rfl⟩;have E3:=aH (show o.d=k/\o.m=j/\o.L=d from by rw[c];exact⟨rfl,rfl,rfl⟩);have Q:hx.X=o.x.X:=(by rw[c]);rw[<-c]at sv ev;have O:=aH (show J.bQ=D.bQ from by rw[P]);rw[<-P]at sv;obtain⟨RX,TL,S3,V3⟩:=aC (show fY D G q f=qQ J b q f from by rw[P];exact hk.out) (show XW q D J G b f from by rw[P];exact x2.out) sv ev;unfold bM4;simp only;rw[Q];clear z2 z3 z4 z5 sv ev p E X P c Q
 rotate_left
 focus
  have le:=bj9 L.out.up G q (by rw[V.out]);rw[V.out]at le;simp only at le;obtain⟨x5,x8,p⟩:=p;have A:=wJ p ⟨#[109,97,112]⟩ (by decide) (aM U.out E.size);rw[XQ]at A;have t:=qP D fE;have u:=bo6 (D:=D) (n:=fE);have s:=Q5 D fE;obtain⟨⟨e2,J⟩,h8⟩:∃r,r=D.delete fE:=⟨_,rfl⟩;have DR:=aH h8.symm;rw[<-h8]at A t u s;unfold rI at A;simp only at A t u s;have⟨O,x1,hw,hu,h1,hz,hj⟩:=aF t u s p E (h2.out.yH HD.out E) le;unfold bM4;simp only;have i1:(W==1)=false:=(by rcases le with a|a<;>(rw[a];rfl));have i2:(W==61)=false:=(by rcases le with a|a<;>(rw[a];rfl));have i3:(W != 0)=true:=(by rcases le with a|a<;>(rw[a];rfl));clear le p E X h8 t u s;(go_wp2_with fail);refine A.mono ?_;rintro e w4 ⟨rfl,hi,F⟩;clear A;by_cases h6:e2=61
  .subst h6;have Z:=aH (show fY D G q f=(61,none,J)from by
    rw[ah8 (by rw[V.out]) (by rw[V.out];have:=hj.out;simp only;omega) (by rw[DR.out]),DR.out])
   have⟨V4,F4⟩:=aA hi (p7.nA (h1.out.trans F) HD.out.IZ);clear hi F;go_wp2;(try simp only[Exit.inBlock,Exit.then]);refine bE (results_tmp3 rfl _ _ _) rfl ⟨λa=>?_,λI9 a=>?_⟩
   .rw[Z.out];refine⟨_,rfl,V4.out,?_⟩;exact F4.out.mono (λxd _ h=>.inl h) (λxd _ h=>.inl h)
   rw[Z.out]at a;cases a
  have h0:J.down=false:=(x1.out h6).trans L.out.up;obtain⟨x6,x9,h7⟩:=hi;have I:=aa0 h7 (aM U.out (aM h1.out.size F.size)) h0 zs ⟨0,0,q,[]⟩ (ce7 _) (by rw[mM];simp) L.out.KT x;unfold XX at I;rw[aM8 h0]at I;unfold mN at I;simp only at I;obtain⟨hv,x0,hy⟩:=aB h7 (show l4 w4 m k d G J.bQ false v from by rw[O.out];exact hz.out.yH hu.out F) (h1.out.trans F);have RX:=aH (show fY D G q f=qQ J (xP q) q f from by
   have:=ai0 (D:=D) (G:=G) (aX:=q) (rs:=f) (by rw[V.out]) (by rw[V.out];have:=hj.out;simp only;omega) (by rw[DR.out];exact h6);rw[DR.out]at this;exact this)
  have x4:(e2 != 0)=false\/((e2 != 0)=true/\(e2 != 4)=false):=by
   rcases hw.out with a|a|a
   .exact .inl (by rw[a];rfl)
   .exact .inr ⟨by rw[a];rfl,by rw[a];rfl⟩
   exact absurd a h6
  clear h7 F;rcases x4 with j1|⟨j1,j2⟩
  all_goals
   (go_wp2_with fail);refine I.mono ?_;rintro e w5 ⟨ht,rfl,l,hn,Y⟩;have xb:True:=trivial;obtain⟨b,z⟩:∃b,b=xP q:=⟨_,rfl⟩;have SD:=aH (show b.cZ.aX=q from by rw[z];rfl);rw[<-z]at Y RX|-;have TL:=aH (show XW q D J G b f from by
    rw[N.out];exact L.out.tail (by rw[<-N.out];exact RX.out) (by rw[z,mM];simp[xP]) SD.out (by rw[z];rfl) (by rw[z];exact bK _))
   obtain⟨sv,ev⟩:=lQ.opened hv.out x0.out l hn (Y b rfl).1 (Y b rfl).2;have ev0:=(p7.PH (uJ.nA hy.out d v) h2.out.eI (lA.refl w v)).trans ev;obtain⟨o,c⟩:∃o,o=(⟨k,j,d,v,ht⟩:dV):=⟨_,rfl⟩;have E3:=aH (show o.d=k/\o.m=j/\o.L=d from by rw[c];exact⟨rfl,rfl,rfl⟩);have Q:ht.X=o.x.X:=(by rw[c]);rw[<-c]at sv ev0;have⟨S3,V3⟩:=aA sv ev0;unfold bM4;simp only;rw[Q];clear I sv ev ev0 l hn Y z c Q
 all_goals
  obtain⟨q1,q2,q3,q4⟩:=show o.d=k/\o.m=j/\o.L=d/\True from⟨E3.out.1,E3.out.2.1,E3.out.2.2,trivial⟩;have hf:=CO S3.out.idx TL.out.cZ;unfold zL mN at hf;(go_wp2_with fail);refine hf.mono ?_;rintro e w4 ⟨xc,rfl,T,hm⟩;obtain⟨A9,c9,x3⟩:=(T.ai3 (cV _)).slice;subst x3;have b5:=eA w4 (.cells #[b.cZ.next,b.cZ.check,zu (b.cZ.aX:Nat),.slice A9 b.cZ.fP c9] 57);have r5:=Row.new w4 #[b.cZ.next,b.cZ.check,zu (b.cZ.aX:Nat),.slice A9 b.cZ.fP c9] 57;have⟨B5,R5⟩:=aA (aK hm b5) r5;have hq:=TO TL.out.cZ TL.out.zQ;have l:=(S3.out.next B5.out).eI;rw[q1,q2]at l;obtain⟨x7,xa,l⟩:=l;have R:=cg7 l (aM (aM U.out V3.out.size) B5.out.size) (.slice A9 b.cZ.fP c9) b.cZ (T.GQ.next b5) hq;obtain⟨⟨er,D2⟩,h4⟩:∃r,r=mE J b.cZ:=⟨_,rfl⟩;rw[<-h4]at R;unfold rI mN at R;simp only at R;have y:=aH h4.symm;have e0:=r5.cell 0 (by simp);have W:=r5.cell 1 (by simp);have e2:=r5.cell 2 (by simp);have e3:=r5.cell 3 (by simp);simp only[fA,dA]at e0 W e2 e3;clear hf T hm b5 r5 hq l h4;(go_wp2_with fail);refine R.mono ?_;rintro e w6 ⟨rfl,hs,ha⟩;have R6:=aH (ha.row R5.out MV (λa=>by obtain⟨bb,dd,S⟩:=(S3.out.next B5.out).eI;rw[q1,q2]at S;exact S.rE R5.out a));have⟨V5,S5,V6,F6⟩:=aC (V3.out.trans (S3.out.mB B5.out)) (S3.out.next B5.out) hs ha;clear R hs ha e0 W e2 e3;by_cases h5:er=0
  .subst h5;have hr:=TL.out.rep (by rw[y.out]);rw[y.out]at hr;obtain⟨t1,t2,t3,t4⟩:=hr;have ho:=S5.out.log;simp only at t1 t2 t3 t4;obtain⟨s1,s2⟩:=S5.out.qI (w':=w6) (D':=D2) (by rw[O.out];exact t2) (by rw[q1,q2];exact V6.out) (by rw[q2];exact F6.out);have⟨S6,V7⟩:=aA s1 (V5.out.trans s2);have hg:=bg1 s1 (aM (aM U.out V5.out.size) s2.size) t1 (f b.cZ.check) t3 b.cZ.check TL.out.check t4;rw[q3]at hg;have W:=R6.out.cell 1 (by simp);simp only[fA,dA]at W;have Z:=aH (show fY D G q f=(0,some {b with mem:=(fZ q (f b.cZ.check)).foldl pW b.mem},D2)from by
    rw[RX.out,as3 (by rw[y.out]),y.out])
   clear s1 s2 t1 t2 t3 t4 ho;(go_wp2_with fail);refine hg.mono ?_;rintro e w7 ⟨rfl,hp⟩;have H7:=aH hp;clear hg hp W;go_wp2;(try simp only[Exit.inBlock,Exit.then]);refine bE (results_tmp3 rfl _ _ _) rfl ⟨λa=>?_,λI9 a=>?_⟩
   .rw[Z.out]at a;cases a
   rw[Z.out]at a|-;cases a;obtain⟨h',⟨g1,g2,g3,g4⟩,g5,g6⟩:=H7.out;have e9:b.cZ.aX=q:=SD.out;rw[e9]at g5;exact⟨_,h',g1.trans q1,g2.trans q2,g3.trans q3,by rw[g4];rfl,g5,V7.out.trans g6⟩
  have Z:=aH (show fY D G q f=(er,none,D2)from by
   rw[RX.out,as4 (by rw[y.out];exact h5),y.out])
  go_wp2;try simp only[Exit.inBlock,Exit.then]
  refine bE (results_tmp3 rfl _ _ _) rfl ⟨λa=>?_,λI9 a=>?_⟩
  .rw[Z.out];refine⟨_,rfl,V6.out,?_⟩;exact V5.out.bB3 (λxd a=>.inl (.inl (by rw[q1,q2];exact a))) (p7.nA F6.out (by obtain⟨bb,dd,S⟩:=S5.out.eI;rw[q1]at S;exact S.IZ))
  rw[Z.out]at a;cases a
end Go.Proofs.YtpopikndggffaaaGreatDoor
