/- TOP, part 30. -/
import Derived.Test.YtpopikndggffaaaGreatDoorGm29
namespace Go.Proofs.YtpopikndggffaaaGreatDoor
set_option linter.all false
set_option maxRecDepth 100000
set_option maxHeartbeats 16000000
open Go.RowKit Go.Maps Tryz
variable{C:List (List bK)}{X:List aN}{B:List kK}{d i j k m n:Nat}{w x y:aI}{D:aM}{v:aN}{I:bA}{K:bK->Nat}{H:bK->aN}{G:cT}{S h:dW}
def ID(a q:Nat)(h:dW)(D:aM)(G:cT)(I:bA)(b c:Nat)(d:bK->Nat)(f:bK->aN)(T:List jL)(w:aI)(e:eT)(i:aI):Prop:=
 ∃g,e=.returned (.tuple #[g,.int .i64 0])/\i.ownsRow w.heap.size 133 5 g T.length (fH T)/\l8 a q h D G I b c d f w i
def IA.ah3(P:IA D G I n C B)(k:Nat)(f t:Int):(DT I k f t).length<=8000:=by have⟨s,d,h⟩:=P.ix;have⟨a,b⟩:=S7 h k f t;exact aL (tP (uJ a) λe c=>((b e).1 c).1) P.YV
def l8.bl0(b:l8 n k S D G I m i K H x x)(a:wV n S.m S.d S.x I m D K H x.drew w):l8 n k S D G I m i K H x w:=(b.next mE.drew).xC a.eD a.fr
def l8.ND(e:l8 n k S D G I m i K H y x)(d:aQ5 y k S)(a:x.ownsRow y 133 5 v j X)(c:x.grownBy w v.ownBlock):l8 n k S D G I m i K H y w:=
 e.grown c λg b=>⟨dE a g b,e.nE d (dZ a b) (dE a g b) uM.1 uM.2.1⟩
def KE(R:List lI)(a:aT)(L:List cZ)(k:Nat):List jL:=(L.take k).filterMap (vX R a)
def bd7{R:List lI}{st:aT}{L:List cZ}{o:cZ}(h:L[n]?=o):KE R st L (n+1)=KE R st L n++(vX R st o).toList:=by unfold KE;rw[dQ,h,VP];show _++List.filterMap (vX R st) [o]=_;rw[cy7];cases vX R st o<;>rfl
def bB7(R:List lI)(a:aT)(L:List cZ)(k:Nat):(KE R a L k)<=k:=by unfold KE;exact aL (OT _ _) (by rw[bJ];omega)
def cx6(a q:Nat)(h:dW)(D:aM)(G:cT)(I:bA)(b c:Nat)(d:bK->Nat)(e:bK->aN)(g:List lI)(i:aT)(R:List cZ)(j:aN)(n:Nat)(w:aI)(k:Nat)(f:aN)(wr:aI):Prop:=
 wr.ownsRow w.heap.size 133 5 f (KE g i R k).length (fH (KE g i R k))/\l8 a q h D G I b c d e w wr/\wr.ownsRow w.heap.size 152 3 j n (fX R)
def DS(xa:nQ w n k S D G I m i)(hd:bM w n S.d S.m D K H)(P:IA D G I i C B)(hb:n<=w)(a:aT)(hu:a.size<=1000000)(f t:Int)(hf:-9223372036854775808<=f/\f<=9223372036854775807)(hv:-9223372036854775808<=t/\t<=9223372036854775807):
 Calls prog 96 #[zp k,a,f,t] w (ID n k S D G I m i K H (mX (dB C) I i a f t) w):=by
  have K0:=l8.start xa hd;have⟨R,hR⟩:=kX (DT I (lJ i (lb a)) f t);have hj:mX (dB C) I i a f t=KE (dB C) a R R.length:=(by unfold mX KE;rw[eQ,hR]);rw[hj];have p:∀e∈R,∃r∈dB C,e.2.2=(r.1:Int)/\JH (dB C) e.2.2=some r.2/\wN e/\∃xb:Nat,xb<(kW r.2).2.2.length/\e.2.1=(kW r.2).2.1+(xb:Int):=λe W=>P.place (by rwa[hR]at W);have h:=λ(y:aI)(hy:l8 n k S D G I m i K H w y)=>aI5 hy.idx P.up P.aT8 (aL hb hy.size) (lJ i (lb a)) f t (YI i _) hf hv;rw[<-hR]at h;have V:=λ(y:aI)(hy:l8 n k S D G I m i K H w y)(e:cZ)(W:e∈R)=>(by
   have⟨r,h1,h2,h3,h4,xb,h5,h6⟩:=p e W;exact az1 hy.wM hy.eD P (aL hb hy.size) e h4 r h1 h2 h3 xb h5 h6 a (by unfold maxLen;omega):Calls prog 148 #[.pointer (some ⟨k,0,none⟩),.agg (iX e),.string a] y (WD n k S D G I m i K H (vX (dB C) a e) y))
  have HH:=λy:aI=>DA i a y P.JD hu;have hl:R.length<=8000:=(by rw[hR];exact P.ah3 _ _ _);have⟨xe,hN⟩:=kX R.length;have⟨i0,hr,hw,x0,x4⟩:=info_parts K8;generalize lJ i (lb a)=hx at h HH;have⟨hh,K0,HP,hi,HN,HS⟩:=aE xa.old K0 V h hN (λ(z:aI)(hz:l8 n k S D G I m i K H w z)=>show z.cell? ⟨k,1,none⟩=some (.pointer (some ⟨S.x.X,0,none⟩))/\z.cell? ⟨k,2,none⟩=some (.int .u64 i)from⟨hz.wM.cells.2.1,hz.wM.cells.2.2⟩);unfold cs8 at hi;unfold ID;rw[<-hN]at hl;clear xa hd P hb hR hj p h V hN;go_in;go_wp2_with fail
  go_region_held3 (λz=>z.cell? ⟨k,1,none⟩=some (.pointer (some ⟨S.x.X,0,none⟩))/\z.cell? ⟨k,2,none⟩=some (.int .u64 i))
   (first|(exact HS _ (K0.next mE.drew))|(exact HS _ (K0.bl0 hk)))
   (first|(go_at_call 93;go_call HH _ as e w' ⟨rfl,rfl⟩)|(go_at_call 147;go_call hi _ (K0.next mE.drew) as e w2 ⟨v2,rfl,j,X,hk⟩)|fail)
  obtain⟨A1,c1,rfl,hq,-⟩:=id (Reads.dC j);rw[<-HN.zz]at j hq|-;have⟨HB,hc⟩:=aA (show cx6 n k S D G I m i K H (dB C) a R (.slice A1 xe c1) xe w 0 (.slice none 0 0) w2 from⟨bQ _ _ _ _,K0.bl0 hk,j⟩) X;clear j X hk;go_wp2_with fail
  go_loopw [12,14,15,16,17,39] (λx5 _ _ _ _ xb wr=>∃xc:Nat,xc<=xe/\xb=.int .i64 xc/\cx6 n k S D G I m i K H (dB C) a R (.slice A1 xe c1) xe w xc x5 wr) (λ_ _ _ _ _ xb _=>xe-(intOf xb).toNat)
  .exact⟨0,bO _,rfl,HB⟩
  obtain⟨xc,x7,rfl,q,M,U⟩:=hrel;have⟨xd,hm⟩:=kX ((KE (dB C) a R xc).length);have ht:=bB7 (dB C) a R xc;rw[<-hm]at q ht;have HM:=aH hm;obtain⟨A2,c2,rfl,-⟩:=id (Reads.dC q);by_cases hs:xc<xe
  .have i1:(xc:Int)<xe:=(by omega);obtain⟨e,W⟩:∃e,R[xc]?=some e:=⟨_,aK (by rw[<-HN.zz];exact hs)⟩;have ha:qD w2 (.slice A1 xe c1) R->True:=λ_=>trivial;obtain⟨b,x9,rfl,-,L⟩:=qD.later (w:=wr) (A:=A1) (n:=xe) (c:=c1) (l:=R) ⟨by rw[<-HN.zz];exact Reads.dC U,hc⟩ (by rw[<-HN.zz];omega);have b4:=dO wr (.cells (iX e) 152);have r4:=Row.new wr (iX e) 152;have⟨c0,c3,c4⟩:=L xc e W wr mE;have d:=HP _ (M.next b4) e (bD W);have h0:=aH (bd7 (R:=dB C) (st:=a) W);unfold WD at d;have d0:=r4.cell 0 (by simp[iX]);have d1:=r4.cell 1 (by simp[iX]);have d2:=r4.cell 2 (by simp[iX]);obtain⟨o,ho⟩:∃o,vX (dB C) a e=o:=⟨_,rfl⟩;rw[ho]at d h0;have x6:=aH (λt (h9:o=some t)=>show vX (dB C) a e=some t from ho.trans h9);have⟨x1,x2,x3⟩:=e;unfold iX at *;have⟨F,Y,hp⟩:=aB (M.next b4) (cA q b4) (cA U b4);have x8:=bC wr (.cells #[.int .u64 x1,.int .i64 x2,.int .i64 x3] 152);clear L W ha b4 r4 ho M q U hm;(go_wp2_with fail);go_call d as e w6 ⟨rfl,T⟩;have⟨K6,O6,L6⟩:=aB (F.trans T) (T.fr.own Y uM.1 F.eD.map) (T.fr.own hp pF F.eD.map);clear T d d0 d1 d2 c0 c3 c4;cases o with
   |none=>
    unfold cb9 oJ;simp only[RB,L5];have B7:=aH (dO w6 (.cells #[.string ⟨#[]⟩,.int .i64 0,.string ⟨#[]⟩,.string ⟨#[]⟩,.float .f64 0] 133));go_wp2;go_roundw
    .refine⟨xc+1,by omega,by go_num,?_,K6.next B7,cA L6 B7⟩;rw[h0.zz];simp only[Option.toList_none,fU];rw[<-HM.zz];exact cA O6 B7
    simp[intOf];omega
   |some t=>
    have⟨s,u,v,x,E⟩:=t;unfold oJ;simp only[nW,L2];have Q:=dO w6 (.cells #[.string s,.int .i64 u,.string v,.string x,.float .f64 E] 133);have r7:=Row.new w6 #[.string s,.int .i64 u,.string v,.string x,.float .f64 E] 133;have e0:=r7.rY;have e1:=r7.xD;have e2:=r7.G8;have e3:=r7.zc3;have e4:=r7.zc4;have⟨K7,O7,L7⟩:=aB (K6.next Q) (cA O6 Q) (cA L6 Q);have h7:=aH (aL K7.size (cI (w6.alloc (.cells #[.string s,.int .i64 u,.string v,.string x,.float .f64 E] 133)) (.cells (oJ (s,u,v,x,E)) 133)).size);have O:=EW (w6.alloc (.cells #[.string s,.int .i64 u,.string v,.string x,.float .f64 E] 133)) (s,u,v,x,E);rw[bC]at O;have⟨J,Z⟩:=aA O (cA O7 (cI (w6.alloc (.cells #[.string s,.int .i64 u,.string v,.string x,.float .f64 E] 133)) (.cells (oJ (s,u,v,x,E)) 133)));unfold oJ at J Z h7;simp only at J Z h7;clear Q r7 O;go_wp2_with (first
     |(at_builtin;refine iZ _ rfl _ _ 46 rfl w.heap.size 133 i0 _ 5 64 underlying46 hr hw x0 x4 rfl (by decide) (.slice A2 xd c2) xd (fH (KE (dB C) a R xc)) rfl Z _ 1 (fH [(s,u,v,x,E)]) rfl J (sC _) (by unfold maxLen;omega) (by omega) h7 ?_;intro v9 w9 N hn;have H9:=aH (And.intro N hn);clear N hn))
    have K9:=aH ((K7.next (cI _ (.cells (oJ (s,u,v,x,E)) 133))).ND hh (cA O7 (cI _ _)) H9.2);have L9:=aH (fG (cA L7 (cI _ (.cells (oJ (s,u,v,x,E)) 133))) λg hg=>H9.2.block g (jG (cA L7 (cI _ _)) g hg) λh9=>by have h8:=dI (dZ (cA L7 (cI _ _)) hg) (dZ (cA O7 (cI _ (.cells (oJ (s,u,v,x,E)) 133))) h9.symm);exact absurd h8 (by decide));go_wp2;go_roundw
    .refine⟨xc+1,by omega,by go_num,?_,K9,L9⟩;rw[h0.zz];simp only[Option.toList_some];rw[aP,<-HM.zz,rK];exact H9.1
    simp[intOf];omega
  obtain rfl:xc=xe:=(by omega);have i1:¬(xc:Int)<xc:=(by omega);have⟨Y,F⟩:=aA q M;clear q M U hm;go_wp2;go_ret2;refine⟨_,rfl,?_,F⟩;rw[<-HN.zz,<-HM.zz];exact Y
def l8.cp9(b:l8 n k S D G I m i K H y x)(a:wV n S.m S.d S.x I m D K H x w):l8 n k S D G I m i K H y w:=b.xC a.eD a.fr
def ZW(a q:Nat)(h:dW)(D:aM)(G:cT)(I:bA)(b c:Nat)(d:bK->Nat)(f:bK->aN)(v g:Int)(w:aI)(e:eT)(i:aI):Prop:=
 e=.returned (.tuple #[.int .i64 v,.int .i64 g])/\l8 a q h D G I b c d f w i
def mK(a:List kK)(b:aT):Nat:=(dF (a.flatMap dJ) b).length
def WT(hg:nQ w n k S D G I m i)(hd:bM w n S.d S.m D K H)(P:IA D G I i C B)(X:n<=w.heap.size)(a:aT)(J:a.size<=1000000):
 Calls prog 64 #[.pointer (some ⟨k,0,none⟩),.string a] w (ZW n k S D G I m i K H (if iK a then(mK B a:Int)-1 else -1) (if iK a then 0 else 2) w):=by
  have K0:=aH (l8.start hg hd);have R:=sE hg;have q:=λy:aI=>PX a y (by unfold maxLen;omega);have HL:=aH (λ(y:aI)(j:l8 n k S D G I m i K H w y)(u:Int)(o:-9223372036854775808<=u/\u<=9223372036854775807)=>show Calls prog 99 #[.pointer (some ⟨S.x.X,0,none⟩),.int .u64 (lJ i (lb a):Nat),.int .i64 u] y (λe l=>e=.returned (.tuple #[.int .i64 (wZ I (lJ i (lb a)) u),.int .i64 0])/\l8 n k S D G I m i K H w l)from
   (bc5 j.idx P.up P.aT8 (aL X j.size) (lJ i (lb a)) u (YI i _) o).mono λe l h9=>⟨h9.1,j.cp9 h9.2⟩)
  have⟨O,U⟩:=aA (λ(y:aI)(j:l8 n k S D G I m i K H w y)(u:Int)(o:-9223372036854775808<=u/\u<=9223372036854775807)=>DS j.wM j.eD P (aL X j.size) a J u u o o) (λ(u:Int) (o:(mK B a:Int)-1<=u)=>P.bA0 a o);have h7:mK B a<1073741825:=by
   unfold mK;rcases dX (dF (B.flatMap dJ) a).length with s|s
   .omega
   have hi:(dF (B.flatMap dJ) a).length-1<(dF (B.flatMap dJ) a).length:=(by omega);have h1:=uD P.mO (cY hi);have h2:=P.mO.row a _ _ (aK hi);omega
  have Q:=λy:aI=>DA i a y P.JD J;obtain⟨N,W⟩:∃N,N=mK B a:=⟨_,rfl⟩;rw[<-W]at h7|-;have d:=aH W;obtain⟨-,c1,c2⟩:=hg.cells;obtain⟨hx,h⟩:∃hx,lJ i (lb a)=hx:=⟨_,rfl⟩;rw[h]at HL Q;have HX:=aH h;unfold ZW;clear hg hd P X W h;by_cases M:iK a=true
  .rw[M]at q|-;simp only[eE];go_in;(go_wp2_with fail);refine R.mono ?_;rintro e l ⟨rfl,rfl⟩;(go_wp2_with fail);refine(q _).mono ?_;rintro e l ⟨rfl,rfl⟩;(go_wp2_with fail);refine(Q _).mono ?_;rintro e l ⟨rfl,rfl⟩;clear R q Q;(go_wp2_with fail);go_loopw [7,8,9,10] (λu _ _ _ wr=>∃z:Int,u=.int .i64 z/\(N:Int)-1<=z/\z<=1073741824/\l8 n k S D G I m i K H w wr) (λu _ _ _ _=>(intOf u+2).toNat)
   .exact⟨1073741824,rfl,by omega,by omega,K0.out⟩
   obtain⟨z,rfl,ha,he,Y⟩:=hrel;have b:=U.out z (by rw[<-d.out];exact ha);have Z:=HL.out wr Y z (by omega);obtain⟨-,c1,c2⟩:=Y.wM.cells;obtain⟨v,hv⟩:∃v,v=wZ I hx z:=⟨_,rfl⟩;rw[HX.out,<-hv]at b;rw[<-hv]at Z;have r:=aH b;clear Y b hv;(go_wp2_with fail);refine Z.mono ?_;rintro e w2 ⟨rfl,A⟩;have g:=aH A;clear Z A c1 c2;rcases r.out with⟨h8,s⟩|⟨s,h1,h2,h3⟩
   .subst h8;have T:=aH (show(N:Int)-1=-1 from by rw[d.out];unfold mK;rw[s];rfl);clear s;go_wp2;go_ret2;rw[T.out];exact⟨rfl,g.out⟩
   have f:=O.out w2 g.out v (by omega);unfold ID at f;obtain⟨hf,V⟩:∃hf,hf=mX (dB C) I i a v v:=⟨_,rfl⟩;rw[<-V]at f;have i1:¬v<0:=(by omega);have⟨H3,HB⟩:=aA h3 V;clear h3 V;(go_wp2_with fail);refine f.mono ?_;rintro e w3 ⟨v3,rfl,c,E⟩;obtain⟨A3,c3,rfl,-⟩:=id (Reads.dC c);have p:=aH (g.out.trans E);clear f E c;rcases H3.out with⟨t,x⟩|⟨t,x⟩
   .have F:0<hf.length:=pM.2 (by rw[HB.out];exact t);obtain⟨hh,hm⟩:∃hh,hh=hf.length:=⟨_,rfl⟩;rw[<-hm]at F|-;have hc:(0:Int)<(hh:Int):=(by omega);have HV:=aH (show v=(N:Int)-1 from by rw[x,d.out];rfl);clear t x hm;go_wp2;go_ret2;rw[<-HV.out];exact⟨rfl,p.out⟩
   have L:hf.length=0:=(by rw[HB.out,t];rfl);rw[L];have h6:(N:Int)-1<=v-1:=(by rw[d.out];exact x);clear t x L;go_wp2;go_roundw
   .exact⟨v-1,by go_num,by omega,by omega,p.out⟩
   simp[intOf];omega
  rw[aQ M,aQ M];rw[show iK a=false from by simpa using M]at q;go_in;(go_wp2_with fail);refine R.mono ?_;rintro e l ⟨rfl,rfl⟩;(go_wp2_with fail);refine(q _).mono ?_;rintro e l ⟨rfl,rfl⟩;go_wp2;go_ret2;exact⟨rfl,K0.out⟩
variable{e:Int}{s:aT}
def WR(H:nQ w n k S D G I m i)(d:aT)(o:d.size<=1000000)(f c:Int)(q:DQ f)(p:DQ c):
 Calls prog 95 #[.pointer (some ⟨k,0,none⟩),.string d,.int .i64 f,.int .i64 c] w λe a=>e=.returned (.int .i64 (if IY d f c then 2 else 0))/\w=a:=by
  have g:=sE H;have b:=λy:aI=>PX d y (by unfold maxLen;omega);unfold IY;clear H;rcases l:iK d with _|_
  .rw[l]at b;simp only[CE,Bool.true_or,eE];go_in;(go_wp2_with fail);refine g.mono ?_;rintro e a ⟨rfl,rfl⟩;(go_wp2_with fail);refine(b _).mono ?_;rintro e a ⟨rfl,rfl⟩;go_wp2;go_ret;exact⟨rfl,rfl⟩
  rw[l]at b;by_cases h:f<0
  .simp only[h,decide_true,oH,EP,Bool.true_or,eE];go_in;(go_wp2_with fail);refine g.mono ?_;rintro e a ⟨rfl,rfl⟩;(go_wp2_with fail);refine(b _).mono ?_;rintro e a ⟨rfl,rfl⟩;go_wp2;go_ret;exact⟨rfl,rfl⟩
  by_cases j:c<1
  iterate 2
   ·(first|simp only[h,j,decide_true,decide_false,oH,EP,eE]|simp only[h,j,decide_false,oH,EP,bU,dP]);go_in;(go_wp2_with fail);refine g.mono ?_;rintro e a ⟨rfl,rfl⟩;(go_wp2_with fail);refine(b _).mono ?_;rintro e a ⟨rfl,rfl⟩;go_wp2;go_ret;exact⟨rfl,rfl⟩
def bo1{a:Int}(h:IY s e a=false):0<=e/\1<=a:=by unfold IY at h;simp only[Bool.or_eq_false_iff,cN]at h;omega
section
variable {D:aM}{G:cT}{I:bA}{aZ:Nat}{C:List (List bK)}{Bs:List kK}
def IA.fwd(P:IA D G I aZ C Bs)(b:aT){e a:Int}(d:0<=e)(c:1<=a):mX (dB C) I aZ b e (e+min a 1073741824 - 1)=AB (dF (Bs.flatMap dJ) b) e a false:=by obtain⟨s,f,h⟩:=P.ix;exact ci6 h (qV P.ok) P.mO P.told.1 b d c
def IA.bwd(P:IA D G I aZ C Bs)(b:aT){e a:Int}(d:0<=e)(c:1<=a):(mX (dB C) I aZ b (e - a+1) e).reverse=AB (dF (Bs.flatMap dJ) b) e a true:=by obtain⟨s,f,h⟩:=P.ix;exact ck1 h (qV P.ok) P.mO P.told.1 b d c
def IA.aO2(P:IA D G I aZ C Bs)(a:aT)(f t:Int):(mX (dB C) I aZ a f t).length<=8000:=by unfold mX;exact aL (OT _ _) (P.ah3 _ _ _)
end
def av9(a q:Nat)(h:dW)(D:aM)(G:cT)(I:bA)(b c:Nat)(d:bK->Nat)(f:bK->aN)(T:List jL)(j:Int)(w:aI)(e:eT)(i:aI):Prop:=
 ∃g,e=.returned (.tuple #[g,.int .i64 j])/\i.ownsRow w.heap.size 133 5 g T.length (fH T)/\l8 a q h D G I b c d f w i
def pgT(b:List kK)(a:aT)(f c:Int)(d:Bool):List jL:=if IY a f c then[]else AB (dF (b.flatMap dJ) a) f c d
def pgE(a:aT)(f c:Int):Int:=if IY a f c then 2 else 0
def ab3(O:nQ w n k S D G I m i)(p:bM w n S.d S.m D K H)(P:IA D G I i C B)(q:n<=w.heap.size)(d:aT)(o:d.size<=1000000)(f c:Int)(t:DQ f)(s:DQ c):
 Calls prog 62 #[.pointer (some ⟨k,0,none⟩),.string d,.int .i64 f,.int .i64 c] w (av9 n k S D G I m i K H (pgT B d f c false) (pgE d f c) w):=by
  have h:=WR O d o f c t s;have r:=aH (l8.start O p);unfold DQ at t s;unfold av9 pgT pgE;cases b:IY d f c with
  |true=>
   rw[b]at h;simp only[eE]at h|-;clear O p P q;go_in;(go_wp2_with fail);refine h.mono ?_;rintro e A ⟨rfl,rfl⟩;go_wp2;go_ret2;exact⟨_,rfl,bQ _ _ _ _,r.out⟩
  |false=>
   obtain⟨x,y⟩:=bo1 b;rw[b]at h;simp only[bU,dP]at h|-;by_cases j:1073741824<f
   iterate 2
    ·(first|rw[ci8 P.mO d j]|(obtain⟨Q,z⟩:∃Q,min c 1073741824=Q:=⟨_,rfl⟩;(have g:=DS O p P q d o f (f+Q-1) ⟨by omega,by omega⟩ ⟨by omega,by omega⟩);rw[<-P.fwd d x y,z];unfold ID at g;generalize mX (dB C) I i d f (f+Q-1)=T at g|-;(have J:Q<=1073741824:=by omega);(have L:1<=Q:=by omega)));clear O p P q;go_in;(go_wp2_with fail);refine h.mono ?_;rintro e A ⟨rfl,rfl⟩;(try (go_wp2_with fail;refine g.mono ?_;rintro e N ⟨M,rfl,a,l⟩;obtain⟨E,F,rfl,-⟩:=id (Reads.dC a);have⟨v,u⟩:=aA a l;clear a l g));go_wp2;go_ret2;first|exact⟨_,rfl,bQ _ _ _ _,r.out⟩|exact⟨_,rfl,v.out,u.out⟩
def WU(V:nQ w n k S D G I m i)(t:bM w n S.d S.m D K H)(P:IA D G I i C B)(x:n<=w.heap.size)(g:aT)(s:g.size<=1000000)(f c:Int)(z:DQ f)(y:DQ c):
 Calls prog 63 #[.pointer (some ⟨k,0,none⟩),.string g,.int .i64 f,.int .i64 c] w (av9 n k S D G I m i K H (pgT B g f c true) (pgE g f c) w):=by
  have j:=WR V g s f c z y;have⟨F,l⟩:=aA (l8.start V t) V.old;unfold DQ at z y;unfold av9 pgT pgE;cases b:IY g f c with
  |true=>
   rw[b]at j;simp only[eE]at j|-;clear V t P x;go_in;(go_wp2_with fail);refine j.mono ?_;rintro e M ⟨rfl,rfl⟩;go_wp2;go_ret2;exact⟨_,rfl,bQ _ _ _ _,F.out⟩
  |false=>
   obtain⟨J,L⟩:=bo1 b;rw[b]at j;simp only[bU,dP]at j|-;have h:=DS V t P x g s (f-c+1) f ⟨by omega,by omega⟩ ⟨by omega,by omega⟩;have o:=P.aO2 g (f-c+1) f;rw[<-P.bwd g J L];unfold ID at h;generalize mX (dB C) I i g (f-c+1) f=T at h o|-;clear V t P x;go_in;(go_wp2_with fail);refine j.mono ?_;rintro e M ⟨rfl,rfl⟩;(go_wp2_with fail);refine h.mono ?_;rintro e R ⟨Q,rfl,a,q⟩;have r:=VE a rfl (by omega);obtain⟨N,O,rfl,-⟩:=id (Reads.dC a);have⟨E,A⟩:=aA a q;clear a q h;(go_wp2_with fail);refine r.mono ?_;rintro e U ⟨rfl,d,p⟩;have⟨v,u⟩:=aA d (A.out.ND l.out E.out p);clear d p r;go_wp2;go_ret2;refine⟨_,rfl,?_,u.out⟩;rw[yA];exact v.out
variable{l:List Ev}
def ab7(C:List (List bK)):iD C 0=dB C:=by unfold iD;rw[pN];intro r a;simp
def bF7(A:List lI)(r:lI):zR (A++[r])=zR A++dJ (kW r.2):=by unfold zR;rw[dU];simp
def an8(s:aT)(f:Int)(l:List Ev)(k:Nat):(eG s f (l.take k))<=k:=by rw[yB,bJ];omega
def cA5(b q:Nat)(h:dW)(D:aM)(G:cT)(I:bA)(c d:Nat)(e:bK->Nat)(f:bK->aN)(R:List lI)(w:aI)(g i:aN)(wr:aI):Prop:=
 ∃(A B:List lI)(a:Nat),i=.int .i64 (a:Int)/\R=A++B/\LG G D a B/\a<=1000000/\wr.ownsRow w.heap.size 133 5 g (zR A).length (fH (zR A))/\l8 b q h D G I c d e f w wr
structure bZ9(a q:Nat)(h:dW)(D:aM)(G:cT)(I:bA)(c d:Nat)(j:bK->Nat)(m:bK->aN)(A:List lI)(s:aT)(f:Int)(l:List Ev)(B i:Nat)(o:List aN)(n w:aI)(b:aN)(k:Nat)(e:aI):Prop where
 own:e.ownsRow w.heap.size 133 5 b (zR A++eG s f (l.take k)).length (fH (zR A++eG s f (l.take k)))
 k:l8 a q h D G I c d j m w e
 box:Row e B 129 o
 ev:e.heap[i]?=n.heap[i]?
 apart:∀g,b.ownBlock=some g->g≠i
 sz:i<e.heap.size
def bZ9.next{base n:Nat}{h:dW}{I:bA}{R:List lI}{f:Int}{B j:Nat}{w:aI}{v:aN}{k:Nat}{W:aI}(b:bZ9 base n h D G I m i K H R s f l B j X x w v k y)(a:aS y y W):bZ9 base n h D G I m i K H R s f l B j X x w v k W:=
 ⟨cA b.own a,b.k.next a,b.box.next a,(a.block j b.sz).trans b.ev,b.apart,aW b.sz a.size⟩
def af8(xi:nQ w n k S D G I m i)(hd:bM w n S.d S.m D K H)(P:IA D G I i C B)(hb:n<=w):
 Calls prog 44 #[zp k] w (ID n k S D G I m i K H (B.flatMap dJ) w):=by
  rw[<-P.told.2];have HN:=sE xi;have⟨K0,hi⟩:=aA (l8.start xi hd) xi.old;have hw:=aH (show LG G D 0 (dB C)from by
   have:=ZB P.whole P.ok P.bW 0;rw[<-ab7 C];exact this)
  have⟨hv,HP⟩:=aA hb P;obtain⟨c0,-,-⟩:=xi.cells;have⟨i0,x7,xc,xd,xe⟩:=info_parts K8;have h0:∀A xh r,dB C=A++r::xh->(zR A).length<=8000:=λA xh r e=>by
   have h1:(zR (dB C)).length<=8000:=by
    rw[P.told.2];have h2:∀(X:List kK),(∀b∈X,b.2.2.length<=8)->(X.flatMap dJ).length<=8*X:=λX=>by
     induction X with
     |nil=>intro _;simp
     |cons b X ih=>intro N;rw[eC,aP,bq8,cF];have:=N b zV;have:=ih λx hx=>N x (iG _ hx);omega
    have h3:=h2 B λb hb=>(iM (P.mO.tT b hb).2).2.2.2.1;have:=P.yV;omega
   rw[e]at h1;unfold zR at h1|-;rw[dU,aP]at h1;omega
  have HF:=aH h0;unfold ID;clear xi hd P hb h0;go_in;go_wp2_with fail
  go_call HN as e w' ⟨rfl,rfl⟩;clear HN c0;go_wp2_with fail
  go_loopw [4,5,6,7,8,9,10,11,12] (λhf xj _ _ _ _ _ _ _ wr=>cA5 n k S D G I m i K H (dB C) w hf xj wr) (λ_ xj _ _ _ _ _ _ _ _=>1000000-(intOf xj).toNat)
  .exact⟨[],dB C,0,rfl,rfl,hw,bO _,bQ _ _ _ _,K0⟩
  obtain⟨A,xh,hs,rfl,p,hc,xf,T,hk⟩:=hrel;have R:=aH0 hk.wM.sys.log hk.eD HP.up (aL hv hk.size) HP.bW5 hs (by omega);obtain⟨c0,-,-⟩:=hk.wM.cells;have⟨KK,hu,HO⟩:=aB hk p T;obtain⟨A1,c1,rfl,-⟩:=id (Reads.dC T);cases xh with
  |nil=>
   rw[show CU G D (hs:Nat)=(4,[],0,0)from hc]at R;have HR:=aH (show dB C=A from by rw[p,fU]);clear hc hk p T;simp only at R;(go_wp2_with fail);go_call R as e w2 ⟨rfl,F,-,h⟩;have⟨K2,O2⟩:=aA (KK.xC F h) (h.own HO uM.1 KK.eD.map);clear R F h c0;go_wp2;go_ret2;refine⟨_,rfl,?_,K2⟩;rw[HR.zz];exact O2
  |cons r xh=>
   have⟨hq,x9,Z⟩:=hc;rw[hq]at R;have U:r∈dB C:=(by rw[p];simp);have q1:=(HP.FI.2 r U).2;have q2:=HP.bj7 U;have q3:=HP.bj8 U;have j:=iM (FH q1).1;have⟨ht,x3⟩:=aA (HF A xh r p) Z;have⟨r1,r2⟩:=r;have E:=λy:aI=>QX (bs r2) y (by rw[eK];simp only at q2;omega);rw[gF]at E;rw[show OO r2=0 from by unfold OO;rw[aU q1]]at E;unfold KD at R;simp only at R q2 q3 x9 j;obtain⟨bv,hV⟩:∃bv,kW r2=bv:=⟨_,rfl⟩;rw[hV]at E j;have⟨o,l,V⟩:=bv;obtain⟨p1,p2,p3,p4,p5,p6,-⟩:=j;have HV:=aH hV;clear hq Z hk p T q1 U hV;(go_wp2_with fail);go_call R as e w2 ⟨rfl,F,-,h⟩;have⟨K2,O2⟩:=aA (KK.xC F h) (h.own HO uM.1 KK.eD.map);clear R F h c0;(go_wp2_with fail);go_call E w2 as e W ⟨vb,rfl,⟨⟨A9,c9,rfl,Q,xa,x6,h⟩,h4⟩,h6⟩;simp only at Q xa x6 h p1 p2 p3 p4 p5 p6|-;have⟨xm,hN⟩:=kX V.length;obtain⟨f,c,rfl,ha,hl⟩:=WE.later Q (by omega);obtain⟨A',c',xb,x5,-⟩:=id Q.1;cases xb;have x4:=h4 _ _ _ _ _ rfl f (by simp[Value.ownBlock]);rw[<-hN]at x5 p3 p4 p6|-;have b4:=dO W (.cells #[o,l,.slice (zp f c) xm c9] 129);have r4:=Row.new W #[o,l,.slice (zp f c) xm c9] 129;have O4:=cA (cA O2 h6) b4;have S4:=aH (show bZ9 n k S D G I m i K H A o l V W f [o,l,.slice (zp f c) xm c9] W w (.slice A1 (zR A) c1) 0 (W.alloc (.cells #[o,l,.slice (zp f c) xm c9] 129))from
    ⟨by simpa[eG]using O4,(K2.next h6).next b4,r4,b4.block f ha,λg hg N=>by have:=jG O2 g hg;omega,aW ha b4.size⟩)
   have hy:=aH (λ(xj:Nat)(e:Ev)(he:V[xj]?=e)(z:aI)(hz:z.heap[f]?=W.heap[f]?)=>show z.cell? (zp f (c+xj*3))=e.1/\z.cell? (zp f (c+xj*3+1))=e.2.1/\z.cell? (zp f (c+xj*3+2))=some (.float .f64 e.2.2)from by
    have⟨x0,x1,x2⟩:=hl xj e he W mE;exact⟨(dH (a:=zp f (c+xj*3)) hz).trans x0,(dH (a:=zp f (c+xj*3+1)) hz).trans x1,(dH (a:=zp f (c+xj*3+2)) hz).trans x2⟩)
   have hh:=aH hN;clear E h6 Q h4 ha hl b4 r4 O4 hN x4;(go_wp2_with fail);go_loopw [4,11,12,44] (λhf _ _ xj wq=>∃xk:Nat,xk<=xm/\xj=.int .i64 xk/\bZ9 n k S D G I m i K H A o l V W f [o,l,.slice (zp f c) xm c9] W w hf xk wq) (λ_ _ _ xj _=>xm-(intOf xj).toNat)
   .exact⟨0,bO _,rfl,S4⟩
   obtain⟨xk,hk,rfl,O⟩:=hrel;by_cases x8:xk<xm
   .have i1:(xk:Int)<xm:=(by omega);obtain⟨e,he⟩:∃e,V[xk]?=some e:=⟨_,aK (by rw[<-hh.zz];exact x8)⟩;have⟨x0,x1,x2⟩:=hy xk e he wr O.ev;have hj:=aH (MK o l he);have⟨xl,hm⟩:=kX ((zR A++eG o l (V.take xk)).length);have xg:xl<=8008:=by have h1:=an8 o l V xk;have h2:=ht.zz;rw[hm,aP];omega
    have T:=O.own;rw[<-hm]at T;obtain⟨A2,c2,rfl,-⟩:=id (Reads.dC T);have⟨t,u,v⟩:=e;simp only at x0 x1 x2 hj;have b5:=dO wr (.cells #[t,u,.float .f64 v] 44);have r5:=Row.new wr #[t,u,.float .f64 v] 44;have y0:=(O.next b5).box.rY;have y1:=(O.next b5).box.xD;have z0:=r5.rY;have z1:=r5.xD;have z2:=r5.G8;have L:=EW (wr.alloc (.cells #[t,u,.float .f64 v] 44)) (o,l+(xk:Int),t,u,v);rw[bC]at L;have s:=aH L;have hr:=cA (cA T b5) (cI (wr.alloc (.cells #[t,u,.float .f64 v] 44)) (.cells (oJ (o,l+(xk:Int),t,u,v)) 133));have⟨q,h5,M⟩:=aB hr (aL O.k.size (aL b5.size (cI (wr.alloc (.cells #[t,u,.float .f64 v] 44)) (.cells (oJ (o,l+(xk:Int),t,u,v)) 133)).size)) (O.next b5);unfold oJ at s q h5;simp only at s q h5;have HM:=aH hm;clear T hr L b5 r5 he O hm;go_wp2_with (first
     |(at_builtin;refine qF _ rfl _ _ 46 rfl w 133 i0 _ 5 64 underlying46 x7 xc xd xe rfl (by decide) (.slice A2 xl c2) xl (fH (zR A++eG o l (V.take xk))) rfl q _ 1 (fH [(o,l+(xk:Int),t,u,v)]) rfl s (sC _) (by unfold maxLen;omega) (by omega) h5 ?_;intro v9 w9 J hp Y;have H9:=aH (And.intro J (And.intro hp Y));clear J hp Y))
    have d:=aH (M.next (cI (wr.alloc (.cells #[t,u,.float .f64 v] 44)) (.cells (oJ (o,l+(xk:Int),t,u,v)) 133)));go_wp2;go_roundw
    .
     refine⟨xk+1,by omega,by go_num,⟨?_,d.k.ND hi q H9.2.1,?_,?_,?_,aW d.sz H9.2.1.size⟩⟩
     .rw[hj.zz,<-bV,aP,<-HM.zz,rK];exact H9.1
     .exact d.box.of_block (H9.2.1.block _ d.box.lt λN=>by have h8:=dI d.box (dZ q N.symm);exact absurd h8 (by decide))
     .exact(H9.2.1.block f d.sz λN=>d.apart f N.symm rfl).trans d.ev
     intro g hg N;subst N;rcases H9.zz.2.2 with h8|h8
     .exact d.apart g (by rw[<-h8];exact hg) rfl
     rw[hg]at h8;have h7:=cS h8;have:=d.sz;unfold oJ at this;simp only at this;omega
    simp[intOf];omega
   obtain rfl:xk=xm:=(by omega);have i1:¬(xk:Int)<xk:=(by omega);have M:=aH O;clear O;go_wp2;go_roundw
   .
    refine⟨A++[(r1,r2)],xh,r1+r2+12,by go_num,by rw[hu.zz];simp,x3,q3,?_,M.k⟩;have e9:zR (A++[(r1,r2)])=zR A++eG o l (V.take xk):=by rw[bF7];simp only[HV.zz];unfold dJ;rw[hh.zz,eQ]
    rw[e9];exact M.own
   simp[intOf];omega
def l8.evo(f:l8 n k S D G I m i K H x w)(e:CI x S.d):oD n (gX x S) (gX w S) x w:=by
 refine⟨f.fr.os,f.fr.tape,f.fr.output,f.fr.size,λg c d=>f.fr.block g c (d.imp id λa=>⟨λb=>a (.inl (.inl (.inl b))),λb=>a (.inl (.inl (.inr (.inl b))))⟩),λg c a=>?_⟩;rcases a with(a|a)|a
 .exact .inl (.inl (YP f.fr e g c a))
 .exact .inl (.inr a)
 exact .inr a
def vB.left{n:Nat}{k:Nat}(H:vB w n S k D G I x)(e:Int):EK w n S k e D G I x:=by obtain⟨f,⟨a,b,c,d⟩,s,v⟩:=H;exact s.left a b c d v
def bY4(c q:Nat)(h:dW)(D:aM)(G:cT)(I:bA)(d f:Nat)(g:bK->Nat)(i:bK->aN)(b:List kK)(a:aT)(x:Int)(l:List Ev)(w:aI)(e:eT)(j:aI):Prop:=
 (nB (b.flatMap dJ) a x l≠0->e=.returned (.tuple #[.int .i64 0,.int .i64 (nB (b.flatMap dJ) a x l)])/\l8 c q h D G I d f g i w j)/\
 (nB (b.flatMap dJ) a x l=0->
  ((gU G D (iT (a,(mK b a:Int),l))).1≠0->e=.returned (.tuple #[.int .i64 0,.int .i64 (gU G D (iT (a,(mK b a:Int),l))).1])/\EK w c h d (gU G D (iT (a,(mK b a:Int),l))).1 (gU G D (iT (a,(mK b a:Int),l))).2.2.2 (gU G D (iT (a,(mK b a:Int),l))).2.2.1 I j)/\
  ((gU G D (iT (a,(mK b a:Int),l))).1=0->e=.returned (.tuple #[.int .i64 (mK b a:Nat),.int .i64 0])/\EK w c h d 0 (gU G D (iT (a,(mK b a:Int),l))).2.2.2 (gU G D (iT (a,(mK b a:Int),l))).2.2.1 {I with mem:=(tV f ((gU G D (iT (a,(mK b a:Int),l))).2.1,iT (a,(mK b a:Int),l))).foldl oV I.mem} j))
def EU:¬(129=103\/129=112\/129=5)/\(129:cD)≠3:=by decide
structure OX(a q:Nat)(h:dW)(D:aM)(G:cT)(I:bA)(b c:Nat)(d:bK->Nat)(e:bK->aN)(f:List aN)(w x:aI):Prop where
 k:l8 a q h D G I b c d e w x
 box:Row x w.heap.size 129 f
section
variable {base q:Nat}{h:dW}{D:aM}{G:cT}{I:bA}{cK aZ:Nat}{blk:bK->Nat}{dat:bK->aN}{xs:List aN}{w x y:aI}
def OX.of(H:OX base q h D G I cK aZ blk dat xs w x)(K:l8 base q h D G I cK aZ blk dat x y):OX base q h D G I cK aZ blk dat xs w y:=⟨H.k.trans K,K.fr.row H.box EU.1 (H.k.eD.pX H.box)⟩
def OX.next(H:OX base q h D G I cK aZ blk dat xs w x)(a:aS x x y):OX base q h D G I cK aZ blk dat xs w y:=⟨H.k.next a,H.box.next a⟩
def OX.set(H:OX base q h D G I cK aZ blk dat xs w x)(a:aQ5 w q h)(j:Nat)(u:aN):OX base q h D G I cK aZ blk dat (xs.set j u) w (x.setCell (zp w j) u):=⟨H.k.set a H.box gC EU.1 EU.2 j u,H.box.set j u⟩
def OX.start(H:nQ w base q h D G I cK aZ)(a:bM w base h.d h.m D blk dat)(C:Array aN):OX base q h D G I cK aZ blk dat C.toList w (w.alloc (.cells C 129)):=⟨(l8.start H a).next (dO w _),Row.new w C _⟩
def OX.out(H:OX base q h D G I cK aZ blk dat xs w x)(b:aQ5 w q h):¬gX x h w:=λa=>H.k.nE b H.box gC EU.1 EU.2 (.inl a)
end
def az0(h:eF (s,e,l)=0):iK s=true:=by obtain⟨a,b,-⟩:=iM h;unfold iK;simp only at a b;rw[cJ a,cJ b];rfl
def ck9{T:List jL}{x:Int}(h:eF (s,0,l)≠0):nB T s x l=eF (s,0,l):=by unfold nB;rw[aU h]
def bX9{T:List jL}(h:eF (s,0,l)=0)(a:e< -2):nB T s e l=2:=by unfold nB;rw[aQ (by simp[h]),aU a]
def bX7{T:List jL}(h:eF (s,0,l)=0)(b:-2<=e)(a:e≠-2/\e≠((dF T s):Int)-1):nB T s e l=80:=by unfold nB;rw[aQ (by simp[h]),aQ (by omega),aU a]
def bX8{T:List jL}(h:eF (s,0,l)=0)(b:-2<=e)(a:¬(e≠-2/\e≠((dF T s):Int)-1)):nB T s e l=eF (s,((dF T s):Int),l):=by unfold nB;rw[aQ (by simp[h]),aQ (by omega),aQ a]
def OY.next{w:aI}{n:Nat}{h:dW}{k:Nat}{I:bA}{B:Nat}{r:lI}(H:OY w n h k D G I B X i r m x)(a:aS x x y):OY w n h k D G I B X i r m y:=by have⟨c,e,s,v,b,f⟩:=H;exact⟨c,e,s.next a,v.trans (s.l7 a),b.next a,λd=>f ((s.l7 a).rC B b.lt d)⟩
def ao1{g:Nat}{M:List kK}(y3:nQ w n m S D G I j d)(hd:bM w n S.d S.m D K H)(P:IA D G I d C M)(hS:jQ g d k D G I (M.map iT) i)(hb:n<=w)(b:aT)(xi:b.size<=1000000)(x:Int)(hx:DQ x)(ve:aN)(l:List Ev)(hl:∀w',gS n S.m w w'->WE w' ve l)(hn:l.length<=1000):
 Calls prog 60 #[zp m,b,x,ve] w (bY4 n m S D G I j d K H M b x l w):=by
  have xb:=hl w (gS.refl _ _ _);obtain⟨A,c,rfl,xt,-⟩:=id xb.1;have h0:=OX.start y3 hd #[.string b,.int .i64 0,.slice A l.length c];obtain⟨hu,hv,xn,xm,xk,x0,x7,HP,xr⟩:=cC5 y3.old (λ(z:aI)(V:gS n S.m w z)(f:Int)(hf:DQ f)=>show LH z (.agg #[.string b,.int .i64 f,.slice A l.length c]) (b,f,l)from⟨A,c,rfl,hl z V,by unfold maxLen;simp only;omega,hf.1,hf.2⟩) (λ(z:aI)(V:l8 n m S D G I j d K H w z)=>sE V.wM) (λ(z:aI)(V:l8 n m S D G I j d K H w z)=>WT V.wM V.eD P (aL hb V.size) b xi) hd.FJ (And.intro y3.row y3.out) hb P hS;have ho:=EI _ _ _ (hv.out _ h0.k.fr 0 ⟨by omega,by omega⟩);obtain⟨y0,y1,y2⟩:(w.alloc (.cells #[.string b,.int .i64 0,.slice A l.length c] 129)).cell? ⟨w.heap.size,0,none⟩=some (.string b)/\(w.alloc (.cells #[.string b,.int .i64 0,.slice A l.length c] 129)).cell? ⟨w.heap.size,1,none⟩=some (.int .i64 0)/\(w.alloc (.cells #[.string b,.int .i64 0,.slice A l.length c] 129)).cell? ⟨w.heap.size,2,none⟩=some (.slice A l.length c):=⟨h0.box.rY,h0.box.xD,h0.box.G8⟩;have⟨y6,hN⟩:=kX l.length;rw[<-hN]at xt hn y0 y1 y2 ho h0|-;have⟨H0,hy⟩:=aA h0 hN;have⟨ck,Y⟩:=kX (eF (b,0,l));rw[<-Y]at ho;have E:=aH Y;unfold DQ at hx;clear y3 hd P hS hl xb h0 hb hN Y;go_in;go_wp2_with fail
  go_call ho as e w2 ⟨rfl,xc⟩;have K2:=aH (show OX n m S D G I j d K H [.string b,.int .i64 0,.slice A y6 c] w w2 from H0.out.next xc);clear ho xc y0 y1 y2;have x6:=xn.out w2 K2.out.k;by_cases h1:ck=0
  .subst h1;by_cases h2:x< -2
   .have W:=aH (bX9 (T:=M.flatMap dJ) E.out.symm h2);(go_wp2_with fail);go_call x6 as e w' ⟨rfl,rfl⟩;go_wp2;go_ret2;refine⟨λ_=>⟨by rw[W.out];rfl,K2.out.k⟩,λa=>?_⟩;rw[W.out]at a;exact absurd a (by decide)
   have xa:=aH h2;have Q:=xm.out w2 K2.out.k;unfold ZW at Q;rw[az0 E.out.symm]at Q;simp only[eE]at Q;have⟨N,hm⟩:=kX (mK M b);rw[<-hm]at Q;have t:=aH hm;have xz:N<=1073741824:=by
    rw[hm];unfold mK;rcases dX (dF (M.flatMap dJ) b).length with h0|h0
    .omega
    have hi:(dF (M.flatMap dJ) b).length-1<(dF (M.flatMap dJ) b).length:=(by omega);have h1:=uD HP.out.mO (cY hi);have h2:=HP.out.mO.row b _ _ (aK hi);omega
   clear hm;(go_wp2_with fail);go_call x6 as e w' ⟨rfl,rfl⟩;(go_wp2_with fail);go_call Q as e w3 ⟨rfl,x5⟩;have K3:=aH (K2.out.of x5);have xx:=x5.fr.size;clear Q x5;by_cases h3:x≠-2/\x≠(N:Int)-1
   .have W:=aH (bX7 (T:=M.flatMap dJ) E.out.symm (by have:=xa.out;omega) (by rwa[t.out]at h3));have⟨h4,h5⟩:=h3;have i1:(x != -2)=true:=mW.2 h4;have i2:(x != (N:Int)-1)=true:=mW.2 h5;go_wp2;go_ret2;refine⟨λ_=>⟨by rw[W.out];rfl,K3.out.k⟩,λa=>?_⟩;rw[W.out]at a;exact absurd a (by decide)
   have W:=aH (bX8 (T:=M.flatMap dJ) E.out.symm (by have:=xa.out;omega) (by rwa[t.out]at h3));have xv:(x != -2)=false\/((x != -2)=true/\(x != (N:Int)-1)=false):=by
    by_cases h4:x=-2
    .exact .inl (by rw[h4];rfl)
    refine .inr ⟨mW.2 h4,?_⟩;have:x=(N:Int)-1:=by
     by_cases h5:x=(N:Int)-1
     .exact h5
     exact absurd ⟨h4,h5⟩ h3
    rw[this];simp
   have f1:=K3.out.box.J3;have y0:=K3.out.box.rY;have y1:=K3.out.box.xD;have y2:=K3.out.box.G8;have K4:=aH (K3.out.set hu.out 1 (.int .i64 N));have L:=aO7 _ _ _ (hv.out _ K4.out.k.fr (N:Int) ⟨by omega,by omega⟩);rw[<-hy.out]at L;have⟨c2,x4⟩:=kX (eF (b,(N:Int),l));have⟨PB,x3⟩:=kX (bs (iT (b,(N:Int),l)));rw[<-x4,<-x3]at L;have⟨hw,x8⟩:=aA x4 x3;have i3:(N:Int)-1+1=(N:Int):=(by omega);clear h3 h2 x4 x3;rcases xv with i1|⟨i1,i2⟩
   all_goals
    (go_wp2_with fail);go_call L as e w5 ⟨rfl,xd⟩;have O:=aH (K4.out.next xd);clear L xd y0 y1 y2 f1;by_cases h4:c2=0
    .subst h4;have o:tS (b,(N:Int),l):=⟨(hv.out _ K4.out.k.fr (N:Int) ⟨by omega,by omega⟩).okB,hw.out.symm⟩;have hs:=(aC6 o.2).2;have xg:PB.size<=2000:=(by rw[x8.out,eK];exact hs);have F:=bb0 O.out.k.wM.sys.log O.out.k.eD HP.out.up (aL x7.out O.out.k.size) PB xg;have xf:lb PB=iT (b,(N:Int),l):=(by rw[x8.out,gF]);have ht:=QZ xr.out hs;rw[xf]at F;have X:=aH (show nB (M.flatMap dJ) b x l=0 from by rw[W.out];have:=hw.out;rw[t.out]at this;exact this.symm);have h6:=(as1 o.2 o.1).1;have⟨p,hp⟩:=kX (iT (b,(N:Int),l));rw[<-hp]at F ht h6 hs;have he:=aH hp;have ha:qN p=true:=by
      have:=(as1 o.2 o.1).2;rw[<-hp]at this;unfold OO at this;by_cases a:qN p=true
      .exact a
      rw[aQ a]at this;exact absurd this (by decide)
     obtain⟨⟨er,h,G',D'⟩,hr⟩:∃r,r=gU G D p:=⟨_,rfl⟩;rw[<-hr]at F ht;have⟨HR,x9,hc,xq⟩:=aC hr.symm ht h6 ha;unfold LOp at F;simp only at F;have⟨c0,c1,c2⟩:=O.out.k.wM.cells;clear xf hp hr ht h6 ha o xg hs;(go_wp2_with fail);go_call F as e w6 ⟨rfl,U,⟨v',xs,hq,h7,s⟩,Z⟩;have ES:=oD.orS (h:=S) (h':={S with v:=v'}) rfl (oD.NV Z O.out.k.wM.sys.log.eD h7);have E6:=aH ((O.out.k.evo xk.out).trans ES);have u:=x9.out.bP;simp only at u;have V6:=aH U;clear F c0 c1 c2;by_cases h5:er=0
     .subst h5;obtain rfl:=s (by decide);have K6:=(O.out.k.wM.sys.xJ U (by rw[u];exact hq) Z h7).1;have J:=O.out.out hu.out;have xw:h<1000000:=by
       rcases x9.out.it with⟨a,-⟩|⟨-,a,-⟩|⟨a,-⟩
       .exact absurd (gQ Prod.fst a) (by simp)
       .exact a
       exact absurd a (by simp)
      have S6:=aH (show OY w n S j D' G' I w.heap.size [.string b,.int .i64 N,.slice A y6 c] d (h,p) 0 w6 from⟨{S with v:=v'},⟨rfl,rfl,rfl,rfl⟩,K6,E6.out,O.out.box.of_block (ES.block _ O.out.box.lt (.inr J)),λa=>J (ES.rC _ O.out.box.lt a)⟩);have hg:=aH (λ(z:aI) (y5:Nat) (V:OY w n S j D' G' I w.heap.size [.string b,.int .i64 N,.slice A y6 c] d (h,p) y5 z)=>show z.cell? ⟨m,1,none⟩=some (.pointer (some ⟨S.x.X,0,none⟩))/\z.cell? ⟨m,2,none⟩=some (.int .u64 d)/\z.cell? ⟨w.heap.size,1,none⟩=some (.int .i64 N)from by
       have e9:=V.to.stays x0.out.1.lt x0.out.2;have rq:=x0.out.1.of_block e9;obtain⟨xy,-,-,-,rb,-⟩:=V;exact⟨rq.xD,rq.G8,rb.xD⟩)
      have xl:=aH (λ(y5:Nat)(hk:y5<y6)=>show wN (lJ d (lb b),(N:Int)+(y5:Int),(h:Int))/\pZ (lJ d (lb b),(N:Int)+(y5:Int),(h:Int))=true from by
       have:=bn4 (aZ:=d) (R:=[(h,p)]) (λr hr=>by
        rw[bT]at hr;subst hr;exact⟨xq.out,by simp only;omega⟩) (lJ d (lb b),(N:Int)+(y5:Int),(h:Int)) (by
        have:=bU4 (aZ:=d) (A:=[]) (B:=[]) (r:=(h,p)) (k:=y5) (by simp only;rw[hc.out,<-hy.out];exact hk);simp only[hc.out]at this;exact this)
       exact this)
      have⟨q1,q2,q3⟩:=hg.out w6 0 S6.out;have hh:=λy:aI=>DA d b y HP.out.JD xi;clear U hq h7 s Z ES K6 J u;(go_wp2_with fail);go_call hh _ as e w' ⟨rfl,rfl⟩;clear hh q1 q2 q3;(go_wp2_with fail);go_loopw [17,18,83] (λ_ _ y4 wq=>∃y5:Nat,y5<=y6/\y4=.int .i64 y5/\OY w n S j D' G' I w.heap.size [.string b,.int .i64 N,.slice A y6 c] d (h,p) y5 wq) (λ_ _ y4 _=>y6-(intOf y4).toNat)
      .exact⟨0,bO _,rfl,S6.out⟩
      obtain⟨y5,hk,rfl,h8⟩:=hrel;have hj:=aH h8;by_cases xu:y5<y6
      .have i4:(y5:Int)<y6:=(by omega);have⟨x1,x2⟩:=xl.out y5 xu;have q:=λ(z:aI)(V:aS wr.heap.size wr z)=>(hj.out.next V).call (aL x7.out (hj.out.next V).to.size) (lJ d (lb b),(N:Int)+(y5:Int),(h:Int)) (by simp only[hc.out]) x1 x2 (by
        have h1:=vY (yW d (h,p) y5) I.mem;have h2:(yW d (h,p) y5).length=y5:=(by simp[yW]);have h3:=HP.out.Y2.1;omega)
       unfold iX at q;simp only at q;obtain⟨-,⟨j1,j2⟩,j3⟩:=id x1;simp only at j1 j2;have z1:∀x:dY wr,x.it.cell? ⟨m,1,none⟩=some (.pointer (some ⟨S.x.X,0,none⟩)):=λx=>(hg.out _ y5 (hj.out.next x.ok)).1;have z2:∀x:dY wr,x.it.cell? ⟨w.heap.size,1,none⟩=some (.int .i64 N):=λx=>(hg.out _ y5 (hj.out.next x.ok)).2.2;clear h8 x1 x2 j3;(go_wp2_with fail);refine iS (by kernel_rfl) (by kernel_rfl) (by kernel_rfl) (by kernel_rfl) (by kernel_rfl) ?_;simp only[List.dropLast,List.drop,List.length];(repeat go_big_quiet_step (fail));refine wpQuiet_nil ?_;rintro _ ⟨⟨wz,xj⟩,rfl⟩;have xe:=q _ xj;clear q z1 z2 xj;(go_wp2_with fail);go_call xe as e w7 ⟨rfl,xh⟩;have xo:=aH xh;clear xe xh;go_wp2;go_roundw
       .exact⟨y5+1,by omega,by go_num,xo.out⟩
       simp[intOf];omega
      obtain rfl:y5=y6:=(by omega);have i4:¬(y5:Int)<y5:=(by omega);obtain⟨-,-,q3⟩:=hg.out wr y5 h8;have xp:=aH h8.to;clear h8;go_wp2;go_ret2;refine⟨λa=>absurd X.out a,λ_=>⟨λa=>?_,λ_=>?_⟩⟩
      .rw[<-t.out,<-he.out,HR.out]at a;exact absurd rfl a
      rw[<-t.out,<-he.out,HR.out];refine⟨rfl,?_⟩;have e9:tV d (h,p)=yW d (h,p) y5:=by rw[<-ak5];simp only[hc.out];rw[<-hy.out]
      simp only[e9];exact xp.out.left 0
     have SL:=aH (show EK w n S j er D' G' I w6 from⟨{S with v:=v'},rfl,rfl,rfl,rfl,U,λa=>by obtain rfl:=s a;exact(O.out.k.wM.sys.xJ U (by rw[u];exact hq) Z h7).1,E6.out⟩);clear U hq h7 s Z ES u;go_wp2;go_ret2;refine⟨λa=>absurd X.out a,λ_=>⟨λ_=>?_,λa=>?_⟩⟩
     .rw[<-t.out,<-he.out,HR.out];exact⟨rfl,SL.out⟩
     rw[<-t.out,<-he.out,HR.out]at a;exact absurd a h5
    have X:=aH (show nB (M.flatMap dJ) b x l=c2 from by rw[W.out];have:=hw.out;rw[t.out]at this;exact this.symm);go_wp2;go_ret2;refine⟨λ_=>⟨by rw[X.out];rfl,O.out.k⟩,λa=>?_⟩;rw[X.out]at a;exact absurd a h4
  have W:=aH (ck9 (T:=M.flatMap dJ) (x:=x) (by rw[<-E.out];exact h1));go_wp2_with fail
  go_call x6 as e w' ⟨rfl,rfl⟩;go_wp2;go_ret2;refine⟨λ_=>⟨by rw[W.out,<-E.out];rfl,K2.out.k⟩,λa=>?_⟩;rw[W.out,<-E.out]at a;exact absurd a h1
section
variable {cap aZ s S:Nat}{D:aM}{G:cT}{I:bA}{Bs:List kK}
def jQ.as6(h:jQ cap aZ s D G I (Bs.map iT) S)(z:kU Bs)(q:Bs.length<=1000)(K:s<90)(d:aZ<18446744073709551616):aw8 D G I:=by
 obtain⟨O,P⟩:=h.stP z q d;have k:=qK z.tT;have p:=λf=>M5 h k K d f;have v:=LI h;obtain⟨C,Q,u,m,g⟩:=h.st;have i:=u.log.ok;obtain⟨w,x,y⟩:=yS i m k aZ;obtain⟨⟨R,T⟩,⟨L,M,N⟩,A⟩:=lW.1 g.cV;have H:=g.next;have t:I.cV.next∉I.cV.fC.flatten:=λB=>(by have:=A _ B;omega);refine⟨λj=>?_,by unfold nM;rw[bH];exact⟨L,M,N⟩,t,λn E=>by have:=A n E;omega,by omega,λl F=>?_,by rw[g.yJ];exact d,λf=>?_,⟨by have:=P.Y2.1;omega,?_,λe o=>(P.Y2.2 e o).1⟩⟩
 .obtain⟨a,b,c⟩:=v;rcases c with⟨-,c⟩|⟨c,-⟩
  .exact⟨c.up,b⟩
  exact absurd c j
 .have:=(YQ g w x (λr J=>(y r J).1) (at6 u.log) (by have:=yE i;have:=i.1;omega) (by omega) l).ok;rw[u.bW];exact this
 .rcases p f with⟨-,j,-⟩|⟨-,-,-,j,-⟩
  .exact j
  exact j
 unfold vU;rw[g.Q0,fI,dL];exact λe o=>(P.Y2.2 e o).2
def jQ.Y0(h:jQ cap aZ s D G I (Bs.map iT) S)(t:kU Bs)(v:Bs.length<=1000)(F:s<90)(j:aZ<18446744073709551616)(k:Int)(E:¬(k<0\/5<=k))(g:I.cV.fC.getD k.toNat []≠[]):(jV ((I.cV.fC.getD k.toNat []).map λn=>(I.fA n).getD [])).length<=8*Bs.length:=by
 have d:=qK t.tT;obtain⟨C,y,x,a,b⟩:=h.st;obtain⟨l,m,o⟩:=yS x.log.ok a d aZ;have w:=b.next;have c:=O0 b l m (by omega) (k:=k.toNat) (by omega) g;have f:=c.may;unfold vU at f;simp only[bL]at f;have z:(jV ((I.cV.fC.getD k.toNat []).map λn=>(I.fA n).getD [])).length<=(fJ aZ (dB C)).length:=tP (uJ f.1) λe u=>by have p:=(c.eq e).1 (.inl u);obtain⟨r,i,q⟩:=nP.1 p;exact nP.2 ⟨r,(eW.1 i).1,q⟩
 have A:=BQ (aZ:=aZ) (R:=dB C) λr i=>(o r i).2;have B:(dB C).length=Bs.length:=(by rw[qY,a,gR]);omega
def jQ.bl8(h:jQ cap aZ s D G I (Bs.map iT) S)(l:kU Bs)(b:Bs.length<=1000)(v:s<90)(a:aZ<18446744073709551616)(k:Int):aw3 D I k:=by
 obtain⟨A,P⟩:=h.stP l b a;have n:=qK l.tT;have g:=h.as6 l b v a;have q:=P.aT8;obtain⟨C,B,y,m,c⟩:=h.st;have p:=y.log.ok;obtain⟨r,t,z⟩:=yS p m n aZ;have x:=c.next;have o:=h.Y0 l b v a k;refine⟨q,g.val,g.nn,g.sm,g.nx,g.aZ,λw i=>?_⟩;have d:=O0 c r t (by omega) (k:=k.toNat) (by omega) i;have u:=o w i;refine⟨d.ok,λf=>?_,by omega,d.may⟩;have j:=WL h.up h.tW h.sys c a (gV s) (aO _) d f;simp only at j;rcases j with⟨-,-,-,-,e,-⟩|⟨-,-,-,-,e,-⟩|⟨-,-,-,e,-⟩
 .exact e
 .exact e
 exact e
end
def aP9(w:aI)(a:Nat)(h:dW)(b:Nat)(D:aM)(G:cT)(I:bA)(e:eT)(c:aI):Prop:=
 e=.returned (.int .i64 (fY G D).1)/\EK w a h b (fY G D).1 (fY G D).2.2 (fY G D).2.1 I c
def az4(H:nQ w n k S D G I m i)(q:n<=w.heap.size)(j:D.down=false)(d:(fY G D).2.2.bP=D.bP):
 Calls prog 65 #[.pointer (some ⟨k,0,none⟩)] w (aP9 w n S m D G I):=by
  obtain⟨A,C,s⟩:=H.sys.eD;have p:=sE H;have g:=ai7 H.sys.log s q j;obtain⟨B,-,-⟩:=H.cells;have o:=aH H.sys;unfold aP9;obtain⟨⟨E,y,x⟩,t⟩:∃r,r=fY G D:=⟨_,rfl⟩;rw[<-t]at g d|-;unfold LOp at g;simp only at g d|-;clear H s q j t;go_in;(go_wp2_with fail);refine p.mono ?_;rintro e K ⟨rfl,rfl⟩;(go_wp2_with fail);refine g.mono ?_;rintro e J ⟨rfl,f,⟨u,l,h,c,a⟩,b⟩;have z:=aH (show EK w n S m E x y I J from⟨{S with v:=u},rfl,rfl,rfl,rfl,f,λF=>by obtain rfl:=a F;exact(o.out.xJ f (by rw[d];exact h) b c).1,oD.orS (h:=S) (h':={S with v:=u}) rfl (oD.NV b o.out.log.eD c)⟩);clear g p f h c a b B;go_wp2;go_ret;exact⟨rfl,z.out⟩
def az3(H:nQ w n k S D G I m i)(h:n<=w.heap.size)(b:D.down=false)(l:aw8 D G I):
 Calls prog 66 #[.pointer (some ⟨k,0,none⟩)] w (WC w n S m D G I):=by
  have q:=sE H;have g:=λ(y:aI)(d:aS w.heap.size w y)=>aI7 (H.next d).sys (aL h d.size) b l;have L:∀x:dY w,x.it.cell? ⟨k,0,none⟩=some (.pointer (some ⟨S.L,0,none⟩)):=λx=>(H.next x.ok).cells.1;have M:∀x:dY w,x.it.cell? ⟨k,1,none⟩=some (.pointer (some ⟨S.x.X,0,none⟩)):=λx=>(H.next x.ok).cells.2.1;have p:=aH H.sys;have r:=aH (λ(y:aI)(d:aS w.heap.size w y)(e:eT)(z:aI)(c:WC y n S m D G I e z)=>show WC w n S m D G I e z from by
   obtain⟨f,C,E,B,t,u,v,A,F,J,K⟩:=c;exact⟨f,C,E,B,t,u,v,A,F,J,(p.out.l7 d).trans K⟩)
  clear H h b l;go_in;(go_wp2_with fail);refine q.mono ?_;rintro e N ⟨rfl,rfl⟩;(go_wp2_with fail);refine iS (by kernel_rfl) (by kernel_rfl) (by kernel_rfl) (by kernel_rfl) (by kernel_rfl) ?_;simp only[List.dropLast,List.drop,List.length];repeat go_big_quiet_step (fail)
  refine wpQuiet_nil ?_;rintro _ ⟨⟨P,a⟩,rfl⟩;have j:=g _ a;have s:=aH a;clear g L M a;(go_wp2_with fail);refine j.mono ?_;rintro e O c;have o:=aH (r.out _ s.out _ _ c);obtain⟨f,-,rfl,-⟩:=c;clear j;go_wp2;go_ret;exact o.out
def az2(H:nQ w n k S D G I m i)(c:n<=w.heap.size)(a:D.down=false)(r:Int)(d:DQ r)(g:aw3 D I r):
 Calls prog 67 #[.pointer (some ⟨k,0,none⟩),.int .i64 r] w (bp0 w n S m D G I r):=by
  have l:=sE H;have b:=aI6 H.sys c a r d g;obtain⟨-,o,-⟩:=H.cells;clear H c a g d;go_in;(go_wp2_with fail);refine l.mono ?_;rintro e p ⟨rfl,rfl⟩;(go_wp2_with fail);refine b.mono ?_;rintro e q h;have j:=aH h;obtain⟨f,-,rfl,-⟩:=h;clear b o;go_wp2;go_ret;exact j.out
def WS(H:nQ w n k S D G I m i)(c:zH I.cV=true):
 Calls prog 13 #[.pointer (some ⟨k,0,none⟩)] w (λe q=>(∃o,e=.returned (.agg (mH I.cV o).toArray))/\aS w.heap.size w q):=by
  have h:=dO w (.cells #[.int .i64 0,.int .i64 0,.int .u64 0,.slice none 0 0] 57);have p:=Row.new w #[.int .i64 0,.int .i64 0,.int .u64 0,.slice none 0 0] 57;have d:=H.next h;have l:=sE d;have g:=vW d.sys.idx c;unfold wL mH at g;obtain⟨-,u,-⟩:=d.cells;have⟨s,t⟩:=aA h p;have K:=bC w (.cells #[.int .i64 0,.int .i64 0,.int .u64 0,.slice none 0 0] 57);unfold mH;clear H d h p c;go_in;(go_wp2_with fail);refine l.mono ?_;rintro e q ⟨rfl,rfl⟩;(go_wp2_with fail);refine g.mono ?_;rintro e L ⟨o,rfl,b,a⟩;obtain⟨r,x,j⟩:=(b.Y9 (aO _)).slice;subst j;obtain⟨⟨y,z,A,B⟩,C,E,F,J⟩:=gY (t.out.next a);have f:=aH (aJ s.out a);clear g l b a u;go_wp2;refine bG (v:=.agg #[.int .i64 (I.cV.next:Nat),.int .i64 (I.cV.check:Nat),.int .u64 (I.cV.aZ:Nat),.slice r I.cV.fC.length x]) (by simp[results,results13,go_sem,y,z,A,B]) rfl ⟨⟨_,rfl⟩,?_⟩;exact(((f.out.setCell (aO _) _).setCell (aO _) _).setCell (aO _) _).setCell (aO _) _
variable{M:iY}
def bY8(a m d:Nat)(D:aM)(o:Option bA)(i:Int)(b:Nat)(w:aI)(e:eT)(c:aI):Prop:=∃h:oG,
 e=.returned (.tuple #[bA7 h.X o,.int .i64 i])/\(∃f g,bM c a d m D f g)/\gS a m w c/\∀I,o=some I->oQ c a d h I b/\∀k,h.T k->CH w c d m k
def O8{G:cT}{aZ:Nat}(h:(oX D).1≠0):kQ D G aZ=((oX D).1,none):=by unfold kQ;rw[aU h]
def AN{G:cT}{aZ:Nat}(h:oX D=(0,M))(a:M.aZ≠aZ\/jJ G.bW<M.check):kQ D G aZ=(90,none):=by unfold kQ;rw[h];simp only[ne_eq,not_true_eq_false,dP];rw[aU a]
def JV{G:cT}{aZ:Nat}(h:oX D=(0,M))(a:¬(M.aZ≠aZ\/jJ G.bW<M.check)):kQ D G aZ=vQ D M:=by unfold kQ;rw[h];simp only[ne_eq,not_true_eq_false,dP];rw[aQ a]
def aH1(h:oX D=(0,M)):zH M=true:=by
 unfold oX at h;split at h
 .cases h
 split at h
 .cases h
 rename_i f c;by_cases a:uI f.data=true
 .have b:M=getM f.data:=(Prod.mk.inj h).2.symm;rw[b];exact(as2 a).1
 unfold SR at h;rw[aQ a]at h;cases h
def bu2(hd:bM w k n m D K H)(hl:kD w k n i G D.bP false v)(hb:k<=w.heap.size)(V:D.down=false)(a:Nat)(F:a<18446744073709551616)(l:Nat):
 Calls prog 120 #[.pointer (some ⟨n,0,none⟩),.pointer (some ⟨i,0,none⟩),.int .u64 a,.float .f64 l] w (bY8 k m n D (kQ D G a).2 (kQ D G a).1 l w):=by
  have P:=ci0 hd;unfold aw4 at P;obtain⟨⟨er,M⟩,hM⟩:∃r,r=oX D:=⟨_,rfl⟩;rw[<-hM]at P;have⟨L,HD,h2,h6⟩:=aC hM.symm hd hl V;unfold bY8 mH at *;obtain⟨J,j,f,s⟩:=M;simp only at P;clear hd hl V hM;go_in;(go_wp2_with fail);refine P.mono ?_;rintro e t ⟨lv,rfl,B,R,A⟩;obtain⟨u,z,h7⟩:=(B.Y9 (aO _)).slice;subst h7;have Z:=dO t (.cells #[.int .i64 J,.int .i64 j,.int .u64 f,.slice u s.length z] 57);have O:=Row.new t #[.int .i64 J,.int .i64 j,.int .u64 f,.slice u s.length z] 57;have⟨p,d,g,h5,h3,h1⟩:=aE R A Z O B (h2.out.xC HD.out A);clear P B R A;by_cases h0:er=0
  .subst h0;have C:=aH1 L.out;by_cases hs:f=a
   iterate 2
    .first|subst hs;have Y:=λy (hy:aS (t.alloc (.cells #[.int .i64 J,.int .i64 j,.int .u64 f,.slice u s.length z] 57)).heap.size (t.alloc (.cells #[.int .i64 J,.int .i64 j,.int .u64 f,.slice u s.length z] 57)) y)=>Q6 ((h1.out.next g.out).next hy);obtain⟨E,hE⟩:∃E,E=jJ G.bW:=⟨_,rfl⟩;rw[<-hE]at Y|(have i1:((f:Int) != (a:Int))=true:=mW.2 (by omega))
     have z2:∀x:dY (t.alloc (.cells #[.int .i64 J,.int .i64 j,.int .u64 f,.slice u s.length z] 57)),x.it.cell? ⟨t.heap.size,2,none⟩=some (.int .u64 f):=λx=>(O.next x.ok).cell 2 (by simp)
     first
      |have z1:∀x:dY (t.alloc (.cells #[.int .i64 J,.int .i64 j,.int .u64 f,.slice u s.length z] 57)),x.it.cell? ⟨t.heap.size,1,none⟩=some (.int .i64 j):=λx=>(O.next x.ok).cell 1 (by simp)
       by_cases he:E<j
       iterate 2
        ·(first|((have i1:¬(E:Int)<(j:Int):=by omega);(have N:=aH (JV (aZ:=f) (G:=G) L.out (λo=>o.elim (λh=>h rfl) (λh=>he (by rw[hE];exact h)))));have h4:=aH C)|((have i1:(E:Int)<(j:Int):=by omega);(have N:=aH (AN (aZ:=f) (G:=G) L.out (.inr (by rw[<-hE];exact he))))));clear hE Z O C;(go_wp2_with fail);refine cU (by kernel_rfl) (by kernel_rfl) ?_;(repeat go_big_quiet_step ((rename_i x;first|(go_at_call 119;exact eP x (Y _ x.ok)))));refine wpQuiet_nil ?_;intro _ W;obtain⟨⟨wq,c⟩,rfl⟩:=W;have b:=aH (aJ g.out c);(first|(have Q:=h5.out.next c;(have c0:=Q.cell 0 (by simp));(have c1:=Q.cell 1 (by simp));(have c2:=Q.cell 2 (by simp));(have c3:=Q.cell 3 (by simp));simp only[bX,bE]at c0 c1 c2 c3;have q:=YG (p.out.next b.out) (aL hb (aL d.out.size b.out.size)) h6.out (.slice u s.length z) ⟨J,j,f,s⟩ (h3.out.E9.next b.out) h4.out F l;unfold W8 mH at q;simp only at q;clear z1 z2 Y c Q;go_wp2_with fail;refine q.mono ?_;rintro e w5 ⟨W,rfl,S,T,U⟩;have X:=aH (And.intro S (And.intro T U));clear q S T U c0 c1 c2 c3)|clear z1 z2 Y c);go_wp2;go_ret2;rw[N.out];first|exact⟨W,rfl,X.out.1,(d.out.trans (gS.cQ b.out _ _)).trans X.out.2.1,λI o=>⟨(X.out.2.2 I o).1,λh8 hk=>CH.of (aL d.out.size b.out.size) ((X.out.2.2 I o).2 h8 hk)⟩⟩|(exact⟨⟨0,0,0,.bool true,.bool true,λ_=>0,λ_=>False,λ_=>False⟩,rfl,⟨_,_,p.out.next b.out⟩,d.out.trans (gS.cQ b.out _ _),λI o=>by cases o⟩)
      |have N:=aH (AN (aZ:=a) (G:=G) L.out (.inl hs))
       clear Z O C;(go_wp2_with fail);refine cU (by kernel_rfl) (by kernel_rfl) ?_;(repeat go_big_quiet_step (fail));refine wpQuiet_nil ?_;intro _ W;obtain⟨⟨wq,c⟩,rfl⟩:=W;have b:=aH (aJ g.out c);clear z2 c;go_wp2;go_ret2;rw[N.out];exact⟨⟨0,0,0,.bool true,.bool true,λ_=>0,λ_=>False,λ_=>False⟩,rfl,⟨_,_,p.out.next b.out⟩,d.out.trans (gS.cQ b.out _ _),λI o=>by cases o⟩
  have N:=aH (O8 (G:=G) (aZ:=a) (by rw[L.out];exact h0));clear Z O;go_wp2;go_ret2;rw[N.out,L.out];exact⟨⟨0,0,0,.bool true,.bool true,λ_=>0,λ_=>False,λ_=>False⟩,rfl,⟨_,_,p.out.next g.out⟩,d.out.trans (gS.cQ g.out _ _),λI o=>by cases o⟩
variable{a:Nat->List lI}
def aM7(g:KV D.files C)(c:J2 C)(b:G.bW=eL C):aa0 G D:=λn i=>by
 have h:G.bW.length=C.length:=by rw[b];simp
 have a:n<C.length:=by omega
 obtain⟨f,e,d⟩:=g n a;refine⟨f,e,?_,by rw[d];exact c.2.2 n a⟩;rw[d,b,b8];unfold eL;rw[FZ,aK a];rfl
structure aQ3(b a s:Nat)(D:aM)(G:cT)(C:List (List bK))(c:List kK):Prop where
 up:D.down=false
 tW:D.cap=b
 small:b<=1048576
 sys:Sys b 98 D.files
 log:∃P,vF D.files G C C.flatten.length P/\EN D.files a s (dB C) P
 mO:kU c
 same:C.flatten=c.map iT
 yV:c.length<=1000
 JD:a<18446744073709551616
def aG5(h:(kQ D G n).2=some I):(kQ D G n).1=0/\zH I.cV=true/\I.cV.aZ=n/\I.mem=[]/\I.cV.check<=jJ G.bW:=by
 by_cases d:(oX D).1=0
 .obtain⟨M,c⟩:∃M,oX D=(0,M):=⟨(oX D).2,by rw[<-d]⟩;by_cases a:M.aZ≠n\/jJ G.bW<M.check
  .rw[AN c a]at h;cases h
  rw[JV c a]at h|-;have e:M.aZ=n:=Classical.byContradiction λb=>a (.inl b);have i:¬jJ G.bW<M.check:=λb=>a (.inr b);unfold vQ at h|-;split at h
  .cases h
  rename_i f;rw[aQ f];split at h
  .cases h
  rename_i g;rw[aQ g];cases h;exact⟨rfl,aH1 c,e,rfl,by simp only;omega⟩
 rw[O8 d]at h;cases h
structure W7(c:Nat)(D a:aM)(G:cT)(I:bA)(b:Nat->List lI):Prop where
 cV:zH I.cV=true
 yJ:I.cV.aZ<18446744073709551616
 check:I.cV.check<=1000000
 err:(lF a I.cV).1≠0->(lF a I.cV).1=61
 rep:(lF a I.cV).1=0->(lF a I.cV).2.down=false/\(lF a I.cV).2.bP=D.bP/\co0 G (lF a I.cV).2 I (b I.cV.check)/\LG G (lF a I.cV).2 I.cV.check (b I.cV.check)
def T3(h:(lF D I.cV).1=0):pQ D I n a=(0,some {I with mem:=(fJ n (a I.cV.check)).foldl oV I.mem},(lF D I.cV).2):=by unfold pQ;rw[aQ (by rw[h];simp)]
def T4(h:(lF D I.cV).1≠0):pQ D I n a=((lF D I.cV).1,none,(lF D I.cV).2):=by unfold pQ;rw[aU h]
def aQ3.tail(h:aQ3 n m k D G C B){E:aM}{I:bA}(o:fD D G m (iD C)=pQ E I m (iD C))(F:zH I.cV=true)(t:I.cV.aZ=m)(L:I.mem=[])(N:I.cV.check<=jJ G.bW):W7 m D E G I (iD C):=by
 obtain⟨P,w,v⟩:=h.log;have i:=w.log.ok;have A:jJ G.bW<=1000000:=(by rw[w.bW];have:=yE i;have:=i.1;omega);have p:=TX h.up h.small h.sys w v;have y:fD D G m (λO=>(dB C).filter λr=>!decide (r.1<O))=pQ E I m (iD C):=o;simp only at p;rw[y]at p;refine⟨F,by rw[t];exact h.JD,by omega,λs=>?_,λs=>?_⟩
 .rw[T4 s]at p;rcases p with⟨J,a,-⟩|⟨a,-⟩
  .exact absurd a s
  exact a
 rw[T3 s]at p;rcases p with⟨J,a,b,c,d,e,f,g,O⟩|⟨a,-⟩
 .simp only at c e g;have l:=yS i h.same (qK h.mO.tT) m;have j:∀r∈iD C I.cV.check,r∈dB C:=λr o=>(eW.1 o).1;refine⟨c,e,⟨F,by rw[t];exact h.JD,aM7 g.whole i g.bW,λr o=>?_,λx H=>?_,?_⟩,ZB g.whole i g.bW _⟩
  .have u:=FB i (j r o);have q:r.2∈C.flatten:=(by rw[<-sS];exact ae3 (j r o));obtain⟨M,z,K⟩:=wR.1 q;exact⟨(l.2.2 r (j r o)).2,i.2.1 M z _ K,by have:=i.1;omega⟩
  .rw[t]at H;obtain⟨r,u,q⟩:=nP.1 H;exact l.1 x (nP.2 ⟨r,j r u,q⟩)
  rw[L,t];have u:=BQ (aZ:=m) (R:=iD C I.cV.check) λr o=>(l.2.2 r (j r o)).2;have q:(iD C I.cV.check).length<=(dB C).length:=iR _ _;have z:=aB2 i;simp only[jU];omega
 exact absurd a (by simp)
def X8(h:(kQ D G n).2=some I):fD D G n a=pQ D I n a:=by have b:=(aG5 h).1;unfold fD;rw[b,h];rfl
def ac1{D:aM}{G:cT}{aZ:Nat}{rs:Nat->List lI}(h:(kQ D G aZ).2=none)(a:(kQ D G aZ).1≠61)(b:(D.delete fZ).1≠61):fD D G aZ rs=pQ (D.delete fZ).2 (wE aZ) aZ rs:=by
 unfold fD;rw[aQ a,h];split
 .rename_i c;cases c
 rw[aQ b]
def ab9{d:Nat->List lI}(h:(kQ D G n).2=none)(a:(kQ D G n).1≠61)(b:(D.delete fZ).1=61):fD D G n d=(61,none,(D.delete fZ).2):=by
 unfold fD;rw[aQ a,h];split
 .rename_i c;cases c
 rw[aU b]
def ba6(e:D.down=false)(G:cT)(b:Nat)(h:(kQ D G b).2=none):(kQ D G b).1=4\/(kQ D G b).1=90:=by
 have k:∀M,(vQ D M).2=none->(vQ D M).1=90:=λM d=>by
  unfold vQ at d|-;rw[e]at d|-;simp only[bU,dP]at d|-;rcases NU e M.fC.flatten (λ_=>none)with⟨a,-⟩|a
  .rw[aQ (by rw[a];simp)]at d;cases d
  rw[aU (by rw[a];simp)];exact a
 by_cases c:(oX D).1=0
 .obtain⟨M,i⟩:∃M,oX D=(0,M):=⟨(oX D).2,by rw[<-c]⟩;by_cases g:M.aZ≠b\/jJ G.bW<M.check
  .rw[AN i g];exact .inr rfl
  rw[JV i g]at h|-;exact .inr (k M h)
 rw[O8 c];unfold oX at c|-;rw[e]at c|-;simp only[bU,dP]at c|-;cases j:bR D.files fZ with
 |none=>exact .inl rfl
 |some f=>
  rw[j]at c;simp only at c|-;unfold SR at c|-;split
  .rename_i d;rw[aU d]at c;exact absurd rfl c
  exact .inr rfl
def oD.af2{N R:Nat->Prop}(h:oD n N R w x)(d:∀g,jE x k m g->R g)(a:oD n (jE x k m) (jE y k m) x y):oD n N (jE y k m) w y:=
 ⟨a.os.trans h.os,a.tape.trans h.tape,a.output.trans h.output,aL h.size a.size,
  λg b e=>(a.block g (aW b h.size) (e.imp id λc f=>c (h.rC g b (d g f)))).trans (h.block g b e),
  λg b c=>h.rC g b (d g (a.rC g (aW b h.size) c))⟩
def be9{D:aM}{n:bK}(h:(D.delete n).1≠61):(D.delete n).2.down=D.down:=by
 rcases OF D n with a|a|a
 .exact al0 D n a
 .unfold aM.delete at a|-;by_cases b:D.down=true
  .rw[aU b]
  rw[aQ b]at a|-;cases c:bR D.files n with
  |none=>rfl
  |some f=>rw[c]at a;simp only at a;unfold aM.change at a;split at a<;>simp at a
 exact absurd a h
def bQ6(w:aI):wH w zs []:=⟨[],rfl,Reads.nil _ _,λk x L h=>by simp at h⟩
def aE1(b:D.down=false)(a:Nat):vQ D ⟨0,0,a,[]⟩=(0,some (wE a)):=by unfold vQ;rw[b,aQ (by simp)];rfl
def lB.opened{d:oG}(l:bM w k n m D K H)(c:kD w k n i G D.bP false v)(e:∃K H,bM x k n m D K H)(g:gS k m w x)(o:oQ x k n d I j)(h:∀s,d.T s->CH w x n m s):
 lB x k ⟨n,m,i,v,d⟩ D G I j/\oD k (AE w n m i v) (gX x ⟨n,m,i,v,d⟩) w x:=by
  have b:=oD.NV (sA.lX g i v) c.eD (kI.refl w v);refine⟨⟨e,c.xC l g,o,λs f a=>?_⟩,⟨b.os,b.tape,b.output,b.size,b.block,λs f a=>?_⟩⟩
  .have⟨q,r,p⟩:=h s f;rcases a with a|a|a
   .exact p a
   .have:=c.row.lt;have a:s=i:=a;omega
   have:=jG c.own s a;omega
  rcases a with a|a
  .exact b.rC s f a
  have:=(h s a).1;omega
def av8(a d m L:Nat)(v:aN)(g:Nat)(G:cT)(r:Int×Option bA×aM)(w:aI)(e:eT)(f:aI):Prop:=
 (r.2.1=none->∃b:Bool,e=.returned (.tuple #[.pointer none,.bool b,.int .i64 r.1])/\(∃h i,bM f a d m r.2.2 h i)/\oD a (AE w d m L v) (jE f d m) w f)/\
 (∀I,r.2.1=some I->∃(b:Bool)(c:dW),c.d=d/\c.m=m/\c.L=L/\e=.returned (.tuple #[.pointer (some ⟨c.x.X,0,none⟩),.bool b,.int .i64 r.1])/\lB f a c r.2.2 G I g/\oD a (AE w d m L v) (gX f c) w f)
def bL7{base L:Nat}{blk:bK->Nat}{dat:bK->aN}{cap aZ s:Nat}{Bs:List kK}(hd:bM w base d m D blk dat)(hl:kD w base d L G D.bP false v)(hb:base<=w)(hin:aQ3 cap aZ s D G C Bs)(cK:Nat):
 Calls prog 77 #[zp d,zp L,zu aZ,.float .f64 cK] w (av8 base d m L v cK G (fD D G aZ (iD C)) w):=by
 have HLY:=bu2 hd hl hb hin.up aZ hin.JD cK;unfold bY8 at HLY;obtain⟨rs,hrs⟩:∃rs,rs=iD C:=⟨_,rfl⟩;obtain⟨⟨e1,o1⟩,hly⟩:∃r,r=kQ D G aZ:=⟨_,rfl⟩;rw[<-hly]at HLY;have LY:=aH hly.symm;have HD:=aH hd;have HLG:=aH hl;have HBB:=aH hb;have HIN:=aH hin;have HRS:=aH hrs;rw[<-hrs];unfold av8;simp only at HLY;clear hd hl hb hly hrs;go_in;go_wp2_with fail
 refine HLY.mono ?_;rintro e w3 ⟨hx,rfl,hd3,hf3,hi3⟩;clear HLY;cases o1 with
 |some I0=>
  have li:=aG5 (show(kQ D G aZ).2=some I0 from by rw[LY.out]);rw[LY.out]at li;obtain⟨z1,z2,z3,z4,z5⟩:=li;simp only at z1;subst z1;have RX0:=aH (show fD D G aZ rs=pQ D I0 aZ rs from by rw[HRS.out];exact X8 (by rw[LY.out]));have TL0:=aH (show W7 aZ D D G I0 rs from by rw[HRS.out];exact HIN.out.tail (by rw[<-HRS.out];exact RX0.out) z2 z3 z4 z5);have SD:=aH z3;obtain⟨sv,ev⟩:=lB.opened HD.out HLG.out hd3 hf3 (hi3 I0 rfl).1 (hi3 I0 rfl).2;obtain⟨D1,hD1⟩:∃D1,D1=D:=⟨_,rfl⟩;obtain⟨h3,hh3⟩:∃h3,h3=(⟨d,m,L,v,hx⟩:dW):=⟨_,rfl⟩;have E3:=aH (show h3.d=d/\h3.m=m/\h3.L=L from by rw[hh3];exact⟨rfl,rfl,rfl⟩);have hX3:hx.X=h3.x.X:=by rw[hh3]
  rw[<-hh3]at sv ev;have HST1:=aH (show D1.bP=D.bP from by rw[hD1]);rw[<-hD1]at sv;have RX:=aH (show fD D G aZ rs=pQ D1 I0 aZ rs from by rw[hD1];exact RX0.out);have TL:=aH (show W7 aZ D D1 G I0 rs from by rw[hD1];exact TL0.out);have S3:=aH sv;have V3:=aH ev;unfold bA7;simp only;rw[hX3];clear z2 z3 z4 z5 sv ev hd3 hf3 hi3 hD1 hh3 hX3;obtain⟨q1,q2,q3,q4⟩:=show h3.d=d/\h3.m=m/\h3.L=L/\True from⟨E3.out.1,E3.out.2.1,E3.out.2.2,trivial⟩;have hmn:=vW S3.out.idx TL.out.cV;unfold wL mH at hmn;go_wp2_with fail
  refine hmn.mono ?_;rintro e w4 ⟨lv4,rfl,hlv4,hb4⟩;obtain⟨A9,c9,hA9⟩:=(hlv4.Y9 (aO _)).slice;subst hA9;have b5:=dO w4 (.cells #[.int .i64 (I0.cV.next:Nat),.int .i64 (I0.cV.check:Nat),.int .u64 (I0.cV.aZ:Nat),.slice A9 I0.cV.fC.length c9] 57);have r5:=Row.new w4 #[.int .i64 (I0.cV.next:Nat),.int .i64 (I0.cV.check:Nat),.int .u64 (I0.cV.aZ:Nat),.slice A9 I0.cV.fC.length c9] 57;have B5:=aH (aJ hb4 b5);have R5:=aH r5;have hsm:=LK TL.out.cV TL.out.yJ;have hd5:=(S3.out.next B5.out).eD;rw[q1,q2]at hd5;obtain⟨blk5,dat5,hd5⟩:=hd5;have hcl:=aI8 hd5 (aL (aL HBB.out V3.out.size) B5.out.size) (.slice A9 I0.cV.fC.length c9) I0.cV (hlv4.E9.next b5) hsm;obtain⟨⟨er,D2⟩,hcr⟩:∃r,r=lF D1 I0.cV:=⟨_,rfl⟩;rw[<-hcr]at hcl;unfold rI mH at hcl;simp only at hcl;have HCR:=aH hcr.symm;have e0:=r5.cell 0 (by simp);have e1:=r5.cell 1 (by simp);have e2:=r5.cell 2 (by simp);have e3:=r5.cell 3 (by simp);simp only[bX,bE]at e0 e1 e2 e3;clear hmn hlv4 hb4 b5 r5 hsm hd5 hcr;go_wp2_with fail
  refine hcl.mono ?_;rintro e w6 ⟨rfl,hv6,hf6⟩;have R6:=aH (hf6.row R5.out ER (fun h9=>by
   obtain⟨bb,dd,hdd⟩:=(S3.out.next B5.out).eD;rw[q1,q2]at hdd;exact hdd.pX R5.out h9))
  have V5:=aH (V3.out.trans (S3.out.l7 B5.out));have S5:=aH (S3.out.next B5.out);have V6:=aH hv6;have F6:=aH hf6;clear hcl hv6 hf6 e0 e1 e2 e3;by_cases h5:er=0
  .subst h5;have htl:=TL.out.rep (by rw[HCR.out]);rw[HCR.out]at htl;obtain⟨t1,t2,t3,t4⟩:=htl;have hlog:=S5.out.log;simp only at t1 t2 t3 t4;obtain⟨s1,s2⟩:=S5.out.oC (w':=w6) (D':=D2) (by rw[HST1.out];exact t2) (by rw[q1,q2];exact V6.out) (by rw[q2];exact F6.out);have S6:=aH s1;have V7:=aH (V5.out.trans s2);have hrp:=X9 s1 (aL (aL HBB.out V5.out.size) s2.size) t1 (rs I0.cV.check) t3 I0.cV.check TL.out.check t4;rw[q3]at hrp;have e1:=R6.out.cell 1 (by simp);simp only[bX,bE]at e1;have HX:=aH (show fD D G aZ rs=(0,some {I0 with mem:=(fJ aZ (rs I0.cV.check)).foldl oV I0.mem},D2)from by
    rw[RX.out,T3 (by rw[HCR.out]),HCR.out])
   clear s1 s2 t1 t2 t3 t4 hlog;(go_wp2_with fail);refine hrp.mono ?_;rintro e w7 ⟨rfl,hs7⟩;have H7:=aH hs7;clear hrp hs7 e1;go_wp2;(try simp only[Exit.inBlock,Exit.then]);refine bG (results_tmp3 rfl _ _ _) rfl ⟨fun h9=>?_,fun I9 h9=>?_⟩
   .rw[HX.out]at h9;cases h9
   rw[HX.out]at h9|-;cases h9;obtain⟨h',⟨g1,g2,g3,g4⟩,g5,g6⟩:=H7.out;have e9:I0.cV.aZ=aZ:=SD.out;rw[e9]at g5;exact⟨_,h',g1.trans q1,g2.trans q2,g3.trans q3,by rw[g4];rfl,g5,V7.out.trans g6⟩
  have HX:=aH (show fD D G aZ rs=(er,none,D2)from by
   rw[RX.out,T4 (by rw[HCR.out];exact h5),HCR.out])
  go_wp2;try simp only[Exit.inBlock,Exit.then]
  refine bG (results_tmp3 rfl _ _ _) rfl ⟨fun h9=>?_,fun I9 h9=>?_⟩
  .rw[HX.out];refine⟨_,rfl,V6.out,?_⟩;exact V5.out.af2 (fun k h9=>.inl (.inl (by rw[q1,q2];exact h9))) (oD.lX F6.out (by obtain⟨bb,dd,hdd⟩:=S5.out.eD;rw[q1]at hdd;exact hdd.FJ))
  rw[HX.out]at h9;cases h9
 |none=>
  have le:=ba6 HIN.out.up G aZ (by rw[LY.out]);rw[LY.out]at le;simp only at le;obtain⟨blk3,dat3,hd3⟩:=hd3;have hdl:=uY hd3 ⟨#[109,97,112]⟩ (by decide) (aL HBB.out hf3.size);rw[VW]at hdl;have hst1:=pP D fZ;have hupN:=be9 (D:=D) (n:=fZ);have herr:=OF D fZ;obtain⟨⟨e2,D1⟩,hdr⟩:∃r,r=D.delete fZ:=⟨_,rfl⟩;have DR:=aH hdr.symm;rw[<-hdr]at hdl hst1 hupN herr;unfold rI at hdl;simp only at hdl hst1 hupN herr;have HST1:=aH hst1;have HUN:=aH hupN;have HER:=aH herr;have HD3:=aH hd3;have HF3:=aH hf3;have HL3:=aH (HLG.out.xC HD.out hf3);have HE1:=aH le;unfold bA7;simp only;have i1:(e1==1)=false:=by rcases le with h9|h9<;>(rw[h9];rfl)
  have i2:(e1==61)=false:=by rcases le with h9|h9<;>(rw[h9];rfl)
  have i3:(e1 != 0)=true:=by rcases le with h9|h9<;>(rw[h9];rfl)
  clear le hd3 hf3 hi3 hdr hst1 hupN herr;go_wp2_with fail
  refine hdl.mono ?_;rintro e w4 ⟨rfl,hv4,hf4⟩;clear hdl;by_cases h6:e2=61
  .subst h6;have HX:=aH (show fD D G aZ rs=(61,none,D1)from by
    rw[ab9 (by rw[LY.out]) (by rw[LY.out];have:=HE1.out;simp only;omega) (by rw[DR.out]),DR.out])
   have V4:=aH hv4;have F4:=aH (oD.lX (HF3.out.trans hf4) HD.out.FJ);clear hv4 hf4;go_wp2;(try simp only[Exit.inBlock,Exit.then]);refine bG (results_tmp3 rfl _ _ _) rfl ⟨fun h9=>?_,fun I9 h9=>?_⟩
   .rw[HX.out];refine⟨_,rfl,V4.out,?_⟩;exact F4.out.mono (fun k _ h=>.inl h) (fun k _ h=>.inl h)
   rw[HX.out]at h9;cases h9
  have hup1:D1.down=false:=(HUN.out h6).trans HIN.out.up;obtain⟨blk4,dat4,hd4⟩:=hv4;have hop:=YG hd4 (aL HBB.out (aL HF3.out.size hf4.size)) hup1 (.slice none 0 0) ⟨0,0,aZ,[]⟩ (bQ6 _) (by rw[lW];simp) HIN.out.JD cK;unfold W8 at hop;rw[aE1 hup1]at hop;unfold mH at hop;simp only at hop;have HD4:=aH hd4;have HL4:=aH (show kD w4 base d L G D1.bP false v from by rw[HST1.out];exact HL3.out.xC HD3.out hf4);have HF4:=aH (HF3.out.trans hf4);have RX:=aH (show fD D G aZ rs=pQ D1 (wE aZ) aZ rs from by
   have:=ac1 (D:=D) (G:=G) (aZ:=aZ) (rs:=rs) (by rw[LY.out]) (by rw[LY.out];have:=HE1.out;simp only;omega) (by rw[DR.out];exact h6);rw[DR.out]at this;exact this)
  have hor:(e2 != 0)=false\/((e2 != 0)=true/\(e2 != 4)=false):=by
   rcases HER.out with h9|h9|h9
   .exact .inl (by rw[h9];rfl)
   .exact .inr ⟨by rw[h9];rfl,by rw[h9];rfl⟩
   exact absurd h9 h6
  clear hd4 hf4;rcases hor with j1|⟨j1,j2⟩
  all_goals
   (go_wp2_with fail);refine hop.mono ?_;rintro e w5 ⟨hx',rfl,hd5,hf5,hi5⟩;have I0d:True:=trivial;obtain⟨I0,hI0⟩:∃I0,I0=wE aZ:=⟨_,rfl⟩;have SD:=aH (show I0.cV.aZ=aZ from by rw[hI0];rfl);rw[<-hI0]at hi5 RX|-;have TL:=aH (show W7 aZ D D1 G I0 rs from by
    rw[HRS.out];exact HIN.out.tail (by rw[<-HRS.out];exact RX.out) (by rw[hI0,lW];simp[wE]) SD.out (by rw[hI0];rfl) (by rw[hI0];exact bO _))
   obtain⟨sv,ev⟩:=lB.opened HD4.out HL4.out hd5 hf5 (hi5 I0 rfl).1 (hi5 I0 rfl).2;have ev0:=(oD.NV (sA.lX HF4.out L v) HLG.out.eD (kI.refl w v)).trans ev;obtain⟨h3,hh3⟩:∃h3,h3=(⟨d,m,L,v,hx'⟩:dW):=⟨_,rfl⟩;have E3:=aH (show h3.d=d/\h3.m=m/\h3.L=L from by rw[hh3];exact⟨rfl,rfl,rfl⟩);have hX3:hx'.X=h3.x.X:=(by rw[hh3]);rw[<-hh3]at sv ev0;have S3:=aH sv;have V3:=aH ev0;unfold bA7;simp only;rw[hX3];clear hop sv ev ev0 hd5 hf5 hi5 hI0 hh3 hX3;obtain⟨q1,q2,q3,q4⟩:=show h3.d=d/\h3.m=m/\h3.L=L/\True from⟨E3.out.1,E3.out.2.1,E3.out.2.2,trivial⟩;have hmn:=vW S3.out.idx TL.out.cV;unfold wL mH at hmn;(go_wp2_with fail);refine hmn.mono ?_;rintro e w4 ⟨lv4,rfl,hlv4,hb4⟩;obtain⟨A9,c9,hA9⟩:=(hlv4.Y9 (aO _)).slice;subst hA9;have b5:=dO w4 (.cells #[.int .i64 (I0.cV.next:Nat),.int .i64 (I0.cV.check:Nat),.int .u64 (I0.cV.aZ:Nat),.slice A9 I0.cV.fC.length c9] 57);have r5:=Row.new w4 #[.int .i64 (I0.cV.next:Nat),.int .i64 (I0.cV.check:Nat),.int .u64 (I0.cV.aZ:Nat),.slice A9 I0.cV.fC.length c9] 57;have B5:=aH (aJ hb4 b5);have R5:=aH r5;have hsm:=LK TL.out.cV TL.out.yJ;have hd5:=(S3.out.next B5.out).eD;rw[q1,q2]at hd5;obtain⟨blk5,dat5,hd5⟩:=hd5;have hcl:=aI8 hd5 (aL (aL HBB.out V3.out.size) B5.out.size) (.slice A9 I0.cV.fC.length c9) I0.cV (hlv4.E9.next b5) hsm;obtain⟨⟨er,D2⟩,hcr⟩:∃r,r=lF D1 I0.cV:=⟨_,rfl⟩;rw[<-hcr]at hcl;unfold rI mH at hcl;simp only at hcl;have HCR:=aH hcr.symm;have e0:=r5.cell 0 (by simp);have e1:=r5.cell 1 (by simp);have e2:=r5.cell 2 (by simp);have e3:=r5.cell 3 (by simp);simp only[bX,bE]at e0 e1 e2 e3;clear hmn hlv4 hb4 b5 r5 hsm hd5 hcr;(go_wp2_with fail);refine hcl.mono ?_;rintro e w6 ⟨rfl,hv6,hf6⟩;have R6:=aH (hf6.row R5.out ER (fun h9=>by
    obtain⟨bb,dd,hdd⟩:=(S3.out.next B5.out).eD;rw[q1,q2]at hdd;exact hdd.pX R5.out h9))
   have V5:=aH (V3.out.trans (S3.out.l7 B5.out));have S5:=aH (S3.out.next B5.out);have V6:=aH hv6;have F6:=aH hf6;clear hcl hv6 hf6 e0 e1 e2 e3;by_cases h5:er=0
   .subst h5;have htl:=TL.out.rep (by rw[HCR.out]);rw[HCR.out]at htl;obtain⟨t1,t2,t3,t4⟩:=htl;have hlog:=S5.out.log;simp only at t1 t2 t3 t4;obtain⟨s1,s2⟩:=S5.out.oC (w':=w6) (D':=D2) (by rw[HST1.out];exact t2) (by rw[q1,q2];exact V6.out) (by rw[q2];exact F6.out);have S6:=aH s1;have V7:=aH (V5.out.trans s2);have hrp:=X9 s1 (aL (aL HBB.out V5.out.size) s2.size) t1 (rs I0.cV.check) t3 I0.cV.check TL.out.check t4;rw[q3]at hrp;have e1:=R6.out.cell 1 (by simp);simp only[bX,bE]at e1;have HX:=aH (show fD D G aZ rs=(0,some {I0 with mem:=(fJ aZ (rs I0.cV.check)).foldl oV I0.mem},D2)from by
     rw[RX.out,T3 (by rw[HCR.out]),HCR.out])
    clear s1 s2 t1 t2 t3 t4 hlog;(go_wp2_with fail);refine hrp.mono ?_;rintro e w7 ⟨rfl,hs7⟩;have H7:=aH hs7;clear hrp hs7 e1;go_wp2;(try simp only[Exit.inBlock,Exit.then]);refine bG (results_tmp3 rfl _ _ _) rfl ⟨fun h9=>?_,fun I9 h9=>?_⟩
    .rw[HX.out]at h9;cases h9
    rw[HX.out]at h9|-;cases h9;obtain⟨h',⟨g1,g2,g3,g4⟩,g5,g6⟩:=H7.out;have e9:I0.cV.aZ=aZ:=SD.out;rw[e9]at g5;exact⟨_,h',g1.trans q1,g2.trans q2,g3.trans q3,by rw[g4];rfl,g5,V7.out.trans g6⟩
   have HX:=aH (show fD D G aZ rs=(er,none,D2)from by
    rw[RX.out,T4 (by rw[HCR.out];exact h5),HCR.out])
   go_wp2;(try simp only[Exit.inBlock,Exit.then]);refine bG (results_tmp3 rfl _ _ _) rfl ⟨fun h9=>?_,fun I9 h9=>?_⟩
   .rw[HX.out];refine⟨_,rfl,V6.out,?_⟩;exact V5.out.af2 (fun k h9=>.inl (.inl (by rw[q1,q2];exact h9))) (oD.lX F6.out (by obtain⟨bb,dd,hdd⟩:=S5.out.eD;rw[q1]at hdd;exact hdd.FJ))
   rw[HX.out]at h9;cases h9
end Go.Proofs.YtpopikndggffaaaGreatDoor
