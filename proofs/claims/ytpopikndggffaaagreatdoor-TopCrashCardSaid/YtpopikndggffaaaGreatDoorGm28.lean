/- TOP, part 28. -/
import Derived.Test.YtpopikndggffaaaGreatDoorGm14
import Derived.Test.YtpopikndggffaaaGreatDoorGm20
import Derived.Test.YtpopikndggffaaaGreatDoorGm27
namespace Go.Proofs.YtpopikndggffaaaGreatDoor
set_option linter.all false
set_option maxRecDepth 100000
set_option maxHeartbeats 16000000
open Go.RowKit Go.Maps Tryz
variable{X:List aN}{d i j k m n:Nat}{N:Nat->Prop}{w x y:aI}{D E:aM}{u v:aN}{I:bA}{G:cT}{C:oF}
def OU(w:aI)(a:Nat)(T:Nat->Prop)(v:aN)(l:oF):Prop:=(l=[]/\∃A,v=.slice A 0 0)\/∃b d c,v=.slice (some ⟨b,0,none⟩) l.length c/\l.length<=c/\c<=maxLen/\a<=b/\Row w b 33 d/\lQ w a d l/\T b/\∀(x:aN)(k:Nat),x∈d->x.ownBlock=some k->T k
def OU.cz6(h:OU w n N v C):zD w n v C:=by
 rcases h with h|⟨b,j,c,a,d,e,f,g,i,-⟩
 .exact .inl h
 exact .inr ⟨b,j,c,a,d,e,f,g,i⟩
def OU.E9{v:aN}(h:OU w n N v C):wH w v C:=h.cz6.E9
def bS2(h:lQ w n X C){v:aN}(b:v∈X):∃L,w.ownsRow n 3 1 v L.length (gJ L):=by obtain⟨k,a,rfl⟩:=eS b;exact⟨_,h.own k _ _ (aK a) (aK (by rw[<-h.len];exact a))⟩
def OU.eO{w':aI}(h:OU w n N v C)(j:∀k,N k->k<w.heap.size->w'.heap[k]?=w.heap[k]?):OU w' n N v C:=by
 rcases h with h|⟨b,s,c,m,o,p,r,e,a,f,g⟩
 .exact .inl h
 refine .inr ⟨b,s,c,m,o,p,r,e.of_block (j b f e.lt),⟨a.len,λk x L d i=>?_,a.apart⟩,f,g⟩;exact fG (a.own k x L d i) λq l=>j q (g x q (bD d) l) (jG (a.own k x L d i) q l)
def zD.Y9{base:Nat}{v:aN}(h:zD w n v C)(l:base<=n):OU w base (λk=>n<=k/\k<w.heap.size/\((∃i,Row w k 3 i)\/∃i,Row w k 33 i)) v C:=by
 rcases h with h|⟨b,q,c,m,o,p,j,e,d⟩
 .exact .inl h
 refine .inr ⟨b,q,c,m,o,p,aL l j,e,⟨d.len,λk x L g a=>fO (d.own k x L g a) l,d.apart⟩,⟨j,e.lt,.inr ⟨_,e⟩⟩,λx k g f=>?_⟩;obtain⟨L,a⟩:=bS2 d g;exact⟨dE a k f,jG a k f,.inl ⟨_,dZ a f⟩⟩
structure oG where
 X:Nat
 mb:Nat
 tm:Nat
 mv:aN
 lv:aN
 tb:Nat->Nat
 TL:Nat->Prop
 TT:Nat->Prop
def oG.T(h:oG)(k:Nat):Prop:=k=h.X\/k=h.mb\/k=h.tm\/h.mv.ownBlock=some k\/h.TL k\/h.TT k
def TC(M:Du)(a:Nat->Option (List cZ))(b:Nat->Nat):Prop:=IsMap M/\∀n L,a n=some L->has M (vV n)=true/\∀z,M.atKey (vV n) z=.lit (.int .i64 (b n:Int))
structure oQ(w:aI)(a d:Nat)(h:oG)(I:bA)(b:Nat):Prop where
 row:Row w h.X 100 [.pointer (some ⟨d,0,none⟩),.int .i64 (I.cV.next:Nat),.int .i64 (I.cV.check:Nat),.int .u64 (I.cV.aZ:Nat),h.lv,.float .f64 b,.pointer (some ⟨h.mb,0,none⟩),.map (some h.tm)]
 fC:OU w a h.TL h.lv I.cV.fC
 mem:zS w a h.mb h.mv I.mem
 map:∃c M,w.ownsMap prog 3 sU h.tm c M/\TC M I.fA h.tb/\c<=I.cV.next
 fA:∀n L,I.fA n=some L->s7 w h.TT a (h.tb n) d n L
 low:a<=h.X/\a<=h.mb/\a<=h.tm
 apart:∀k,h.TL k\/h.TT k->a<=k/\k<w.heap.size/\k≠h.X/\k≠h.mb/\k≠h.tm/\h.mv.ownBlock≠some k
def oQ.lt{n:Nat}{h:oG}(H:oQ w k n h I m):∀d,h.T d->k<=d/\d<w.heap.size:=λd a=>by
 rcases a with rfl|rfl|rfl|a|a
 .exact⟨H.low.1,H.row.lt⟩
 .exact⟨H.low.2.1,H.mem.1.lt⟩
 .obtain⟨c,M,b,-⟩:=H.map;exact⟨H.low.2.2,b.lt⟩
 .exact⟨dE H.mem.2.1 d a,jG H.mem.2.1 d a⟩
 have:=H.apart d a;exact⟨this.1,this.2.1⟩
def oQ.eO{w':aI}{h:oG}(H:oQ w k n h I m)(i:w.heap.size<=w'.heap.size)(d:∀p,h.T p->w'.heap[p]?=w.heap[p]?):oQ w' k n h I m:=by obtain⟨o,M,j,l⟩:=H.map;refine⟨H.row.of_block (d _ (.inl rfl)),H.fC.eO λp e _=>d p (.inr (.inr (.inr (.inr (.inl e))))),⟨H.mem.1.of_block (d _ (.inr (.inl rfl))),fG H.mem.2.1 λp e=>d p (.inr (.inr (.inr (.inl e)))),H.mem.2.2⟩,⟨o,M,nO j (d _ (.inr (.inr (.inl rfl)))),l⟩,λr L f=>(H.fA r L f).eO λq g _=>d q (.inr (.inr (.inr (.inr (.inr g))))),H.low,λp e=>?_⟩;obtain⟨a,b,c⟩:=H.apart p e;exact⟨a,aW b i,c⟩
def oQ.next{w:aI}{base n:Nat}{h:oG}{I:bA}{k:Nat}(H:oQ w base n h I k)(a:aS w.heap.size w x):oQ x base n h I k:=
 H.eO a.size λc b=>a.block c (H.lt c b).2
def oQ.cg1{h:oG}(H:oQ w k n h I m):aQ7 w (.agg (mH I.cV h.lv).toArray) I.cV:=⟨h.lv,rfl,H.fC.E9⟩
structure dW where
 d:Nat
 m:Nat
 L:Nat
 v:aN
 x:oG
def gX(w:aI)(h:dW)(k:Nat):Prop:=AE w h.d h.m h.L h.v k\/h.x.T k
structure lB(w:aI)(a:Nat)(h:dW)(D:aM)(G:cT)(I:bA)(b:Nat):Prop where
 eD:∃c d,bM w a h.d h.m D c d
 log:kD w a h.d h.L G D.bP false h.v
 idx:oQ w a h.d h.x I b
 sep:∀k,h.x.T k->¬AE w h.d h.m h.L h.v k
def lB.clear{base:Nat}{h:dW}{n:Nat}(H:lB w base h D G I n):Clear (AE w h.d h.m h.L h.v) h.x.T w:=λk a=>⟨(H.idx.lt k a).2,H.sep k a⟩
def oD.orS{h h':dW}(b:h'.x=h.x)(a:oD n (AE w h.d h.m h.L h.v) (AE x h'.d h'.m h'.L h'.v) w x):oD n (gX w h) (gX x h') w x:=by have:=a.or h.x.T;unfold gX;rw[b];exact this
def lB.xJ{h:dW}{M:cT}(H:lB w n h D G I k)(e:∃a b,bM x n h.d h.m E a b)(i:kD x n h.d h.L M E.bP false u)(f:sA n h.m h.L h.v w x)(j:kI w h.v u):
 lB x n {h with v:=u} E M I k/\oD n (gX w h) (gX x {h with v:=u}) w x:=by have c:=oD.NV f H.log.eD j;obtain⟨d,l⟩:=c.clear H.clear;exact⟨⟨e,i,H.idx.eO c.size l,λm g=>(d m g).2⟩,oD.orS (h:=h) (h':={h with v:=u}) rfl c⟩
def lB.oC{w':aI}{S:dW}{D':aM}(H:lB w n S D G I k)(d:D'.bP=D.bP)(f:∃a b,bM w' n S.d S.m D' a b)(e:gS n S.m w w'):
 lB w' n S D' G I k/\oD n (gX w S) (gX w' S) w w':=by obtain⟨a,b,c⟩:=H.eD;have g:=H.log.xC c e;exact H.xJ f (by rw[d];exact g) (sA.lX e _ _) (kI.refl _ _)
def lB.next{w:aI}{base:Nat}{h:dW}{I:bA}{n:Nat}(H:lB w base h D G I n)(b:aS w.heap.size w x):lB x base h D G I n:=by obtain⟨c,d,a⟩:=H.eD;exact(H.oC rfl ⟨_,_,a.next b⟩ (gS.cQ b _ _)).1
def lB.l7{S:dW}(H:lB w n S D G I k)(b:aS w.heap.size w x):oD n (gX w S) (gX x S) w x:=by obtain⟨c,d,a⟩:=H.eD;exact(H.oC rfl ⟨_,_,a.next b⟩ (gS.cQ b _ _)).2
def kD.far{b:Bool}(h:kD w m k i G j b v)(f:x.heap[k]?=w.heap[k]?)(e:x.heap[i]?=w.heap[i]?)(l:∀o,v.ownBlock=some o->x.heap[o]?=w.heap[o]?):kD x m k i G j b v:=by obtain⟨c,d⟩:=kC (n:=w.heap.size) f h.eD;exact⟨h.row.of_block e,h.low,fG h.own l,λo a g=>h.apart o a (d o (jG h.own o a) g),c,h.many,h.small,h.sure⟩
def lB.OA{S:dW}{J:bA}{x':oG}(H:lB w n S D G I k)(T:oQ y n S.d x' J k)(F:y.os=w.os)(L:y.tape=w.tape)(s:y.output=w.output)(K:w.heap.size<=y.heap.size)(u:∀U,U<w.heap.size->¬S.x.T U->y.heap[U]?=w.heap[U]?)(M:∀U,U<w.heap.size->x'.T U->S.x.T U)(i:∀U,x'.T U->¬CD y U):
 lB y n {S with x:=x'} D G J k/\oD n (gX w S) (gX y {S with x:=x'}) w y:=by
  obtain⟨o,p,A⟩:=H.eD;have d:∀U,U<w.heap.size->AE w S.d S.m S.L S.v U->y.heap[U]?=w.heap[U]?:=λU c P=>u U c λb=>H.sep U b P;have B:bM y n S.d S.m D o p:=A.far λU c m=>d U c (.inl m);have h:=A.lt;have r:y.heap[S.d]?=w.heap[S.d]?:=d _ h.1 (.inl (.inr (.inl (by
   obtain⟨C,v,Q⟩:=H.log.eD;exact⟨C,_,v,Q,.inl rfl⟩))))
  have E:kD y n S.d S.L G D.bP false S.v:=H.log.far r (d _ H.log.row.lt (.inr (.inl rfl))) λU b=>d U (jG H.log.own U b) (.inr (.inr b));have g:∀U,OwnAt y S.d U↔OwnAt w S.d U:=λU=>by unfold OwnAt;rw[dH (a:=⟨S.d,9,none⟩) r]
  have j:∀U,U<w.heap.size->AE y S.d S.m S.L S.v U->AE w S.d S.m S.L S.v U\/S.x.T U:=λU c b=>by
   rcases Classical.em (S.x.T U)with q|q
   .exact .inr q
   have e:=u U c q;rcases b with(b|b|b)|b
   .exact .inl (.inl (.inl b))
   .obtain⟨C,t,v,N,O⟩:=b;exact .inl (.inl (.inr (.inl ⟨C,t,v,by rw[<-e];exact N,O⟩)))
   .exact .inl (.inl (.inr (.inr ((g U).1 b))))
   exact .inl (.inr b)
  have z:∀U,U<w.heap.size->S.x.T U->x'.T U->¬AE y S.d S.m S.L S.v U:=λU c q f b=>by
   have l:=H.sep U q;rcases b with(b|b|b)|b
   .exact l (.inl (.inl b))
   .exact i U f b
   .exact l (.inl (.inr (.inr ((g U).1 b))))
   exact l (.inr b)
  refine⟨⟨⟨o,p,B⟩,E,T,λU f b=>?_⟩,⟨F,L,s,K,λU c m=>?_,λU c b=>?_⟩⟩
  .rcases cR U w.heap.size with c|R
   .exact z U c (M U c f) f b
   rcases b with(b|b|b)|b|b
   .have:=h.2;have b:U=S.m:=b;omega
   .exact i U f b
   .have:=A.ap6 ((g U).1 b);omega
   .have:=H.log.row.lt;have b:U=S.L:=b;omega
   have:=jG H.log.own U b;omega
  .rcases m with m|m
   .refine u U c λb=>?_;have:=(H.idx.lt U b).1;omega
   exact u U c λb=>m (.inr b)
  rcases b with b|b
  .exact j U c b
  exact .inr (M U c b)
variable{l:List bK}{s:bK}{K:bK->Nat}{H:bK->aN}{M:iY}
section
open Go.Sort
def BK(M:iY)(l:List bK)(k:Nat):List bK:=(l.take k).filter (lE M)
def UE(h:l[n]?=s)(a:lE M s=true):BK M l (n+1)=BK M l n++[s]:=by unfold BK;rw[dQ,h,iN];simp[a]
def OB(h:l[n]?=s)(a:lE M s=false):BK M l (n+1)=BK M l n:=by unfold BK;rw[dQ,h,iN];simp[a]
def aY8(M:iY):lE M dG=true:=by unfold lE;rw[cJ rfl];rfl
def aD9{M:iY}(a:s≠dG)(b:mG s=none):lE M s=false:=by unfold lE;rw[cC a,b];rfl
def aD8{M:iY}{s:bK}{c:bB}{n:Nat}(a:s≠dG)(b:mG s=some (c,n)):lE M s=((decide (c=116)||decide (c=98))&&!M.fC.flatten.contains n):=by unfold lE;rw[cC a,b];rfl
def cc5{s:aT}{l:bK}(h:s=bs l):(s.toList==[110,101,119])=decide (l=dG):=by rw[h,l3,gF];exact cu4 _ _
def aw0(w:aI)(D:aM)(M:iY)(e:eT)(b:aI):Prop:=∃a,e=.returned a/\b.ownsRow w.heap.size 9 1 a (D.names.filter (lE M)).length ((D.names.filter (lE M)).map encStr)/\aS w.heap.size w b
def bc6(h:bM w k n m D K H)(lv:aN)(M:iY)(hl:wH w lv M.fC)(hs:L0 M):
 Calls prog 183 #[zp n,.agg (mH M lv).toArray] w (aw0 w D M):=by
  have b0:=(aY w w).alloc gC (.cells (mH M lv).toArray 57);have r0:=Row.new w (mH M lv).toArray 57;obtain⟨⟨hh,hi,hj,hm⟩,-⟩:=gY r0;have hA:=sK lv M.fC _ (hl.next b0) hs.len hs.flat;have HN:=λ(x:aI)(hx:bM x k n m D K H)=>OE TS TU hx;have I:=h.many;have r:∀hw∈D.names,hw.length<=12:=λhw hn=>by unfold aM.names at hn;obtain⟨p,V,rfl⟩:=dR.1 hn;have:=h.names p V;unfold jH at this;simp at this;exact this.2
  have W:D.names.length<=400:=(by unfold aM.names;rw[gR];exact I);unfold aw0;rw[show D.names.filter (lE M)=BK M D.names D.names.length from by unfold BK;rw[eQ]];generalize D.names=l at HN r W|-;have⟨N,hN⟩:=kX l.length;rw[<-hN]at HN W|-;have⟨h9,h4,HV,B0⟩:=aC r hN (h.next b0) b0;obtain⟨hu,ho,⟨A9,c9,rfl,-⟩,-⟩:=id hl;unfold mH at *;have h5:=aH (λ(x:bK)(c:bB)(hw:Nat)=>@aD8 M x c hw);have⟨F,hF⟩:=kX M.fC.flatten;rw[<-hF]at hA h5;clear h b0 r0 hl hs I r hN hF;go_in;go_wp2_with fail
  go_call hA as e w1 ⟨v1,rfl,L,h0⟩;have h7:=HN w1 (HV.next h0);have P:=Reads.dC L;obtain⟨Af,cf,rfl,-⟩:=id P;have⟨h8,B1⟩:=aA P (aJ B0 h0);clear hA HN L P h0 hh hi hj hm;go_wp2_with fail
  go_call h7 as e w2 ⟨v2,rfl,O,h1⟩;have Q:=Reads.dC O;obtain⟨A2,c2,rfl,hr,hb,-⟩:=id Q;unfold maxLen at hb;have⟨ha,h3,B2⟩:=aB Q (h8.next h1) (aJ B1 h1);clear h7 O Q h1;go_wp2_with fail
  go_loopw [6,8,9,10,11,18] (λov _ _ _ _ i wr=>∃hv:Nat,hv<=N/\i=.int .i64 hv/\wr.ownsRow w2 9 1 ov (BK M l hv) ((BK M l hv).map encStr)/\aS w2 w2 wr) (λ_ _ _ _ _ i _=>N-(intOf i).toNat)
  .exact⟨0,bO _,rfl,bQ _ _ _ _,mE⟩
  obtain⟨hv,hk,rfl,j,t⟩:=hrel;have S:=t;obtain⟨A1,c1,rfl,hd,he,-⟩:=id (Reads.dC j);have hf:(BK M l hv)<=hv:=(by unfold BK;exact aL (iR _ _) (by rw[bJ];omega));have⟨q,hq⟩:=kX ((BK M l hv).length);have⟨qs,v⟩:=kX (BK M l hv);rw[<-hq,<-v]at j;rw[<-hq]at hf|-;by_cases ht:hv<N
  .have i1:(hv:Int)<N:=(by omega);obtain⟨x,hx⟩:∃x,l[hv]?=some x:=⟨_,aK (by have:=h4.zz;omega)⟩;have z:=h9 x (bD hx);obtain⟨b,hg,rfl,-,-,-,C⟩:=ha.W1 (by omega);have c0:wr.cell? (zp b (hg+hv))=some (bs x):=(C wr t hv (by simp;have:=h4.zz;omega)).trans (by rw[sN,(aR.1 hx).2];rfl);have s:=U4 (bs x) wr (by rw[eK];unfold maxLen;omega);rw[gF]at s;have⟨T,hT⟩:=kX (bs x);rw[<-hT]at c0 s;have X:=cc5 hT;have⟨HT,HL,R,f,h2,HQ,u⟩:=aF (show Value.string T=encStr x from by rw[hT];rfl) hx j S t (show q=(BK M l hv) from hq) v;clear C hx j S t hT hq hd he;by_cases A:x=dG
   .subst A;have o:=aH (aY8 M);rw[cJ rfl]at X;rw[AX]at s;unfold NT at s;clear v;(go_wp2_with fail);go_call s as e w6 ⟨rfl,d⟩;have a:=aH d;clear s d c0 z;(go_wp2_with (at_builtin;refine R7 ar2 underlying118 (cA R a) rfl rfl rfl rfl rfl (by omega) (by have:=f.size;have:=a.size;omega) ?_;intro v8 w8 g G B;have⟨Z,Y⟩:=aA g (pH (cA (cA R a) (mE.alloc gC _)) (aJ f (aJ a (mE.alloc gC _))) G (by have:=f.size;have:=a.size;rw[bC];omega));clear g G B));go_roundw
    .refine⟨hv+1,by omega,by go_num,?_,Y⟩;rw[UE HL.zz o.zz,iJ,aP,<-HQ.zz,<-u.zz];have:=Z.zz;rwa[HT.zz]at this
    simp[intOf];omega
   rw[cC A]at X;rcases V:mG x with _|⟨c,hw⟩
   .rw[V]at s;unfold NT at s;have o:=aH (aD9 (M:=M) A V);clear v;clear V A;(go_wp2_with fail);go_call s as e w6 ⟨rfl,d⟩;have a:=aH d;clear s d c0 z;go_wp2;go_roundw
    .refine⟨hv+1,by omega,by go_num,?_,aJ f a⟩;rw[OB HL.zz o.zz,<-HQ.zz,<-u.zz];exact cA R a
    simp[intOf];omega
   rw[V]at s;unfold NT at s;have J:=h5 x c hw A V;have E:=wF (w:=wr) (h3.next h2) hw;obtain⟨-,-,hc⟩:=SA V;simp only at s;clear v;clear V A;rcases hc with rfl|rfl|rfl
   .have o:=aH (show lE M x=false from J);clear J E;(go_wp2_with fail);go_call s as e w6 ⟨rfl,d⟩;have a:=aH d;clear s d c0 z;go_wp2;go_roundw
    .refine⟨hv+1,by omega,by go_num,?_,aJ f a⟩;rw[OB HL.zz o.zz,<-HQ.zz,<-u.zz];exact cA R a
    simp[intOf];omega
   iterate 2
    .rcases U:F.contains hw with _|_
     iterate 2
      ·(first|(have o:=aH (show lE M x=true from by rw[J,U];rfl))|(have o:=aH (show lE M x=false from by rw[J,U];rfl)));have E:=λy (hy:aS w2 w2 y)=>wF (w:=y) (h3.next hy) hw;rw[U]at E;clear J U;(go_wp2_with fail);go_call s as e w6 ⟨rfl,d⟩;have h6:=E w6 (aJ h2 d);have a:=aH d;clear s d c0 z E;(go_wp2_with fail);go_call h6 as e w' ⟨rfl,rfl⟩;clear h6;(first|(go_wp2_with (at_builtin;refine R7 ar2 underlying118 (cA R a) rfl rfl rfl rfl rfl (by omega) (by have:=f.size;have:=a.size;omega) ?_;intro v8 w8 g G B;have⟨Z,Y⟩:=aA g (pH (cA (cA R a) (mE.alloc gC _)) (aJ f (aJ a (mE.alloc gC _))) G (by have:=f.size;have:=a.size;rw[bC];omega));clear g G B))|go_wp2);go_roundw
       .first|((refine⟨hv+1,by omega,by go_num,?_,Y⟩);rw[UE HL.zz o.zz,iJ,aP,<-HQ.zz,<-u.zz];have:=Z.zz;rwa[HT.zz]at this)|((refine⟨hv+1,by omega,by go_num,?_,aJ f a⟩);rw[OB HL.zz o.zz,<-HQ.zz,<-u.zz];exact cA R a)
       simp[intOf];omega
  obtain rfl:hv=N:=(by omega);have i1:¬(hv:Int)<hv:=(by omega);have⟨R,f,HQ,u⟩:=aC j S hq v;clear j S hq v t;go_wp2;go_ret;exact⟨_,rfl,by rw[<-HQ.zz,<-u.zz];exact fO R B2.size,aJ B2 f⟩
def bD3(h:l[n]?=s):D.VK (l.drop n)=kE (D.delete s) λD=>D.VK (l.drop (n+1)):=by obtain⟨a,rfl⟩:=aR.1 h;rw[<-gH a];rfl
def aI8(h:bM w k n m D K H)(hb:k<=w)(Q:aN)(M:iY)(U:wH w Q M.fC)(Y:L0 M):
 Calls prog 122 #[zp n,.agg (mH M Q).toArray] w (rI k n m (lF D M) w):=by
  have E:=(aY w w).alloc gC (.cells (mH M Q).toArray 57);have r0:=Row.new w (mH M Q).toArray 57;obtain⟨⟨h5,h6,h7,h8⟩,-⟩:=gY r0;have I:=h.next E;have A:=bm8 I;have c:=bc6 I Q M (U.next E) Y;unfold aw0 at c;unfold U2 at A;have g:∀x∈D.names.filter (lE M),x.length<=12:=λhh W=>by have W:=(eW.1 W).1;unfold aM.names at W;obtain⟨p,hp,rfl⟩:=dR.1 W;have:=h.names p hp;unfold jH at this;simp at this;exact this.2
  unfold lF;generalize D.names.filter (lE M)=l at c g|-;have HD:=λ(j:aM)(x:aI)(C:bK->Nat)(G:bK->aN)(B:bM x k n m j C G)(h2:k<=x)(s:bK)(Y:s.length<=12)=>uY B (bs s) (by rw[eK];unfold maxLen;omega) h2;obtain⟨he,h9,⟨A9,c9,rfl,-⟩,-⟩:=id U;unfold mH at *;have⟨V0,B0,Z⟩:=aB I E g;have⟨N,R⟩:=kX l.length;rw[<-R]at c;have t:=aH R;unfold rI;rcases S:D.down with _|_
  .rw[S]at A;rw[aQ (by simp)];clear h E r0 U Y I g R S;go_in;(go_wp2_with fail);go_call A as e w' ⟨rfl,rfl⟩;(go_wp2_with fail);go_call c as e w2 ⟨v2,rfl,a,u⟩;have o:=Reads.dC a;obtain⟨A2,c2,rfl,ha,h3,-⟩:=id o;unfold maxLen at h3;have⟨O2,V2,B2⟩:=aB a (V0.next u) (aJ B0 u);clear A c a o u h5 h6 h7 h8;(go_wp2_with fail);go_loopw [7,8,18] (λ_ _ i wr=>∃(hg:Nat)(j:aM)(C:bK->Nat)(G:bK->aN),hg<=N/\i=.int .i64 hg/\D.VK l=j.VK (l.drop hg)/\bM wr k n m j C G/\gS k m w wr/\wr.ownsRow w 9 1 (.slice A2 N c2) N (l.map encStr)) (λ_ _ i _=>N-(intOf i).toNat)
   .exact⟨0,D,_,_,bO _,rfl,rfl,V2,gS.cQ B2 _ _,fO O2 (by rw[bC];omega)⟩
   obtain⟨hg,j,C,G,hk,rfl,f,L,J,X⟩:=hrel;by_cases hc:hg<N
   .have i1:(hg:Int)<N:=(by omega);obtain⟨x,B⟩:∃x,l[hg]?=some x:=⟨_,aK (by have:=t.zz;omega)⟩;have q:=Z x (bD B);obtain⟨b,h4,rfl,-,-,-,d⟩:=(Reads.dC X).W1 (by omega);have c0:wr.cell? (zp b (h4+hg))=some (bs x):=(d wr mE hg (by simp;have:=t.zz;omega)).trans (by rw[sN,(aR.1 B).2];rfl);have y:=HD j wr C G L (aL hb J.size) x q;rw[gF]at y;have z:=f.trans (bD3 B);obtain⟨⟨e1,D1⟩,hr⟩:∃r,r=j.delete x:=⟨_,rfl⟩;rw[<-hr]at y z;unfold rI at y;simp only at y;have⟨V,F,O,ST⟩:=aC L J X z;generalize bs x=T at y c0;clear d B q L J X f z hr;(go_wp2_with fail);go_call y as e w3 ⟨rfl,⟨b3,d3,P⟩,v⟩;have⟨V3,F3,O3⟩:=aB P (F.trans v) (v.own O GB.2.1 V.map);clear y P v c0;by_cases h1:e1=0
    .subst h1;go_wp2;go_roundw
     .exact⟨hg+1,D1,b3,d3,by omega,by go_num,ST.trans (EZ _ _),V3,F3,O3⟩
     simp[intOf];omega
    have i2:(e1==0)=false:=bI.2 h1;go_wp2;(try rw[eJ]);go_ret;rw[ST.zz.trans (F1 h1 _ _)];exact⟨rfl,⟨_,_,V3⟩,F3⟩
   obtain rfl:hg=N:=(by omega);have i1:¬(hg:Int)<hg:=(by omega);have⟨V,F,DL⟩:=aB L J (show D.VK l=(0,j)from by rw[f,kB (by rw[<-t.zz];exact aO _)];rfl);clear L J X f;go_wp2;(try rw[eJ]);go_ret;rw[DL.zz];exact⟨rfl,⟨_,_,V⟩,F⟩
  rw[S]at A;rw[aU rfl];clear h E r0 U Y I g R S c HD;go_in;go_wp2_with fail
  go_call A as e w' ⟨rfl,rfl⟩;go_wp2;go_ret;exact⟨rfl,⟨_,_,V0⟩,gS.cQ B0 _ _⟩
end
def zD.az8{base:Nat}(h:zD w base v C)(y:Row w n 57 X)(j:Nat)(u:aN):zD (w.setCell ⟨n,j,none⟩ u) base v C:=by
 have g:∀{k:Nat} {t:cD} {l:List aN},Row w k t l->t≠57->(w.setCell ⟨n,j,none⟩ u).heap[k]?=w.heap[k]?:=fun {k t l} d z=>aV _ _ _ _ λr=>z (dI (r▸d) y);rcases h with h|⟨b,A,c,d,m,o,p,e,a⟩
 .exact .inl h
 exact .inr ⟨b,A,c,d,m,o,p,e.of_block (g e (by decide)),⟨a.len,λk x L i f=>fG (a.own k x L i f) λq s=>g (dZ (a.own k x L i f) s) (by decide),a.apart⟩⟩
def wL(w:aI)(m:iY)(e:eT)(b:aI):Prop:=∃a,e=.returned (.agg (mH m a).toArray)/\zD b w.heap.size a m.fC/\aS w.heap.size w b
def AO(lv:aN)(m:iY)(w:aI)(h:wH w lv m.fC)(hl:m.fC.length<=1000)(ht:m.fC.flatten.length<=100000):
 Calls prog 47 #[.agg (mH m lv).toArray] w (wL w m):=by
  unfold wL;obtain⟨O,N,P,l⟩:=m;simp only at h hl ht|-;obtain⟨vs,hz,K,Y⟩:=h;obtain⟨iz,hq,x1,x2,x3⟩:=info_parts oK;obtain⟨A,c,rfl,hm,ho,-⟩:=id K;have d:∀(j:Nat),j<l.length->∃L x b u,l[j]?=some L/\vs[j]?=some x/\A=some ⟨b,u,none⟩/\L.length<=100000/\Reads w x 1 L.length (gJ L)/\∀wr,aS w.heap.size w wr->wr.cell? ⟨b,u+j,none⟩=some x:=λj hj=>by
   obtain⟨b,u,hA,-,-,-,J⟩:=K.W1 (by omega);have hx:vs[j]?=some (vs[j]'(by omega)):=aK (by omega);have hL:l[j]?=some l[j]:=aK hj;refine⟨_,_,b,u,hL,hx,hA,?_,Y j _ _ hx hL,λwr hb=>?_⟩
   .have e:l=l.take j++l[j]::l.drop (j+1):=(by rw[gH,bY]);have:=gQ (λz=>z.flatten.length) e;simp only[iU,gP,aP]at this;omega
   exact J wr hb j (by omega)
  obtain⟨n,hn⟩:∃n,n=l.length:=⟨_,rfl⟩;rw[<-hn]at hm hl d|-;have⟨HN,HC⟩:=aA hn d;unfold mH;simp only;have b0:=(aY w.heap.size w).alloc (aO _) (.cells #[.int .i64 O,.int .i64 N,.int .u64 P,.slice A n c] 57);have r0:=Row.new w #[.int .i64 O,.int .i64 N,.int .u64 P,.slice A n c] 57;have z0:(w.alloc (.cells #[.int .i64 O,.int .i64 N,.int .u64 P,.slice A n c] 57)).heap.size=w.heap.size+1:=bC _ _;obtain⟨H,h7⟩:∃H,H=w.alloc (.cells #[.int .i64 O,.int .i64 N,.int .u64 P,.slice A n c] 57):=⟨_,rfl⟩;rw[<-h7]at b0 r0 z0;have b1:=(aY H.heap.size H).alloc (aO _) (.cells #[.int .i64 0,.int .i64 0,.int .u64 0,.slice none 0 0] 57);have r1:=Row.new H #[.int .i64 0,.int .i64 0,.int .u64 0,.slice none 0 0] 57;have z1:(H.alloc (.cells #[.int .i64 0,.int .i64 0,.int .u64 0,.slice none 0 0] 57)).heap.size=H.heap.size+1:=bC _ _;obtain⟨y,s⟩:∃y,y=H.alloc (.cells #[.int .i64 0,.int .i64 0,.int .u64 0,.slice none 0 0] 57):=⟨_,rfl⟩;rw[<-s]at b1 r1 z1;rw[z0]at r1;have⟨BB,R0,R1,Z⟩:=aC (aJ b0 b1) (r0.next b1) r1 (show y.heap.size=w.heap.size+1+1 from by rw[z1,z0]);obtain⟨⟨h8,ha,hc,hd⟩,-⟩:=gY R0.out;clear Y K d hn hz ho b0 r0 b1 r1 z0 z1;go_in;subst s;subst h7;(go_wp2_with fail);obtain⟨y,s⟩:∃y,y=(w.alloc (.cells #[.int .i64 O,.int .i64 N,.int .u64 P,.slice A n c] 57)).alloc (.cells #[.int .i64 0,.int .i64 0,.int .u64 0,.slice none 0 0] 57):=⟨_,rfl⟩;rw[<-s]at BB R0 R1 Z|-;clear h8 ha hc hd s;go_loopw [3,5,9] (λhh _ i wr=>∃(j:Nat)(M:List aN),j<=n/\i=.int .i64 j/\M.length=j/\wr.ownsRow y.heap.size 33 1 hh j M/\lQ wr y.heap.size M (l.take j)/\aS y.heap.size y wr) (λ_ _ i _=>n-(intOf i).toNat)
  .exact⟨0,[],bO _,rfl,rfl,bQ _ _ _ _,by simpa using lQ.nil _ _,aY _ _⟩
  obtain⟨j,M,hj,rfl,hy,g,f,E⟩:=hrel;obtain⟨A1,c1,rfl,hv,hw,-⟩:=id (Reads.dC g);have⟨C,I⟩:=aA E (aJ BB.out E);by_cases hu:j<n
  .obtain⟨L,x,b,u,h1,h2,rfl,xg,h3,h4⟩:=HC.out j hu;obtain⟨Ax,cx,rfl,-⟩:=id h3;have c0:=h4 wr I.out;have i1:(j:Int)<n:=(by omega);have⟨H3,G,F,H1,hg⟩:=aD (h3.next I.out) g f h1 hy;have hi:=C.out.size;clear h1 h2 h3 h4 g f E hv hw;go_wp2_with (at_builtin;first
    |(refine R7 FG underlying55 (cA G.out q.out) rfl rfl rfl rfl rfl (by omega) (by have:=q.out.size;omega) ?_;intro v4 w4 r X V;have⟨hf,Q⟩:=aA r X;clear r X V)
    |(refine qF _ rfl _ _ 33 rfl wr.heap.size 3 iz (.int .i64 0) 1 8 underlying33 hq x1 x2 x3 rfl (by decide) (.slice none 0 0) 0 [] rfl (bQ _ _ _ _) _ L.length (gJ L) rfl H3.out (NX L) (by unfold maxLen;omega) (by omega) (aO _) ?_;intro v3 w3 a o U;rw[jB,pD]at a;obtain⟨A3,c3,rfl,-⟩:=id (Reads.dC a);have⟨R,q⟩:=aA a (show aS wr.heap.size wr w3 from⟨o.os,o.tape,o.output,o.size,λk hk=>o.block k hk (by simp[Value.ownBlock])⟩);clear a o U))
   go_roundw
   .
    refine⟨j+1,M++[.slice A3 L.length c3],by omega,by go_num,by simp[hg.out],hf.out,?_,?_⟩
    iterate 2
     ·(try ((have hp:l.take (j+1)=l.take j++[L]:=by rw[dQ,H1.out];rfl);rw[hp]));have D:=(aY w3.heap.size w3).alloc (aO _) (.cells #[.slice A3 L.length c3] 33);(try (have h0:=(F.out.next q.out).next D;have x0:=cA (fO R.out hi) D));have a:=cA (cA G.out q.out) D
      first
       |have hs:=h0.snoc (B:=wr.heap.size) x0 F.out.lt (dE R.out)
        exact hs.eO λk t xs hr ht=>Q.out.block k hr.lt (λh9=>by have:=dI (dZ a h9.symm) hr;rw[ht]at this;exact absurd this (by decide))
       |have W:=aJ C.out (aJ q.out D)
        exact pH a W Q.out W.size
   simp[intOf];omega
  obtain rfl:j=n:=(by omega);have i1:¬(j:Int)<j:=(by omega);have h5:l.take j=l:=by rw[HN.out,eQ]
  have h6:zD wr y.heap.size (.slice A1 j c1) l:=by rw[h5]at f;exact aD5 (us:=M) (by rw[<-HN.out];exact g) f
  have⟨S,T⟩:=aA (R0.out.next C.out) (R1.out.next C.out);obtain⟨⟨h8,ha,hc,hd⟩,x8,x9,xa,xb⟩:=gY S.out;obtain⟨⟨x4,x5,x6,x7⟩,xc,xd,xe,xf⟩:=gY T.out;have he:=aH h6;clear g f E h5 h6;go_wp2;refine bG (v:=.agg #[.int .i64 O,.int .i64 N,.int .u64 P,.slice A1 j c1]) (by simp[results,results47,go_sem,x4,x5,x6,x7]) rfl ⟨.slice A1 j c1,rfl,?_,?_⟩
  .have h1:=he.out.az8 S.out 3 (.slice A1 j c1);exact(h1.aV3 (T.out.far (p:=⟨w.heap.size,3,none⟩) (by simp) _) _ _ _ _).SJ (by have:=Z.out;omega)
  exact((((I.out.setCell (by simp) _).setCell (by simp) _).setCell (by simp) _).setCell (by simp) _).setCell (by simp) _
def OF(D:aM)(n:bK):(D.delete n).1=0\/(D.delete n).1=4\/(D.delete n).1=61:=by
 unfold aM.delete aM.change;split
 .exact .inr (.inr rfl)
 split
 .exact .inr (.inl rfl)
 split
 .exact .inr (.inr rfl)
 exact .inl rfl
def af0:¬(9=103\/9=112\/9=5):=by decide
def ax0(D:aM)(n k:Nat)(a:aM):Prop:=(k=0/\a=D)\/(k=1/\(D.delete (nR n)).1≠61/\a=(D.delete (nR n)).2)\/(k=2/\(D.delete (nR n)).1≠61/\((D.delete (nR n)).2.delete (vI n)).1≠61/\a=((D.delete (nR n)).2.delete (vI n)).2)
def be6(h:ax0 D n 2 E):oN D n=(0,E):=by
 rcases h with⟨h,-⟩|⟨h,-⟩|⟨-,a,b,rfl⟩
 .omega
 .omega
 unfold oN;rw[aQ a,aQ b]
def bD0(b:n<2)(h:ax0 D k n E):((E.delete (if n=0 then nR k else vI k)).1=61->oN D k=E.delete (if n=0 then nR k else vI k))/\((E.delete (if n=0 then nR k else vI k)).1≠61->ax0 D k (n+1) (E.delete (if n=0 then nR k else vI k)).2):=by
 rcases h with⟨rfl,rfl⟩|⟨rfl,a,rfl⟩|⟨h,-⟩
 .rw[aU rfl];exact⟨λh=>by unfold oN;rw[aU h],λh=>.inr (.inl ⟨rfl,h,rfl⟩)⟩
 .rw[aQ (by omega)];exact⟨λh=>by unfold oN;rw[aQ a,aU h],λh=>.inr (.inr ⟨rfl,a,h,rfl⟩)⟩
 omega
def bk2(h:bM w k n m D K H)(hb:k<=w.heap.size)(h1:Nat)(hn:h1<=999999):
 Calls prog 162 #[.pointer (some ⟨n,0,none⟩),.int .i64 h1] w (rI k n m (oN D h1) w):=by
  have Z:=λx:aI=>yP (h1:Int) x ⟨by omega,by omega⟩;have y:=λx:aI=>JS (h1:Int) x ⟨by omega,by omega⟩;have B:=λ(g:aM)(x:aI)(t:bK->Nat)(u:bK->aN)(R:bM x k n m g t u)(p:k<=x.heap.size)(c:bB)=>uY R (lD c (h1:Int)) (jM _ _) p;have l1:=JX h1;have l2:=YC h1;obtain⟨U,M⟩:∃S,S=lD 116 (h1:Int):=⟨_,rfl⟩;obtain⟨V,N⟩:∃S,S=lD 98 (h1:Int):=⟨_,rfl⟩;have z:=λg x t u R p=>B g x t u R p 116;have A:=λg x t u R p=>B g x t u R p 98;rw[<-M]at Z l1 z;rw[<-N]at y l2 A;rw[l1]at z;rw[l2]at A;have HH:=aH h;unfold rI;clear h M N B l1 l2 hn;go_in;(go_wp2_with fail);refine(Z _).mono ?_;rintro e w1 ⟨rfl,O⟩;(go_wp2_with fail);refine(y _).mono ?_;rintro e F ⟨rfl,P⟩;have v:=aJ O P;have Q:=(aY F.heap.size F).alloc (aO _) (.cells #[.string U,.string V] 9);have r3:=Row.new F #[.string U,.string V] 9;have⟨G,Y,HZ⟩:=aB (aJ v Q) r3 (show F.heap.size<(F.alloc (.cells #[.string U,.string V] 9)).heap.size from by rw[bC];omega);clear O P v Q r3 Z y;go_wp2_with fail
  go_loopw [6,7,14] (λ_ _ i wr=>∃(h0:Nat)(g:aM)(t:bK->Nat)(u:bK->aN),h0<=2/\i=.int .i64 h0/\ax0 D h1 h0 g/\bM wr k n m g t u/\gS k m w wr/\Row wr F.heap.size 9 [.string U,.string V]) (λ_ _ i _=>2-(intOf i).toNat)
  .exact⟨0,D,_,_,by omega,rfl,.inl ⟨rfl,rfl⟩,HH.out.next G.out,gS.cQ G.out _ _,Y.out⟩
  obtain⟨h0,g,t,u,hk,rfl,o,hv,hf,W⟩:=hrel;have⟨L,I,T⟩:=aB hv hf W;have c0:=W.cell 0 (by simp);have c1:=W.cell 1 (by simp);simp only[bX,bE]at c0 c1;clear hv hf W;by_cases E:h0=2
  .subst E;have HE:=aH (be6 o);clear o;go_wp2;(try rw[eJ]);go_ret;rw[HE.out];exact⟨rfl,⟨_,_,L.out⟩,I.out⟩
  have d:=bD0 (by omega) o;have a:=OF g (if h0=0 then nR h1 else vI h1);rcases(show h0=0\/h0=1 from by omega)with rfl|rfl
  .rw[aU rfl]at d a;have b:=z g wr t u L.out (aL hb I.out.size);obtain⟨⟨e1,X⟩,q⟩:∃r,r=g.delete (nR h1):=⟨_,rfl⟩;rw[<-q]at b d a;unfold rI at b;simp only at b d a;have J:=aH d;clear d o q E;(go_wp2_with fail);refine b.mono ?_;rintro e w4 ⟨rfl,⟨b4,d4,s⟩,f⟩;have⟨l,j,C⟩:=aB s (I.out.trans f) (f.row T.out af0 (L.out.pX T.out));clear b s f c0 c1;rcases a with rfl|rfl|rfl
   iterate 2
    .go_wp2;go_roundw
     .exact⟨1,X,b4,d4,by omega,rfl,J.out.2 (by decide),l.out,j.out,C.out⟩
     simp[intOf]
   go_wp2;(try rw[eJ]);go_ret;rw[J.out.1 (by first|rfl|trivial)];exact⟨rfl,⟨_,_,l.out⟩,j.out⟩
  rw[aQ (by omega)]at d a;have b:=A g wr t u L.out (aL hb I.out.size);obtain⟨⟨e1,X⟩,q⟩:∃r,r=g.delete (vI h1):=⟨_,rfl⟩;rw[<-q]at b d a;unfold rI at b;simp only at b d a;have J:=aH d;clear d o q E;(go_wp2_with fail);refine b.mono ?_;rintro e w4 ⟨rfl,⟨b4,d4,s⟩,f⟩;have⟨l,j,C⟩:=aB s (I.out.trans f) (f.row T.out af0 (L.out.pX T.out));clear b s f c0 c1;rcases a with rfl|rfl|rfl
  iterate 2
   .go_wp2;go_roundw
    .exact⟨2,X,b4,d4,by omega,rfl,J.out.2 (by decide),l.out,j.out,C.out⟩
    simp[intOf]
  go_wp2;try rw[eJ]
  go_ret;rw[J.out.1 (by first|rfl|trivial)];exact⟨rfl,⟨_,_,l.out⟩,j.out⟩
variable{L:List cZ}
def qE.form(h:qE w v s):∃(p b:Nat)(c:Option Nat),v=.agg #[p,b,.map c]:=by
 rcases h with h|⟨B,n,D,a,-⟩
 .exact⟨0,0,none,h.1⟩
 exact⟨_,_,_,a⟩
def bZ8(F:bK)(L:List cZ):Prop:=∀e∈L,VH F e.1=true
def av7(w:aI)(v:aN)(L:List cZ)(e:eT)(b:aI):Prop:=∃a,e=.returned a/\∃F,qE b a F/\bZ8 F L/\(a=v\/aw1 w a)/\aS w.heap.size w b
def bM9(h:qE w v s)(R:qD w u L)(hn:L.length<=1000000):
 Calls prog 244 #[v,u] w (av7 w v L):=by
  obtain⟨⟨A,c9,rfl,-,-,-,-⟩,-⟩:=id R;obtain⟨-,hg,hh,-⟩:=R.cells;unfold maxLen at hh;obtain⟨G,H,z,rfl⟩:=h.form;have g:=λP=>R.later P;have C:=R.2;have⟨n,hN⟩:=kX L.length;rw[<-hN]at hg hn g|-;have b1:=(aY w w).alloc gC (.cells #[G,H,.map z] 283);have r1:=Row.new w #[G,H,.map z] 283;have Z:(w.alloc (.cells #[G,H,.map z] 283)).heap.size=w+1:=bC _ _;have⟨HN,HL,h8,HF⟩:=aC hN g C h;have F:=λ(x:aI) (hx:aS w w x) (q:Nat) o=>ai0 (.agg #[G,H,.map z]) s q x (h.next hx) o;have E:=λx:aI=>U0 ⟨#[]⟩ x (by show 0<=_;omega);unfold av7;have⟨wa,W⟩:=kX (w.alloc (.cells #[G,H,.map z] 283));rw[<-W]at b1 r1 Z;have b2:=(aY wa wa).alloc gC (.cells #[(),(),.map none] 283);have r2:=Row.new wa #[(),(),.map none] 283;have⟨h3,d⟩:=aA (aJ b1 b2) (r1.next b2);rw[Z]at r2;have c:=aH r2;have Y:w.heap.size+1<(wa.alloc (.cells #[(),(),.map none] 283)):=(by rw[bC,Z];omega);have HZ:=aH (And.intro Z Y);subst W;clear h R g hN C b1 r1 Z b2 r2 Y;go_in;go_wp2_with fail
  go_loopw [6,9] (λ_ i wr=>∃j:Nat,j<=n/\i=.int .i64 j/\(∀(k:Nat)(e:cZ),k<j->L[k]?=e->VH s e.1=true)/\aS w w wr/\Row wr w 283 [G,H,.map z]/\Row wr (w+1) 283 [(),(),.map none]) (λ_ i _=>n-(intOf i).toNat)
  .exact⟨0,bO _,rfl,(λk e h=>by omega),h3,d,c⟩
  obtain⟨j,hj,rfl,B,Q,U,V⟩:=hrel;have⟨N,p,d,c⟩:=aC B Q U V;clear B Q U V;by_cases hp:j<n
  .have i1:(j:Int)<n:=(by omega);obtain⟨e,r⟩:∃e,L[j]?=some e:=⟨_,aK (by have:=HN.zz;omega)⟩;obtain⟨b,hr,rfl,-,hc⟩:=HL (by omega);have⟨c0,hi,c2⟩:=hc j e r wr p;have oe:=h8 e (bD r);have y:=dO wr (.cells (iX e) 152);have rr:=Row.new wr (iX e) 152;have h6:=aH r;have⟨x1,x2,x3⟩:=e;have X:=oe.1;simp only at X;unfold iX at y rr;simp only at y rr;have y0:=rr.rY;have f0:=(d.next y).rY;have f1:=(d.next y).xD;have f2:=(d.next y).G8;have I:=aJ p y;have S:=F _ I x1 X;have⟨h5,hb,hd⟩:=aB I (d.next y) (c.next y);clear hc r y rr oe I;(go_wp2_with fail);go_call S as e w3 ⟨rfl,t⟩;have⟨D,hf,l⟩:=aB (aJ h5 t) (hb.next t) (hd.next t);clear S t y0 f0 f1 f2;rcases hm:VH s x1 with _|_
   ·(go_wp2_with fail);go_call E _ as e w4 ⟨v4,rfl,J,T,f⟩;obtain⟨a4,b4,c4,rfl⟩:=J.form;have g0:=(l.next f).TI;have g1:=(l.next f).J3;have g2:=(l.next f).zf2;have P:=(l.next f).rY;have h1:=(l.next f).xD;have h2:=(l.next f).G8;have⟨O,h7,h4,ha⟩:=aC J (λq a b h=>aL D.size (T q a b h)) (aJ D f) (l.next f);clear J T f E F hm;have m:∀(q:Nat),Value.map c4=.map q->q≠w.heap.size+1:=λq o K=>by have⟨nn,M,ho⟩:=O.map_lt o;subst K;exact fP ho ha rfl
    go_wp2;refine bG (v:=.agg #[a4,b4,.map c4]) (by simp[results,results244,go_sem,P,h1,h2]) rfl ⟨_,rfl,lb ⟨#[]⟩,?_,(show bZ8 _ L from λe _=>aG3 _ (by decide)),.inr h7,((h4.setCell (by simp) _).setCell (by simp) _).setCell (by simp) _⟩;refine O.eO λq o=>?_;rw[aV _ _ _ _ (m q o),aV _ _ _ _ (m q o),aV _ _ _ _ (m q o)]
   have HM:=aH hm;clear hm;go_wp2;go_roundw
   .
    refine⟨j+1,by omega,by go_num,λk e hk r=>?_,D,hf,l⟩;rcases cR k j with K|K
    .exact N k e K r
    have:k=j:=(by omega);subst this;rw[h6.zz]at r;cases r;exact HM
   simp[intOf];omega
  obtain rfl:j=n:=(by omega);have i1:¬(j:Int)<j:=(by omega);have f0:=d.rY;have f1:=d.xD;have f2:=d.G8;have g0:=c.TI;have g1:=c.J3;have g2:=c.zf2;have P:=c.rY;have h1:=c.xD;have h2:=c.G8;have m:∀(q:Nat),Value.map z=.map q->q≠w+1:=λq o K=>by have⟨nn,M,ho⟩:=(HF.next p).map_lt o;subst K;exact fP ho c rfl
  clear E F;go_wp2;refine bG (v:=.agg #[G,H,.map z]) (by simp[results,results244,go_sem,P,h1,h2]) rfl ⟨_,rfl,s,?_,?_,.inl rfl,((p.setCell (by simp) _).setCell (by simp) _).setCell (by simp) _⟩
  .refine(HF.next p).eO λq o=>?_;rw[aV _ _ _ _ (m q o),aV _ _ _ _ (m q o),aV _ _ _ _ (m q o)]
  intro e r;obtain⟨k,hk,rfl⟩:=eS r;exact N k _ (by have:=HN.zz;omega) (aK hk)
def bJ2(h:pJ s=true)(a:s.length<=1048576):(uE s).length<=1000000:=by unfold uE;rw[aU h,qI];unfold mT;omega
def RC(a m d n:Nat)(D:aM)(w:aI)(e:eT)(b:aI):Prop:=∃p:Nat,
 e=.returned (.tuple #[(match (kG D n).2 with|none=>.pointer none|some _=>.pointer (some ⟨p,0,none⟩)),.int .i64 (kG D n).1])/\(∃c f,bM b a d m D c f)/\gS a m w b/\∀L,(kG D n).2=some L->s7 b (CH w b d m) a p d n L
def bN9(a:D.down=false):kG D n=match bR D.files (nR n)with|none=>(90,none)|some f=>if pJ f.data then(0,some (uE f.data))else(90,none):=by unfold kG;rw[a,aQ (by simp)];rfl
def ae8(a:D.down=false):RM D s=match bR D.files s with|none=>([],4)|some f=>(f.data,0):=by unfold RM;rw[a,aQ (by simp)];rfl
def ce2(a:bM w k n m D K H)(b:w.ownsRow i 328 4 v j X)(c:v.ownBlock=d):¬jE w n m d:=a.nE (dZ b c) PA.2 (by decide)
def bk1(h:bM w k n m D K H)(hb:k<=w)(T:D.down=false)(xs:Nat)(hn:xs<=999999):
 Calls prog 181 #[zp n,xs] w (RC k m n xs D w):=by
  have HT:=λx:aI=>yP (xs:Int) x ⟨by omega,by omega⟩;have A:=λx:aI=>JS (xs:Int) x ⟨by omega,by omega⟩;have l1:=JX xs;have l2:=YC xs;have HW:=λ(x:aI)(hx:bM x k n m D K H)(c:bB)=>aC8 hx (lD c (xs:Int)) (jM _ _);have a:=λx hx=>HW x hx 116;have d:=λx hx=>HW x hx 98;have⟨S1,hr⟩:=kX (lD 116 (xs:Int));have⟨S2,hs⟩:=kX (lD 98 (xs:Int));rw[<-hr]at HT l1 a;rw[<-hs]at A l2 d;rw[l1,ae8 T]at a;rw[l2,ae8 T]at d;unfold MW at a d;unfold RC;rw[bN9 T];have s:=λ(f:fM) (t:bR D.files (nR xs)=f)=>(h.data t).2;have g:=λ(f:fM) (t:bR D.files (vI xs)=f)=>(h.data t).2;have HH:=aH h;clear h hr hs HW l1 l2 T;rcases t:bR D.files (nR xs)with _|Z
  .rw[t]at a;simp only at a;have HB:=bv1 4;clear t s g d A;go_in;(go_wp2_with fail);go_call HT _ as e w1 ⟨rfl,b⟩;have N:=a w1 (HH.next b);have u:=aH b;clear HT a b;(go_wp2_with fail);go_call N as e w2 ⟨rfl,o,l⟩;have⟨C,B⟩:=aA o ((gS.cQ u k m).trans l);clear N o l;(go_wp2_with fail);go_call HB w2 (by omega) as e w' ⟨rfl,rfl⟩;go_wp2;go_ret2;exact⟨0,rfl,⟨_,_,C⟩,B,λL V=>by cases V⟩
  rw[t]at a;simp only at a|-;have I:=s Z t;have Q:=λy:aI=>WN (bs Z.data) y (by rw[eK];omega);rw[gF]at Q;have⟨ST,h2⟩:=kX (bs Z.data);rw[<-h2]at a Q;by_cases i:pJ Z.data=true
  .have he:PG Z.data=0:=(by unfold PG;rw[i];rfl);rw[he]at Q;rw[aU i];simp only;have⟨L,V⟩:=kX (uE Z.data);rw[<-V]at Q|-;have G:L.length<=1000000:=by rw[V];exact bJ2 i I
   obtain⟨F0,z,xj,hz,h0⟩:∃(F0:bK)(z:Int),F0.length<=1048576/\(z=0\/z=4)/\∀x (hx:bM x k n m D K H),Calls prog 229 #[zp n,S2] x λe w'=>e=.returned (.tuple #[bs F0,z])/\bM w' k n m D K H/\gS k m x w':=by
    rcases hg:bR D.files (vI xs)with _|bf
    .rw[hg]at d;exact⟨[],4,by simp,.inr rfl,d⟩
    rw[hg]at d;exact⟨bf.data,0,g bf hg,.inl rfl,d⟩
   have R:=λx:aI=>U0 (bs F0) x (by rw[eK];omega);rw[gF]at R;have⟨SB,ht⟩:=kX (bs F0);rw[<-ht]at h0 R;have xl:(z==61)=false:=(by rcases hz with rfl|rfl<;>rfl);have HM:=λ(y:aI)(v:aN)(hv:qD y v L)=>by0 v L y hv G;have HS:=λ(y:aI)(vf ve:aN)(t:qE y vf F0)(hv:qD y ve L)=>bM9 t hv G;unfold av7 at HS;have xm:=aH V;clear i he ht h2 t s g d xj I V G;go_in;(go_wp2_with fail);go_call HT _ as e w1 ⟨rfl,b⟩;have N:=a w1 (HH.next b);have u:=aH b;clear HT a b;(go_wp2_with fail);go_call N as e w2 ⟨rfl,o,l⟩;have⟨C,B⟩:=aA o ((gS.cQ u k m).trans l);clear N o l;(go_wp2_with fail);go_call Q _ as e w3 ⟨v3,rfl,⟨j,J⟩,E⟩;have xi:qD w3 v3 L:=⟨Reads.dC j,J⟩;obtain⟨A3,c3,rfl,-⟩:=id (Reads.dC j);have⟨x6,U,O⟩:=aB (show w3.ownsRow w2 152 3 (.slice A3 L c3) L (fX L)from j) J E;clear Q j J xi E;(go_wp2_with fail);go_call A _ as e w4 ⟨rfl,h3⟩;have F:=aJ O h3;have hd:=C.next F;have N:=h0 w4 hd;have⟨x7,xh,x9⟩:=aB (cA x6 h3) hd (B.trans (gS.cQ F k m));clear A h0 h3 F hd;(go_wp2_with fail);go_call N as e w5 ⟨rfl,x4,h7⟩;have h1:=h7.own x7 pF xh.map;have⟨x8,hm,hj⟩:=aB h1 x4 (x9.trans h7);have x1:=HM w5 (.slice A3 L c3) ⟨Reads.dC h1,U⟩;clear N x4 h7 h1 HM;(go_wp2_with fail);go_call x1 as e w6 ⟨v6,rfl,p,hu⟩;obtain⟨A6,c6,rfl,-⟩:=id (Reads.dC p);have⟨xf,P⟩:=aA p hu;clear x1 p hu;(go_wp2_with fail);go_call R _ as e w7 ⟨v7,rfl,x5,x2,S⟩;have W:=aJ P S;have x3:=HS w7 v7 (.slice A3 L c3) x5 ⟨Reads.dC (cA x8 W),U⟩;have⟨xd,hi,xg⟩:=aB x2 S (cA xf S);clear R x5 x2 S W HS;(go_wp2_with fail);go_call x3 as e w8 ⟨v8,rfl,F8,hh,x0,h8,h4⟩;obtain⟨fa,fb,fc,rfl⟩:=hh.form;have X:=aJ hi h4;have r:=aJ P X;have Y:∀q,Value.map fc=.map (some q)->w5.heap.size<=q:=λq hq=>by
    rw[hq]at h8;rcases h8 with h9|h9
    .exact aL P.size (xd q _ _ h9.symm)
    exact aL (aL P.size hi.size) (h9 q _ _ rfl)
   have⟨hp,xa,hl,xb,xc,xe⟩:=aE (hm.next r) (hj.trans (gS.cQ r k m)) (cA xg h4) hh x0 Y;have xp:w.heap.size<=w5:=hj.size;have xq:w5.heap.size<=w8:=r.size;clear x3 hh x0 h8 h4 X r Y;go_wp2;go_ret2;refine⟨w8,rfl,?_,?_,λL' xk=>?_⟩
   .exact⟨_,_,hp.next (mE.alloc gC _)⟩
   .exact xa.trans (gS.cQ (mE.alloc gC _) _ _)
   cases xk;have h5:=(aY w8 w8).alloc gC (.cells #[zp n,xs,L,.slice A6 (pA L L) c6,fa,fb,.map fc] 285);have h6:=hp.next h5;have hc:=Row.new w8 #[zp n,xs,L,.slice A6 (pA L L) c6,fa,fb,.map fc] 285;have ha:=cA hl h5;have hy:=xb.next h5;refine⟨_,_,_,_,F8,hc,by omega,fO ha (by omega),hy,xc,⟨by omega,hc.lt,h6.nE hc PA.1 (by decide)⟩,λxr hk=>⟨?_,jG ha xr hk,ce2 h6 ha hk⟩,λq hq=>?_⟩
   .have:=dE hl xr hk;omega
   have⟨nn,M,ho⟩:=hy.map_lt hq;have xo:=xe q hq;have xn:=hm.lt.2;exact⟨by omega,ho.lt,h6.cg0 ho (by omega)⟩
  have i:pJ Z.data=false:=(by simpa using i);have he:PG Z.data=90:=(by unfold PG;rw[i];rfl);rw[he]at Q;rw[i,aQ (by simp)];clear t s g d A i he h2 I;go_in;go_wp2_with fail
  go_call HT _ as e w1 ⟨rfl,b⟩;have N:=a w1 (HH.next b);have u:=aH b;clear HT a b;go_wp2_with fail
  go_call N as e w2 ⟨rfl,o,l⟩;have⟨C,B⟩:=aA o ((gS.cQ u k m).trans l);clear N o l;go_wp2_with fail
  go_call Q _ as e w3 ⟨v3,rfl,-,E⟩;have O:=aH E;clear Q E;go_wp2;go_ret2;exact⟨0,rfl,⟨_,_,C.next O⟩,B.trans (gS.cQ O _ _),λL V=>by cases V⟩
variable{h:oG}
def oQ.cells{w:aI}{base n:Nat}{h:oG}{cK:Nat}(H:oQ w base n h I cK):w.cell? ⟨h.X,0,none⟩=some (.pointer (some ⟨n,0,none⟩))/\w.cell? ⟨h.X,1,none⟩=some (.int .i64 (I.cV.next:Nat))/\w.cell? ⟨h.X,2,none⟩=some (.int .i64 (I.cV.check:Nat))/\w.cell? ⟨h.X,3,none⟩=some (.int .u64 (I.cV.aZ:Nat))/\w.cell? ⟨h.X,4,none⟩=some h.lv/\w.cell? ⟨h.X,5,none⟩=some (.float .f64 cK)/\w.cell? ⟨h.X,6,none⟩=some (.pointer (some ⟨h.mb,0,none⟩))/\w.cell? ⟨h.X,7,none⟩=some (.map (some h.tm)):=
 ⟨H.row.cell 0 (by simp),H.row.cell 1 (by simp),H.row.cell 2 (by simp),H.row.cell 3 (by simp),H.row.cell 4 (by simp),H.row.cell 5 (by simp),H.row.cell 6 (by simp),H.row.cell 7 (by simp)⟩
def index_none(H:oQ w k n h I m):
 Calls prog 46 #[.pointer (some ⟨h.X,0,none⟩)] w λe a=>e=.returned (.bool false)/\w=a:=by
  obtain⟨-,-,-,-,-,-,b,-⟩:=H.cells;clear H;go_in;go_wp2;go_ret;exact⟨rfl,rfl⟩
def OU.slice{w:aI}{base:Nat}{v:aN}{l:oF}(h:OU w base N v l):∃A c,v=.slice A l.length c:=by obtain⟨b,-,⟨A,c,a,-⟩,-⟩:=h.E9;exact⟨A,c,a⟩
def vW(H:oQ w k n h I m)(f:zH I.cV=true):
 Calls prog 24 #[.pointer (some ⟨h.X,0,none⟩)] w (wL w I.cV):=by
  obtain⟨-,⟨M,N,-⟩,-⟩:=lW.1 f;have l:=(aY w.heap.size w).alloc (aO _) (.cells #[.int .i64 0,.int .i64 0,.int .u64 0,.slice none 0 0] 57);have u:=Row.new w #[.int .i64 0,.int .i64 0,.int .u64 0,.slice none 0 0] 57;have d:=H.next l;obtain⟨-,D,E,F,s,-⟩:=d.cells;obtain⟨A,c,t⟩:=d.fC.slice;have q:=index_none d;have i:=AO h.lv I.cV _ d.fC.E9 (by omega) (by omega);rw[t]at s i;unfold wL at i|-;have⟨x,C⟩:=aA l u;clear H d f M N l u t;generalize I.cV=B at *;obtain⟨J,K,L,p⟩:=B;unfold mH at *;simp only at *;go_in;(go_wp2_with fail);refine q.mono ?_;rintro e X ⟨rfl,rfl⟩;(go_wp2_with fail);refine i.mono ?_;rintro e Y ⟨o,rfl,b,a⟩;obtain⟨g,j,rfl⟩:∃g j,o=.slice g p.length j:=by
   obtain⟨W,-,⟨A,c,G,-⟩,-⟩:=b.E9;exact⟨A,c,G⟩
  have r:=aH (C.out.next a);obtain⟨⟨O,P,Q,R⟩,S,T,U,V⟩:=gY r.out;have⟨z,y⟩:=aA b (aJ x.out a);clear q i b a D E F s;go_wp2;refine bG (v:=.agg #[.int .i64 J,.int .i64 K,.int .u64 L,.slice g p.length j]) (by simp[results,results24,go_sem,O,P,Q,R]) rfl ⟨.slice g p.length j,rfl,?_,?_⟩
  .exact(z.out.aV3 r.out _ _ _ _).SJ (by rw[bC];omega)
  exact(((y.out.setCell (aO _) _).setCell (aO _) _).setCell (aO _) _).setCell (aO _) _
def ET:¬(100=103\/100=112\/100=5)/\¬(267=103\/267=112\/267=5):=by decide
def oQ.bO8(H:oQ w k n h I m)(c:∀e,h.TL e\/h.TT e->¬CD w e):∀e,h.T e->¬CD w e:=λe a=>by
 rcases a with rfl|rfl|rfl|a|a
 .exact iL H.row ET.1
 .exact iL H.mem.1 ET.2
 .obtain⟨d,M,b,-⟩:=H.map;exact sW b
 .exact iL (dZ H.mem.2.1 a) pF
 exact c e a
def oQ.ne(H:oQ w k n h I m):h.X≠h.mb/\h.X≠h.tm/\h.mb≠h.tm/\(∀e,h.mv.ownBlock=some e->e≠h.X/\e≠h.mb/\e≠h.tm):=by
 obtain⟨d,M,b,-⟩:=H.map;refine⟨λa=>?_,λa=>fP b H.row a.symm,λa=>fP b H.mem.1 a.symm,λe c=>⟨λa=>?_,λa=>?_,λa=>fP b (dZ H.mem.2.1 c) a.symm⟩⟩
 .have:=dI H.row (a▸H.mem.1);exact absurd this (by decide)
 .have:=dI H.row (a▸dZ H.mem.2.1 c);exact absurd this (by decide)
 have:=dI H.mem.1 (a▸dZ H.mem.2.1 c);exact absurd this (by decide)
def oQ.O1(H:oQ w k n h I m)(l:w.grownBy x (some h.mb))(z:zS x k h.mb v L)(A:∀K,v.ownBlock=some K->h.mv.ownBlock=some K\/w.heap.size<=K):
 oQ x k n {h with mv:=v} {I with mem:=L} m:=by
  have i:∀K,K<w.heap.size->K≠h.mb->x.heap[K]?=w.heap[K]?:=λK r s=>l.block K r (λg=>s (by cases g;rfl));obtain⟨C,F,D,G⟩:=H.ne;obtain⟨E,M,o,B⟩:=H.map;refine⟨H.row.of_block (i _ H.row.lt C),H.fC.eO λK g d=>i K d (H.apart K (.inl g)).2.2.2.1,z,⟨E,M,nO o (i _ o.lt (λh=>D h.symm)),B⟩,λN J u=>(H.fA N J u).eO λq y d=>i q d (H.apart q (.inr y)).2.2.2.1,H.low,λK g=>?_⟩;obtain⟨a,b,c,p,e,f⟩:=H.apart K g;refine⟨a,aW b l.size,c,p,e,λt=>?_⟩;rcases A K t with j|j
  .exact f j
  omega
def lB.O1{S:dW}(H:lB w n S D G I k)(g:w.grownBy y (some S.x.mb))(B:zS y n S.x.mb v L)(q:∀E,v.ownBlock=some E->S.x.mv.ownBlock=some E\/w.heap.size<=E):
 lB y n {S with x:={S.x with mv:=v}} D G {I with mem:=L} k/\oD n (gX w S) (gX y {S with x:={S.x with mv:=v}}) w y:=by
  have o:=H.idx.O1 g B q;refine H.OA o g.os g.tape g.output g.size (λE i j=>g.block E i λd=>j (.inr (.inl (by cases d;rfl)))) (λE i j=>?_) (o.bO8 λE p A=>?_)
  .rcases j with d|d|d|d|d
   .exact .inl d
   .exact .inr (.inl d)
   .exact .inr (.inr (.inl d))
   .rcases q E d with m|m
    .exact .inr (.inr (.inr (.inl m)))
    omega
   exact .inr (.inr (.inr (.inr d)))
  obtain⟨a,b,c,r,e,f⟩:=H.idx.apart E p;have l:=H.sep E (.inr (.inr (.inr (.inr p))));have h:=g.block E b (λd=>r (by cases d;rfl));obtain⟨C,t,s,u,z⟩:=A;exact l (.inl (.inr (.inl ⟨C,t,s,by rw[<-h];exact u,z⟩)))
def bp6(a:Nat)(h:oG)(I:bA)(e:cZ)(w:aI)(x:eT)(c:aI):Prop:=
 x=.returned (.int .i64 0)/\∃b,zS c a h.mb b (oV I.mem e)/\w.grownBy c (some h.mb)/\∀k,b.ownBlock=some k->h.mv.ownBlock=some k\/w.heap.size<=k
def bA6(H:oQ w k n h I m)(Y:k<=w.heap.size)(e:cZ)(z:wN e)(G:pZ e=true)(Z:I.mem.length<=1000000):
 Calls prog 94 #[.pointer (some ⟨h.X,0,none⟩),.agg (iX e)] w (bp6 k h I e w):=by
  have r:=dO w (.cells (iX e) 152);have p:=Row.new w (iX e) 152;have q:=H.next r;have D:=index_none q;have t:=UJ e (w.alloc (.cells (iX e) 152)) z;have A:((bs (lV e)).toList==[])=false:=by rw[bI];intro v;have X:(bs (lV e)).toList.length=0:=(by rw[v];rfl);rw[l3,bN,eK,rL G]at X;omega
  have C:=λ(x:aI) (J:aS (w.alloc (.cells (iX e) 152)).heap.size (w.alloc (.cells (iX e) 152)) x)=>cc2 (q.mem.next J) e z Z (aL Y (aL r.size J.size));unfold bp6;generalize bs (lV e)=T at t A;obtain⟨U,V,W⟩:=e;unfold iX at *;simp only at *;have⟨L,Q,P,c,hz⟩:=aD r p q C H.mem.1.lt;have d:=p.cell 0 (by simp);have f:=p.cell 1 (by simp);have g:=p.cell 2 (by simp);simp only[bX,bE]at d f g;clear H q r p C z G;go_in;(go_wp2_with fail);refine D.mono ?_;rintro e w' ⟨rfl,rfl⟩;(go_wp2_with fail);refine t.mono ?_;rintro e s ⟨rfl,a⟩;have⟨O,u,M⟩:=aB (P.out.next a) (Q.out.next a) a;have z6:∀y:dY s,y.it.cell? ⟨h.X,6,none⟩=some (.pointer (some ⟨h.mb,0,none⟩)):=λy=>(O.out.next y.ok).cells.2.2.2.2.2.2.1;have y0:∀y:dY s,y.it.cell? ⟨w.heap.size,0,none⟩=some (.int .u64 U):=λy=>(u.out.next y.ok).cell 0 (by simp);have y1:∀y:dY s,y.it.cell? ⟨w.heap.size,1,none⟩=some (.int .i64 V):=λy=>(u.out.next y.ok).cell 1 (by simp);have y2:∀y:dY s,y.it.cell? ⟨w.heap.size,2,none⟩=some (.int .i64 W):=λy=>(u.out.next y.ok).cell 2 (by simp);clear D t a d f g;(go_wp2_with fail);refine rV (by kernel_rfl) (by kernel_rfl) (by kernel_rfl) (by kernel_rfl) ?_;simp only[List.dropLast,List.drop,List.length];repeat go_big_quiet_step (fail)
  refine wpQuiet_nil ?_;rintro _ ⟨⟨wq,o⟩,rfl⟩;have b:=aJ M.out o;have E:=c.out _ b;have B:=aH (aJ L.out b);clear z6 y0 y1 y2 o b c;(go_wp2_with fail);refine E.mono ?_;rintro e w4 ⟨rfl,K,j,i,l⟩;have⟨R,N⟩:=aA j (oB B.out i);have S:=aH (show∀h0,K.ownBlock=some h0->h.mv.ownBlock=some h0\/w.heap.size<=h0 from λh0 F=>by
   rcases l with rfl|v
   .exact .inl F
   exact .inr (aL B.out.size (v h0 F)))
  clear E j i l;go_wp2;go_ret;exact⟨rfl,K,R.out,N.out,S.out⟩
variable{P:List (List cZ)}
structure wV(a m d:Nat)(h:oG)(I:bA)(b:Nat)(D:aM)(c:bK->Nat)(e:bK->aN)(w x:aI):Prop where
 eD:bM x a d m D c e
 idx:oQ x a d h I b
 out:∀k,h.T k->¬jE x d m k
 fr:gS a m w x
section
variable {base m d:Nat}{h:oG}{I:bA}{cK:Nat}{D:aM}{blk:bK->Nat}{dat:bK->aN}{w x y:aI}
def wV.refl(a:bM w base d m D blk dat)(b:oQ w base d h I cK)(c:∀k,h.T k->¬jE w d m k):wV base m d h I cK D blk dat w w:=⟨a,b,c,gS.refl _ _ _⟩
def wV.xC(H:wV base m d h I cK D blk dat w x)(g:bM y base d m D blk dat)(b:gS base m x y):wV base m d h I cK D blk dat w y:=by have e:=oD.lX b H.eD.FJ;obtain⟨c,f⟩:=e.clear (T:=h.T) (λk a=>⟨(H.idx.lt k a).2,H.out k a⟩);exact⟨g,H.idx.eO b.size f,λk a=>(c k a).2,H.fr.trans b⟩
def wV.next(H:wV base m d h I cK D blk dat w x)(a:aS x.heap.size x y):wV base m d h I cK D blk dat w y:=H.xC (H.eD.next a) (gS.cQ a _ _)
def wV.grown{r:Option Nat}(H:wV base m d h I cK D blk dat w x)(B:∀k,h.T k->k<w.heap.size)(g:x.grownBy y r)(l:∀k,r=some k->w.heap.size<=k/\∃t s,Row x k t s/\¬(t=103\/t=112\/t=5)/\t≠3):wV base m d h I cK D blk dat w y:=by
 have E:=H.eD.grown g λk c=>by obtain⟨-,t,s,n,o,j⟩:=l k c;exact H.eD.nE n o j
 have b:∀k,h.T k->y.heap[k]?=x.heap[k]?:=λk c=>g.block k (H.idx.lt k c).2 λp=>by have:=(l k p.symm).1;have:=B k c;omega
 refine⟨E,H.idx.eO g.size b,λk c f=>?_,H.fr.grown g λk c=>(l k c).1⟩;have e:=H.out k c;rcases f with f|⟨C,t,u,j,z⟩|f
 .exact e (.inl f)
 .exact e (.inr (.inl ⟨C,t,u,by rw[<-b k c];exact j,z⟩))
 refine e (.inr (.inr ?_));obtain⟨C,u,A⟩:=H.eD.FJ;have q:y.heap[d]?=x.heap[d]?:=g.block d (mV H.eD.FJ).lt λp=>by obtain⟨-,t,s,n,o,j⟩:=l d p.symm;obtain⟨F,v,i,-⟩:=n;rw[A]at i;cases i;exact o (.inl rfl)
 unfold OwnAt at f|-;rwa[dH (a:=⟨d,9,none⟩) q]at f
def wV.RT(H:wV base m d h I cK D blk dat w x){n:Nat}{L:List cZ}(b:I.fA n=some L):s7 x h.TT base (h.tb n) d n L/\∀q,h.TT q->q≠m:=⟨H.idx.fA n L b,λq c a=>H.out q (.inr (.inr (.inr (.inr (.inr c))))) (.inl a)⟩
end
def bi6(w:aI):(zeroValue 214).run prog w=.ok (.pointer none) w:=by kernel_rfl
def bS1:Keyed prog 3:=int_keyed underlying3
def FF(a:n<=999999):keyOf prog 3 (.int .i64 n)=some (vV n):=keyOf_int_mk underlying3 (an3 (by omega) (by omega))
def Y6(H:oQ w k n h I i){m:Nat}(d:m<=999999){L:List cZ}(c:I.fA m=some L):
 (Instr.lookup 98 (.map (some h.tm)) (.int .i64 m) false).run prog w=.ok (.pointer (some ⟨h.tb m,0,none⟩)) w:=by obtain⟨g,M,e,f,-⟩:=H.map;obtain⟨v,j,a,b⟩:=e.lookup bS1 underlying98 (bi6 w) S8 (FF d);rw[(f.2 m L c).2]at b;rw[a,XE b]
def lL(w:aI)(a:Nat)(v:aN)(b:List (List cZ)):Prop:=∃c:List aN,c.length=b.length/\w.ownsRow a 113 1 v b.length c/\∀(k:Nat)(x:aN)(l:List cZ),c[k]?=some x->b[k]?=some l->w.ownsRow a 152 3 x l.length (fX l)/\∀e∈l,wN e
def J8:¬(113=103\/113=112\/113=5)/\113≠3/\113≠152:=by decide
def lL.lists(h:lL w n v P):co1 w v P:=by obtain⟨f,a,e,b⟩:=h;refine⟨f,a,by rw[a];exact Reads.dC e,λk x l d c=>⟨Reads.dC (b k x l d c).1,(b k x l d c).2⟩⟩
def lL.eO{w':aI}(h:lL w n v P)(f:∀k t m,Row w k t m->n<=k->t=113\/t=152->w'.heap[k]?=w.heap[k]?):lL w' n v P:=by obtain⟨j,i,e,b⟩:=h;exact⟨j,i,fG e λk a=>f k _ _ (dZ e a) (dE e k a) (.inl rfl),λk x l d c=>⟨fG (b k x l d c).1 λq g=>f q _ _ (dZ (b k x l d c).1 g) (dE (b k x l d c).1 q g) (.inr rfl),(b k x l d c).2⟩⟩
def lL.next{w:aI}{base:Nat}{v:aN}{P:List (List cZ)}(h:lL w base v P)(a:aS w.heap.size w x):lL x base v P:=h.eO λk t c b _ _=>a.block k b.lt
def lL.xC{base:Nat}(h:lL w k v P)(b:bM w base n m D K H)(c:gS base m w x):lL x k v P:=
 h.eO λf t e a _ d=>c.block f a.lt (.inr ⟨b.pX a,iL a (by rcases d with rfl|rfl;exact J8.1;exact pF)⟩)
def lL.form(h:lL w n v P):∃A c,v=.slice A P.length c:=by obtain⟨e,d,a,-⟩:=h;obtain⟨A,c,b,-⟩:=Reads.dC a;exact⟨A,c,b⟩
def lL.snoc{w:aI}{z:aN}(h:X.length=P.length)(j:∀(k:Nat)(v:aN)(L:List cZ),X[k]?=some v->P[k]?=some L->w.ownsRow n 152 3 v L.length (fX L)/\∀e∈L,wN e)(r:w.ownsRow n 152 3 v L.length (fX L))(i:∀e∈L,wN e)(m:aS w.heap.size w x)(o:x.grownBy y u.ownBlock)(p:x.ownsRow n 113 1 u P.length X)(g:y.ownsRow n 113 1 z (P.length+1) (X++[v])):lL y n z (P++[L]):=by
 have f:∀{A:aN} {q:List cZ},w.ownsRow n 152 3 A q.length (fX q)->y.ownsRow n 152 3 A q.length (fX q):=fun {A q} s=>by
  have b:=cA s m;exact fG b λk f=>o.block k (jG b k f) λd=>by have:=dI (dZ b f) (dZ p d.symm);exact absurd this (by decide)
 refine⟨X++[v],by simp[h],by rw[aP];exact g,λk t q a c=>?_⟩;rcases cR k X.length with d|d
 .rw[eY d]at a;rw[eY (by rw[<-h];exact d)]at c;exact⟨f (j k t q a c).1,(j k t q a c).2⟩
 have l:=(aR.1 a).1;simp at l;have:k=X.length:=(by omega);subst this;rw[eA (aO _)]at a;rw[eA (by rw[h];exact aO _)]at c;simp[h]at a c;subst a;subst c;exact⟨f r,i⟩
def aI3:(prog.info? 113).map (λi=>(i.zero,i.size,i.bytes))=some (some (.slice none 0 0),1,24):=by kernel_rfl
def OkL(L:List cZ):Prop:=∀e∈L,wN e
structure av6(I:bA)(D:aM):Prop where
 cV:zH I.cV=true
 fA:∀n∈I.cV.fC.flatten,n<=999999/\∃L,I.fA n=some L/\mY D.files n L/\L.length<=10000
 mem:I.mem.length<=10000/\OkL I.mem
def cs8(a m d:Nat)(h:oG)(I:bA)(b:Nat)(D:aM)(c:bK->Nat)(f:bK->aN)(R:List cZ)(w:aI)(e:eT)(i:aI):Prop:=
 ∃g,e=.returned (.tuple #[g,.int .i64 0])/\i.ownsRow w.heap.size 152 3 g R.length (fX R)/\OkL R/\wV a m d h I b D c f w i
def ay3{ls:List (List cZ)}(h:∀l∈ls,l.length<=10000):p8 ls<=ls.length*10000:=by
 unfold p8;have:=aU1 (l:=ls.map List.length) (M:=10000) (λx b=>by obtain⟨l,a,rfl⟩:=dR.1 b;exact h l a);rwa [gR]at this
def ah2(L:List cZ)(x:Nat)(f t:Int):(kF L x f t).length<=L.length:=iR _ _
def aC2(h:OkL L)(x:Nat)(f t:Int):OkL (kF L x f t):=λe a=>h e (eW.1 a).1
def lsR(I:bA)(x:Nat)(f t:Int)(k:Nat):List (List cZ):=kF I.mem x f t::(I.cV.fC.flatten.take k).map fun n=>kF ((I.fA n).getD []) x f t
def bP8{x:Nat}{f t:Int}(h:I.cV.fC.flatten[k]?=some n)(a:I.fA n=some L):lsR I x f t (k+1)=lsR I x f t k++[kF L x f t]:=by unfold lsR;rw[dQ,h];simp[a]
def cg3{a e:Int}(h:k<=I.cV.fC.flatten.length):(lsR I n a e k).length=k+1:=by unfold lsR;rw[cF,gR,bJ,fQ h]
def aI5(O:wV n k m h I i D K H w w)(x3:D.down=false)(C:av6 I D)(hb:n<=w.heap.size)(x:Nat)(f t:Int)(hx:x<18446744073709551616)(hf:-9223372036854775808<=f/\f<=9223372036854775807)(x2:-9223372036854775808<=t/\t<=9223372036854775807):
 Calls prog 147 #[.pointer (some ⟨h.X,0,none⟩),.int .u64 x,.int .i64 f,.int .i64 t] w (cs8 n k m h I i D K H (DT I x f t) w):=by
  obtain⟨c,Z⟩:∃c,c=max f 0:=⟨_,rfl⟩;obtain⟨d,h1⟩:∃d,d=min t 1073741824:=⟨_,rfl⟩;have m1:max f 0=c:=Z.symm;have m2:min t 1073741824=d:=h1.symm;have b1:0<=c:=(by omega);have b2:c<=9223372036854775807:=(by omega);have b3:d<=1073741824:=(by omega);have b4:-9223372036854775808<=d:=(by omega);obtain⟨-,⟨o3,o4,-⟩,-⟩:=lW.1 C.cV;obtain⟨N,hN⟩:∃N,N=I.cV.fC.flatten.length:=⟨_,rfl⟩;have hd:DT I x f t=jV (lsR I x c d N):=(by unfold DT lsR;rw[<-Z,<-h1,hN,eQ]);rw[hd];have h6:=index_none O.idx;have HA:=λ(y:aI)(u:aS w.heap.size w y)=>sK h.lv I.cV.fC y ((O.idx.next u).fC.E9) (by omega) (by omega);have h4:=br1 O.idx.mem (by have:=C.mem.1;omega) x c d hx ⟨by omega,by omega⟩ ⟨by omega,by omega⟩;have HT:=λ(y:aI)(u:wV n k m h I i D K H w y)(x8:Nat)(L:List cZ)(J:I.fA x8=some L)(T:x8<=999999)(F:mY D.files x8 L)=>bN1 (u.RT J).1 u.eD (u.RT J).2 x3 F T x c d hx ⟨by omega,by omega⟩ ⟨by omega,by omega⟩;unfold IB at HT;rw[show max c 0=c from by omega,show min d 1073741824=d from by omega]at HT;have hm:=aC2 C.mem.2 x c d;have M:∀y,oQ y n m h I i->y.cell? ⟨h.X,4,none⟩=some h.lv/\y.cell? ⟨h.X,6,none⟩=some (.pointer (some ⟨h.mb,0,none⟩))/\y.cell? ⟨h.X,7,none⟩=some (.map (some h.tm)):=λy u=>⟨u.cells.2.2.2.2.1,u.cells.2.2.2.2.2.2.1,u.cells.2.2.2.2.2.2.2⟩;obtain⟨c4,c6,c7⟩:=M w O.idx;have he:∀x7,h.T x7->x7<w.heap.size:=λx7 hk=>(O.idx.lt x7 hk).2;obtain⟨AL,cL,hc⟩:=O.idx.fC.slice;rw[hc]at c4 HA M;have⟨K0,h3,hw,hv,ht,h5,W⟩:=aF O M HT he hm hN C;rw[<-hN]at o4 HA;unfold cs8;clear O C HT hm Z h1 M he hf x2 hd hc hN;go_in;(go_wp2_with fail);refine h6.mono ?_;rintro e w' ⟨rfl,rfl⟩;clear h6;(go_wp2_with fail);refine h4.mono ?_;rintro e w1 ⟨v1,rfl,j,z⟩;obtain⟨A1,c1,rfl,-⟩:=id (Reads.dC j);have S:=aP6 (base:=w.heap.size) (e:=113) (size:=1) w1 #[.slice A1 (kF I.mem x c d).length c1] 1 z.size (by unfold maxLen;omega) rfl;have v:=(aY w1.heap.size w1).alloc (aO _) (.cells #[.slice A1 (kF I.mem x c d).length c1] 113);have OL:=aH (show lL (w1.alloc (.cells #[.slice A1 (kF I.mem x c d).length c1] 113)) w.heap.size (.slice (some ⟨w1.heap.size,0,none⟩) 1 1) (lsR I x c d 0)from⟨[.slice A1 (kF I.mem x c d).length c1],rfl,S,λx7 y l u hl=>by
   rcases x7 with _|x7
   .simp at u;simp[lsR]at hl;subst u;subst hl;exact⟨cA j v,ht.out⟩
   simp at u⟩)
  have⟨B2,K2⟩:=aA (aJ z v) (K0.out.next (aJ z v));obtain⟨c4,c6,c7⟩:=h3.out _ K2.out.idx;have ha:=HA _ (aJ z v);clear h4 HA j S v z;(go_wp2_with fail);refine ha.mono ?_;rintro e w3 ⟨v3,rfl,o,Y⟩;obtain⟨A3,c3,rfl,-⟩:=id (Reads.dC o);have⟨O3,K3,L3⟩:=aB o (K2.out.next Y) (OL.out.next Y);clear ha o Y c4 c6 c7;go_wp2_with fail
  go_loopw [10,12,13,14,37] (λlv _ _ _ x6 wr=>∃x7:Nat,x7<=N/\x6=.int .i64 x7/\lL wr w.heap.size lv (lsR I x c d x7)/\wV n k m h I i D K H w wr/\wr.ownsRow w.heap.size 3 1 (.slice A3 N c3) N (gJ I.cV.fC.flatten)) (λ_ _ _ _ x6 _=>N-(intOf x6).toNat)
  .exact⟨0,bO _,rfl,L3.out,K3.out,fO O3.out B2.out.size⟩
  obtain⟨x7,hk,rfl,s,g,ho⟩:=hrel;obtain⟨hs,x0,rfl⟩:=s.form;have r:(lsR I x c d x7).length=x7+1:=cg3 (by rw[<-h5.out];exact hk);rw[r]at s|-;have⟨LS,KR,OR⟩:=aB s g ho;obtain⟨c4,c6,c7⟩:=h3.out _ g.idx;have G:=aH r;have hr:=g.fr.size;by_cases x1:x7<N
  .have i1:(x7:Int)<N:=(by omega);obtain⟨x8,T⟩:∃x8,I.cV.fC.flatten[x7]?=some x8:=⟨_,aK (by rw[<-h5.out];exact x1)⟩;obtain⟨hp,L,J,F,X⟩:=W.out.fA x8 (bD T);obtain⟨b,x4,rfl,-,-,-,A⟩:=(Reads.dC ho).W1 (by omega);have c0:wr.cell? ⟨b,x4+x7,none⟩=some (.int .i64 x8):=(A wr (aY _ _) x7 (by have hz:(gJ I.cV.fC.flatten).length=N:=ho.1.trans (rD N);omega)).trans (by rw[xI T]);have hj:=Y6 g.idx hp J;have h2:=hw.out wr g x8 L J hp F;have⟨h7,P⟩:=aA (bP8 (x:=x) (f:=c) (t:=d) T J) (aC2 (show OkL L from F.ok) x c d);generalize kF L x c d=Q at h2 h7 P;clear s g ho T J F A r X;(go_wp2_with fail);refine h2.mono ?_;rintro y w4 ⟨v4,rfl,a,B⟩;obtain⟨A4,c9,rfl,-⟩:=id (Reads.dC a);have⟨K4,L4,O4,Q4⟩:=aC (KR.out.xC B.eD B.fr) (LS.out.xC KR.out.eD B.fr) (B.fr.own OR.out iE.2.1 KR.out.eD.map) (fO a hr);have x5:w.heap.size<=w4.heap.size:=K4.out.fr.size;obtain⟨us,u1,u2,u3⟩:=id L4.out;rw[G.out]at u1 u2;have U:=aH (And.intro u1 (And.intro u2 u3));clear h2 a B hj c0 c4 c6 c7 u1 u2 u3;(go_wp2_with (at_builtin;refine R7 aI3 underlying222 U.out.2.1 rfl rfl rfl rfl rfl (by omega) (by omega) ?_;intro v5 w5 E hi hg;have H5:=aH (And.intro E hi);clear E hi hg));have p:=(aY w4.heap.size w4).alloc (aO _) (.cells #[.slice A4 Q.length c9] 113);go_roundw
   .
    refine⟨x7+1,by omega,by go_num,?_,?_,?_⟩
    .rw[h7.out];exact lL.snoc (w:=w4) (by rw[G.out];exact U.out.1) U.out.2.2 Q4.out P.out p H5.out.2 (by rw[G.out];exact cA U.out.2.1 p) (by rw[G.out];exact H5.out.1)
    .exact(K4.out.next p).grown hv.out H5.out.2 λq hq=>⟨dE U.out.2.1 q hq,_,_,dZ (cA U.out.2.1 p) hq,J8.1,J8.2.1⟩
    have:=cA O4.out p;exact fG this λq hq=>H5.out.2.block q (jG this q hq) λh9=>by have h8:=dI (dZ this hq) (dZ (cA U.out.2.1 p) h9.symm);exact absurd h8 (by decide)
   simp[intOf];omega
  obtain rfl:x7=N:=(by omega);have i1:¬(x7:Int)<x7:=by omega
  have h0:=PY (.slice hs (x7+1) x0) (lsR I x c d x7) wr s.lists (by rw[r];omega) (by
   have:=ay3 (ls:=lsR I x c d x7) (λl hl=>by
    unfold lsR at hl;rcases cX.1 hl with rfl|hl
    .exact aL (ah2 _ _ _ _) W.out.mem.1
    obtain⟨x8,T,rfl⟩:=dR.1 hl;obtain⟨-,L,J,-,X⟩:=W.out.fA x8 (mL T);rw[J];exact aL (ah2 _ _ _ _) X)
   rw[r]at this;omega)
  obtain⟨R,hR⟩:∃R,R=jV (lsR I x c d x7):=⟨_,rfl⟩;rw[<-hR]at h0;have hu:=aH hR;clear hR;clear s g ho r c4 c6 c7;(go_wp2_with fail);refine h0.mono ?_;rintro y w4 ⟨A4,c9,rfl,a,V,hh⟩;have⟨O4,KK,K4⟩:=aB a V (KR.out.next hh);clear h0 a V hh;go_wp2;try rw[eJ]
  go_ret2;rw[<-hu.out];exact⟨_,rfl,fO O4.out hr,KK.out,K4.out⟩
def bP7(x:Nat)(t:Int)(o:Int)(l:List cZ):Int:=match jY l x t with|some e=>max o e.2.1|none=>o
def ba7(I:bA)(x:Nat)(t:Int):Int:=match jY I.mem x t with|some e=>e.2.1|none=>-1
def JY(I:bA)(x:Nat)(t:Int)(k:Nat):Int:=((I.cV.fC.flatten.take k).map fun n=>(I.fA n).getD []).foldl (bP7 x t) (ba7 I x t)
def aH7{x:Nat}{t:Int}(h:I.cV.fC.flatten[k]?=some n)(a:I.fA n=some L):JY I x t (k+1)=bP7 x t (JY I x t k) L:=by unfold JY;rw[dQ,h];simp[a,lP]
def bR3(I:bA)(x:Nat)(t:Int):wZ I x t=JY I x (min t 1073741824) I.cV.fC.flatten.length:=by unfold JY;rw[eQ];rfl
def UB{L:List cZ}(h:OkL L){n:Nat}{e:Int}{o:cZ}(a:jY L n e=some o):-9223372036854775808<=o.2.1/\o.2.1<=9223372036854775807:=(h o (bA2 a)).2.1
def cw9(a m d:Nat)(h:oG)(I:bA)(b:Nat)(D:aM)(c:bK->Nat)(f:bK->aN)(R:Int)(w:aI)(e:eT)(g:aI):Prop:=
 e=.returned (.tuple #[.int .i64 R,.int .i64 0])/\wV a m d h I b D c f w g
def bc5(B:wV n k m h I i D K H w w)(hi:D.down=false)(u:av6 I D)(hb:n<=w.heap.size)(x:Nat)(t:Int)(hx:x<18446744073709551616)(hh:-9223372036854775808<=t/\t<=9223372036854775807):
 Calls prog 99 #[.pointer (some ⟨h.X,0,none⟩),.int .u64 x,.int .i64 t] w (cw9 n k m h I i D K H (wZ I x t) w):=by
  rw[bR3];obtain⟨d,J⟩:∃d,d=min t 1073741824:=⟨_,rfl⟩;rw[<-J];have m2:min t 1073741824=d:=J.symm;have b3:d<=1073741824:=(by omega);have b4:-9223372036854775808<=d:=(by omega);obtain⟨-,⟨o3,o4,-⟩,-⟩:=lW.1 u.cV;obtain⟨N,hN⟩:∃N,N=I.cV.fC.flatten.length:=⟨_,rfl⟩;have T:=index_none B.idx;have HA:=λ(y:aI)(v:aS w.heap.size w y)=>sK h.lv I.cV.fC y ((B.idx.next v).fC.E9) (by omega) (by omega);have S:=bJ0 B.idx.mem x d hx ⟨by omega,by omega⟩;have HT:=λ(y:aI)(v:wV n k m h I i D K H w y)(hr:Nat)(L:List cZ)(E:I.fA hr=some L)(P:hr<=999999)(p:mY D.files hr L)=>cd7 (v.RT E).1 v.eD (v.RT E).2 hi p P x d hx ⟨by omega,by omega⟩;unfold WA at HT;rw[show min d 1073741824=d from by omega]at HT;have r:∀y,oQ y n m h I i->y.cell? ⟨h.X,4,none⟩=some h.lv/\y.cell? ⟨h.X,6,none⟩=some (.pointer (some ⟨h.mb,0,none⟩))/\y.cell? ⟨h.X,7,none⟩=some (.map (some h.tm)):=λy v=>⟨v.cells.2.2.2.2.1,v.cells.2.2.2.2.2.2.1,v.cells.2.2.2.2.2.2.2⟩;obtain⟨C,M,O⟩:=r w B.idx;obtain⟨AL,cL,U⟩:=B.idx.fC.slice;rw[U]at C HA r;have⟨K0,R,h9,h6,h7,hl⟩:=aE B r HT hN u (λe he=>@UB I.mem u.mem.2 x d e he);rw[<-hN]at o4 HA|-;unfold cw9;clear B u HT J r hh U hN;go_in;(go_wp2_with fail);refine T.mono ?_;rintro e w' ⟨rfl,rfl⟩;clear T;(go_wp2_with fail);refine S.mono ?_;rintro e w1 ⟨rfl,F⟩;have⟨K1,B1⟩:=aA (K0.out.next F) F;have hg:∃s:Int,ba7 I x d=s/\((jY I.mem x d=none/\s=-1)\/∃e,jY I.mem x d=some e/\s=e.2.1):=by
   unfold ba7;cases hq:jY I.mem x d with
   |none=>exact⟨-1,rfl,.inl ⟨rfl,rfl⟩⟩
   |some e=>exact⟨e.2.1,rfl,.inr ⟨e,rfl,rfl⟩⟩
  obtain⟨s,h3,h4⟩:=hg;have h8:=aH (show JY I x d 0=s from h3);obtain⟨E1,Q,E3,bq,hE,X,h5⟩:∃(E1:Nat)(Q E3:Int)(bq:Bool),bC6 (jY I.mem x d)=(E1,Q,E3)/\(jY I.mem x d).isSome=bq/\(s=if bq then Q else -1):=by
   rcases h4 with⟨h1,h2⟩|⟨⟨a,b,c⟩,h1,h2⟩
   .rw[h1];exact⟨0,0,0,false,rfl,rfl,h2⟩
   rw[h1];exact⟨a,b,c,true,rfl,rfl,h2⟩
  rw[hE,X];unfold iX;simp only;have k2:=dO w1 (.cells #[.int .u64 E1,.int .i64 Q,.int .i64 E3] 152);have K2:=aH (K1.out.next k2);obtain⟨C,M,O⟩:=R.out _ K2.out.idx;have r2:=Row.new w1 #[.int .u64 E1,.int .i64 Q,.int .i64 E3] 152;have g0:=r2.cell 0 (by simp);have g1:=r2.cell 1 (by simp);have g2:=r2.cell 2 (by simp);simp only[bX,bE]at g0 g1 g2;have ha:=HA _ (aJ B1.out k2);have B2:=aH (aJ B1.out k2);clear S HA F h3 h4 hE X k2 r2;have hc:∀(W:aI)(A3:Option Addr)(c3:Nat),True:=λ_ _ _=>trivial;rcases bq with _|_
  all_goals
   simp only[bU,dP,eE]at h5;subst h5;(go_wp2_with fail);refine ha.mono ?_;rintro e w3 ⟨v3,rfl,f,V⟩;obtain⟨A3,c3,rfl,-⟩:=id (Reads.dC f);have⟨O3,K3⟩:=aA f (K2.out.next V);clear ha f V C M O g0 g1 g2 hc;(go_wp2_with fail);go_loopw [8,12,13,14,15,40] (λov _ _ _ _ hm wr=>∃hp:Nat,hp<=N/\hm=.int .i64 hp/\ov=.int .i64 (JY I x d hp)/\wV n k m h I i D K H w wr/\wr.ownsRow w.heap.size 3 1 (.slice A3 N c3) N (gJ I.cV.fC.flatten)) (λ_ _ _ _ _ hm _=>N-(intOf hm).toNat)
   .exact⟨0,bO _,rfl,by rw[h8.out],K3.out,fO O3.out B2.out.size⟩
   obtain⟨hp,hk,rfl,rfl,j,Z⟩:=hrel;have⟨KR,OR⟩:=aA j Z;obtain⟨C,M,O⟩:=R.out _ j.idx;by_cases hf:hp<N
   .have i1:(hp:Int)<N:=(by omega);obtain⟨hr,P⟩:∃hr,I.cV.fC.flatten[hp]?=some hr:=⟨_,aK (by rw[<-h6.out];exact hf)⟩;obtain⟨Y,L,E,p,hd⟩:=h7.out.fA hr (bD P);obtain⟨b,hj,rfl,-,-,-,l⟩:=(Reads.dC Z).W1 (by omega);have c0:wr.cell? ⟨b,hj+hp,none⟩=some (.int .i64 hr):=(l wr (aY _ _) hp (by have hz:(gJ I.cV.fC.flatten).length=N:=Z.1.trans (rD N);omega)).trans (by rw[xI P]);have A:=Y6 j.idx Y E;have g:=h9.out wr j hr L E Y p;have q:=aH (aH7 (x:=x) (t:=d) P E);have h0:=λe he=>@UB L p.ok x d e he;obtain⟨z,hz⟩:∃z,z=JY I x d hp:=⟨_,rfl⟩;rw[<-hz]at q|-;unfold bP7 at q;rcases hq:jY L x d with _|⟨e1,e2,e3⟩
    iterate 2
     .rw[hq]at g q;unfold bC6 iX at g;first|simp only[nW,L2]at g;obtain⟨q1,q2⟩:=h0 _ hq;simp only at q1 q2|simp only[RB,L5]at g
      clear j Z P E p l hd h0 hz hq;(go_wp2_with fail);refine g.mono ?_;rintro y w4 ⟨rfl,o⟩;have⟨K4,O4⟩:=aA (KR.out.xC o.eD o.fr) (o.fr.own OR.out iE.2.1 KR.out.eD.map);(first|(have r4:=Row.new w4 #[.int .u64 e1,.int .i64 e2,.int .i64 e3] 152;(have g0:=r4.cell 0 (by simp));(have g1:=r4.cell 1 (by simp));(have g2:=r4.cell 2 (by simp));simp only[bX,bE]at g0 g1 g2;clear g o A c0 C M O r4)|clear g o A c0 C M O);go_wp2;go_roundw
      .
       (first|have G:=dO w4 (.cells #[.int .u64 e1,.int .i64 e2,.int .i64 e3] 152)|have G:=dO w4 (.cells #[.int .u64 0,.int .i64 0,.int .i64 0] 152));exact⟨hp+1,by omega,by go_num,by rw[q.out],K4.out.next G,cA O4.out G⟩
      simp[intOf];omega
   obtain rfl:hp=N:=(by omega);have i1:¬(hp:Int)<hp:=(by omega);clear j Z C M O;go_wp2;(try rw[eJ]);go_ret2;exact⟨rfl,KR.out⟩
def bR6(a:n<=999999):WideAt.IsKeyLit (vV n):=bS1.key (FF a)
def TC.put{M:Du}{t:Nat->Option (List cZ)}{f:Nat->Nat}(h:TC M t f){n k:Nat}(e:n<=999999)(L:List cZ):TC (M.put (vV n) (.lit (.int .i64 k))) (jA t n (some L)) (λi=>if i=n then k else f i):=by
 refine⟨h.1.put _ _,λi g d=>?_⟩;unfold jA at d;by_cases c:i=n
 .subst c;simp only[eE];exact⟨has_put_same h.1 (bR6 e) _,λz=>atKey_put_same h.1 (bR6 e) _ _⟩
 rw[aQ c]at d;simp only[aQ c];obtain⟨a,b⟩:=h.2 i g d;exact⟨by rw[has_put_other (M1 c)];exact a,λz=>by rw[atKey_put_other (M1 c)];exact b z⟩
def oQ.put{x:aI}{I:bA}{nt' n:Nat}{M:Du}(H:oQ w m k h I i)(B:TC M I.fA h.tb)(z:n<=999999)(r:x.ownsMap prog 3 sU h.tm nt' (M.put (vV n) (.lit (.int .i64 j))))(t:nt'<=I.cV.next)(s:w.grownBy x (some h.tm))(A:s7 w N m j k n L)(p:∀G,N G->m<=G/\G<w.heap.size/\G≠h.X/\G≠h.mb/\G≠h.tm/\h.mv.ownBlock≠some G):
 oQ x m k {h with tb:=λG=>if G=n then j else h.tb G,TT:=λG=>h.TT G\/N G} {I with fA:=jA I.fA n (some L)} i:=by
  have o:∀G,G<w.heap.size->G≠h.tm->x.heap[G]?=w.heap[G]?:=λG v y=>s.block G v (λd=>y (by cases d;rfl));obtain⟨F,C,D,E⟩:=H.ne;refine⟨H.row.of_block (o _ H.row.lt C),H.fC.eO λG d e=>o G e (H.apart G (.inl d)).2.2.2.2.1,⟨H.mem.1.of_block (o _ H.mem.1.lt D),fG H.mem.2.1 λG d=>o G (jG H.mem.2.1 G d) (E G d).2.2,H.mem.2.2⟩,⟨nt',_,r,B.put z L,t⟩,λG u l=>?_,H.low,λG d=>?_⟩
  .simp only at l|-;unfold jA at l;by_cases f:G=n
   .subst f;rw[aU rfl]at l;cases l;rw[aU rfl];exact(A.eO λq g e=>o q e (p q g).2.2.2.2.1).mono λq _ g=>.inr g
   rw[aQ f]at l;rw[aQ f];exact((H.fA G u l).eO λq g e=>o q e (H.apart q (.inr g)).2.2.2.2.1).mono λq _ g=>.inl g
  rcases d with d|d|d
  .obtain⟨a,b,c⟩:=H.apart G (.inl d);exact⟨a,aW b s.size,c⟩
  .obtain⟨a,b,c⟩:=H.apart G (.inr d);exact⟨a,aW b s.size,c⟩
  obtain⟨a,b,c⟩:=p G d;exact⟨a,aW b s.size,c⟩
def aE2{M:List Nat}(h:M[n]?=some k)(t:Nat->Option (List cZ)):p9 D (M.drop n) t=if(kG D k).1≠0 then((kG D k).1,t)else p9 D (M.drop (n+1)) (jA t k (kG D k).2):=by obtain⟨a,rfl⟩:=aR.1 h;rw[<-gH a,p9]
def aE4(h:(kG D n).1=0):∃L,(kG D n).2=some L:=by
 unfold kG at h|-;split at h
 .simp at h
 rename_i a;rw[aQ a];split at h
 .simp at h
 split at h
 .rename_i b;rw[aU b];exact⟨_,rfl⟩
 simp at h
def bA7(X:Nat)(o:Option bA):aN:=match o with|none=>.pointer none|some _=>.pointer (some ⟨X,0,none⟩)
def W8(a m d:Nat)(D:aM)(M:iY)(b:Nat)(w:aI)(e:eT)(c:aI):Prop:=∃h:oG,
 e=.returned (.tuple #[bA7 h.X (vQ D M).2,.int .i64 (vQ D M).1])/\(∃f g,bM c a d m D f g)/\gS a m w c/\∀I,(vQ D M).2=some I->oQ c a d h I b/\∀k,h.T k->CH w c d m k
def LK(h:zH M=true)(b:M.aZ<18446744073709551616):L0 M:=by obtain⟨⟨d,e⟩,⟨f,g,i⟩,c⟩:=lW.1 h;exact⟨by omega,by omega,b,by omega,by omega,λn a=>by have:=c n a;omega⟩
def CH.xC{base:Nat}(h:gS base k x y)(c:CI x n){m:Nat}(a:CH w x n k m):CH w y n k m:=⟨a.1,aW a.2.1 h.size,λb=>a.2.2 (YP h c m a.2.1 b)⟩
def CH.of(b:w.heap.size<=x.heap.size)(a:CH x y n k m):CH w y n k m:=⟨aL b a.1,a.2.1,a.2.2⟩
def CH.below(b:bM w k n m D K H)(f:aS w w x)(c:w<=i)(d:i<x)(e:¬CD x i):CH w x n m i:=by
 refine⟨c,d,λa=>?_⟩;rcases a with a|a|a
 .have:=b.lt.2;omega
 .exact e a
 have:=b.ap6 ((aD6 f b.FJ).1 a);omega
def XN(h:(kG D n).2=L):(kG D n).1=0:=by
 unfold kG at h|-;split at h
 .cases h
 rename_i a;rw[aQ a];split at h
 .cases h
 split at h
 .rename_i b;rw[aU b]
 cases h
def bx6{wr:aI}(b:∀i,h.T i->i<wr.heap.size)(e:k<=w)(f:w.heap.size<=wr)(c:CH wr x n m i):k<=i/\i<x.heap.size/\i≠h.X/\i≠h.mb/\i≠h.tm/\h.mv.ownBlock≠some i:=by
 have d:=c.1;refine⟨by omega,c.2.1,λa=>?_,λa=>?_,λa=>?_,λa=>?_⟩
 .have:=b _ (.inl a);omega
 .have:=b _ (.inr (.inl a));omega
 .have:=b _ (.inr (.inr (.inl a)));omega
 have:=b _ (.inr (.inr (.inr (.inl a))));omega
def ar3(d:Nat)(M:iY)(b:aN)(a c e:Nat):Array aN:=#[.pointer (some ⟨d,0,none⟩),.int .i64 (M.next:Nat),.int .i64 (M.check:Nat),.int .u64 (M.aZ:Nat),b,.float .f64 a,.pointer (some ⟨c,0,none⟩),.map (some e)]
def aT0:¬(33=103\/33=112\/33=5):=by decide
def bS5{cK:Nat}{t:bK->aN}(p:bM w k n m D K t)(T:k<=w)(j:aS w w x)(O:zD x i v M.fC)(S:w<=i)(l:aS x x y)(E:zS y x x zs []):
 ∃h:oG,h.X=y+1/\h.tm=y/\h.mb=x/\oQ ((y.alloc (.map #[] 0)).alloc (.cells (ar3 n M v cK x y) 100)) k n h ⟨M,[],λ_=>none⟩ cK/\(∀V,h.T V->CH w ((y.alloc (.map #[] 0)).alloc (.cells (ar3 n M v cK x y) 100)) n m V)/\((y.alloc (.map #[] 0)).alloc (.cells (ar3 n M v cK x y) 100)).ownsMap prog 3 sU h.tm 0 (.map [])/\aS w w ((y.alloc (.map #[] 0)).alloc (.cells (ar3 n M v cK x y) 100)):=by
  have F:(y.alloc (.map #[] 0)).heap.size=y+1:=bC _ _;have A:=(aY y y).alloc gC (.map #[] 0);have B:=World.ownsMap_made (H:=Unit) y prog 3 sU;have⟨e,J⟩:=kX (y.alloc (.map #[] 0));rw[<-J]at F A B|-;have s:=(aY e e).alloc gC (.cells (ar3 n M v cK x y) 100);have r:=Row.new e (ar3 n M v cK x y) 100;have R:(e.alloc (.cells (ar3 n M v cK x y) 100)).heap.size=e+1:=bC _ _;rw[F]at r;have q:=GO B s;have⟨U,N⟩:=kX (e.alloc (.cells (ar3 n M v cK x y) 100));rw[<-N]at s r R q|-;have f:=aJ A s;have c:=aJ l f;have b:=aJ j c;have z:=O.Y9 (base:=k) (by omega);have P:=j.size;have Q:=l.size;have d:=E.next f;have C:=E.1.lt;refine⟨⟨y.heap.size+1,x,y,zs,v,λ_=>0,λV=>i<=V/\V<x.heap.size/\((∃o,Row x V 3 o)\/∃o,Row x V 33 o),λ_=>False⟩,rfl,rfl,rfl,⟨r,z.eO λV _ a=>c.block V a,⟨d.1,fO d.2.1 (by omega),d.2.2⟩,⟨0,_,q,⟨isMap_empty,λW L u=>by cases u⟩,bO _⟩,(λW L u=>by cases u),⟨by simp only;omega,by simp only;omega,by simp only;omega⟩,λV a=>?_⟩,λV a=>?_,q,b⟩
  .rcases a with⟨G,I,-⟩|a
   .refine⟨by omega,by omega,by simp only;omega,by simp only;omega,by simp only;omega,by simp[Value.ownBlock]⟩
   exact absurd a id
  rcases a with a|a|a|a|a|a
  .simp only at a;subst a;exact CH.below p b (by omega) (by omega) (iL r ET.1)
  .simp only at a;subst a;exact CH.below p b (by omega) (by omega) (iL d.1 ET.2)
  .simp only at a;subst a;exact CH.below p b (by omega) (by omega) (sW q)
  .simp[Value.ownBlock]at a
  .have⟨G,I,g⟩:=a;refine CH.below p b (by omega) (by omega) ?_;rcases g with⟨o,g⟩|⟨o,g⟩
   .exact iL (g.next c) iE.2.1
   exact iL (g.next c) aT0
  exact absurd a id
def bT6{g:Nat}{A:Program}{T:cD}{R:aN->Option (Du×List MemPlace)}{M r:Du}(p:bM w k n m D K H)(E:w.ownsMap A T R i d M)(l:x.ownsMap A T R i g r)(q:w.grownBy x i)(B:j<w)(b:jE x n m j):jE w n m j:=by
 have h:n≠i:=λc=>by obtain⟨o,F,u,-⟩:=p.row;exact fP E u c.symm
 have f:x.heap[n]?=w.heap[n]?:=q.block n p.lt.1 (λc=>h (cS c));rcases b with b|b|b
 .exact .inl b
 .by_cases c:j=i
  .subst c;exact absurd b (sW l)
  have e:=q.block j B (λz=>c (cS z));have⟨C,t,s,v,y⟩:=b;exact .inr (.inl ⟨C,t,s,by rw[<-e];exact v,y⟩)
 refine .inr (.inr ?_);unfold OwnAt at b|-;rwa[dH (a:=zp n 9) f]at b
def YG(hd:bM w k n m D K H)(hb:k<=w)(h7:D.down=false)(lv:aN)(M:iY)(hl:wH w lv M.fC)(h5:zH M=true)(xr:M.aZ<18446744073709551616)(g:Nat):
 Calls prog 121 #[zp n,.agg (mH M lv).toArray,.float .f64 g] w (W8 k m n D M g w):=by
  obtain⟨⟨o1,o2⟩,⟨o3,o4,o5⟩,o6⟩:=lW.1 h5;have xg:=LK h5 xr;have b0:=(aY w w).alloc gC (.cells (mH M lv).toArray 57);have r0:=Row.new w (mH M lv).toArray 57;have h0:=hd.next b0;have HS:=uX h0 ⟨#[]⟩ (by show 0<=_;unfold maxLen;omega);have xd:bR D.files (lb ⟨#[]⟩)=none:=by
   cases hg:bR D.files (lb ⟨#[]⟩)with
   |none=>rfl
   |some f=>have:=hd.names _ (xN hg);exact absurd this (by show¬jH (lb ⟨#[]⟩)=true;decide)
  rw[show D.size (lb ⟨#[]⟩)=(0,4)from by unfold aM.size;rw[h7,xd];rfl]at HS;have HV:=zN (.agg (mH M lv).toArray) M _ ⟨lv,rfl,hl.next b0⟩ xg;rw[h5]at HV;have HC:=λ(x:aI)(hx:aS w w x)=>AO lv M x (hl.next hx) (by omega) (by omega);have HA:=λ(x:aI)(hx:aS w w x)=>sK lv M.fC x (hl.next hx) (by omega) (by omega);have hp:=λ(x:aI)(b':bK->Nat)(d':bK->aN)(hx:bM x k n m D b' d')(xn:k<=x)(xy:Nat)(Q:xy<=999999)=>bk1 hx xn h7 xy Q;unfold wL at HC;unfold RC at hp;obtain⟨⟨h8,hf,hh,hj⟩,-⟩:=gY r0;obtain⟨xw,xu,⟨A9,c9,rfl,-⟩,-⟩:=id hl;have xa:M.fC.flatten<=M.next:=by have:=tP o5 (b:=List.range M.next) λxy Q=>gB.2 (o6 xy Q);rwa [List.length_range]at this
  have⟨N,hN⟩:=kX M.fC.flatten.length;rw[<-hN]at HA xa o4;have u:∀xy∈M.fC.flatten,xy<=999999:=λxy Q=>(by have:=o6 xy Q;omega);have HX:vQ D M=if(p9 D M.fC.flatten λ_=>none).1≠0 then((p9 D M.fC.flatten λ_=>none).1,none)else(0,some ⟨M,[],(p9 D M.fC.flatten λ_=>none).2⟩):=(by unfold vQ;rw[h7,aQ (by simp)]);have⟨B0,R0,D0,DW,x3,x5,xj,xi⟩:=aG b0 r0 h0 hd hN HX u hp;have xq:=@run_makeMap prog;unfold W8;unfold mH at *;clear hd h0 b0 r0 hl h5 xg xd h7 hN HX u hp o5 o6;go_in;go_wp2_with fail
  go_call HS as e w' ⟨rfl,rfl⟩;clear HS;go_wp2_with fail
  go_call HV as e w1 ⟨rfl,Z⟩;have hr:=aJ B0 Z;obtain⟨⟨h8,hf,hh,hj⟩,-⟩:=gY (R0.next Z);have hc:=HC w1 hr;have⟨B1,R1⟩:=aA hr (R0.next Z);clear HV HC Z hr;go_wp2_with fail
  go_call hc as e w2 ⟨xs,rfl,O,hs⟩;obtain⟨A2,c2,rfl⟩:∃A2 c2,xs=.slice A2 M.fC c2:=by
   obtain⟨vs,-,⟨A,c,hv,-⟩,-⟩:=O.E9;exact⟨A,c,hv⟩
  have x6:=aJ B1 hs;have⟨xm,B2,R2⟩:=aB O x6 (R1.next hs);clear hc O hs x6 h8 hf hh hj;go_wp2_with fail
  go_call cc0 w2 as e w3 ⟨rfl,xh,ht⟩;have⟨h,hX,x1,hy,HI,HN,P,s⟩:=bS5 (cK:=g) DW hb B2 xm B1.size ht xh;have R3:=aH (R2.next ht);unfold ar3 at HI HN P s;have r5:=R3.next (aJ ((aY w3 w3).alloc gC (.map #[] 0)) (mE.alloc gC (.cells #[zp n,M.next,M.check,zu (M.aZ:Nat),.slice A2 M.fC c2,.float .f64 g,zp w2,.map w3] 100)));obtain⟨⟨h8,hf,hh,hj⟩,-⟩:=gY r5;have ha:=HA _ s;have⟨x2,x4,MP,BW,xl⟩:=aD HI HN P s (And.intro hX (And.intro x1 hy));clear ht xh hX x1 hy HI HN P s r5 HA;go_wp2_with fail
  go_call ha as e w6 ⟨v6,rfl,r,F⟩;obtain⟨A6,c6,rfl,-⟩:=id (Reads.dC r);have G:=aJ BW F;have x8:=DW.next G;have⟨I6,M6,N6,O6,D6,B6⟩:=aE (x2.next F) (GO MP F) (λxx (hk:h.T xx)=>(x4 xx hk).xC (base:=k) (gS.cQ F k m) (DW.next BW).FJ) (fO r BW.size) x8 G;clear ha r F G x8 h8 hf hh hj xq x2 x4 MP;have⟨hX,x1,hy⟩:=xl.zz;have F6:=aH (gS.cQ B6 k m);go_wp2_with fail
  go_loopw [12,13,14,44] (λ_ _ _ i wr=>∃(xx:Nat) (E:oG) (t:Nat->Option (List cZ)),xx<=N/\i=.int .i64 xx/\p9 D M.fC.flatten (λ_=>none)=p9 D (M.fC.flatten.drop xx) t/\oQ wr k n E ⟨M,[],t⟩ g/\(∀xx,E.T xx->CH w wr n m xx)/\E.X=w3+1/\(∃nt M',wr.ownsMap prog 3 sU E.tm nt M'/\TC M' t E.tb/\nt<=xx)/\(∃b' d',bM wr k n m D b' d')/\gS k m w wr/\wr.ownsRow w 3 1 (.slice A6 N c6) N (gJ M.fC.flatten)) (λ_ _ _ i _=>N-(intOf i).toNat)
  .exact⟨0,h,λ_=>none,bO _,rfl,rfl,I6,N6,hX,⟨0,_,M6,⟨isMap_empty,λxy L hL=>by cases hL⟩,gC⟩,⟨_,_,D6⟩,F6,O6⟩
  obtain⟨xx,E,t,hk,rfl,V,hi,S,Y,⟨nt,M',h1,h2,h4⟩,⟨b',d',v⟩,B,ho⟩:=hrel;by_cases xp:xx<N
  .have i1:(xx:Int)<N:=(by omega);obtain⟨xy,Q⟩:∃xy,M.fC.flatten[xx]?=some xy:=⟨_,aK (by rw[<-x3.zz];exact xp)⟩;have h3:=xj xy (bD Q);obtain⟨b,xt,rfl,-,-,-,o⟩:=(Reads.dC ho).W1 (by omega);have c0:wr.cell? (zp b (xt+xx))=some (.int .i64 xy):=(o wr mE xx (by have hz:(gJ M.fC.flatten)=N:=ho.1.trans (rD N);omega)).trans (by rw[xI Q]);have l:=xi wr b' d' v (aL hb B.size) xy h3;have C:=V.trans (aE2 Q t);have⟨IR,NR,DR,FR,OR,MR⟩:=aE hi S v B ho (And.intro h1 (And.intro h2 h4));by_cases he:(kG D xy).1=0
   .have⟨L,hL⟩:=aE4 he;rw[hL,he]at l;simp only at l;rw[aQ (by rw[he];simp),hL]at C;have ST:=aH C;have xb:keyOf prog 3 xy=some (vV xy):=FF h3;have xe:nt<maxLen:=(by unfold maxLen;omega);clear o Q V hi S h1 h2 h4 v B ho C he hL;(go_wp2_with fail);go_call l as y w7 ⟨p,rfl,⟨b7,d7,J⟩,d,h6⟩;have h6:=h6 L rfl;have x9:=oD.lX d DR.FJ;have⟨xo,x0⟩:=x9.clear (T:=E.T) (λxx hk=>⟨(IR.lt xx hk).2,(NR xx hk).2.2⟩);have hu:=IR.eO d.size x0;have xc:=nO MR.1 (x0 _ (.inr (.inr (.inl rfl))));have⟨I7,N7,D7,F7,O7,M7,P7⟩:=aF hu (λxx (hk:E.T xx)=>(NR xx hk).xC d DR.FJ) J (FR.trans d) (d.own OR iE.2.1 DR.map) xc h6;have xv:=d.size;obtain⟨-,-,-,-,-,-,-,c7⟩:=hu.cells;rw[Y]at c7;clear l J d h6 x9 xo x0 hu xc c0;go_wp2_with (first
     |(at_mapUpdate;refine wpList_mapUpdate_own _ rfl _ _ _ 98 rfl 3 214 bS1 underlying98 sU E.tm nt M' rfl M7 xe _ _ (vV xy) rfl rfl xb (.lit (.int .i64 p)) [] (LM p) ?_;intro w8 U j;have H8:=aH (And.intro U j);clear U j))
    go_roundw
    .
     have⟨hw,j⟩:=H8.zz;have x7:∀q,E.T q->q<wr.heap.size:=λq a=>(IR.lt q a).2;have xf:=I7.put MR.2.1 h3 hw (by show nt+1<=M.next;have:=MR.zz.2.2;omega) j P7 (λq a=>bx6 x7 hb FR.size a);refine⟨xx+1,_,jA t xy L,by omega,by go_num,ST,xf,λq a=>?_,Y,⟨nt+1,_,hw,MR.2.1.put h3 L,by have:=MR.zz.2.2;omega⟩,⟨b7,d7,D7.grown j λq a=>?_⟩,F7.grown j (λq a=>?_),?_⟩
     .have W:CH w w7 n m q:=by
       rcases a with a|a|a|a|a|a
       .exact N7 q (.inl a)
       .exact N7 q (.inr (.inl a))
       .exact N7 q (.inr (.inr (.inl a)))
       .exact N7 q (.inr (.inr (.inr (.inl a))))
       .exact N7 q (.inr (.inr (.inr (.inr (.inl a)))))
       rcases a with a|a
       .exact N7 q (.inr (.inr (.inr (.inr (.inr a)))))
       exact a.of FR.size
      exact⟨W.1,aW W.2.1 j.size,λh9=>W.2.2 (bT6 D7 M7 hw j W.2.1 h9)⟩
     .cases a;exact(N7 _ (.inr (.inr (.inl rfl)))).2.2
     .cases a;exact(N7 _ (.inr (.inr (.inl rfl)))).1
     exact fG O7 λq a=>j.block q (jG O7 q a) λh9=>by cases h9;exact fP M7 (dZ O7 a) rfl
    simp[intOf];omega
   have R:(kG D xy).2=none:=by
    rcases a:(kG D xy).2 with _|L
    .rfl
    exact absurd (XN a) he
   rw[R]at l;simp only at l;rw[aU he]at C;have X:=aH (show vQ D M=((kG D xy).1,none)from by rw[x5.zz,C,aU he]);have⟨z,hz⟩:=kX ((kG D xy).1);rw[<-hz]at l he X;have i2:(z==0)=false:=bI.2 he;clear o Q V hi S h1 h2 h4 v B ho C R hz;(go_wp2_with fail);go_call l as y w7 ⟨p,rfl,J,d,-⟩;have⟨D7,F7⟩:=aA J (FR.trans d);clear l J d c0;go_wp2;(try rw[eJ]);go_ret2;rw[X.zz];exact⟨E,rfl,D7,F7,λI hI=>by cases hI⟩
  obtain rfl:xx=N:=(by omega);have i1:¬(xx:Int)<xx:=(by omega);have hm:p9 D M.fC.flatten (λ_=>none)=(0,t):=(by rw[V,kB (by rw[<-x3.zz];exact aO _)];rfl);have⟨X,IR,NR,DR,FR,xk⟩:=aE (show vQ D M=(0,some ⟨M,[],t⟩)from by rw[x5.zz,hm,aQ (by simp)]) hi S v B Y;clear V hi S h1 h2 h4 v B ho hm Y;go_wp2;try rw[eJ]
  go_ret2;rw[X.zz];refine⟨E,by unfold bA7;rw[xk.zz];rfl,⟨_,_,DR⟩,FR,λI hI=>?_⟩;cases hI;exact⟨IR,NR⟩
end Go.Proofs.YtpopikndggffaaaGreatDoor
