/- TOP, part 25. -/
import Derived.Laws.CopyOwn
import Derived.Test.YtpopikndggffaaaGreatDoorGt24
namespace Go.Proofs.YtpopikndggffaaaGreatDoor
set_option linter.all false
set_option maxRecDepth 100000
set_option maxHeartbeats 16000000
open Go.RowKit Go.Maps Tryz
def bE7(n k:Nat)(w:aI)(f:n<18446744073709551616)(b:1<=k)(d:k<=8):Calls prog 105 #[zu n,k] w λe a=>e=(bs (be k n))/\aR w w a:=by have c:=XL n k w (by omega) (by omega);have e:qY n k=be k n:=(by unfold qY;rw[aP (by omega)];rfl);rwa[bW,e]at c
def bY0(v:aN)(m:jD)(w:aI)(h:ak2 w v m)(a:DA m):Calls prog 88 #[v] w λe f=>e=.returned (.tuple #[.string (if wU m then bs (iS m)else⟨#[]⟩),(if wU m then 0 else 2:Int)])/\aR w w f:=cC7 (.inr ⟨0,rfl⟩) v m w h a (λx c=>bf2 v m x (h.next c) a) (λd x b=>bE4 d m.fP x b a.len a.flat) bE7 (λL x h=>by have:=aJ4 (bs L) x (by omega);rwa [gP]at this)
variable{M:List Nat}{X:List aN}{i k m n:Nat}{w x y:aI}{u v:aN}{C:mX}
def bf1(s:aS)(p n:Nat)(w:aI)(k:s.size<=1048576)(j:p<=10000000)(i:n<=8):Calls prog 87 #[s,p,n] w λe d=>e=.returned (zu (zW (lb s) p n:Nat))/\w=d:=by
 by_cases h:s<p+n
 .have a:zW (lb s) p n=0:=(by unfold zW;rw[aV (by rw[bI];exact h)]);have g:(s.size:Int)<(p:Int)+(n:Int):=(by omega);rw[a];clear a;go_in;go_wp2;go_ret;exact⟨rfl,rfl⟩
 have g:¬(s.size:Int)<(p:Int)+(n:Int):=by omega
 have a:lb (s.extract p (p+n))=((lb s).drop p).take n:=by rw[dY,gP,Nat.add_sub_cancel_left]
 have c:pF (lb (s.extract p (p+n)))=zW (lb s) p n:=by unfold pF zW;rw[aP (by rw[bI];exact h),a,aT (by rw[b8];omega)]
 have b:=bt9 (s.extract p (p+n)) w (by rw[lZ];unfold maxLen;omega);rw[c]at b;have f:=aH b;clear a c b;go_in;go_wp2_with fail
 go_call f as e d ⟨rfl,rfl⟩;go_wp2;go_ret;exact⟨rfl,rfl⟩
def vP.cC3{W:aI}{j d:Nat}{z:aN}(h:vP w x n k m i j d u X C)(K:x.ownsRow n 3 1 v M (fJ M))(O:w<=n)(r:aR x x y)(J:y.grownBy W u.ownBlock)(a:W.ownsRow w 33 1 z (C+1) (X++[v])):Row W k 57 (mN ⟨i,j,d,C⟩ u)/\vP w (W.setCell (zp k 3) z) (W.setCell (zp k 3) z) k m i j d z (X++[v]) (C++[M]):=by
 have e:∀{P:Nat} {t:cC} {D:List aN},Row x P t D->t≠33->W.heap[P]?=x.heap[P]?:=λg F=>by rw[J.block _ (aW g.lt r.size) (λE=>F (dD g (dX h.own E.symm)))];exact r.block _ g.lt
 have f:Row W k 57 (mN ⟨i,j,d,C⟩ u):=h.rm.of_block (e h.rm (by decide));have b:∀{P:Nat} {t:cC} {D:List aN},Row W P t D->t≠57->(W.setCell (zp k 3) z).heap[P]?=W.heap[P]?:=λg F=>aU _ _ _ _ (λE=>by subst E;exact F (dD g f));have o:∀{P:Nat} {t:cC} {D:List aN},Row x P t D->t≠33->t≠57->(W.setCell (zp k 3) z).heap[P]?=x.heap[P]?:=λg H N=>(b (g.of_block (e g H)) N).trans (e g H);have G:=vZ K O;have c:=h.inn.snoc (B:=n) G h.lti (dH K);have l:lS (W.setCell (zp k 3) z) w (X++[v]) (C++[M]):=
  ⟨c.len,λP Q Z L I=>eS (c.own P Q Z L I) λq s=>o (dX (c.own P Q Z L I) s) (by decide) (by decide),c.apart⟩
 have A:=h.r0.of_block (e h.r0 (by decide));refine⟨f,⟨f.set 3 z,?_,?_,l,?_,dQ,?_,?_,?_,?_,h.gem,h.mb⟩⟩
 .exact A.far (p:=zp k 3) h.mb z
 .rw[aO];exact eS a λq s=>b (dX a s) (by decide)
 .exact(nX (bY h.own r) (cU h.IG r dQ) J (aM h.IG.size r.size)).setCell h.gem _
 .exact(f.set 3 z).lt
 .exact(A.far (p:=zp k 3) h.mb z).lt
 .exact jN (eS a λq s=>b (dX a s) (by decide))
 exact l.lt
variable{s:bH}
def bs3(w:aI)(L:bH)(e:eY)(a:aI):Prop:=∃(x y z:Int)(A:Option Addr)(k c:Nat),e=.returned (.tuple #[.agg #[.int .i64 x,.int .i64 y,.int .u64 z,.slice A k c],.int .i64 (PZ L)])/\aR w.heap.size w a
def bO9{w x:aI}{s:bH}{a e f:Int}{A:Option Addr}{n k:Nat}{t:Int}(h:PZ s=t)(b:aR w w x):bs3 w s (.returned (.tuple #[.agg #[a,e,zu f,.slice A n k],t])) x:=⟨a,e,f,A,n,k,by rw[h],b⟩
def bK6(h:k<s):JL s (n+1) k C=JL s n (JZ s (zW s k 1) (k+1) []).2 (C++[(JZ s (zW s k 1) (k+1) []).1]):=by rw[JL,aV h]
def bk0(h:n=0\/s<=k):JL s n k C=C:=by
 cases n with
 |zero=>rfl
 |succ n=>rw[JL,aP (by omega)]
def cd6(h:k+4<=s):JZ s (n+1) k M=JZ s n (k+4) (M++[zW s k 4]):=by rw[JZ,aV h]
def bK7(h:n=0\/s<k+4):JZ s n k M=(M,k):=by
 cases n with
 |zero=>rfl
 |succ n=>rw[JZ,aP (by omega)]
def cx9{s:bH}(h:wU (O8 s)=false):PZ s=90:=by unfold PZ;rw[h];rfl
def bO1{s:bH}(h:wU (O8 s)=true)(a:iS (O8 s)≠s):PZ s=90:=by unfold PZ;rw[h,bN a];rfl
def ci6{s:bH}(h:wU (O8 s)=true)(a:iS (O8 s)=s):PZ s=0:=by unfold PZ;rw[h,bZ a];rfl
def bY1(s:aS)(w:aI)(hs:s.size<=1048576):Calls prog 54 #[s] w (bs3 w (lb s)):=by
 have hnum:=λ(p n:Nat)(hp:p<=10000000)(hn:n<=8)(y:aI)=>bf1 s p n y hs hp hn;have hll:=bI s;have⟨L,hL⟩:=fR (lb s);have HTOL:=aH (show s.toList=L from by rw[hL];exact jL s);rw[<-hL]at hnum hll|-;have hlt:=λp n=>ct6 L p n;have⟨a,ha⟩:=fR (zW L 4 4);have⟨b,hb⟩:=fR (zW L 8 4);have⟨c,hc⟩:=fR (zW L 12 8);have⟨q,hq⟩:=fR (zW L 20 1);have la:a<4294967296:=(by rw[ha];exact hlt 4 4);have lb':b<4294967296:=(by rw[hb];exact hlt 8 4);have lc:c<18446744073709551616:=(by rw[hc];exact hlt 12 8);have lq:q<256:=(by rw[hq];exact hlt 20 1);obtain⟨N1,N2,N3,N4⟩:=aC (hnum 4 4 (by omega) (by omega)) (hnum 8 4 (by omega) (by omega)) (hnum 12 8 (by omega) (by omega)) (hnum 20 1 (by omega) (by omega));rw[<-ha]at N1;rw[<-hb]at N2;rw[<-hc]at N3;rw[<-hq]at N4;have⟨HNUM,HLT⟩:=aA hnum hlt;have⟨E,hE⟩:=fR (JL L q 21 []);obtain⟨HRD,HE,HNO,HTU,HYE,HDG⟩:=aE (show O8 L=⟨a,b,c,E⟩from by rw[hE,ha,hb,hc,hq];rfl) hE (@cx9 L) (@bO1 L) (@ci6 L) (λ(w':aI)(x y z:Int)(A:Option Addr)(k c:Nat)(n:Int)=>@bO9 w w' L x y z A k c n);have⟨N,hN⟩:=fR s.size;have HN:=aH hN;rw[<-hN]at hll hs;have HLL:=aH hll;have u1:IntKind.i64.wrap (a:Int)=(a:Int):=(by rw[cQ];omega);have u2:IntKind.i64.wrap (b:Int)=(b:Int):=(by rw[cQ];omega);have u3:IntKind.i64.wrap (q:Int)=(q:Int):=(by rw[cQ];omega);have i9:(s.size:Int)=(N:Int):=(by rw[hN]);have hz0:=tR w (.cells #[.int .i64 0,.int .i64 0,.int .u64 0,.slice none 0 0] 57);have hrow:Row (w.alloc (.cells #[.int .i64 0,.int .i64 0,.int .u64 0,.slice none 0 0] 57)) w.heap.size 57 [.int .i64 0,.int .i64 0,.int .u64 0,.slice none 0 0]:=Row.new w #[.int .i64 0,.int .i64 0,.int .u64 0,.slice none 0 0] _;have hgw0:vP w ((w.alloc (.cells #[.int .i64 0,.int .i64 0,.int .u64 0,.slice none 0 0] 57)).alloc (.cells #[.int .i64 a,.int .i64 b,.int .u64 c,.slice none 0 0] 57)) (w.heap.size+2) (w.heap.size+1) w.heap.size a b c (.slice none 0 0) [] []:=by have h9:=Row.new (w.alloc (.cells #[.int .i64 0,.int .i64 0,.int .u64 0,.slice none 0 0] 57)) #[.int .i64 a,.int .i64 b,.int .u64 c,.slice none 0 0] 57;rw[bD]at h9;exact⟨h9,hrow.alloc _,bM _ _ _ _,lS.nil _ _,hz0.alloc hz0.size _,by simp,by omega,by omega,(λk hk=>by simp[Value.ownBlock]at hk),(λi y b hy=>by simp at hy),by omega,by omega⟩
 have HG0:=aH hgw0.up;clear ha hb hc hq hE hL hnum hlt hN hll hz0 hrow hgw0;go_in;go_wp2_with fail
 go_call N1 _ as e w' ⟨rfl,rfl⟩;go_wp2_with fail
 go_call N2 _ as e w' ⟨rfl,rfl⟩;go_wp2_with fail
 go_call N3 _ as e w' ⟨rfl,rfl⟩;go_wp2_with fail
 go_loopw [5,6,7,8,9] (λpt ct _ _ _ wr=>∃(j p:Nat)(acc:mX)(lv:aN)(us:List aN),ct=.int .i64 j/\pt=.int .i64 p/\j<=q/\p<=N+21/\vP w wr wr.heap.size (w.heap.size+1) w.heap.size a b c lv us acc/\E=JL L (q-j) p acc/\acc.length<=j/\(∀Z∈acc,Z.length<=255/\∀n∈Z,n<4294967296)) (λ_ ct _ _ _ _=>q-(intOf ct).toNat)
 .exact⟨0,21,[],_,_,rfl,rfl,bK _,by omega,HG0,HE,dQ,by simp⟩
 obtain⟨j,p,acc,lv,us,rfl,rfl,hj,hp,hgw,hE,hal,hac⟩:=hrel;have⟨HGW,HE1,HAC⟩:=aB hgw hE hac;clear hgw hE hac;go_wp2_with fail
 go_call N4 _ as e w' ⟨rfl,rfl⟩;by_cases hgo:j<q/\p<N
 .have⟨hjq,hpN⟩:=hgo;have i1:(j:Int)<q:=(by omega);have i2:(p:Int)<N:=(by omega);have⟨m7,hm7⟩:=fR (zW L p 1);have l7:m7<256:=(by rw[hm7];exact HLT p 1);have k7:=HNUM p 1 (by omega) (by omega) wr;rw[<-hm7]at k7;have hst:E=JL L (q-(j+1)) (JZ L m7 (p+1) []).2 (acc++[(JZ L m7 (p+1) []).1]):=by rw[HE1.zz,show q-j=(q-(j+1))+1 from by omega,bK6 (by rw[HLL.zz];exact hpN),<-hm7]
  have⟨F,hF⟩:=fR (JZ L m7 (p+1) []);rw[<-hF]at hst;have⟨HST,HF⟩:=aA hst hF;have u7:IntKind.i64.wrap (m7:Int)=(m7:Int):=(by rw[cQ];omega);clear hm7 hst hF;go_wp2_with fail
  go_call k7 as e w' ⟨rfl,rfl⟩;clear k7;have⟨wo,hwo⟩:=fR wr;have hgo9:vP w wr wo.heap.size (w.heap.size+1) w.heap.size a b c lv us acc:=(by rw[hwo];exact HGW);obtain⟨HGO,HBO⟩:=aA hgo9 (show w.heap.size<=wo.heap.size from by rw[hwo];exact HGW.IG.size);clear hgo9 hwo;go_wp2_with fail
  go_loopw [5,8,9] (λpt x kt wi=>∃(i p':Nat)(L':List Nat)(A1:Option Addr)(c1:Nat),kt=.int .i64 i/\pt=.int .i64 p'/\x=.slice A1 L'.length c1/\i<=m7/\p'<=N+21/\wi.ownsRow wo.heap.size 3 1 (.slice A1 L'.length c1) L'.length (fJ L')/\vP w wi wo.heap.size (w.heap.size+1) w.heap.size a b c lv us acc/\F=JZ L (m7-i) p' L'/\L'.length<=i/\∀n∈L',n<4294967296) (λ_ _ kt _=>m7-(intOf kt).toNat)
  .exact⟨0,p+1,[],none,0,rfl,by go_num,rfl,bK _,by omega,bM _ _ _ _,HGO,HF,dQ,by simp⟩
  obtain⟨i,p',L',A1,c1,rfl,rfl,rfl,hi,hp',hown,hgw',hF',hLl,hLn⟩:=hrel;have⟨m,hm⟩:=fR L'.length;rw[<-hm]at hown hLl;rw[<-hm];have⟨HM,HOWN,HGW',HF',HLN⟩:=aD hm hown hgw' hF' hLn;have hs10:=hgw'.top;have hs11:=hgw'.IG.size;clear hm hown hgw' hF' hLn;by_cases hgi:i<m7/\p'+4<=N
  .have⟨him,hpN'⟩:=hgi;have i3:(i:Int)<m7:=(by omega);have i4:(p':Int)+4<=N:=(by omega);have⟨y,hy⟩:=fR (zW L p' 4);have ly:y<4294967296:=(by rw[hy];exact HLT p' 4);have k8:=HNUM p' 4 (by omega) (by omega) wr;rw[<-hy]at k8;have HF2:=aH (show F=JZ L (m7-(i+1)) (p'+4) (L'++[y])from by
    rw[HF'.zz,show m7-i=(m7-(i+1))+1 from by omega,cd6 (by rw[HLL.zz];exact hpN'),<-hy])
   have u8:IntKind.i64.wrap (y:Int)=(y:Int):=(by rw[cQ];omega);clear hy;(go_wp2_with fail);go_call k8 as e w' ⟨rfl,rfl⟩;clear k8;(go_wp2_with (at_builtin;refine MG nH underlying33 HOWN rfl rfl rfl rfl rfl (by omega) (by omega) ?_;intro v11 w11 hown11 hg11 hat11;obtain⟨A11,c11,rfl,-⟩:=Reads.cX hown11;have HO11:=aH hown11;have HG11:=aH hg11;clear hown11 hg11 hat11));go_roundw
   .
    have hb11:aR wr.heap.size wr (wr.alloc (.cells #[.int .i64 y] 3)):=tR _ _;have hx:=bY HOWN hb11;have hkk:∀k,k<wr.heap.size->(Value.slice A1 m c1).ownBlock≠some k->w11.heap[k]?=wr.heap[k]?:=λk hk hne=>(HG11.block k (aW hk hb11.size) (λh9=>hne h9.symm)).trans (hb11.block k hk);have hml:(L'++[y]).length=m+1:=(by rw[aO,<-HM.zz];rfl);refine⟨i+1,p'+4,L'++[y],A11,c11,by go_num,by go_num,by rw[hml],by omega,by omega,?_,?_,HF2,by rw[hml];omega,λn hn=>?_⟩
    .rw[hml,yM];exact HO11
    .have hne:∀{k:Nat} {t:cC} {xs:List aN},Row wr k t xs->k<wo.heap.size->w11.heap[k]?=wr.heap[k]?:=fun {k t xs} hr hk=>hkk k hr.lt (λh9=>by have:=dH HOWN k h9;omega);have HH:=HGW'.zz;exact⟨HH.rm.of_block (hne HH.rm HH.ltm),HH.r0.of_block (hne HH.r0 HH.lt0),eS HH.own λq hq=>hne (dX HH.own hq) (HH.lto q hq),⟨HH.inn.len,λk x Z hx hZ=>eS (HH.inn.own k x Z hx hZ) λq hq=>hne (dX (HH.inn.own k x Z hx hZ) hq) (HH.lti k x q hx hq),HH.inn.apart⟩,nX (vZ hx HBO) (cU HH.IG hb11 dQ) HG11 (aM HH.IG.size hb11.size),aM hs10 (aM hb11.size HG11.size),HH.ltm,HH.lt0,HH.lto,HH.lti,HH.gem,HH.mb⟩
    rw[cB,bP]at hn;rcases hn with hn|rfl
    .exact HLN n hn
    exact ly
   simp[intOf];omega
  have HFE:=aH (show F=(L',p')from by
   rw[HF'.zz];exact bK7 (by rw[HLL.zz];omega))
  obtain⟨A2,c2,rfl,hlc1,hlc2,-⟩:=id (Reads.cX HGW'.own);obtain⟨⟨-,-,-,rM3⟩,-,-,-,fM3⟩:=gR HGW'.rm;have hor:¬i<m7\/(i<m7/\¬p'+4<=N):=(by omega);have haj:acc.length<=255:=(by omega);clear hgi;rcases hor with h9|⟨h9,h8⟩
  .have i3:¬(i:Int)<m7:=(by omega);(go_wp2_with (at_builtin;refine MG AF underlying55 HGW'.own rfl rfl rfl rfl rfl (by omega) (by omega) ?_;intro v11 w11 hown11 hg11 hat11;obtain⟨A3,c3,rfl,-⟩:=id (Reads.cX hown11);have HPU:=aH (HGW'.cC3 (by have:=HOWN.zz;rw[<-HM.zz];exact this) HBO (iH.alloc dQ _) hg11 hown11);obtain⟨⟨-,-,-,rm3⟩,-,-,-,fm3⟩:=gR HPU.1;clear hown11 hg11 hat11));go_roundw
   .exact⟨j+1,p',acc++[L'],_,_,by go_num,rfl,by omega,hp',HPU.2,by rw[HST.zz,HFE.zz],by rw[aO];simp;omega,λZ hZ=>by
    rw[cB,bP]at hZ;rcases hZ with hZ|rfl
    .exact HAC Z hZ
    exact⟨by rw[<-HM.zz];omega,HLN⟩⟩
   simp[intOf];omega
  have i3:(i:Int)<m7:=(by omega);have i4:¬(p':Int)+4<=N:=(by omega);(go_wp2_with (at_builtin;refine MG AF underlying55 HGW'.own rfl rfl rfl rfl rfl (by omega) (by omega) ?_;intro v11 w11 hown11 hg11 hat11;obtain⟨A3,c3,rfl,-⟩:=id (Reads.cX hown11);have HPU:=aH (HGW'.cC3 (by have:=HOWN.zz;rw[<-HM.zz];exact this) HBO (iH.alloc dQ _) hg11 hown11);obtain⟨⟨-,-,-,rm3⟩,-,-,-,fm3⟩:=gR HPU.1;clear hown11 hg11 hat11));go_roundw
  .exact⟨j+1,p',acc++[L'],_,_,by go_num,rfl,by omega,hp',HPU.2,by rw[HST.zz,HFE.zz],by rw[aO];simp;omega,λZ hZ=>by
   rw[cB,bP]at hZ;rcases hZ with hZ|rfl
   .exact HAC Z hZ
   exact⟨by rw[<-HM.zz];omega,HLN⟩⟩
  simp[intOf];omega
 have hEE:E=acc:=by rw[HE1.zz];exact bk0 (by rw[HLL.zz];omega)
 have hsm:DA ⟨a,b,c,acc⟩:=by
  refine⟨la,lb',lc,by show acc.length<=1000;omega,?_,λn hn=>?_⟩
  .have:=aA5 (k:=255) (λZ hZ=>(HAC Z hZ).1);show acc.flatten.length<=100000;have h9:acc.length*255<=255*255:=af6 _ (by omega);omega
  have⟨Z,hZ,hn⟩:=tS.1 hn;exact(HAC Z hZ).2 n hn
 have hrd:O8 L=⟨a,b,c,acc⟩:=(by rw[HRD.zz,hEE]);have⟨G5,G6,G7⟩:=aB HNO HTU HYE;rw[hrd]at G5 G6 G7;have hpp:=bY0 _ _ wr HGW.cd3 hsm;obtain⟨A2,c2,rfl,-⟩:=id (Reads.cX HGW.own);obtain⟨⟨m0,m1,m2,m3⟩,n0,n1,n2,n3⟩:=gR HGW.rm;have hor:¬j<q\/(j<q/\¬p<N):=by omega
 have hij:(decide ((j:Int)<q)=false/\decide (j<q)=false)\/(decide ((j:Int)<q)=true/\decide (j<q)=true/\decide ((p:Int)<N)=false/\decide (p<N)=false):=by
  rcases hor with h9|⟨h9,h8⟩
  .exact .inl ⟨bN (by omega),bN h9⟩
  exact .inr ⟨bZ (by omega),bZ h9,bN (by omega),bN h8⟩
 clear hEE hsm hrd hgo hor;rcases hij with⟨i3,i31⟩|⟨i3,i31,i4,i41⟩
 all_goals
  cases hv9:wU ⟨a,b,c,acc⟩with
  |false=>
   rw[hv9,aP (by simp),aP (by simp)]at hpp;have HG:=aH (G5 hv9);clear hv9;(go_wp2_with fail);go_call hpp as e w7 ⟨rfl,hb7⟩;have HGW7:=aH (HGW.next hb7);clear hpp hb7 m0 m1 m2 m3 n0 n1 n2 n3 i3;obtain⟨⟨r0,r1,r2,r3⟩,f0,f1,f2,f3⟩:=gR HGW7.r0;go_wp2;refine bE (v:=.tuple #[.agg #[.int .i64 0,.int .i64 0,.int .u64 0,.slice none 0 0],.int .i64 90]) (by simp[results,results54,go_sem,r0,r1,r2,r3]) rfl (HDG _ _ _ _ _ _ _ _ HG (oD HGW7.IG dQ _ _ _ _))
  |true=>
   rw[hv9,aV rfl,aV rfl]at hpp;have HOK:=aH hv9;clear hv9;(go_wp2_with fail);go_call hpp as e w7 ⟨rfl,hb7⟩;have HGW7:=aH (HGW.next hb7);clear hpp hb7 m0 m1 m2 m3 n0 n1 n2 n3 i3;obtain⟨⟨r0,r1,r2,r3⟩,f0,f1,f2,f3⟩:=gR HGW7.r0;by_cases hb:iS ⟨a,b,c,acc⟩=L
   .have HG:=aH (G7 HOK hb);obtain⟨⟨m0,m1,m2,m3⟩,n0,n1,n2,n3⟩:=gR HGW7.rm;have i8:(L==s.toList)=true:=(by rw[HTOL.zz];simp);go_wp2;refine bE (v:=.tuple #[.agg #[.int .i64 a,.int .i64 b,.int .u64 c,.slice A2 acc.length c2],.int .i64 0]) (by simp[results,results54,go_sem,r0,r1,r2,r3]) rfl (HDG _ _ _ _ _ _ _ _ HG (oD HGW7.IG dQ _ _ _ _))
   have HG:=aH (G6 HOK hb);have i8:(iS ⟨a,b,c,acc⟩==s.toList)=false:=(by rw[HTOL.zz,bA];exact hb);go_wp2;refine bE (v:=.tuple #[.agg #[.int .i64 0,.int .i64 0,.int .u64 0,.slice none 0 0],.int .i64 90]) (by simp[results,results54,go_sem,r0,r1,r2,r3]) rfl (HDG _ _ _ _ _ _ _ _ HG (oD HGW7.IG dQ _ _ _ _))
variable{D:aL}{K:bH->Nat}{H:bH->aN}{T:cC}
def bp8(l:List bB):∀v∈dM l,v.oneCell'=true:=by intro v a;obtain⟨b,_,rfl⟩:=dS.1 a;rfl
def av7{P:Program}(w:aI)(dT sT ty elem:cC)(g o dLen dCap:Nat)(s:aS) (hu:P.underlying dT=some (.slice elem)) (hs:(P.info? elem).map (·.size)=some 1) (hc:∀j,j<min s.size dLen->(w.cell? (zp g (o+j))).isSome=true) (hf:∀j,j<min s.size dLen->w.frozen? (zp g (o+j))=false) :(Builtin.copy_ #[dT,sT] ty #[.slice (zp g o) dLen dCap,s]).run P w =.ok (goInt (min s dLen:Nat)) (w.setCells g o (dM ((lb s).take (min s dLen)))):=by
 have hlen:(dM ((lb s).take (min s.size dLen)))=min s.size dLen:=by rw[oV,b8,bI];omega
 have hst:=run_storeCells_cells (P:=P) g o (dM ((lb s).take (min s.size dLen))) 0 w (by rw[hlen];simpa using hc) (by rw[hlen];simpa using hf) (bp8 _);simp only[xX]at hst;have htk:∀k,List.take k (List.map (λb:bB=>Value.int IntKind.u8 (b.toNat:Int)) s.data.toList)=dM ((lb s).take k):=λk=>by rw[<-qX];rfl
 cases hq:P.info? elem with
 |none=>simp[hq]at hs
 |some i=>simp[Builtin.copy_,run_underlying hu,Builtin.lenOf,Builtin.firstCells,sizeOf,typeInfo,hq];rw[htk,show Nat.min s dLen=min s.size dLen from rfl,hst];simp[Result.andThen]
def ao1:List aN->Nat->List aN->List aN
 |xs,_,[]=>xs
 |xs,o,v::r=>ao1 (xs.set o v) (o+1) r
def aM3:∀(b:List aN)(o:Nat)(a:List aN),o+b.length<=a.length->ao1 a o b=a.take o++b++a.drop (o+b.length)
 |[],o,a,_=>by simp[ao1]
 |v::r,o,a,h=>by rw[ao1,aM3 r (o+1) (a.set o v) (by rw[mV];simp at h;omega),list_seg_step a o v r (by simpa using h)];rfl
def bi0(h:l3 w n T 1 v k X)(d:v.ownBlock=i):l3 (w.setCell (zp i m) u) n T 1 v k (X.set m u):=by
 rcases h with h|⟨b,rfl,p,q,r,s⟩
 .have t:=h.1;rcases h.2 with⟨rfl,_⟩|⟨o,e,c,rfl,f,l,x,g,j,a⟩
  .simp[Value.ownBlock]at d
  simp[Value.ownBlock]at d;subst d;refine .inl ⟨by simpa using t,.inr ⟨o,e,c.setIfInBounds m u,rfl,f,Go.heap_setCell_same w o m c T u l,x,g,by simpa using j,?_⟩⟩;rw[co0,List.take_set,a]
 simp[Value.ownBlock]at d;subst d;exact .inr ⟨b,rfl,p,q.set m u,by simpa using r,s⟩
def RJ(b:v.ownBlock=some m):∀(c:List aN)(o:Nat)(w:aI)(a:List aN),l3 w n T 1 v k a->l3 (w.setCells m o c) n T 1 v k (ao1 a o c)
 |[],_,_,_,h=>h
 |u::r,o,w,a,h=>RJ b r (o+1) _ _ (bi0 h b)
def bm5{r:Option Nat}(a:w.grownBy x r)(b:x.grownBy y r):w.grownBy y r:=⟨b.os.trans a.os,b.tape.trans a.tape,b.output.trans a.output,aM a.size b.size,λk d c=>(b.block k (aW d a.size) c).trans (a.block k d c)⟩
def LZ(g:Nat):∀(a:List aN)(o:Nat)(w:aI),w.grownBy (w.setCells g o a) (some g)
 |[],_,w=>⟨rfl,rfl,rfl,cV _,λ_ _ _=>rfl⟩
 |u::r,o,w=>bm5 (jI w ⟨g,o,none⟩ u) (LZ g r (o+1) _)
def bp9{l:bH}(b:n<s):dM (qH s l n)=ao1 (dM s) n (dM (l.take (min l (s-n)))):=by
 have a:l.take (min l (s-n))=l.take (s-n):=by
  rcases UQ l (s - n)with h|h
  .rw[fX h,aT dQ,aT h]
  rw[xW h]
 rw[a,aM3 _ _ _ (by rw[oV,oV,b8];omega)];unfold qH dM;rw[iC,iC,qX,List.map_drop,bT,gK,b8];congr 2;rcases UQ l (s - n)with h|h
 .rw[xW h]
 rw[fX h,iR (by rw[gK];omega),iR (by rw[gK];omega)]
def cv7(l s:bH){n:Nat}(a:n<l):(qH l s n).length=l:=by unfold qH;simp only[aO,b8,eK];omega
def bJ.cr4(h:bJ w k n m D K H){s:bH}{f:fK}(A:bO D.files s=f){j:Nat}(v:(H s).ownBlock=j){i:Nat}(C:i<f.data)(O:bH):bJ (w.setCells j i (dM (O.take (min O (f.data - i))))) k n m {D with files:=eC D.files s ⟨qH f.data O i,f.sync⟩} K (λx=>if x=s then H s else H x)/\gX k m w (w.setCells j i (dM (O.take (min O (f.data - i))))):=by
 have c:=h.files s f A;have⟨d,L,u,F,y⟩:=h.row;have r:=(c.own.row v).1;have J:=(c.own.row v).2;have g:=LZ j (dM (O.take (min O (f.data-i)))) i w;have l:=cv7 f.data O C;have E:dZ (eC D.files s ⟨qH f.data O i,f.sync⟩)=dZ D.files:=by have:=lB h.kV s ⟨qH f.data O i,f.sync⟩;rw[A]at this;simp only[pZ,lX]at this;omega
 have a:∀q,q<w.heap.size->q≠j->(w.setCells j i (dM (O.take (min O (f.data-i))))).heap[q]?=w.heap[q]?:=λq p B=>g.block q p (λb=>B (cJ b));have o:=RJ v (dM (O.take (min O (f.data-i)))) i w _ c.own;rw[<-bp9 C]at o;refine⟨h.aw0 (D':={D with files:=eC D.files s ⟨qH f.data O i,f.sync⟩}) (v':=H s) A rfl rfl h.bQ h.left h.kept (by show dZ (eC D.files s ⟨qH f.data O i,f.sync⟩)<=D.cap;rw[E];exact h.used) ⟨d,L,?_,F,?_⟩ ⟨?_,c.low,?_,?_⟩ (λq b=>.inl b) (λq p M N G=>a q p (λb=>G (by rw[b];exact v))),⟨g.os,g.tape,g.output,g.size,λq p e=>a q p (λb=>?_),λq z=>jW (a q (n7 z).lt (oP z r (by decide))) z⟩⟩
 .show Row _ n _ [_,_,(dZ (eC D.files s ⟨qH f.data O i,f.sync⟩):Nat),_,_,_,_,_,_,_];rw[E];exact u.of_block (a n u.lt (λb=>by rw[b]at u;exact eV.2.1 (dD r u)))
 .exact y.eW λq b=>a q (y.row b).1.lt (λI=>by rw[I]at b;exact eV.2.2.2.2.2 (dD (y.row b).1 r))
 .exact c.row.of_block (a _ c.row.lt (λb=>by have t:=c.row;rw[b]at t;exact eV.2.2.1 (dD r t)))
 .show l3 _ k _ 1 (H s) (qH f.data O i) (dM (qH f.data O i));rw[l];exact o
 .show f.sync<=(qH f.data O i);rw[l];exact c.sync
 rw[b]at e;rcases e with e|⟨-,e⟩
 .omega
 exact e (oF r (.inr (.inr rfl)))
def MS.at_{f:fK}(h:MS w m n v f)(p:0<f.data.length):∃g c,v=.slice (zp g) f.data c/\f.data.length<=c/\c<=maxLen/\v.ownBlock=g/\∀d:aI,d.heap[g]?=w.heap[g]?->∀j,j<f.data.length->(d.cell? (zp g j)).isSome=true/\d.frozen? (zp g j)=false:=by
 obtain⟨g,c,rfl,s,o⟩:∃g c,v=.slice (zp g) f.data c/\f.data.length<=c/\c<=maxLen:=by
  rcases h.own with h|⟨n,rfl,o,D,E,t⟩
  .rcases h.2 with⟨rfl,C⟩|⟨r,e,q,rfl,x,z,p,i,y,l⟩
   .omega
   exact⟨r,e,rfl,p,i⟩
  exact⟨n,_,rfl,dQ,t⟩
 have B:=(h.own.row (k:=g) (by simp[Value.ownBlock])).1;refine⟨g,c,rfl,s,o,by simp[Value.ownBlock],λd u j A=>?_⟩;have b:=B.of_block u;have a:j<(dM f.data).length:=(by rw[oV];exact A);exact⟨by rw[b.cell j a];rfl,b.frozen j a⟩
def bo5(h:bJ w k n m D K H)(s t:aS)(U:s<=maxLen)(h0:Int)(hk:-9223372036854775808<=h0/\h0<=9223372036854775807):Calls prog 35 #[zp n,s,h0,t] w (rI k n m (D.aH6 (lb s) h0 (lb t)) w):=by
 have a:=WA h s U h0;unfold XJ at a;unfold rI aL.aH6;have y:=aH h;rcases o:bO D.files (lb s)with _|f
 .rw[o]at a;simp only at a|-;have b:=aH a;clear a h;go_in;go_wp2_with fail
  go_call b as e M ⟨rfl,rfl⟩;go_wp2;go_ret;exact⟨rfl,⟨_,_,y⟩,gX.refl _ _ _⟩
 rw[o]at a;simp only at a|-;by_cases u:h0<0
 .rw[aV u]at a|-;have b:=aH a;clear a h;go_in;go_wp2_with fail
  go_call b as e M ⟨rfl,rfl⟩;go_wp2;go_ret;exact⟨rfl,⟨_,_,y⟩,gX.refl _ _ _⟩
 rw[aP u]at a|-;have b:=aH a;have l:=h.files _ f o;by_cases i:h0<f.data
 iterate 2
  ·(first|(rw[aV i];(obtain⟨h1,rfl⟩:=cR (by omega:0<=h0));rw[bW];(have J:h1<f.data:=by omega);(have⟨g,c,I,E,Q,S,d⟩:=l.at_ (by omega)))|rw[aP i]);have B:=l.row.lO;(first|((have Z:=l.row.NV);have⟨A,p⟩:=aA (h.cr4 o S J (lb t)) d;have⟨i0,F,V,G,W⟩:=info_parts infoByte)|obtain⟨X,Y,q,-⟩:=id l.own.reads);first|(rw[I]at B;have⟨N,C⟩:=fR f.data.length;have z:=aH C;rw[<-C]at B J i E;(have R:=av7 (P:=prog) w 110 9 3 5 g h1 (N-h1) (c-h1) t underlying110 (by rw[F];simp[G]) (λj T=>(p w rfl (h1+j) (by have:=z.zz;omega)).1) (λj T=>(p w rfl (h1+j) (by have:=z.zz;omega)).2));clear a h l o I d C)|rw[q]at B;clear a h l o q
   go_in;(go_wp2_with fail);go_call b as e M ⟨rfl,rfl⟩;go_wp2;(try (have v:=A.zz;rw[bI,<-z.zz]at v;have⟨L,r⟩:=v;have⟨O,x⟩:=aA L r;clear L r));go_ret;first|exact⟨rfl,⟨_,_,O⟩,x⟩|exact⟨rfl,⟨_,_,y⟩,gX.refl _ _ _⟩
end Go.Proofs.YtpopikndggffaaaGreatDoor
