/- TOP, part 18. -/
import Derived.Test.YtpopikndggffaaaGreatDoorGm12
namespace Go.Proofs.YtpopikndggffaaaGreatDoor
set_option linter.all false
set_option maxRecDepth 100000
set_option maxHeartbeats 16000000
open Go.RowKit Tryz
variable{L:List cZ}
def au9(c:L.all pZ=true){n:Nat}{o:cZ}(b:L[n]?=some o)(z:List bB):zZ (pY L++z) n=lV o/\24*n+24<=(pY L).length:=by
 have a:n<L.length:=(aR.1 b).1;have d:pZ o=true:=dL.1 c o (bD b);have h:L=L.take n++o::L.drop (n+1):=by
  have:L.drop n=o::L.drop (n+1):=by rw[gO a];rw[aK a,vD]at b;rw[b]
  rw[<-this,bY]
 have g:pY L=pY (L.take n)++(lV o++pY (L.drop (n+1))):=by
  conv=>lhs;rw[h]
  unfold pY;rw[dU,eC]
 have e:(pY (L.take n)).length=24*n:=by rw[sY (dL.2 λx i=>dL.1 c x (mL i))];simp;omega
 have f:=rL d;refine⟨?_,?_⟩
 .unfold zZ;rw[g,bV,bV,nK e,tY f]
 rw[sY c];omega
def PF(o:vU L=true)(r:∀e∈L,wN e)(u:L.length<=1000000):
 pJ (mF L)=true/\uE (mF L)=L/\(mF L).length=12+24*L.length/\∀i e,L[i]?=some e->((mF L).drop (8+24*i)).take 24=lV e:=by
  have j:=o;unfold vU at j;rw[bL]at j;obtain⟨v,l⟩:=j;have f:mF L=kY (NN L):=(by unfold mF;rw[o,aU rfl]);have n:=sY l;have q:(rB L.length).length=8:=by simp[rB]
  have c:(mF L).length=12+24*L.length:=by rw[f,nT];unfold NN;rw[aP,n,q];omega
  obtain⟨z,s⟩:∃z,mF L=rB L.length++(pY L++z):=⟨VI (ab0 (NN L)),by rw[f];unfold kY NN;rw[bV]⟩;have a:(mF L).drop 8=pY L++z:=(by rw[s,nK q]);have b:mT (mF L)=L.length:=by unfold mT;omega
  have d:iC (pY L++z) L.length=L:=by refine wU (qI _ _) λi t g=>?_;have h:L[i]?=some L[i]:=aK g;have k:pZ L[i]=true:=dL.1 l _ (cY g);simp only[iC,sN,List.getElem_range];rw[(au9 l h z).1];exact(QG (r _ (cY g)) k).2
  have p:qX (pY L++z) L.length=true:=by unfold qX;refine dL.2 λi h=>?_;have g:=gB.1 h;have h:L[i]?=some L[i]:=aK g;have k:pZ L[i]=true:=dL.1 l _ (cY g);rw[(au9 l h z).1];exact(QG (r _ (cY g)) k).1
  have m:pJ (mF L)=true:=by unfold pJ;rw[b,a,d,p,o,c];simp
  refine⟨m,?_,c,λi e h=>?_⟩
  .unfold uE;rw[m,aU rfl,b,a,d]
  rw[<-n6,a];exact(au9 l h z).1
def bA5:(prog.info? 5).map (λi=>(i.zero,i.size,i.bytes))=some (some (.int .u8 0),1,1):=by kernel_rfl
def ar4(n:Nat):(⟨#[112,116,97,98]⟩:aT)++bs (be 4 n)=bs (rB n):=by have:(⟨#[112,116,97,98]⟩:aT)=bs [112,116,97,98]:=rfl;rw[this,l4];rfl
def aT9(v:aN)(l:List cZ)(w:aI)(C:qD w v l)(hn:l.length<=1000000):
 Calls prog 269 #[v] w λe w'=>e=.returned (.tuple #[.string (bs (mF l)),.int .i64 (bC3 l)])/\aS w.heap.size w w':=by
  obtain⟨⟨A,c,rfl,-,-,-,-⟩,-⟩:=id C;obtain⟨-,h6,h7,-⟩:=C.cells;unfold maxLen at h7;obtain⟨i0,hd,ho,hq,hr⟩:=info_parts bA5;have d:=λh0=>C.later h0;have R:=λ(i:Nat)(e:cZ)(hi:l[i]?=some e)=>C.ok hi;obtain⟨n,o⟩:∃n,n=l.length:=⟨_,rfl⟩;rw[<-o]at h6 hn;rw[<-o]at C|-;have⟨V,Hl,Z,m⟩:=aC o C R d;clear o C R d;have wn:IntKind.u64.wrap (n:Int)=(n:Int):=by rw[eR];omega
  go_in;(go_wp2_with fail);refine(KL _ l w Hl.out).mono ?_;rintro e w0 ⟨rfl,B⟩;rcases hs:fB l with _|_
  .have j:vU l=false:=(by unfold vU;rw[hs];rfl);go_wp2;refine bG (v:=.tuple #[.string (⟨#[]⟩:aT),.int .i64 2]) (by simp[results,results269,go_sem]) rfl ⟨aW0 (by unfold mF;rw[j];rfl) (by unfold bC3;rw[j];rfl) _,B⟩
  have Hs:=aH hs;(go_wp2_with fail);refine(bx3 n _ (by omega)).mono ?_;rintro e X ⟨rfl,L⟩;obtain⟨w2,G,O,J,h4⟩:=oR.ofString (P:=prog) X 9 110 5 ((⟨#[112,116,97,98]⟩:aT)++bs (be 4 n)) (by rw[ar4,eK];simp[rB]) underlying9 underlying110 underlying5;have hj:=aJ B (aJ L h4);have h2:oR w2 X.heap.size G (rB n):=(by rwa[ar4,gF]at J);have hg:w.heap.size<=X.heap.size:=aL B.size L.size;have T:((⟨#[112,116,97,98]⟩:aT)++bs (be 4 n)).size=8:=(by rw[ar4,eK];rfl);rw[T]at O;clear J;(go_wp2_with fail);clear O;go_loopw [4,19] (λb i wr=>∃k I a N:Nat,k<=n/\i=.int .i64 k/\b=.slice (some ⟨I,0,none⟩) N a/\oR wr I a (rB n++pY (l.take k))/\(rB n++pY (l.take k)).length=N/\(l.take k).all pZ=true/\w.heap.size<=I/\aS w.heap.size w wr) (λ_ i _=>n-(intOf i).toNat)
  .exact⟨0,X.heap.size,G,8,by omega,rfl,rfl,by simpa[pY]using h2,by simp[rB,pY],by simp,hg,hj⟩
  obtain⟨k,I,a,N,hk,rfl,rfl,J,o,f,h8,p⟩:=hrel;have⟨q,HB⟩:=aA f J;have hu:N<=100000000:=by have W:=sY f;rw[aP,W]at o;simp[rB]at o;omega
  have Y:=aH o;clear f J o;by_cases hf:k<n
  .obtain⟨e,E⟩:∃e,l[k]?=some e:=⟨_,aK (by rw[<-V.out];exact hf)⟩;have oe:=Z.out k e E;have hb:=bg1 E;have ha:=ae2 E;have r:=bD E;obtain⟨b,hv,rfl,-,hc⟩:=m.out (by rw[<-V.out];omega);obtain⟨c0,c1,c2⟩:=hc k e E wr p;have S:=λw=>UJ e w oe;have i1:(k:Int)<n:=(by omega);have⟨Hb,Ha,F⟩:=aB hb ha r;clear E hc hb ha r;have k1:=dO wr (.cells (iX e) 152);unfold iX at k1 S;rcases Q:pZ e with _|_
   .have j:=cf8 F.out Q;rw[bu8 Q]at S;(go_wp2_with fail);refine(S _).mono ?_;rintro x w3 ⟨rfl,g⟩;go_wp2;refine bG (v:=.tuple #[.string (⟨#[]⟩:aT),.int .i64 2]) (by simp[results,results269,go_sem]) rfl ⟨aW0 (by unfold mF;rw[j];rfl) (by unfold bC3;rw[j];rfl) _,dK p (aJ k1 g) (aO _)⟩
   have h:=rL Q;have Hm:=aH Q;generalize hx:lV e=x at S h;have Hx:=aH hx;have hh:(bs x).size=24:=(by rw[eK];exact h);clear hx Q;(go_wp2_with fail);refine(S _).mono ?_;rintro y w3 ⟨rfl,g⟩;have U:=aJ k1 g;have h3:=HB.out.next U;have M:=dK p U (aO _);go_wp2_with (first
    |(at_builtin;refine ME _ rfl _ _ 110 9 rfl rfl h3 Y.out (bs x) rfl underlying110 underlying9 hd ho hq hr rfl w.heap.size h8 M.size (by rw[hh];omega) ?_;intro g3 H w4 K h9 h5))
   go_wp2;go_roundw
   .exact⟨k+1,g3,H,N+24,by omega,by go_num,rfl,by rw[Hb.out,Hx.out,<-bV];rw[gF]at K;exact K,by rw[Hb.out,Hx.out,<-bV,aP,Y.out,h],by rw[Ha.out,q.out,Hm.out];rfl,h9,M.trans h5⟩
   simp[intOf];omega
  obtain rfl:k=n:=(by omega);have i1:¬(k:Int)<k:=(by omega);have D:l.take k=l:=aX (by rw[<-V.out];exact aO _);have s:rB k++pY (l.take k)=NN l:=by rw[D];unfold NN;rw[<-V.out]
  have t:vU l=true:=by have W:=q.out;rw[D]at W;unfold vU;rw[W,Hs.out];rfl
  have u:=HB.out;have z:=Y.out;rw[s]at u z;have ht:(convert 110 9 (.slice (some ⟨I,0,none⟩) N a)).run prog wr=.ok (.string (bs (NN l))) wr:=u.conv z underlying110 underlying5 underlying9;clear s D u;(go_wp2_with fail);refine(AV _ _ (by rw[eK,z];omega)).mono ?_;rintro x w3 ⟨rfl,g⟩;rw[gF];go_wp2;refine bG (v:=.tuple #[.string (bs (kY (NN l))),.int .i64 0]) (by simp[results,results269,go_sem]) rfl ⟨aW0 (by unfold mF;rw[t];rfl) (by unfold bC3;rw[t];rfl) _,dK p g (aO _)⟩
variable{C:List (List bK)}{R:List lI}{i j k m n:Nat}{I:bA}{s:bK}{f l:bZ}{o:cZ}{M:iY}
def ad0(a:Nat)(A B:List lI):fJ a (A++B)=fJ a A++fJ a B:=by simp[fJ]
def nP:o∈fJ n R↔∃r∈R,o∈tV n r:=by simp[fJ,lG]
def isI(n:bK):Prop:=n=fZ\/isT n
def M2:isI fZ:=.inl rfl
def bm5(h:n<=999999):isI (nR n):=.inr ⟨n,rN h⟩
structure VA(l:bZ)(b s:Nat)(R:List lI)(P:Nat)(m:iY):Prop where
 next:m.next<=s
 check:m.check<=P
 on:∀n∈m.fC.flatten,∃a,bR l (nR n)=some a/\a.data.length<=a.sync
 eq:(∀n∈m.fC.flatten,∀a,bR l (nR n)=some a->pJ a.data=true)->∀e,(∃n,n∈m.fC.flatten/\∃a,bR l (nR n)=some a/\e∈uE a.data)↔e∈fJ b (R.filter fun r=>decide (r.1<m.check))
def EN(l:bZ)(a s:Nat)(R:List lI)(P:Nat):Prop:=∀b,bR l fZ=some b->b.data.length<=b.sync/\(uI b.data=true->(getM b.data).aZ=a->VA l a s R P (getM b.data))
def GV(h:uI s=true):∀n∈(getM s).fC.flatten,n<=999999:=λn c=>by
 obtain⟨a,_⟩:=as2 h;obtain⟨⟨d,_⟩,_,b⟩:=lW.1 a;have:=b n c;omega
def VA.stay(h:VA l k n R m M)(y:∀A∈M.fC.flatten,A<=999999)(z:iQ isI l f):VA f k n R m M:=by
 have g:∀A∈M.fC.flatten,∃i c,bR l (nR A)=some i/\bR f (nR A)=some c/\c.data=i.data/\c.data.length<=c.sync:=λA a=>by
  obtain⟨i,b,d⟩:=h.on A a;obtain⟨c,q,r,x⟩:=z.sure (bm5 (y A a)) b d;exact⟨i,c,b,q,r,x⟩
 refine⟨h.next,h.check,λA a=>?_,λv e=>?_⟩
 .obtain⟨i,c,b,d,q,r⟩:=g A a;exact⟨c,d,r⟩
 have:=h.eq (λA a i o=>by obtain⟨j,c,b,d,q,r⟩:=g A a;rw[b]at o;cases o;rw[<-q];exact v A a c d) e;rw[<-this];constructor
 .rintro ⟨A,a,c,b,d⟩;obtain⟨j,p,s,t,u,w⟩:=g A a;rw[t]at b;cases b;exact⟨A,a,j,s,by rw[<-u];exact d⟩
 rintro ⟨A,a,i,b,d⟩;obtain⟨j,p,s,t,u,w⟩:=g A a;rw[s]at b;cases b;exact⟨A,a,p,t,by rw[u];exact d⟩
def EN.stay(h:EN l k n R m)(e:iQ isI l f):EN f k n R m:=λs a=>by
 cases b:bR l fZ with
 |none=>rw[e.no M2 b]at a;cases a
 |some r=>
  obtain⟨i,j⟩:=h r b;obtain⟨g,o,p,q⟩:=e.sure M2 b i;rw[o]at a;cases a;refine⟨q,λd c=>?_⟩;rw[p]at d c|-;exact(j d c).stay (GV d) e
def rR(R a:List lI)(P:Nat):Prop:=∀k,k<=P->(a.filter fun r=>decide (r.1<k))=R.filter fun r=>decide (r.1<k)
def rR.refl(R:List lI)(P:Nat):rR R R P:=λ_ _=>rfl
def WY{a:List (List bK)}(h:IM C a n k):rR (dB C) (dB a) k:=λl j=>by
 obtain⟨r,b,f,g,c⟩:=h;rw[b];conv=>rhs;rw[<-bY r (dB C)]
 rw[iN];have:((dB C).drop r).filter (λx=>decide (x.1<l))=[]:=(by rw[gT];intro x e;obtain⟨i,d,rfl⟩:=eS e;rw[fF]at d;have:=c (r+i) (by omega) (by omega);rw[oY];simp;omega);rw[this,fU]
def RV(h:k<=n):rR R (R++[(n,s)]) k:=λj a=>by
 rw[iN];have:([(n,s)]:List lI).filter (λx=>decide (x.1<j))=[]:=(by rw[j7,aQ (by simp;omega)];rfl);rw[this,fU]
def VA.same{P:List lI}(h:VA l k n R i M)(d:rR R P i)(c:i<=j)(b:n<=m):VA l k m P j M:=
 ⟨aL h.next b,aL h.check c,h.on,λa e=>by rw[d _ h.check];exact h.eq a e⟩
def EN.same{P:List lI}(h:EN l k n R i)(g:rR R P i)(f:i<=j)(c:n<=m):EN l k m P j:=λd a=>
 ⟨(h d a).1,λe b=>((h d a).2 e b).same g f c⟩
structure mY(l:bZ)(n:Nat)(L:List cZ):Prop where
 file:∃a,bR l (nR n)=some a/\a.data.length<=a.sync/\a.data=mF L
 may:vU L=true
 ok:∀e∈L,wN e
 yV:L.length<=1000000
structure rH(l:bZ)(I:bA)(a s:Nat)(R:List lI)(P:Nat):Prop where
 cV:zH I.cV=true
 yJ:I.cV.aZ=a
 next:I.cV.next<=s
 check:I.cV.check<=P
 fA:∀n∈I.cV.fC.flatten,∃L,I.fA n=some L/\mY l n L
 eqT:∀e,(∃n,n∈I.cV.fC.flatten/\∃L,I.fA n=some L/\e∈L)↔e∈fJ a (R.filter fun r=>decide (r.1<I.cV.check))
 Q0:fB I.mem=true
 eqM:∀e,e∈I.mem↔e∈fJ a (R.filter fun r=>!decide (r.1<I.cV.check))
 free:∀k,I.cV.next<=k->k<=999999->bR l (nR k)=none/\bR l (vI k)=none
 eD:EN l a s R P
def mY.uE(h:mY l n L):∃a,bR l (nR n)=some a/\pJ a.data=true/\uE a.data=L:=by obtain⟨a,c,f,b⟩:=h.file;obtain⟨d,e,_⟩:=PF h.may h.ok h.yV;exact⟨a,c,by rw[b];exact d,by rw[b];exact e⟩
def mY.stay(h:mY l n L)(j:n<=999999)(k:iQ isI l f):mY f n L:=by obtain⟨m,a,b,c⟩:=h.file;obtain⟨g,d,e,i⟩:=k.sure (bm5 j) a b;exact⟨⟨g,d,i,e.trans c⟩,h.may,h.ok,h.yV⟩
def bJ3{a:fM}(g:bR l (nR n)=some a)(j:a.data.length<=a.sync)(b:pJ a.data=true)(o:a.data.length<=10000000):mY l n (uE a.data):=by have h:=b;unfold pJ at h;simp only[bL,bH,gG]at h;obtain⟨⟨⟨⟨k,m⟩,c⟩,d⟩,f⟩:=h;have e:uE a.data=iC (a.data.drop 8) (mT a.data):=(by unfold uE;rw[b,aU rfl]);have i:=GM c;rw[e];refine⟨⟨a,g,j,f.symm⟩,d,i.2.2,?_⟩;rw[qI];unfold mT;omega
def rH.all{R:List lI}{m:Nat}(h:rH l I k n R m)(e:cZ):(e∈I.mem\/∃d,d∈I.cV.fC.flatten/\∃L,I.fA d=some L/\e∈L)↔e∈fJ k R:=by
 rw[h.eqM,h.eqT,nP,nP,nP];simp only[eW,bH,MZ,cN];constructor
 .rintro (⟨r,a,b⟩|⟨r,a,b⟩)
  .exact⟨r,a.1,b⟩
  exact⟨r,a.1,b⟩
 rintro ⟨r,a,b⟩;by_cases c:r.1<I.cV.check
 .exact .inr ⟨r,⟨a,c⟩,b⟩
 exact .inl ⟨r,⟨a,c⟩,b⟩
def rH.lists(h:rH l I k n R m):∀d∈I.cV.fC.flatten,fB ((I.fA d).getD [])=true:=λd c=>by
 obtain⟨L,a,b⟩:=h.fA d c;rw[a];have:=b.may;unfold vU at this;rw[bL]at this;exact this.1
def GJ{a e:Int}:o∈kF L n a e↔o∈L/\o.1=n/\a<=o.2.1/\o.2.1<=e:=by unfold kF inE;rw[eW,bH]
def ML(a:fB L=true)(h:Nat)(f t:Int):fB (kF L h f t)=true:=by unfold fB at a|-;rw[bH]at a|-;exact cx1 _ a
def S7(h:rH l I k n R m)(q:Nat)(f t:Int):fB (DT I q f t)=true/\∀e,e∈DT I q f t↔e∈fJ k R/\e.1=q/\max f 0<=e.2.1/\e.2.1<=min t 1073741824:=by
 have p:∀L∈(kF I.mem q (max f 0) (min t 1073741824)::I.cV.fC.flatten.map λr=>kF ((I.fA r).getD []) q (max f 0) (min t 1073741824)),fB L=true:=λL b=>by
  rcases cX.1 b with rfl|b
  .exact ML h.Q0 _ _ _
  obtain⟨r,d,rfl⟩:=dR.1 b;exact ML (h.lists r d) _ _ _
 obtain⟨j,o⟩:=MM p;refine⟨j,λe=>?_⟩;unfold DT;rw[o,<-h.all e];constructor
 .rintro ⟨L,b,i⟩;rcases cX.1 b with rfl|b
  .obtain⟨a,c⟩:=GJ.1 i;exact⟨.inl a,c⟩
  obtain⟨r,d,rfl⟩:=dR.1 b;obtain⟨a,c⟩:=GJ.1 i;obtain⟨L,g,_⟩:=h.fA r d;rw[g]at a;exact⟨.inr ⟨r,d,L,g,a⟩,c⟩
 rintro ⟨a|⟨r,d,L,g,a⟩,c⟩
 .exact⟨_,by simp,GJ.2 ⟨a,c⟩⟩
 exact⟨_,iG _ (dR.2 ⟨r,d,rfl⟩),GJ.2 ⟨by rw[g];exact a,c⟩⟩
variable{r:Int×aM}{D:aM}{F P Q:aM->Prop}
def cq1(b:n<=999999)(a:k<=999999):nR n≠gZ k:=λe=>by have:=rN b;rw[e,sV a]at this;cases this
def cq2(b:n<=999999)(a:k<=999999):vI n≠gZ k:=λe=>by have:=rO b;rw[e,sV a]at this;cases this
def DZ{n k:Nat}(b:n<=999999)(a:k<=999999):nR n≠vI k:=λe=>by have:=rN b;rw[e,rO a]at this;cases this
def GQ(a:n<=999999):nR n≠dG:=λe=>by have:=rN a;rw[e,AX]at this;cases this
def aq0(a:n<=999999):vI n≠dG:=λe=>by have:=rO a;rw[e,AX]at this;cases this
def zM(a:n<=999999):nR n≠fZ:=λe=>by have:=rN a;rw[e,LO]at this;cases this
def XU(a:n<=999999):vI n≠fZ:=λe=>by have:=rO a;rw[e,LO]at this;cases this
def CS(b:n<=999999)(c:k<=999999)(h:nR n=nR k):n=k:=by have a:=rN b;rw[h,rN c]at a;cases a;rfl
def bl4(b:n<=999999)(c:k<=999999)(h:vI n=vI k):n=k:=by have a:=rO b;rw[h,rO c]at a;cases a;rfl
def JQ(a:n<=999999):¬isC (nR n):=λ⟨k,h⟩=>by rw[rN a]at h;cases h
def JR(a:n<=999999):¬isC (vI n):=λ⟨k,h⟩=>by rw[rO a]at h;cases h
def XT:¬isC fZ:=λ⟨k,h⟩=>by rw[LO]at h;cases h
def ap9(a:n<=999999):¬isI (vI n):=λh=>by
 rcases h with h|⟨k,h⟩
 .exact XU a h
 rw[rO a]at h;cases h
def NW:¬isI dG:=λh=>by
 rcases h with h|⟨k,h⟩
 .exact vS h
 rw[AX]at h;cases h
def ap8(a:n<=999999):¬isI (gZ n):=λh=>by
 rcases h with h|⟨k,h⟩
 .exact cf1 n a h.symm
 rw[sV a]at h;cases h
structure vN(b a s:Nat)(R:List lI)(P:Nat)(c l:bZ):Prop where
 sys:Sys b 98 l
 stay:iQ isC c l
 idx:EN l a s R P
def vN.jW{n k:Nat}(h:vN n m k R i l f)(a:List Int):vN n m k R i l (eI f a):=
 ⟨h.sys.jW a,h.stay.trans (iQ.jW _ h.sys.oI.sync a),h.idx.stay (iQ.jW _ h.sys.oI.sync a)⟩
def IT(D:aM)(r:Int×aM)(P F:aM->Prop)(I:bZ->Prop):Prop:=
 Good D r P I\/(r.1=60/\r.2.down=false/\r.2.cap=D.cap/\r.2.bP=D.bP/\F r.2)
def Good.cm2{I:bZ->Prop}{k:aM->Int×aM}(h:Good D r P I)(n:∀f,f.down=false->f.cap=D.cap->f.bP=D.bP->P f->IT f (k f) Q F I):IT D (kE r k) Q F I:=by
 rcases h with⟨a,b,c,d,e⟩|⟨a,b,c,d,e⟩
 .unfold kE;rw[aU a];rcases n _ b c d e with(⟨g,i,j,l,m⟩|⟨g,i,j,l,m⟩)|⟨g,i,j,l,m⟩
  .exact .inl (.inl ⟨g,i,j.trans c,l.trans d,m⟩)
  .exact .inl (.inr ⟨g,i,j.trans c,l.trans d,m⟩)
  exact .inr ⟨g,i,j.trans c,l.trans d,m⟩
 unfold kE;rw[aQ (by omega)];exact .inl (.inr ⟨a,b,c,d,e⟩)
def IT.then{P:aM->Prop}{I:bZ->Prop}{k:aM->Int×aM}(h:IT D r P F I)(g:∀f,f.down=false->f.cap=D.cap->f.bP=D.bP->P f->IT f (k f) Q F I):IT D (kE r k) Q F I:=by
 rcases h with h|⟨a,b,c,d,e⟩
 .exact h.cm2 g
 unfold kE;rw[aQ (by omega)];exact .inr ⟨a,b,c,d,e⟩
def IT.mono{P Q G:aM->Prop}{I J:bZ->Prop}(h:IT D r P F I)(n:∀f,f.down=false->f.cap=D.cap->P f->Q f)(k:∀f,f.down=false->f.cap=D.cap->F f->G f)(m:∀l,I l->J l):IT D r Q G J:=by
 rcases h with h|⟨a,b,c,d,e⟩
 .exact .inl (h.mono (λf g i _ j=>n f g i j) m)
 exact .inr ⟨a,b,c,d,k _ b c e⟩
def aH4(k:D.down=false){s:bK}(A:jH s=true)(p:bR D.files s=none)(B:C3 D.files)(z:D.files.length<400)(F:bK)(y:dT D.files+F<=D.cap){I:bZ->Prop}(j:∀l c,I l->I (eI l c))(x:I D.files)(b:∀f,f.sync<=f.data->f.data.length<=F.length->I (eH D.files s f)):
 Good D (D.lay s F) (λt=>t.files=eH D.files s ⟨F,F⟩) I:=by
  unfold aM.lay;refine((OG k A p z).MH j x (b _ gC (bO _))).then λg m a _ d=>?_;have v:bR g.files s=some ⟨[],0⟩:=by rw[d,fK,aU rfl]
  have C:dT g.files=dT D.files:=by rw[d];have:=kZ B.kO s ⟨[],0⟩;rw[p]at this;simp at this;exact this
  have q:eH g.files s ⟨[]++F,0⟩=eH D.files s ⟨F,0⟩:=(by rw[d,PQ];rfl);refine((I5 m v F (by rw[C,a];exact y)).MH j (by rw[d];exact b _ gC (bO _)) (by rw[q];exact b _ (bO _) gC)).then λi n o _ e=>?_;rw[q]at e;have w:bR i.files s=some ⟨F,0⟩:=(by rw[e,fK,aU rfl]);have r:eH i.files s ⟨F,F⟩=eH D.files s ⟨F,F⟩:=(by rw[e,PQ]);exact((PH n w).MH j (by rw[e];exact b _ (bO _) gC) (by show I (eH i.files s ⟨F,F⟩);rw[r];exact b _ gC gC)).mono (λE _ _ _ u=>u.trans r) (λ_ h=>h)
def EN.mF{n:Nat}(h:EN l k n R m){i:Nat}(v:i<=999999)(w:bR l (nR i)=none)(f:fM):EN (eH l (nR i) f) k n R m:=λu c=>by
 rw[fK,aQ (zM v)]at c;refine⟨(h u c).1,λo r=>?_⟩;have j:=(h u c).2 o r;have s:=GV o;have b:∀x∈(getM u.data).fC.flatten,bR (eH l (nR i) f) (nR x)=bR l (nR x):=λx a=>by
  rw[fK,aQ];intro e;have:=CS v (s x a) e;subst this;have⟨g,d,_⟩:=j.on i a;rw[w]at d;cases d
 refine⟨j.next,j.check,λx a=>by rw[b x a];exact j.on x a,λq e=>?_⟩;rw[<-j.eq (λx a g t=>q x a g (by rw[b x a];exact t)) e];constructor
 .rintro ⟨x,a,g,d,p⟩;exact⟨x,a,g,by rw[<-b x a];exact d,p⟩
 rintro ⟨x,a,g,d,p⟩;exact⟨x,a,g,by rw[b x a];exact d,p⟩
def bo7(l:bZ)(a n:Nat):Prop:=∀b,bR l fZ=some b->uI b.data=true->(getM b.data).aZ=a->n∉(getM b.data).fC.flatten
def EN.cv4(h:EN l k n R m){i:Nat}(u:i<=999999)(v:bo7 l k i):EN (jX l (nR i)) k n R m:=λo b=>by
 rw[iB,aQ (zM u)]at b;refine⟨(h o b).1,λd f=>?_⟩;have j:=(h o b).2 d f;have s:=GV d;have c:∀w∈(getM o.data).fC.flatten,bR (jX l (nR i)) (nR w)=bR l (nR w):=λw a=>by
  rw[iB,aQ];intro e;have:=CS u (s w a) e;subst this;exact v o b d f a
 refine⟨j.next,j.check,λw a=>by rw[c w a];exact j.on w a,λr e=>?_⟩;rw[<-j.eq (λw a g t=>r w a g (by rw[c w a];exact t)) e];constructor
 .rintro ⟨w,a,g,p,q⟩;exact⟨w,a,g,by rw[<-c w a];exact p,q⟩
 rintro ⟨w,a,g,p,q⟩;exact⟨w,a,g,by rw[c w a];exact p,q⟩
def ay7(l:bZ)(n:Nat)(f t:bK):bZ:=eH (eH l (vI n) ⟨f,f.length⟩) (nR n) ⟨t,t.length⟩
def bB6(h:¬D.free-(n:Int)-(k:Int)<6000):dT D.files+n+k+6000<=D.cap:=by unfold aM.free at h;omega
def N3(b:C3 l){n:bK}(a:bR l n=none)(f:fM):dT (eH l n f)=dT l+f.data:=by have:=kZ b.kO n f;rw[a]at this;simpa using this
def vN.iT{n k:Nat}(h:vN n m k R i l f){j:Nat}(a:j<98){d:fM}(b:d.sync<=d.data)(c:dT f+d.data+6000<=n):vN n m k R i l (eH f (vI j) d):=
 ⟨h.sys.put (.inr (.inr (.inr ⟨j,a,.inr rfl⟩))) b (by have:=B9 qS f;omega),h.stay.trans (iQ.put (JR (by omega)) _),h.idx.stay (iQ.put (ap9 (by omega)) _)⟩
def vN.mF{n:Nat}{f:bZ}(h:vN n m k R i l f){j:Nat}(b:j<98)(a:bR f (nR j)=none){e:fM}(c:e.sync<=e.data)(d:dT f+e.data+6000<=n):vN n m k R i l (eH f (nR j) e):=
 ⟨h.sys.put (.inr (.inr (.inr ⟨j,b,.inl rfl⟩))) c (by have:=B9 qS f;omega),h.stay.trans (iQ.put (JQ (by omega)) _),h.idx.mF (by omega) a _⟩
def aR9(c:D.down=false)(z:D.cap=n)(h:vN n i m R j l D.files){d:Nat}(s:d<98)(B:bR D.files (nR d)=none)(y:bR D.files (vI d)=none)(L:List cZ)(f:bK):
 IT D (nL D d L f) (λq=>q.files=ay7 D.files d f (mF L)/\vN n i m R j l q.files) (λq=>q=D/\D.cap<dT D.files+(mF L)+f+6000) (vN n i m R j l):=by
  unfold nL;rw[c,aQ (by simp)];by_cases t:D.free-(mF L)-f<6000
  .rw[aU t];exact .inr ⟨rfl,c,rfl,rfl,rfl,by unfold aM.free at t;omega⟩
  rw[aQ t];have G:=bB6 t;have p:∀J b,vN n i m R j l J->vN n i m R j l (eI J b):=λJ b h=>h.jW b;have A:=h.sys.oI;left;refine(aH4 c (yQ (by omega)) y A (h.sys.yV gC) f (by omega) p h (λg o F=>h.iT s o (by omega))).then λu v w _ r=>?_;have a:vN n i m R j l u.files:=(by rw[r];exact h.iT s gC (by simp only;omega));have o:bR u.files (nR d)=none:=(by rw[r,fK,aQ (λe=>DZ (n:=d) (k:=d) (by omega) (by omega) e.symm)];exact B);have I:dT u.files=dT D.files+f:=(by rw[r];exact N3 A y _);refine(aH4 v (yQ (by omega)) o a.sys.oI (a.sys.yV gC) (mF L) (by omega) p a (λg C H=>a.mF s o C (by omega))).mono (λE _ _ _ x=>?_) (λ_ h=>h);refine⟨by rw[x,r];rfl,?_⟩;rw[x];exact a.mF s o gC (by simp only;omega)
def br3{cap aZ s:Nat}{P:Nat}{l0:bZ}(hup:D.down=false)(hcap:D.cap=cap)(h:vN cap aZ s R P l0 D.files)(m:iY)
 (hnew:∀l,(∀n,isI n->n≠fZ->bR l n=bR D.files n)->bR l fZ=some ⟨iV m,iV m⟩->EN l aZ s R P) :
 IT D (pV D m) (λD'=>vN cap aZ s R P l0 D'.files/\(∀n,n≠dG->n≠fZ->bR D'.files n=bR D.files n)/\bR D'.files fZ=some ⟨iV m,iV m⟩/\bR D'.files dG=none) (λD'=>vN cap aZ s R P l0 D'.files/\(∀n,n≠dG->bR D'.files n=bR D.files n)/\bR D'.files dG=none/\D.cap<dT D.files+(iV m)+6000) (vN cap aZ s R P l0):=by
  unfold pV;rw[hup,aQ (by simp)];have hcr:∀l eO,vN cap aZ s R P l0 l->vN cap aZ s R P l0 (eI l eO):=λl eO h=>h.jW eO;have hd:vN cap aZ s R P l0 (jX D.files dG):=⟨h.sys.del _,h.stay.trans (iQ.del CY),h.idx.stay (iQ.del NW)⟩;refine(WJ hup h.sys (vN cap aZ s R P l0) hcr h hd).cm2 λD1 up1 cap1 _ ⟨hno,hfi⟩=>?_;have hI1:vN cap aZ s R P l0 D1.files:=by rcases hfi with e|e<;>rw[e]<;>assumption
  have hsame:∀n,n≠dG->bR D1.files n=bR D.files n:=λn hn=>by rcases hfi with e|e<;>rw[e];rw[iB,aQ (λe=>hn e.symm)]
  have hule:dT D1.files<=dT D.files:=by
   rcases hfi with e|e<;>rw[e]
   .exact aO _
   have:=xE h.sys.oI.kO dG;omega
  by_cases hr:D1.free-(iV m).length<6000
  .rw[aU hr];exact .inr ⟨rfl,up1,rfl,rfl,hI1,hsame,hno,by unfold aM.free at hr;omega⟩
  rw[aQ hr];have hu:dT D1.files+(iV m).length+6000<=D1.cap:=(by unfold aM.free at hr;omega);have hub:=B9 qS D1.files;have hst:∀n,n≠dG->n≠fZ->bR (DK D1.files fZ (iV m)) n=bR D1.files n:=λn h1 h2=>by rw[tC vS,aQ (λe=>h2 e.symm),aQ (λe=>h1 e.symm)]
  have hI2:vN cap aZ s R P l0 (DK D1.files fZ (iV m)):=by
   refine⟨am8 hI1.sys vS hno (.inr (.inl rfl)) (by omega),hI1.stay.trans (λn hn=>.inl (hst n (λe=>CY (e▸hn)) (λe=>XT (e▸hn)))),hnew _ (λn h1 h2=>?_) ?_⟩
   .have hnn:n≠dG:=λe=>NW (e▸h1);rw[hst n hnn h2,hsame n hnn]
   rw[tC vS,aU rfl]
  refine .inl ((am6 up1 (cap1.trans hcap) hI1.sys gC hno fZ (iV m) aZ7 vS (by omega) (vN cap aZ s R P l0) hcr hI1 (λf hf=>?_) hI2).mono (λD2 _ _ _ e2=>?_) (λ_ h=>h))
  .exact⟨hI1.sys.bM6 hf,hI1.stay.trans (PI CY _ _),hI1.idx.stay (PI NW _ _)⟩
  rw[e2];exact⟨hI2,λn h1 h2=>by rw[hst n h1 h2,hsame n h1],by rw[tC vS,aU rfl],by rw[tC vS,aQ (λe=>vS e.symm),aU rfl]⟩
def KN(a:D.down=false)(n:bK){I:bZ->Prop}(h:∀l b,I l->I (eI l b))(e:I D.files)(g:I (jX D.files n)):
 ((D.delete n).1=4/\(D.delete n).2=D/\bR D.files n=none)\/Good D (D.delete n) (λd=>d.files=jX D.files n) I:=by
  cases c:bR D.files n with
  |none=>rw[UN a c];exact .inl ⟨rfl,rfl,rfl⟩
  |some f=>exact .inr ((I1 a c).MH h e g)
def ak6(r:D.down=false)(h:vN n m k R i l D.files){j:Nat}(u:j<=999999)(w:bo7 D.files m j):
 Good D (oN D j) (λf=>vN n m k R i l f.files/\(∀G,G≠nR j->G≠vI j->bR f.files G=bR D.files G)/\bR f.files (nR j)=none/\bR f.files (vI j)=none/\dT f.files<=dT D.files) (vN n m k R i l):=by
  have q:∀H o,vN n m k R i l H->vN n m k R i l (eI H o):=λH o h=>h.jW o;have y:vN n m k R i l (jX D.files (nR j)):=⟨h.sys.del _,h.stay.trans (iQ.del (JQ u)),h.idx.cv4 u w⟩;have x:∀H,vN n m k R i l H->vN n m k R i l (jX H (vI j)):=λH h=>⟨h.sys.del _,h.stay.trans (iQ.del (JR u)),h.idx.stay (iQ.del (ap9 u))⟩;have s:∀E:aM,E.down=false->E.cap=D.cap->E.bP=D.bP->vN n m k R i l E.files->(∀G,G≠nR j->bR E.files G=bR D.files G)->bR E.files (nR j)=none->dT E.files<=dT D.files->Good D (if(E.delete (vI j)).1=61 then E.delete (vI j)else(0,(E.delete (vI j)).2)) (λf=>vN n m k R i l f.files/\(∀G,G≠nR j->G≠vI j->bR f.files G=bR D.files G)/\bR f.files (nR j)=none/\bR f.files (vI j)=none/\dT f.files<=dT D.files) (vN n m k R i l):=λE t g p hE A z F=>by
   rcases KN t (vI j) q hE (x _ hE)with⟨a,b,c⟩|⟨a,b,c,d,e⟩|⟨a,b,c,d,e⟩
   .rw[aQ (by omega),b];exact .inl ⟨rfl,t,g,p,hE,λG v _=>A G v,z,c,F⟩
   .rw[aQ (by omega)];refine .inl ⟨rfl,b,c.trans g,d.trans p,?_⟩;simp only;rw[e];refine⟨x _ hE,λG v B=>by rw[iB,aQ (λe=>B e.symm)];exact A G v,by rw[iB];split;rfl;exact z,by rw[iB,aU rfl],?_⟩;have:=xE hE.sys.oI.kO (vI j);omega
   rw[aU a];exact .inr ⟨a,b,c.trans g,d.trans p,e⟩
  unfold oN;rcases KN r (nR j) q h y with⟨a,b,c⟩|⟨a,b,c,d,e⟩|⟨a,b,c,d,e⟩
  .rw[aQ (by omega),b];exact s D r rfl rfl h (λ_ _=>rfl) c gC
  .rw[aQ (by omega)];refine s _ b c d (by rw[e];exact y) (λG C=>by rw[e,iB,aQ (λe=>C e.symm)]) (by rw[e,iB,aU rfl]) ?_;rw[e];have:=xE h.sys.oI.kO (nR j);omega
  rw[aU a];exact .inr ⟨a,b,c,d,e⟩
structure aQ6(I:bA)(a s:Nat)(R:List lI)(P:Nat)(m:iY)(L:List cZ):Prop where
 ok:zH m=true
 yJ:m.aZ=a
 next:m.next=I.cV.next+1
 small:I.cV.next<98
 le:m.next<=s
 check:m.check<=P
 old:∀k∈m.fC.flatten,k=I.cV.next\/k∈I.cV.fC.flatten
 new:I.cV.next∈m.fC.flatten
 may:vU L=true
 wN:∀e∈L,wN e
 yV:L.length<=1000000
 eq:∀e,(e∈L\/∃k,k∈m.fC.flatten/\k≠I.cV.next/\∃M,I.fA k=some M/\e∈M)↔e∈fJ a (R.filter fun r=>decide (r.1<m.check))
def yU(h:rH l I k n R m):∀d∈I.cV.fC.flatten,d<I.cV.next/\d<=999999:=λd b=>by
 obtain⟨⟨c,_⟩,_,a⟩:=lW.1 h.cV;have:=a d b;omega
def tK(a:n<=999999)(f t k:bK):bR (ay7 l n f t) k=if nR n=k then some ⟨t,t.length⟩else if vI n=k then some ⟨f,f.length⟩else bR l k:=by
 unfold ay7;rw[fK];split
 .rfl
 rw[fK]
def ai2{l2:bZ}(h:rH l I k n R m){i j:Nat}{M:iY}{L:List cZ}(f:aQ6 I k i R j M L)(C:bR l2 (nR I.cV.next)=some ⟨mF L,(mF L).length⟩)(D:∀J∈I.cV.fC.flatten,bR l2 (nR J)=bR l (nR J)):
 VA l2 k i R j M/\(∀J∈M.fC.flatten,∃H,jA I.fA I.cV.next (some L) J=some H/\mY l2 J H)/\(∀e,(∃K,K∈M.fC.flatten/\∃H,jA I.fA I.cV.next (some L) K=some H/\e∈H)↔e∈fJ k (R.filter λr=>decide (r.1<M.check))):=by
  have E:=f.small;have u:mY l2 I.cV.next L:=⟨⟨_,C,aO _,rfl⟩,f.may,f.wN,f.yV⟩;have v:∀J∈I.cV.fC.flatten,∃H,I.fA J=some H/\mY l2 J H:=λJ p=>by
   obtain⟨H,b,c⟩:=h.fA J p;obtain⟨y,g,o,B⟩:=c.file;exact⟨H,b,⟨y,by rw[D J p];exact g,o,B⟩,c.may,c.ok,c.yV⟩
  have z:∀J∈I.cV.fC.flatten,J≠I.cV.next:=λJ p e=>by have:=(yU h J p).1;omega
  have a:∀J∈M.fC.flatten,∃H,jA I.fA I.cV.next (some L) J=some H/\mY l2 J H:=λJ p=>by
   unfold jA;rcases f.old J p with rfl|t
   .rw[aU rfl];exact⟨L,rfl,u⟩
   rw[aQ (z J t)];exact v J t
  have s:∀e,(∃K,K∈M.fC.flatten/\∃H,jA I.fA I.cV.next (some L) K=some H/\e∈H)↔e∈fJ k (R.filter λr=>decide (r.1<M.check)):=λe=>by
   rw[<-f.eq e];constructor
   .rintro ⟨K,d,H,b,c⟩;unfold jA at b;by_cases q:K=I.cV.next
    .rw[aU q]at b;cases b;exact .inl c
    rw[aQ q]at b;exact .inr ⟨K,d,q,H,b,c⟩
   rintro (b|⟨K,d,q,H,b,c⟩)
   .exact⟨_,f.new,L,by unfold jA;rw[aU rfl],b⟩
   exact⟨K,d,H,by unfold jA;rw[aQ q];exact b,c⟩
  refine⟨⟨f.le,f.check,λK d=>?_,λ_ e=>?_⟩,a,s⟩
  .obtain⟨H,_,c⟩:=a K d;obtain⟨y,g,o,B⟩:=c.file;exact⟨y,g,o⟩
  rw[<-s e];constructor
  .rintro ⟨K,d,y,b,c⟩;obtain⟨H,g,o⟩:=a K d;obtain⟨w,x,F,A⟩:=o.uE;rw[b]at x;cases x;exact⟨K,d,H,g,by rw[<-A];exact c⟩
  rintro ⟨K,d,H,b,c⟩;obtain⟨G,g,o⟩:=a K d;rw[b]at g;cases g;obtain⟨w,x,F,A⟩:=o.uE;exact⟨K,d,w,x,by rw[A];exact c⟩
def DM(D:aM)(L:List cZ)(f:bK):Prop:=D.cap<dT D.files+(mF L).length+f.length+6300
def GK(h:zH M=true):(iV M).length<=190+10:=by
 obtain⟨_,⟨f,g,i⟩,j⟩:=lW.1 h;have d:=nN M.fC;have e:=BC M.fC;have c:∀L:oF,(L.flatMap sX).length=L.length+4*L.flatten.length:=by
  intro L;induction L with
  |nil=>rfl
  |cons l L b=>
   rw[eC,aP,b,gP,aP,cF];have:(sX l).length=1+4*l.length:=by
    unfold sX;rw[cF];have:∀l:List Nat,(l.flatMap (be 4)).length=4*l.length:=by
     intro l;induction l with
     |nil=>rfl
     |cons a l b=>rw[eC,aP,b,cF];simp;omega
    rw[this];omega
   omega
 unfold iV VG;rw[nT];simp only[aP,c,d,cF,jU,kT];omega
def WL(hd:D.down=false)(x:D.cap=n)(hs:Sys n 98 D.files){I:bA}(h:rH D.files I m k R i)(B:m<18446744073709551616){j d:Nat}(hb:k<=j)(h9:i<=d){M:iY}{L:List cZ}(y:aQ6 I m j R d M L)(f:bK):
 let r:=nD I D M I.cV.next L f
 (r.1=0/\r.2.1={I with cV:=M,fA:=jA I.fA I.cV.next (some L)}/\r.2.2.down=false/\r.2.2.cap=D.cap/\r.2.2.bP=D.bP/\vN n m j R d D.files r.2.2.files/\bR r.2.2.files dG=none/\bR r.2.2.files fZ=some ⟨iV M,(iV M).length⟩/\(∀hp,hp≠dG->hp≠fZ->bR r.2.2.files hp=bR (ay7 D.files I.cV.next f (mF L)) hp))\/
 (r.1=60/\r.2.1=I/\r.2.2.down=false/\r.2.2.cap=D.cap/\r.2.2.bP=D.bP/\vN n m j R d D.files r.2.2.files/\(bR D.files dG=none->bR r.2.2.files dG=none)/\(∀hp,hp≠dG->bR r.2.2.files hp=bR D.files hp)/\DM D L f)\/
 ((r.1=60\/r.1=61)/\r.2.2.down=true/\r.2.2.cap=D.cap/\r.2.2.bP=D.bP/\vN n m j R d D.files r.2.2.files/\(r.1=60->DM D L f)):=by
  intro r;have h8:=y.small;have g:I.cV.next<=999999:=(by omega);obtain⟨T,Z⟩:=h.free I.cV.next (aO _) g;have J:vN n m j R d D.files D.files:=⟨hs,iQ.refl _ _,h.eD.same (rR.refl _ _) h9 hb⟩;have hh:∀l u,vN n m j R d D.files l->vN n m j R d D.files (eI l u):=λl u h=>h.jW u;have P:∀l,(∀hp,isI hp->hp≠nR I.cV.next->bR l hp=bR D.files hp)->bo7 l m I.cV.next:=λl V mf s hg S hc=>by rw[V _ M2 (λe=>zM g e.symm)]at s;obtain⟨tf,v,_⟩:=((h.eD mf s).2 hg S).on _ hc;rw[T]at v;cases v
  have ha:=GK y.ok;have O:IT D (kE (nL D I.cV.next L f) λD=>pV D M) (λp=>vN n m j R d D.files p.files/\bR p.files dG=none/\bR p.files fZ=some ⟨iV M,(iV M).length⟩/\(∀hp,hp≠dG->hp≠fZ->bR p.files hp=bR (ay7 D.files I.cV.next f (mF L)) hp)) (λp=>vN n m j R d D.files p.files/\(bR D.files dG=none->bR p.files dG=none)/\(∀hp,hp≠dG->hp≠nR I.cV.next->hp≠vI I.cV.next->bR p.files hp=bR D.files hp)/\DM D L f) (vN n m j R d D.files):=by
   refine((aR9 hd x J h8 T Z L f).mono (Q:=λp=>p.files=ay7 D.files I.cV.next f (mF L)/\vN n m j R d D.files p.files) (λ_ _ _ h=>h) (λp _ _ ⟨e,ht⟩=>⟨e▸J,λhn=>e▸hn,λhp _ _ _=>by rw[e],by unfold DM;omega⟩) (λ_ h=>h)).then λD1 he F hi ⟨o,h0⟩=>?_;have hu:dT D1.files<=dT D.files+f.length+(mF L).length:=by rw[o];unfold ay7;have w1:=hs.oI.put (vI I.cV.next) (f:=⟨f,f.length⟩) (aO _);have a1:=N3 hs.oI Z ⟨f,f.length⟩;have a2:=N3 w1 (n:=nR I.cV.next) (by rw[fK,aQ (λe=>DZ g g e.symm)];exact T) ⟨mF L,(mF L).length⟩;simp only at a1 a2;omega
   refine(br3 he (F.trans x) h0 M (λl V h7=>?_)).mono (λD2 _ _ ⟨a,b,c,hj⟩=>⟨a,hj,c,λhp v H=>by rw[b hp v H,o]⟩) (λD2 _ hf ⟨a,b,c,hj⟩=>⟨a,λ_=>c,λhp v H h3=>by rw[b hp v,o,tK g,aQ (λe=>H e.symm),aQ (λe=>h3 e.symm)],by unfold DM;omega⟩) (λ_ h=>h);intro mf s;rw[h7]at s;cases s;refine⟨aO _,λhg S=>?_⟩;have h6:=(QD y.ok (by rw[y.yJ];exact B)).2;rw[h6];have w:=(ai2 h y (l2:=l) (by rw[V _ (bm5 g) (zM g),o,tK g,aU rfl]) (λhp hk=>by obtain⟨U,A⟩:=yU h hp hk;rw[V _ (bm5 A) (zM A),o,tK g,aQ (λe=>by have:=CS g A e;omega),aQ (λe=>DZ A g e.symm)])).1;have N:(CM M).fC.flatten=M.fC.flatten:=nN _;exact⟨w.next,w.check,by rw[N];exact w.on,by rw[N];exact w.eq⟩
  obtain⟨q,hq⟩:∃q,q=kE (nL D I.cV.next L f) λD=>pV D M:=⟨_,rfl⟩;have t:r=if q.1≠0 then(q.1,I,(oN q.2 I.cV.next).2)else if(kG q.2 I.cV.next).1≠0 then((kG q.2 I.cV.next).1,I,q.2)else(0,{I with cV:=M,fA:=jA I.fA I.cV.next (kG q.2 I.cV.next).2},q.2):=(by rw[hq];rfl);rw[<-hq]at O;clear hq;obtain⟨e,E⟩:=q;rcases O with(⟨a,b,c,hj,o,G,C,z⟩|⟨a,b,c,hj,o⟩)|⟨a,b,c,hj,o,G,C,z⟩
  .simp only at a b c hj o G C z t;have ho:kG E I.cV.next=(0,some L):=by obtain⟨t1,t2,_⟩:=PF y.may y.wN y.yV;unfold kG;rw[b,aQ (by simp),z _ (GQ g) (zM g),tK g,aU rfl];simp only[t1,t2,eE]
   rw[aQ (by simpa using a),ho,aQ (by simp)]at t;left;rw[t];exact⟨rfl,rfl,b,c,hj,o,G,C,z⟩
  .simp only at a b c hj o t;rw[aU (by omega)]at t;have h4:oN E I.cV.next=(61,E):=by have K:∀hv,E.delete hv=(61,E):=λhv=>(by unfold aM.delete;rw[b,aU rfl]);unfold oN;rw[K,aU rfl]
   rw[h4]at t;right;right;rw[t];exact⟨.inr a,b,c,hj,o,λh=>by simp only at h;omega⟩
  simp only at a b c hj o G C z t;rw[aU (by omega)]at t;have h5:=ak6 b o g (P _ λhp v H=>C hp (λe=>NW (e▸v)) H (λe=>ap9 g (e▸v)));right;rcases h5 with⟨a',W,X,Y,U,A,g3,g4,g5⟩|⟨a',W,X,Y,U⟩
  .left;rw[t];refine⟨a,rfl,W,X.trans c,Y.trans hj,U,λhn=>?_,λhp hk=>?_,z⟩
   .simp only;rw[A _ (λe=>GQ g e.symm) (λe=>aq0 g e.symm)];exact G hn
   simp only;by_cases k1:hp=nR I.cV.next
   .rw[k1,g3,T]
   by_cases k2:hp=vI I.cV.next
   .rw[k2,g4,Z]
   rw[A hp k1 k2,C hp hk k1 k2]
  right;rw[t];exact⟨.inl a,W,X.trans c,Y.trans hj,U,λ_=>z⟩
variable{G:cT}
def FQ(l:oF)(n:Nat):∀k,k∈(pC l n).flatten↔k=n\/k∈l.flatten:=λk=>by
 unfold pC;have e:=nN l;cases b:iF l with
 |nil=>rw[b]at e;rw[<-e];simp
 |cons a r=>
  rw[b]at e;rw[<-e];simp only[gP,cE,cX,qC,or_false];constructor
  .rintro ((h|h)|h)
   .exact .inr (.inl h)
   .exact .inl h
   exact .inr (.inr h)
  rintro (h|h|h)
  .exact .inl (.inr h)
  .exact .inl (.inl h)
  exact .inr h
def aP3(l:oF)(n:Nat)(h:l.length<=5):(pC l n).length<=5/\(pC l n).flatten.length=l.flatten.length+1:=by
 unfold pC;have e:=nN l;have b:=BC l;cases c:iF l with
 |nil=>rw[c]at e;rw[<-e];simp
 |cons a r=>rw[c]at e b;rw[<-e];simp only[cF,gP,aP,jU]at b|-;omega
def bh5{C:oF}(h:C.flatten.Nodup)(c:n∉C.flatten):(pC C n).flatten.Nodup:=by
 unfold pC;have e:=nN C;cases j:iF C with
 |nil=>simp
 |cons a r=>
  rw[j]at e;rw[<-e]at h c;simp only[gP]at h c|-;obtain⟨f,g,i⟩:=n5.1 h;rw[cE]at c;refine n5.2 ⟨n5.2 ⟨f,by simp,λx b y d=>?_⟩,g,λx b y d=>?_⟩
  .rw[bT.1 d];intro e;exact c (.inl (e▸b))
  rcases cE.1 b with b|b
  .exact i x b y d
  rw[bT.1 b];intro e;exact c (.inr (e▸d))
def ce9(h:rH l I k n R m)(a:∀e∈fJ k R,wN e/\pZ e=true):(∀e∈I.mem,wN e/\pZ e=true):=λe b=>by
 refine a e ?_;rw[<-h.all e];exact .inl b
def uJ(h:fB L=true):L.Nodup:=by unfold fB at h;rw[bH]at h;exact h.imp fun {a b} c e=>by subst e;rw[LZ]at c;cases c
def YQ(h:rH l I k n R m)(z:∀e∈fJ k R,wN e/\pZ e=true)(d:(fJ k R).length<=1000000){i:Nat}(hE:∀r∈R,r.1<i)(E:m<=i)(q:i<=2147483647)(u:I.cV.next<98)(y:¬40<=I.cV.fC.flatten.length):
 aQ6 I k (n+1) R i ⟨I.cV.next+1,i,I.cV.aZ,pC I.cV.fC I.cV.next⟩ I.mem:=by
  obtain⟨⟨F,G⟩,⟨C,H,D⟩,v⟩:=lW.1 h.cV;have g:I.cV.next∉I.cV.fC.flatten:=λA=>(by have:=v _ A;omega);have b:=ce9 h z;obtain⟨w,x⟩:=aP3 I.cV.fC I.cV.next C;have t:=h.next;refine⟨lW.2 ⟨⟨by simp only;omega,q⟩,⟨w,by simp only;rw[x];omega,bh5 D g⟩,λJ a=>?_⟩,h.yJ,rfl,u,by simp only;omega,aO _,λJ a=>(FQ _ _ J).1 a,(FQ _ _ _).2 (.inl rfl),?_,λe c=>(b e c).1,?_,λe=>?_⟩
  .rcases(FQ _ _ J).1 a with rfl|a
   .exact Nat.lt_succ_self _
   have:=v J a;simp only;omega
  .unfold vU;rw[h.Q0,fI,dL];exact λe c=>(b e c).2
  .exact aL (tP (uJ h.Q0) λe c=>(h.all e).1 (.inl c)) d
  have f:(R.filter λr=>decide (r.1<i))=R:=pN.2 λr B=>(by simpa using hE r B);rw[f,<-h.all e];constructor
  .rintro (j|⟨J,a,s,M,o,p⟩)
   .exact .inl j
   rcases(FQ _ _ J).1 a with rfl|a
   .exact absurd rfl s
   exact .inr ⟨J,a,M,o,p⟩
  rintro (j|⟨J,a,M,o,p⟩)
  .exact .inl j
  exact .inr ⟨J,(FQ _ _ J).2 (.inr a),λe=>g (e▸a),M,o,p⟩
def WK{Z:bZ}(h:rH l I m k R i){j d:Nat}{M:iY}{L:List cZ}(c:aQ6 I m j R d M L){s:bK}(x:vN n m j R d Z f)(o:∀A,A≠dG->A≠fZ->bR f A=bR (ay7 l I.cV.next s (mF L)) A){O:List cZ}(t:fB O=true)(q:∀e,e∈O↔e∈fJ m (R.filter λr=>!decide (r.1<M.check))):
 rH f {cV:=M,mem:=O,fA:=jA I.fA I.cV.next (some L)} m j R d:=by
  have y:=c.small;have a:I.cV.next<=999999:=by omega
  obtain⟨z,v,w⟩:=ai2 h c (l2:=f) (by rw[o _ (GQ a) (zM a),tK a,aU rfl]) (λA p=>by obtain⟨u,g⟩:=yU h A p;rw[o _ (GQ g) (zM g),tK a,aQ (λe=>by have:=CS a g e;omega),aQ (λe=>DZ g a e.symm)]);refine⟨c.ok,c.yJ,c.le,c.check,v,w,t,q,λA p b=>?_,x.idx⟩;have p:I.cV.next+1<=A:=(by rw[<-c.next];exact p);obtain⟨u,g⟩:=h.free A (by omega) b;rw[o _ (GQ b) (zM b),o _ (aq0 b) (XU b),tK a,tK a,aQ (λe=>by have:=CS a b e;omega),aQ (λe=>DZ b a e.symm),aQ (λe=>DZ a b e),aQ (λe=>by have:=bl4 a b e;omega)];exact⟨u,g⟩
def rH.stay(h:rH l I k n R m)(d:∀o,o≠dG->¬isC o->bR f o=bR l o):rH f I k n R m:=by
 have g:iQ isI l f:=λp c=>.inl (d p (λe=>NW (e▸c)) (λi=>by
  obtain⟨o,j⟩:=i;obtain⟨b,a⟩:=uG j;rcases a with a|a|a
  .exact ap8 b (a.1▸c)
  .exact absurd a.2 (by decide)
  exact absurd a.2 (by decide)))
 refine⟨h.cV,h.yJ,h.next,h.check,λp c=>?_,h.eqT,h.Q0,h.eqM,λo b a=>?_,h.eD.stay g⟩
 .obtain⟨L,b,a⟩:=h.fA p c;exact⟨L,b,a.stay (yU h p c).2 g⟩
 rw[d _ (GQ a) (JQ a),d _ (aq0 a) (JR a)];exact h.free o b a
def rH.same(h:rH l I k n R i)(a:i<=j)(b:n<=m):rH l I k m R j:=
 ⟨h.cV,h.yJ,aL h.next b,aL h.check a,h.fA,h.eqT,h.Q0,h.eqM,h.free,h.eD.same (rR.refl _ _) a b⟩
def xX.less(h:xX l C n m)(v:k<=n):xX l C k m:=by
 cases h with
 |none h=>rw[show k=0 from by omega];exact .none h
 |some C u n m t e g s=>obtain⟨f,c,j,o,p,q,r⟩:=g;exact .some C u k m t e ⟨f,c,j,o,p,q,r.imp (λ⟨a,b⟩=>⟨a,by omega⟩) (λ⟨i,a,b,c,d⟩=>⟨i,a,b,c,by omega⟩)⟩ s
def vF.stay(h:vF l G C n k)(c:∀j,j≠dG->isC j->bR f j=bR l j)(a:bR f dG=none):vF f G C n k:=
 ⟨h.log.stay (λm a=>.inl (c m (λe=>CY (e▸a)) a)),λm a=>by
  obtain⟨i,d,g⟩:=h.whole m a;have b:=h.log.ok.1;exact⟨i,by rw[c _ (λe=>LV m (by omega) e.symm) (CX (by omega))];exact d,g⟩,h.bW,a⟩
variable{B:List bK}
def lN(b a s:Nat)(l:bZ)(B:List bK)(S:Nat):Prop:=Sys b 98 l/\∃C P,xX l C S P/\C.flatten <+: B/\EN l a s (dB C) P
structure jQ(a b s:Nat)(D:aM)(G:cT)(I:bA)(B:List bK)(S:Nat):Prop where
 up:D.down=false
 tW:D.cap=a
 sys:Sys a 98 D.files
 st:∃C P,vF D.files G C S P/\C.flatten=B/\rH D.files I b s (dB C) P
def jQ.eD{n:Nat}(h:jQ n k m D G I B i):lN n k m D.files B i:=by obtain⟨C,P,a,b,c⟩:=h.st;exact⟨h.sys,C,P,a.log,by rw[b];exact o7 _,c.eD⟩
def lN.jW{n k:Nat}(h:lN n k m l B i)(a:List Int):lN n k m (eI l a) B i:=by obtain⟨b,C,P,c,d,e⟩:=h;exact⟨b.jW a,C,P,c.stay (iQ.jW _ b.oI.sync a),d,e.stay (iQ.jW _ b.oI.sync a)⟩
def cm0(B:List bK):Prop:=∀p∈B,qN p=true/\p.length<=2000
def bn4{aZ:Nat}{R:List lI}(h:∀r∈R,qN r.2=true/\r.1<=1000000000):∀e∈fJ aZ R,wN e/\pZ e=true:=λe a=>by
 obtain⟨r,f,a⟩:=nP.1 a;obtain⟨c,k⟩:=h r f;obtain⟨d,l⟩:=FH c;obtain⟨_,_,_,_,g,j,_⟩:=iM d;unfold tV at a;obtain⟨i,b,rfl⟩:=dR.1 a;have b:=gB.1 b;have m:=YI aZ (lb (kW r.2).1);unfold wN pZ;simp only[bH];omega
def bC4{aZ:Nat}{r:lI}(h:qN r.2=true):(tV aZ r).length<=8:=by obtain⟨a,b⟩:=FH h;obtain⟨_,_,_,g,_⟩:=iM a;unfold tV;simpa using g
def BQ{aZ:Nat}{R:List lI}(h:∀r∈R,qN r.2=true):(fJ aZ R).length<=8*R.length:=by
 induction R with
 |nil=>simp[fJ]
 |cons r R c=>have d:=bC4 (aZ:=aZ) (h r (by simp));have a:=c (λx b=>h x (by simp[b]));unfold fJ at a|-;rw[eC,aP,cF];omega
def aB2(h:J2 C):(dB C).length<=68267:=by
 have a:=qV h;have b:=λr a=>FB (r:=r) h a;have d:=h.1;have c:∀(R:List lI)(k:Nat),zT R->(∀r∈R,k<=r.1/\r.1+r.2.length+12<=819200)->k<=819200->k+12*R.length<=819200:=by
  intro R;induction R with
  |nil=>intro k _ _ f;simpa using f
  |cons r R l=>
   intro k a e f;obtain⟨i,j⟩:=dD.1 a;obtain⟨m,n⟩:=e r (by simp);have:=l (k+12) j (λx g=>by have:=i x g;have:=(e x (by simp[g])).2;omega) (by omega);rw[cF];omega
 have:=c (dB C) 0 a (λr a=>by have:=b r a;omega) (by omega);omega
def yS(d:J2 C){B:List bK}(h:C.flatten=B)(j:cm0 B)(c:Nat):(∀e∈fJ c (dB C),wN e/\pZ e=true)/\(fJ c (dB C)).length<=1000000/\∀r∈dB C,r.1<jJ (eL C)/\qN r.2=true:=by
 have a:∀r∈dB C,qN r.2=true:=λr b=>by have:r.2∈B:=(by rw[<-h,<-sS];exact ae3 b);exact(j _ this).1
 have g:=d.1;refine⟨bn4 λr b=>⟨a r b,by have:=FB d b;omega⟩,by have:=BQ (aZ:=c) a;have:=aB2 d;omega,λr b=>⟨?_,a r b⟩⟩;clear j a h;induction C using BF with
 |h0=>cases b
 |h1 C k _=>
  rw[xO];rw[lS]at b;rcases cE.1 b with b|b
  .have:=FB d.front b;omega
  unfold pW at b;obtain⟨i,f,rfl⟩:=dR.1 b;have f:=gB.1 f;have h1:=uT (eM (C.length:Nat)) k i f;have l:=AH (eM (C.length:Nat)) k (i+1);simp only;unfold dV;omega
def at6(h:xX l C n k):k<=jJ (eL C):=by
 cases h with
 |none h=>exact bO _
 |some e g n k f b a v=>
  obtain⟨j,c,m,o,p,q,d⟩:=a;rw[xO];have:=yE f.front;rcases d with d|⟨i,r,s,t,u⟩
  .omega
  have:=AH (eM (e.length:Nat)) g i;unfold dV;omega
def KX(b a s:Nat)(D:aM)(B:List bK)(S:Nat)(G:cT)(I:bA)(L:List cZ)(f:bK)(r:Int×bA×cT×aM):Prop:=
 r.2.2.2.cap=D.cap/\r.2.2.2.bP=D.bP/\
 ((r.1=0/\jQ b a (s+1) r.2.2.2 r.2.2.1 r.2.1 B S/\r.2.1.cV.next<=I.cV.next+1)\/
  (r.1=60/\(DM D L f\/40<=I.cV.fC.flatten.length)/\r.2.1=I/\jQ b a (s+1) r.2.2.2 r.2.2.1 I B S)\/
  ((r.1=60/\(DM D L f\/40<=I.cV.fC.flatten.length)\/r.1=61)/\r.2.2.2.down=true/\lN b a (s+1) r.2.2.2.files B S))
def M5(h:jQ n m k D G I B i)(hb:cm0 B)(hs:k<90)(K:m<18446744073709551616)(f:bK):
 KX n m k D B B.length G I I.mem f (jI I G D f)\/((jI I G D f).1=61/\(jI I G D f).2.2.2.down=true/\(jI I G D f).2.2.2.cap=D.cap/\(jI I G D f).2.2.2.bP=D.bP/\lN n m k (jI I G D f).2.2.2.files B i):=by
  obtain⟨C,P,ho,p,j⟩:=h.st;have M:=RU h.up h.tW h.sys ho (Ok:=λC'=>C'=C) rfl;have H:=ho.log.ok;obtain⟨h7,h8,h3⟩:=yS H p hb m;have W:=at6 ho.log;have l:C.flatten.length=B.length:=(by rw[p]);have h4:jJ (eL C)<=2147483647:=(by have:=yE H;have:=H.1;omega);unfold jI;generalize hq:fY G D=q at M|-;obtain⟨e1,G1,R⟩:=q;simp only at M|-;rcases M with⟨a,N,g,v,Z,J,t,u,h0,z⟩|⟨a,b,c',d,e'⟩;case inr=>
   simp only at a b c' d e';subst a;rw[aU (by simp)];refine .inr ⟨rfl,b,c',d,e'.sys,?_⟩;obtain⟨C',U,rfl⟩:=e'.log;refine⟨C',P,U,by rw[p];exact o7 _,j.eD.stay (e'.stay.mono λha Q=>?_)⟩;rintro ⟨h9,A⟩;obtain⟨p1,s⟩:=uG A;rcases s with s|s|s
   .exact ap8 p1 (s.1▸Q)
   .exact absurd s.2 (by decide)
   exact absurd s.2 (by decide)
  simp only at a N g v Z J t u h0 z;subst a;rw[aQ (by simp)];left;have o:rH R.files I m k (dB C) (jJ (eL C)):=by
   have hI:iQ isI D.files R.files:=t.mono λha Q=>by
    rintro ⟨h9,A⟩;obtain⟨p1,s⟩:=uG A;rcases s with s|s|s
    .exact ap8 p1 (s.1▸Q)
    .exact absurd s.2 (by decide)
    exact absurd s.2 (by decide)
   refine⟨j.cV,j.yJ,j.next,aL j.check W,λha Q=>?_,j.eqT,j.Q0,j.eqM,λh9 U V=>?_,(j.eD.stay hI).same (rR.refl _ _) W (aO _)⟩
   .obtain⟨L,U,V⟩:=j.fA ha Q;exact⟨L,U,V.stay (yU j ha Q).2 hI⟩
   obtain⟨x,T⟩:=j.free h9 U V;exact⟨t.no (JQ V) x,t.no (JR V) T⟩
  have w:jQ n m (k+1) R G1 I B B.length:=⟨N,g.trans h.tW,J,C,jJ (eL C),by rw[<-l];exact u,p,o.same (aO _) (by omega)⟩;unfold KX;by_cases X:I.mem=[]
  .rw[aU X];exact⟨g,v,.inl ⟨rfl,w,by simp only;omega⟩⟩
  rw[aQ X];by_cases y:40<=I.cV.fC.flatten.length
  .rw[aU y];exact⟨g,v,.inr (.inl ⟨rfl,.inr y,rfl,w⟩)⟩
  rw[aQ y];have h6:I.cV.next<98:=(by have:=j.next;omega);have Y:=YQ o h7 h8 (λr hr=>(h3 r hr).1) (aO _) h4 h6 y;have E:=WL N (g.trans h.tW) J o K (gV k) (aO _) Y f;have h5:jJ G.bW=jJ (eL C):=(by rw[ho.bW]);rw[h5];have hT:∀{L:List cZ},DM R L f->DM D L f:=fun {L} ht=>(by unfold DM at ht|-;rwa[g,h0]at ht);simp only at E;generalize nD I R ⟨I.cV.next+1,jJ (eL C),I.cV.aZ,pC I.cV.fC I.cV.next⟩ I.cV.next I.mem f=r at E|-;obtain⟨e2,I2,D2⟩:=r;simp only at E|-;rcases E with⟨a,b,c,d,e,x,T,g3,O⟩|⟨a,b,c,d,e,x,T,g3,O⟩|⟨a,c,d,e,x,O⟩
  .subst a;rw[aU rfl,b];refine⟨d.trans g,e.trans v,.inl ⟨rfl,⟨c,d.trans (g.trans h.tW),x.sys,C,jJ (eL C),?_,p,?_⟩,aO _⟩⟩
   .rw[<-l];have F:I.cV.next<=999999:=(by omega);exact u.stay (λh9 A hc=>by have n1:¬nR I.cV.next=h9:=λS=>JQ F (by rw[S];exact hc);have n2:¬vI I.cV.next=h9:=λS=>JR F (by rw[S];exact hc);rw[O h9 A (λS=>XT (by rw[<-S];exact hc)),tK F,aQ n1,aQ n2]) T
   refine WK o Y x O rfl (λe=>?_);have:((dB C).filter λr=>!decide (r.1<jJ (eL C)))=[]:=by rw[gT];intro r hr;have:=(h3 r hr).1;simp;omega
   simp only;rw[this];simp[fJ]
  .subst a;rw[aQ (by simp),b];refine⟨d.trans g,e.trans v,.inr (.inl ⟨rfl,.inl (hT O),rfl,⟨c,d.trans (g.trans h.tW),x.sys,C,jJ (eL C),?_,p,?_⟩⟩)⟩
   .rw[<-l];exact u.stay (λh9 A hc=>g3 h9 A) (T u.new)
   exact(o.stay (λh9 A _=>g3 h9 A)).same (aO _) (by omega)
  refine⟨d.trans g,e.trans v,.inr (.inr ⟨a.imp (λh=>⟨h,.inl (hT (O h))⟩) id,c,x.sys,C,jJ (eL C),?_,by rw[p];exact o7 _,x.idx⟩)⟩;rw[<-l];exact u.log.stay x.stay
def TQ(l:oF):∃z:oF,l=iF l++z/\∀a∈z,a=[]:=by
 induction l using BF with
 |h0=>exact⟨[],rfl,by simp⟩
 |h1 l a f=>
  have e:iF (l++[a])=if a.isEmpty=true then iF l else l++[a]:=by unfold iF;rw[xZ];show((a::l.reverse).dropWhile List.isEmpty).reverse=_;rw[nA];split<;>simp
  rw[e];by_cases h:a.isEmpty=true
  .rw[aU h];obtain⟨z,h1,d⟩:=f;refine⟨z++[a],by(conv=>lhs;rw[h1]);simp,λb c=>?_⟩;rcases cE.1 c with c|c
   .exact d b c
   rw[bT.1 c];exact RG.1 h
  rw[aQ h];exact⟨[],by simp,by simp⟩
def aZ8{C:oF}(y:n<5)(D:C.length<=5)(o:C.getD n []≠[])(E:Nat):∃A B U V,iF C=A++C.getD n []::B/\(mJ C n E).flatten=U++E::V/\U++V=A.flatten++B.flatten/\(mJ C n E).length<=5:=by
 have⟨z,q,s⟩:=TQ C;have f:n<(iF C):=by
  rcases cR n (iF C) with h|h
  .exact h
  exfalso;apply o;rw[q,b8,eA h];cases w:z[n - (iF C).length]? with
  |none=>rfl
  |some a=>exact s a (bD w)
 have v:(iF C)[n]=C.getD n []:=by
  conv=>rhs;rw[q]
  rw[b8,eY f,aK f];rfl
 have i:=BC C;generalize C.getD n []=x at *;unfold mJ;generalize iF C=T at *;have p:T=T.take n++x::T.drop (n+1):=(by rw[<-v,gH,bY]);have c:(T.take n)=n:=(by simp;omega);generalize T.take n=A at *;generalize T.drop (n+1)=B at *;subst p;have g:(A++x::B).set n []=A++[]::B:=(by rw[jR _ _ (by omega),c,gM];rfl);rw[g];have r:(A++([]:List Nat)::B).length=n+1+B:=(by simp;omega);have l:(A++x::B).length=n+1+B:=(by simp;omega);by_cases e:(A++([]:List Nat)::B).length<=min (n+1) 4
 .rw[aU e];have u:B=[]:=fE.1 (by omega);subst u;refine⟨A,[],A.flatten,[],rfl,by simp,by simp,by simp at e i|-;omega⟩
 rw[aQ e];rcases cR n 4 with t|t
 .have m:min (n+1) 4=n+1:=(by omega);rw[m]at e|-;cases B with
  |nil=>simp at e;omega
  |cons b B=>
   have j:(A++[]::b::B).getD (n+1) []=b:=by rw[b8,eA (by omega),c,show n+1-n=1 from by omega];rfl
   have d:(A++[]::b::B).set (n+1) (b++[E])=A++[]::(b++[E])::B:=by rw[jR _ _ (by omega),c,show n+1-n=1 from by omega];rfl
   rw[j,d];refine⟨A,b::B,A.flatten++b,B.flatten,rfl,by simp,by simp,by simp at i|-;omega⟩
 have k:n=4:=(by omega);subst k;have m:min (4+1) 4=4:=(by omega);rw[m];have j:(A++[]::B).getD 4 []=[]:=by rw[b8,eA (by omega),c];rfl
 have d:(A++[]::B).set 4 ([]++[E])=A++[E]::B:=by rw[jR _ _ (by omega),c];rfl
 rw[j,d];refine⟨A,B,A.flatten,B.flatten,rfl,by simp,rfl,by simp at i|-;omega⟩
def ai4{C:oF}(r:n<5)(s:C.length<=5)(c:C.flatten.Nodup)(d:C.getD n []≠[]){k:Nat}(f:k∉C.flatten):
 (∀j,j∈(mJ C n k).flatten↔j=k\/j∈C.flatten/\j∉C.getD n [])/\(mJ C n k).flatten.Nodup/\(mJ C n k).length<=5/\(mJ C n k).flatten.length<=C.flatten/\(∀j∈C.getD n [],j∈C.flatten)/\(C.getD n []).Nodup:=by
  have⟨A,B,U,V,p,g,i,q⟩:=aZ8 r s d k;have e:=nN C;rw[p]at e;have o:A.flatten++(C.getD n []++B.flatten)=C.flatten:=(by rw[<-e];simp);rw[<-o]at c f|-;have⟨w,z,l⟩:=n5.1 c;have⟨D,E,m⟩:=n5.1 z;simp only[cE,not_or]at f;have b:∀j,(j∈U\/j∈V)↔(j∈A.flatten\/j∈B.flatten):=λj=>(by rw[<-cE,i,cE]);have u:0<(C.getD n []).length:=pM.2 d;refine⟨λj=>?_,?_,q,?_,λj a=>by simp only[cE];exact .inr (.inl a),D⟩
  .rw[g];simp only[cE,cX];constructor
   .rintro (h|h|h)
    .rcases(b j).1 (.inl h)with h|h
     .exact .inr ⟨.inl h,λa=>l j h j (rF _ a) rfl⟩
     exact .inr ⟨.inr (.inr h),λa=>m j a j h rfl⟩
    .exact .inl h
    rcases(b j).1 (.inr h)with h|h
    .exact .inr ⟨.inl h,λa=>l j h j (rF _ a) rfl⟩
    exact .inr ⟨.inr (.inr h),λa=>m j a j h rfl⟩
   rintro (h|⟨h|h|h,a⟩)
   .exact .inr (.inl h)
   .rcases(b j).2 (.inl h)with h|h
    .exact .inl h
    exact .inr (.inr h)
   .exact absurd h a
   rcases(b j).2 (.inr h)with h|h
   .exact .inl h
   exact .inr (.inr h)
  .rw[g];rw[List.perm_middle.nodup_iff,bG2,i];refine⟨?_,n5.2 ⟨w,E,λx t y v=>l x t y (DO _ v)⟩⟩;rw[cE];rintro (h|h)
   .exact f.1 h
   exact f.2.2 h
  rw[g];have:=gQ List.length i;simp only[aP,cF]at this|-;omega
def O0(h:rH l I m n R i)(B:∀e∈fJ m R,wN e/\pZ e=true)(o:(fJ m R).length<=1000000)(z:I.cV.next<98){k:Nat}(E:k<5)(x:I.cV.fC.getD k []≠[]):
 aQ6 I m (n+1) R i ⟨I.cV.next+1,I.cV.check,I.cV.aZ,mJ I.cV.fC k I.cV.next⟩ (jV ((I.cV.fC.getD k []).map λQ=>(I.fA Q).getD [])):=by
  obtain⟨⟨O,H⟩,⟨J,P,K⟩,C⟩:=lW.1 h.cV;have r:I.cV.next∉I.cV.fC.flatten:=λu=>(by have:=C _ u;omega);have⟨t,F,G,M,v,N⟩:=ai4 E J K x r;have y:=h.next;have s:∀L∈((I.cV.fC.getD k []).map λQ=>(I.fA Q).getD []),fB L=true:=λL w=>by obtain⟨Q,a,rfl⟩:=dR.1 w;exact h.lists Q (v Q a)
  have⟨A,D⟩:=MM s;have g:∀e,e∈jV ((I.cV.fC.getD k []).map λQ=>(I.fA Q).getD [])↔∃Q,Q∈I.cV.fC.getD k []/\∃L,I.fA Q=some L/\e∈L:=λe=>by
   rw[D];constructor
   .rintro ⟨L,w,d⟩;obtain⟨Q,a,rfl⟩:=dR.1 w;have⟨L,b,_⟩:=h.fA Q (v Q a);rw[b]at d;exact⟨Q,a,L,b,d⟩
   rintro ⟨Q,a,L,b,d⟩;exact⟨_,dR.2 ⟨Q,a,rfl⟩,by rw[b];exact d⟩
  have c:∀e∈jV ((I.cV.fC.getD k []).map λQ=>(I.fA Q).getD []),e∈fJ m R:=λe d=>by have⟨Q,a,L,b,f⟩:=(g e).1 d;exact(h.all e).1 (.inr ⟨Q,v Q a,L,b,f⟩)
  refine⟨lW.2 ⟨⟨by simp only;omega,H⟩,⟨G,by simp only;omega,F⟩,λj p=>?_⟩,h.yJ,rfl,z,by simp only;omega,h.check,λj p=>((t j).1 p).imp id (λh=>h.1),(t _).2 (.inl rfl),?_,λe d=>(B e (c e d)).1,aL (tP (uJ A) c) o,λe=>?_⟩
  .rcases(t j).1 p with rfl|⟨p,_⟩
   .exact Nat.lt_succ_self _
   have:=C j p;simp only;omega
  .unfold vU;rw[A,fI,dL];exact λe d=>(B e (c e d)).2
  rw[<-h.eqT e,g];constructor
  .rintro (⟨Q,a,L,b,f⟩|⟨Q,a,q,L,b,f⟩)
   .exact⟨Q,v Q a,L,b,f⟩
   rcases(t Q).1 a with rfl|⟨a,_⟩
   .exact absurd rfl q
   exact⟨Q,a,L,b,f⟩
  rintro ⟨Q,a,L,b,f⟩;by_cases u:Q∈I.cV.fC.getD k []
  .exact .inl ⟨Q,u,L,b,f⟩
  exact .inr ⟨Q,(t Q).2 (.inr ⟨a,u⟩),λe=>r (e▸a),L,b,f⟩
def bC8(W:zH M=true)(K:M.aZ<18446744073709551616):∀(f:List Nat) {D:aM} {I:bA},D.down=false->vN n m k R i l D.files->bR D.files fZ=some ⟨iV M,iV M⟩->(∀h3∈f,h3<=999999/\h3<M.next/\h3∉M.fC.flatten)->I.cV=M->rH D.files I m k R i->bR D.files dG=none->
 (kS I D f).2.2.cap=D.cap/\(kS I D f).2.2.bP=D.bP/\vN n m k R i l (kS I D f).2.2.files/\
 ((kS I D f).1=0/\(kS I D f).2.2.down=false/\(kS I D f).2.1.cV=M/\rH (kS I D f).2.2.files (kS I D f).2.1 m k R i/\bR (kS I D f).2.2.files dG=none/\(∀h0,(∀h3,h0≠nR h3/\h0≠vI h3)->bR (kS I D f).2.2.files h0=bR D.files h0)\/
  (kS I D f).1=61/\(kS I D f).2.2.down=true):=by
   intro f;induction f with
   |nil=>intro D I w F q s o g r;exact⟨rfl,rfl,F,.inl ⟨rfl,w,o,g,r,λ_ _=>rfl⟩⟩
   |cons h3 f ih=>
    intro D I w F q s o g r;have⟨h,X,C⟩:=s h3 (by simp);have J:bo7 D.files m h3:=λmf B hg Z G=>by rw[q]at B;cases B;simp only at G;rw[(QD W K).2]at G;exact C (by rw[<-nN M.fC];exact G)
    have H:=ak6 w F h J;unfold kS;rcases H with⟨a,b,c,d,E,x,g3,g4,g5⟩|⟨a,b,c,d,E⟩
    .rw[aQ (by simpa using a)];have y:rH (oN D h3).2.files {I with fA:=jA I.fA h3 none} m k R i:=by
      have u:∀h0∈I.cV.fC.flatten,h0≠h3:=λh0 j e=>C (by rw[<-o,<-e];exact j);have v:∀h0,h0≠h3->jA I.fA h3 none h0=I.fA h0:=λh0 j=>aQ j;refine⟨g.cV,g.yJ,g.next,g.check,λh0 j=>?_,λe=>?_,g.Q0,g.eqM,λh0 t p=>?_,E.idx⟩
      .have⟨L,t,p⟩:=g.fA h0 j;have⟨tf,N,O,q3⟩:=p.file;have z:=(yU g h0 j).2;refine⟨L,(v h0 (u h0 j)).trans t,⟨tf,?_,O,q3⟩,p.may,p.ok,p.yV⟩;rw[x _ (λe=>u h0 j (CS z h e)) (λe=>DZ z h e)];exact N
      .rw[<-g.eqT e];constructor
       .rintro ⟨h0,j,L,t,p⟩;exact⟨h0,j,L,(v h0 (u h0 j)).symm.trans t,p⟩
       rintro ⟨h0,j,L,t,p⟩;exact⟨h0,j,L,(v h0 (u h0 j)).trans t,p⟩
      have⟨N,O⟩:=g.free h0 t p;have A:h0≠h3:=λe=>(by have t:I.cV.next<=h0:=t;rw[o]at t;omega);rw[x _ (λe=>A (CS p h e)) (λe=>DZ p h e),x _ (λe=>DZ h p e.symm) (λe=>A (bl4 p h e))];exact⟨N,O⟩
     have Y:=ih (D:=(oN D h3).2) (I:={I with fA:=jA I.fA h3 none}) b E (by rw[x _ (λe=>zM h e.symm) (λe=>XU h e.symm)];exact q) (λh0 j=>s h0 (by simp[j])) o y (by rw[x _ (λe=>GQ h e.symm) (λe=>aq0 h e.symm)];exact r);have⟨r1,r2,r3,r4⟩:=Y;refine⟨r1.trans c,r2.trans d,r3,r4.imp (λ⟨P,Q,S,T,U,V⟩=>⟨P,Q,S,T,U,λh0 j=>(V h0 j).trans (x h0 (j h3).1 (j h3).2)⟩) id⟩
    rw[aU (by omega)];exact⟨c,d,E,.inr ⟨a,b⟩⟩
def bc2(h:isC s)(n:Nat):s≠nR n/\s≠vI n:=by
 have⟨j,b⟩:=h;have⟨d,a⟩:=uG b;have i:s=gZ j:=by
  rcases a with a|a|a
  .exact a.1
  .exact absurd a.2 (by decide)
  exact absurd a.2 (by decide)
 by_cases c:n<=999999
 .rw[i];exact⟨λe=>cq1 c d e.symm,λe=>cq2 c d e.symm⟩
 have f:nR n=[]:=(by unfold nR KH;rw[aU (by omega)]);have g:vI n=[]:=(by unfold vI KH;rw[aU (by omega)]);rw[f,g];refine⟨λe=>?_,λe=>?_⟩<;>(rw[e]at b;cases b)
def SK(h:jQ n k m D G I B i)(hb:cm0 B)(hs:m<90)(o:k<18446744073709551616)(h2:Int)(f:bK):
 (l6 I D h2 f=(2,I,D)/\(h2<0\/5<=h2))\/(l6 I D h2 f=(4,I,D)/\(0<=h2/\h2<5)/\I.cV.fC.getD h2.toNat []=[])\/
 ((0<=h2/\h2<5)/\I.cV.fC.getD h2.toNat []≠[]/\KX n k m D B i G I (jV ((I.cV.fC.getD h2.toNat []).map λh3=>(I.fA h3).getD [])) f ((l6 I D h2 f).1,(l6 I D h2 f).2.1,G,(l6 I D h2 f).2.2)):=by
  have⟨C,P,z,l,g⟩:=h.st;have U:=z.log.ok;have⟨V,W,h0⟩:=yS U l hb k;unfold l6;by_cases s:h2<0\/5<=h2
  .rw[aU s];exact .inl ⟨rfl,s⟩
  rw[aQ s];have F:0<=h2/\h2<5:=(by omega);by_cases j:I.cV.fC.getD h2.toNat []=[]
  .rw[aU j];exact .inr (.inl ⟨rfl,F,j⟩)
  rw[aQ j];refine .inr (.inr ⟨F,j,?_⟩);have S:I.cV.next<98:=(by have:=g.next;omega);obtain⟨⟨o1,o2⟩,⟨o3,o4,o5⟩,o6⟩:=lW.1 g.cV;have R:I.cV.next∉I.cV.fC.flatten:=λp=>(by have:=o6 _ p;omega);have H:h2.toNat<5:=(by omega);have⟨m1,m2,m3,m4,m5,m6⟩:=ai4 H o3 o5 j R;have t:=O0 g V W S H j;have u:=WL h.up h.tW h.sys g o (gV m) gC t f;simp only at u;unfold KX;simp only;generalize nD I D ⟨I.cV.next+1,I.cV.check,I.cV.aZ,mJ I.cV.fC h2.toNat I.cV.next⟩ I.cV.next (jV ((I.cV.fC.getD h2.toNat []).map λh3=>(I.fA h3).getD [])) f=r at u|-;have⟨e2,N,M⟩:=r;simp only at u|-;have x:I.cV.next<=999999:=(by omega);rcases u with⟨a,b,c,d,e,v,K,L,y⟩|⟨a,b,c,d,e,v,K,L,y⟩|⟨a,c,d,e,v,y⟩
  .subst a;rw[aQ (by simp)];have E:rH M.files N k (m+1) (dB C) P:=by rw[b];exact WK g t v y g.Q0 g.eqM
   have T:vF M.files G C i P:=z.stay (λh2 s p=>by have n1:¬nR I.cV.next=h2:=λA=>JQ x (by rw[A];exact p);have n2:¬vI I.cV.next=h2:=λA=>JR x (by rw[A];exact p);rw[y h2 s (λA=>XT (by rw[<-A];exact p)),tK x,aQ n1,aQ n2]) K;have w:=bC8 t.ok (by rw[t.yJ];exact o) (I.cV.fC.getD h2.toNat []) (I:=N) c v L (λh3 Z=>by
    have h1:=m5 h3 Z;have⟨q1,q2⟩:=yU g h3 h1;refine⟨q2,by simp only;omega,λp=>?_⟩;rcases(m1 h3).1 p with Y|⟨_,Y⟩
    .omega
    exact Y Z) (by rw[b]) E K
   generalize kS N M (I.cV.fC.getD h2.toNat [])=q at w|-;have⟨e3,I3,D3⟩:=q;simp only at w|-;have⟨X,d2,J,d4⟩:=w;refine⟨X.trans d,d2.trans e,?_⟩;rcases d4 with⟨O,Q,a3,a4,a5,a6⟩|⟨O,Q⟩
   .refine .inl ⟨O,⟨Q,(X.trans d).trans h.tW,J.sys,C,P,?_,l,a4⟩,by rw[a3];exact aO _⟩;exact T.stay (λh2 s p=>a6 h2 (bc2 p)) a5
   exact .inr (.inr ⟨.inr O,Q,J.sys,C,P,z.log.stay J.stay,by rw[l];exact o7 _,J.idx⟩)
  .subst a;rw[aU (by simp)];refine⟨d,e,.inr (.inl ⟨rfl,.inl y,b,⟨c,d.trans h.tW,v.sys,C,P,z.stay (λh2 s p=>L h2 s) (K z.new),l,(g.stay (λh2 s _=>L h2 s)).same gC (by omega)⟩⟩)⟩
  rw[aU (by omega)];exact⟨d,e,.inr (.inr ⟨a.imp (λh=>⟨h,.inl (y h)⟩) id,c,v.sys,C,P,z.log.stay v.stay,by rw[l];exact o7 _,v.idx⟩)⟩
def bD4(I:bZ->Prop)(B:∀l o,I l->I (eI l o)):∀(L:List bK) {D:aM},D.down=false->I D.files->(∀l n,n∈L->I l->(∀k,k∉L->bR l k=bR D.files k)->I (jX l n))->L.Nodup->(∀n∈L,∃f,bR D.files n=some f)->
 Good D (D.VK L) (λq=>I q.files/\(∀n∈L,bR q.files n=none)/\(∀n,n∉L->bR q.files n=bR D.files n)) I:=by
  intro L;induction L with
  |nil=>intro D m p _ _ _;exact Good.ok m ⟨p,by simp,λ_ _=>rfl⟩
  |cons n L G=>
   intro D m p w t x;have⟨z,A⟩:=bG2.1 t;have⟨f,C⟩:=x n (by simp);unfold aM.VK;have g:=w D.files n (by simp) p (λ_ _=>rfl);refine((I1 m C).MH B p g).then λy u _ _ r=>?_;have i:∀k,k≠n->bR y.files k=bR D.files k:=λk d=>(by rw[r,iB,aQ (λe=>d e.symm)]);refine(G u (by rw[r];exact g) (λl k d E F=>w l k (by simp[d]) E (λj s=>?_)) A (λk d=>by rw[i k (λe=>z (e▸d))];exact x k (by simp[d]))).mono (λH _ _ _ ⟨a,b,c⟩=>⟨a,λk d=>?_,λk d=>?_⟩) (λ_ h=>h)
   .simp only[cX,not_or]at s;rw[F j s.2,i j s.1]
   .rcases cX.1 d with rfl|d
    .by_cases v:k∈L
     .exact b k v
     rw[c k v,r,iB,aU rfl]
    exact b k d
   simp only[cX,not_or]at d;rw[c k d.2,i k d.1]
def uH:lE M s=true↔s=dG\/∃k,k<=999999/\(s=nR k\/s=vI k)/\k∉M.fC.flatten:=by
 unfold lE;cases a:mG s with
 |none=>
  simp only[cl8,bH];constructor
  .exact .inl
  rintro (h|⟨k,e,h|h,_⟩)
  .exact h
  .rw[h,rN e]at a;cases a
  rw[h,rO e]at a;cases a
 |some p=>
  have⟨c,j⟩:=p;have⟨i,b⟩:=uG a;simp only[zJ,bL,bH,MZ,DP];constructor
  .rintro (h|⟨d,g⟩)
   .exact .inl h
   right;refine⟨j,i,?_,by simpa using g⟩;rcases b with b|b|b
   .rcases d with d|d
    iterate 2
     .rw[b.2]at d;exact absurd d (by decide)
   .exact .inl b.1
   exact .inr b.1
  rintro (h|⟨k,e,h|h,f⟩)
  .exact .inl h
  .rw[h,rN e]at a;cases a;exact .inr ⟨.inl rfl,by simpa using f⟩
  rw[h,rO e]at a;cases a;exact .inr ⟨.inr rfl,by simpa using f⟩
def bf5(u:D.down=false)(h:vN n m k R i l D.files){M:iY}(H:∀q,bR D.files fZ=some q->uI q.data=true->(getM q.data).aZ=m->(getM q.data).fC.flatten=M.fC.flatten):
 Good D (lF D M) (λw=>vN n m k R i l w.files/\(∀N,lE M N=true->bR w.files N=none)/\(∀N,lE M N=false->bR w.files N=bR D.files N)) (vN n m k R i l):=by
  unfold lF;rw[u,aQ (by simp)];have B:(D.names.filter (lE M)).Nodup:=by have F:D.names.Pairwise (·<·):=lO.2 h.sys.oI.kO;exact(F.imp fun {a b} y e=>by subst e;exact lY _ y).filter _
  have d:∀N,N∈D.names.filter (lE M)↔(∃f,bR D.files N=some f)/\lE M N=true:=λN=>by
   rw[eW,<-KC h.sys.oI.kO];rfl
  refine(bD4 (vN n m k R i l) (λL v h=>h.jW v) _ u h (λL N p g J=>?_) B (λN p=>((d N).1 p).1)).mono (λw _ _ _ ⟨a,b,c⟩=>⟨a,λN p=>?_,λN p=>c N (λo=>by have:=((d N).1 o).2;rw[p]at this;cases this)⟩) (λ_ h=>h)
  .have I:=((d N).1 p).2;rcases uH.1 I with rfl|⟨K,x,rfl|rfl,G⟩
   .exact⟨g.sys.del _,g.stay.trans (iQ.del CY),g.idx.stay (iQ.del NW)⟩
   .refine⟨g.sys.del _,g.stay.trans (iQ.del (JQ x)),g.idx.cv4 x (λq t z C s=>?_)⟩;have A:fZ∉D.names.filter (lE M):=λo=>by
     have:=((d _).1 o).2;rcases uH.1 this with r|⟨j,E,r|r,_⟩
     .exact vS r.symm
     .exact zM E r.symm
     exact XU E r.symm
    rw[J _ A]at t;rw[H q t z C]at s;exact G s
   exact⟨g.sys.del _,g.stay.trans (iQ.del (JR x)),g.idx.stay (iQ.del (ap9 x))⟩
  by_cases o:N∈D.names.filter (lE M)
  .exact b N o
  rw[c N o];cases z:bR D.files N with
  |none=>rfl
  |some f=>exact absurd ((d N).2 ⟨⟨f,z⟩,p⟩) o
def NU(l:D.down=false):∀(L:List Nat) (t:Nat->Option (List cZ)),((p9 D L t).1=0/\(∀n∈L,∃d,bR D.files (nR n)=some d/\pJ d.data=true/\(p9 D L t).2 n=some (uE d.data))/\∀n,n∉L->(p9 D L t).2 n=t n)\/(p9 D L t).1=90:=by
 intro L;induction L with
 |nil=>intro t;exact .inl ⟨rfl,by simp,λ_ _=>rfl⟩
 |cons n L q=>
  intro t;unfold p9;have p:(∃d,bR D.files (nR n)=some d/\pJ d.data=true/\kG D n=(0,some (uE d.data)))\/kG D n=(90,none):=by
   unfold kG;rw[l,aQ (by simp)];cases r:bR D.files (nR n)with
   |none=>exact .inr rfl
   |some d=>
    by_cases j:pJ d.data=true
    .exact .inl ⟨d,rfl,j,by simp only;rw[aU j]⟩
    exact .inr (by simp only;rw[aQ j])
  rcases p with⟨d,m,o,g⟩|g
  .rw[g,aQ (by simp)];rcases q (jA t n (some (uE d.data)))with⟨a,b,c⟩|a
   .refine .inl ⟨a,λk f=>?_,λk f=>?_⟩
    .by_cases e:k∈L
     .exact b k e
     have i:k=n:=by
      rcases cX.1 f with h|h
      .exact h
      exact absurd h e
     subst i;exact⟨d,m,o,by rw[c k e];unfold jA;rw[aU rfl]⟩
    simp only[cX,not_or]at f;rw[c k f.2];unfold jA;rw[aQ f.1]
   exact .inr a
  rw[g,aU (by simp)];exact .inr rfl
def bW0(h:Sys n k l)(g:n<=1048576){s:bK}(d:s≠dG){f:fM}(c:bR l s=f):f.data.length<=1048576:=by have e:=h.room;have a:=CL h.oI.kO qS s;rw[c]at a;have b:qS s=false:=cC d;rw[b]at a;simp at a;omega
def Z9{E:aM}(M:E.down=false)(g:E.cap=D.cap)(o:E.bP=D.bP){G:cT}{C:List (List bK)}{i j:Nat}(V:vN n m k (dB C) j D.files E.files)(X:vF E.files G C i j){I:bA}(N:zH I.cV=true)(Q:I.cV.aZ=m)(R:I.cV.next<=k)(S:I.cV.check<=j)(T:∀ha∈I.cV.fC.flatten,∃L,I.fA ha=some L/\mY E.files ha L)
 (U:∀e,(∃ha,ha∈I.cV.fC.flatten/\∃L,I.fA ha=some L/\e∈L)↔e∈fJ m ((dB C).filter λr=>decide (r.1<I.cV.check))) (O:I.mem=[]) (W:∀H,bR E.files fZ=some H->uI H.data=true->(getM H.data).aZ=m->(getM H.data).fC.flatten=I.cV.fC.flatten) :
 let r:=pQ E I m (λh8=>(dB C).filter λr=>!decide (r.1<h8))
 (∃I,r.1=0/\r.2.1=some I/\r.2.2.down=false/\r.2.2.cap=D.cap/\r.2.2.bP=D.bP/\Sys n 98 r.2.2.files/\vF r.2.2.files G C i j/\rH r.2.2.files I m k (dB C) j)\/
 (r.1=61/\r.2.1=none/\r.2.2.down=true/\r.2.2.cap=D.cap/\r.2.2.bP=D.bP/\vN n m k (dB C) j D.files r.2.2.files):=by
  intro r;have v:=bf5 M V W;have t:r=if(lF E I.cV).1≠0 then((lF E I.cV).1,none,(lF E I.cV).2)else(0,some {I with mem:=(fJ m ((dB C).filter λr=>!decide (r.1<I.cV.check))).foldl oV I.mem},(lF E I.cV).2):=rfl;generalize lF E I.cV=q at v t;have⟨e,F⟩:=q;obtain⟨⟨o1,o2⟩,⟨o3,o4,o5⟩,P⟩:=lW.1 N;rcases v with⟨a,b,c,d,u,B,K⟩|⟨a,b,c,d,u⟩
  .simp only at a b c d u B K t;rw[aQ (by simpa using a)]at t;left;rw[t];have A:∀ha∈I.cV.fC.flatten,lE I.cV (nR ha)=false:=λha y=>by
    have p:ha<=999999:=by have:=P ha y;omega
    cases s:lE I.cV (nR ha)with
    |false=>rfl
    |true=>
     exfalso;rcases uH.1 s with f|⟨h8,l,f|f,h⟩
     .exact GQ p f
     .have:=CS p l f;subst this;exact h y
     exact DZ p l f
   have z:∀h8,h8≠dG->isC h8->lE I.cV h8=false:=λh8 l h=>by
    cases s:lE I.cV h8 with
    |false=>rfl
    |true=>
     exfalso;rcases uH.1 s with f|⟨h0,hj,f|f,_⟩
     .exact l f
     .exact(bc2 h h0).1 f
     exact(bc2 h h0).2 f
   refine⟨_,rfl,rfl,b,c.trans g,d.trans o,u.sys,X.stay (λh8 l h=>K h8 (z h8 l h)) (B _ (uH.2 (.inl rfl))),⟨N,Q,R,S,λha y=>?_,U,?_,λe=>?_,λh8 l w=>?_,u.idx⟩⟩
   .have⟨L,q1,J⟩:=T ha y;have⟨tf,Y,Z,p3⟩:=J.file;exact⟨L,q1,⟨tf,by rw[K _ (A ha y)];exact Y,Z,p3⟩,J.may,J.ok,J.yV⟩
   .simp only;rw[O];exact DB _ rfl
   .simp only;rw[O,JT];simp
   have x:h8∉I.cV.fC.flatten:=λh=>(by have:=P h8 h;simp only at l;omega);exact⟨B _ (uH.2 (.inr ⟨h8,w,.inl rfl,x⟩)),B _ (uH.2 (.inr ⟨h8,w,.inr rfl,x⟩))⟩
  simp only at a b c d u t;rw[aU (by omega)]at t;right;rw[t];exact⟨a,rfl,b,c.trans g,d.trans o,u⟩
def TX(s:D.down=false)(hc:n<=1048576)(hs:Sys n 98 D.files){G:cT}{C:List (List bK)}{i j:Nat}(Q:vF D.files G C i j)(F:EN D.files m k (dB C) j):
 let r:=fD D G m (λh6=>(dB C).filter λr=>!decide (r.1<h6))
 (∃I,r.1=0/\r.2.1=some I/\r.2.2.down=false/\r.2.2.cap=D.cap/\r.2.2.bP=D.bP/\Sys n 98 r.2.2.files/\vF r.2.2.files G C i j/\rH r.2.2.files I m k (dB C) j)\/
 (r.1=61/\r.2.1=none/\r.2.2.down=true/\r.2.2.cap=D.cap/\r.2.2.bP=D.bP/\vN n m k (dB C) j D.files r.2.2.files):=by
  intro r;have U:vN n m k (dB C) j D.files D.files:=⟨hs,iQ.refl _ _,F⟩;have h2:(∃I o,kQ D G m=(0,some I)/\bR D.files fZ=some o/\uI o.data=true/\I.cV=getM o.data/\I.cV.aZ=m/\I.mem=[]/\∀h7∈I.cV.fC.flatten,∃y,bR D.files (nR h7)=some y/\pJ y.data=true/\I.fA h7=some (uE y.data))\/((kQ D G m).1≠0/\(kQ D G m).1≠61/\(kQ D G m).2=none):=by
   unfold kQ oX;rw[s];simp only[bU,dP];cases hg:bR D.files fZ with
   |none=>exact .inr ⟨by simp,by simp,rfl⟩
   |some o=>
    simp only;by_cases p:uI o.data=true
    .have R:SR o.data=0:=(by unfold SR;rw[aU p]);rw[R,aQ (by simp)];by_cases z:(getM o.data).aZ≠m\/jJ G.bW<(getM o.data).check
     .rw[aU z];exact .inr ⟨by simp,by simp,rfl⟩
     rw[aQ z];unfold vQ;rw[s,aQ (by simp)];rcases NU s (getM o.data).fC.flatten (λ_=>none)with⟨a,b,_⟩|a
     .rw[aQ (by simpa using a)];left;have w:(getM o.data).aZ=m:=by
       by_cases h:(getM o.data).aZ=m
       .exact h
       exact absurd (.inl h) z
      exact⟨_,o,rfl,rfl,p,rfl,w,rfl,b⟩
     rw[aU (by rw[a];decide)];exact .inr ⟨by rw[a];decide,by rw[a];decide,rfl⟩
    have R:SR o.data=90:=(by unfold SR;rw[aQ p]);rw[R,aU (by simp)];exact .inr ⟨by simp,by simp,rfl⟩
  rcases h2 with⟨I,o,hl,t,p,f,w,H,g⟩|⟨Y,Z,h0⟩
  .have v:r=pQ D I m (λh6=>(dB C).filter λr=>!decide (r.1<h6)):=by show fD D G m _=_;unfold fD;rw[hl];rfl
   rw[v];have⟨_,A⟩:=F o t;have A:=A p (by rw[<-f];exact w);have X:=as2 p;have W:=A.eq (λh7 q y h4=>by rw[<-f]at q;have⟨O,u,M,_⟩:=g h7 q;rw[h4]at u;cases u;exact M);refine Z9 s rfl rfl U Q (by rw[f];exact X.1) w (by rw[f];exact A.next) (by rw[f];exact A.check) (λh7 q=>?_) (λe=>?_) H (λh5 B _ _=>by rw[t]at B;cases B;rw[f])
   .have⟨y,u,M,N⟩:=g h7 q;have⟨O,p1,p2⟩:=A.on h7 (by rw[<-f];exact q);rw[u]at p1;cases p1;refine⟨_,N,bJ3 u p2 M ?_⟩;have h3:=GV p h7 (by rw[<-f];exact q);have:=bW0 hs hc (GQ h3) u;omega
   rw[f,<-W e];constructor
   .rintro ⟨h7,q,L,P,T⟩;have⟨y,u,M,N⟩:=g h7 (by rw[f];exact q);rw[N]at P;cases P;exact⟨h7,q,y,u,T⟩
   rintro ⟨h7,q,y,P,T⟩;have⟨O,u,M,N⟩:=g h7 (by rw[f];exact q);rw[P]at u;cases u;exact⟨h7,q,_,N,T⟩
  have v:r=if(D.delete fZ).1=61 then(61,none,(D.delete fZ).2)else pQ (D.delete fZ).2 (wE m) m (λh6=>(dB C).filter λr=>!decide (r.1<h6)):=by
   show fD D G m _=_;unfold fD;rw[aQ Z,h0];split
   .rename_i h9 _;exact absurd h9 Y
   rfl
  have x:vN n m k (dB C) j D.files (jX D.files fZ):=⟨hs.del _,iQ.del XT,λo t=>by rw[iB,aU rfl]at t;cases t⟩;have K:∀E:aM,E.down=false->E.cap=D.cap->E.bP=D.bP->vN n m k (dB C) j D.files E.files->bR E.files fZ=none->vF E.files G C i j->_:=λE e1 e2 e3 e4 e5 e6=>Z9 e1 e2 e3 e4 e6 (I:=wE m) (by rw[lW];simp[wE]) rfl (bO _) (bO _) (λh7 q=>by simp[wE]at q) (λe=>by
   have:((dB C).filter λr=>decide (r.1<(wE m).cV.check))=[]:=by rw[gT];intro r v;simp[wE]
   rw[this];simp[fJ,wE]) rfl (λo B _ _=>by rw[e5]at B;cases B)
  rcases KN s fZ (λl J h=>h.jW J) U x with⟨a,b,c⟩|⟨a,b,c,d,e⟩|⟨a,b,c,d,e⟩
  .rw[aQ (by omega),b]at v;rw[v];exact K D s rfl rfl U c Q
  .rw[aQ (by omega)]at v;rw[v];refine K _ b c d (by rw[e];exact x) (by rw[e,iB,aU rfl]) ?_;rw[e];exact Q.stay (λh6 hk V=>by rw[iB,aQ (λS=>XT (by rw[S];exact V))]) (by rw[iB,aQ (λS=>vS S.symm)];exact Q.new)
  rw[aU a]at v;right;rw[v];exact⟨rfl,rfl,b,c,d,e⟩
def bE0(g:KV D.files C)(b:J2 C)(d:G.bW=eL C):∀(B A:List lI)(a:Nat),dB C=A++B->(∀r∈A,r.1<a)->(∀r∈B,a<=r.1)->LG G D a B:=by
 intro B;induction B with
 |nil=>intro A a c f e;exact ai3 g b d c f e
 |cons r B j=>intro A a c f e;have⟨h,i⟩:=bB5 b c;exact⟨ai3 g b d c f e,e r (by simp),j (A++[r]) _ (by rw[c];simp) h i⟩
def as7(f:zT R)(k:Nat):R=R.filter (λr=>decide (r.1<k))++R.filter (λr=>!decide (r.1<k)):=by
 induction R with
 |nil=>rfl
 |cons r R g=>
  have⟨b,e⟩:=dD.1 f;rw[j7,j7];by_cases h:r.1<k
  .simp only[h,decide_true,eE,oH,bU,dP,kM];rw[<-g e]
  simp only[h,decide_false,CE,eE,bU,dP];have c:R.filter (λr=>decide (r.1<k))=[]:=by rw[gT];intro x a;have:=b x a;simp;omega
  have d:R.filter (λr=>!decide (r.1<k))=R:=by rw[pN];intro x a;have:=b x a;simp;omega
  rw[c,d];rfl
def ZB(d:KV D.files C)(a:J2 C)(c:G.bW=eL C)(k:Nat):LG G D k ((dB C).filter λr=>!decide (r.1<k)):=
 bE0 d a c _ _ k (as7 (qV a) k) (λr b=>by simpa using(eW.1 b).2) (λr b=>by have:=(eW.1 b).2;simp at this;exact this)
end Go.Proofs.YtpopikndggffaaaGreatDoor
