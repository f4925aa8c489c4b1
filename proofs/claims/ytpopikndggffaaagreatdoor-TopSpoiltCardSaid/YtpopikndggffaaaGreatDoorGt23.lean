/- TOP, part 23. -/
import Derived.Test.YtpopikndggffaaaGreatDoorGt21
namespace Go.Proofs.YtpopikndggffaaaGreatDoor
set_option linter.all false
set_option maxRecDepth 100000
set_option maxHeartbeats 16000000
open Go.RowKit Go.Maps Tryz
variable{L:List dB}{i k m n:Nat}{o:dB}
abbrev XE:=dB×Nat
def cG5(m:XE):List aN:=[.int .u64 m.1.1,.int .i64 m.1.2.1,.int .i64 m.1.2.2,.int .i64 (m.2:Nat)]
def ZK(l:List XE):List aN:=l.flatMap cG5
def ax8(a b:List XE):ZK (a++b)=ZK a++ZK b:=eB
def cw2:(prog.info? 328).map (λi=>(i.zero,i.size,i.bytes))=some (some (.agg #[zu 0,(),(),()]),4,32):=by kernel_rfl
def pV(l:List dB)(k:Nat):List XE:=(List.range k).filterMap fun i=>if i%8=0\/i+1=l.length then(l[i]?).map fun e=>(e,i)else none
def bj2(h:L[n]?=o)(a:n%8=0\/n+1=L):pV L (n+1)=pV L n++[(o,n)]:=by unfold pV;rw[sD,XG];simp[a,h]
def bJ7{l:List dB}{k:Nat}(a:¬(k%8=0\/k+1=l)):pV l (k+1)=pV l k:=by unfold pV;rw[sD,XG];simp[a]
def ZJ(l:List dB)(k:Nat):(pV l k)<=k:=by unfold pV;exact aM (QI _ _) (by simp)
def bJ6(v:aN)(l:List dB)(w:aI)(z:pJ w v l)(hn:l.length<=1000000):Calls prog 243 #[v] w λe T=>∃S,e=.returned S/\T.ownsRow w 328 4 S (pV l l) (ZK (pV l l))/\aR w w T:=by
 obtain⟨⟨A,c,rfl,-,-,-,-⟩,-⟩:=id z;obtain⟨-,K,L,-⟩:=z.cells;have d:=λq=>z.later q;have⟨n,J⟩:=fR l.length;rw[<-J]at K hn d|-;have⟨D,Y⟩:=aA J d;clear z d J L;go_in;go_wp2_with fail
 go_loopw [3,4,5,8] (λI _ _ i wr=>∃j:Nat,j<=n/\i=.int .i64 j/\wr.ownsRow w 328 4 I (pV l j) (ZK (pV l j))/\aR w w wr) (λ_ _ _ i _=>n-(intOf i).toNat)
 .exact⟨0,bK _,rfl,bM _ _ _ _,iH⟩
 obtain⟨j,hj,rfl,a,h⟩:=hrel;obtain⟨A1,c1,rfl,-⟩:=id (Reads.cX a);have N:=ZJ l j;have⟨m,u⟩:=fR ((pV l j).length);rw[<-u]at a N|-;by_cases h1:j<n
 .have i1:(j:Int)<n:=(by omega);obtain⟨e,M⟩:∃e,l[j]?=some e:=⟨_,aJ (by have:=D.zz;omega)⟩;obtain⟨b,h2,rfl,-,Q⟩:=Y (by omega);have⟨c0,Z,c2⟩:=Q j e M wr h;have⟨r,R⟩:=fR (j%8);have q1:Int.tmod (j:Int) 8=(r:Int):=(by rw[rH (by omega)];omega);have B:=eA wr (.cells (iT e) 152);have⟨f,p,X,y,P⟩:=aD a h M u R;have⟨U,V,W⟩:=e;unfold iT at B;have⟨H,O⟩:=aA B (cU h B dQ);have x:=Row.new (wr.alloc (.cells #[zu U,V,W] 152)) #[zu U,V,W,j] 328;have F:=aH x;clear Q M a h u R B x;by_cases g:r=0\/j+1=n
  .have G:=aH (bj2 X (by rw[<-P.zz,<-D.zz];exact g));rcases(show r=0\/(r≠0/\j+1=n)from by omega)with q|⟨q,h9⟩
   iterate 2
    .first|subst q;clear g|((have z1:¬(r:Int)=0:=by omega);(have z2:((j:Int)==(n:Int)-1)=true:=by rw[gH];omega);clear g q h9)
     (go_wp2_with (at_builtin;refine bq8 cw2 underlying280 (bY (bY f H) (iH.alloc dQ _)) (rd1 (by have:=F.zz;simpa using this) rfl) rfl rfl rfl rfl rfl (by omega) (by have:=p.size;rw[bD,bD];omega) ?_;intro v4 w4 o t s;have E:=aH o;have C:=aH (nX (bY (bY f H) (iH.alloc dQ _)) (cU O (iH.alloc dQ _) dQ) t (by have:=p.size;rw[bD,bD];omega));clear o t s));go_roundw
     .exact⟨j+1,by omega,by go_num,by rw[G.zz,aO,ax8,<-y.zz];exact E,C⟩
     simp[intOf];omega
  have G:=aH (bJ7 (l:=l) (k:=j) (by rw[<-P.zz,<-D.zz];exact g));have z1:¬(r:Int)=0:=(by omega);have z2:((j:Int)==(n:Int)-1)=false:=(by rw[DN,ne_eq,gH];omega);clear g;go_wp2;go_roundw
  .exact⟨j+1,by omega,by go_num,by rw[G.zz,<-y.zz];exact bY f H,O⟩
  simp[intOf];omega
 obtain rfl:j=n:=(by omega);have i1:¬(j:Int)<j:=(by omega);have⟨f,p,y⟩:=aB a h u;clear a h u;go_wp2;go_ret;exact⟨_,rfl,by rw[<-y.zz];exact f,p⟩
def bw1{m:XE}(h:m∈pV L n):L[m.2]?=m.1:=by
 unfold pV at h;rw[aE3]at h;obtain⟨i,-,a⟩:=h;split at a
 .cases b:L[i]? with
  |none=>rw[b]at a;cases a
  |some e=>rw[b]at a;simp at a;rw[<-a];exact b
 cases a
def EI(x:dB)(n:Nat):List XE->Nat->Nat×Nat
 |[],lo=>(lo,max lo n)
 |m::M,lo=>if iB m.1 x then EI x n M (m.2+1)else(lo,max lo m.2)
def aO3{M:List XE}{z:dB}(h:M[k]?=some (z,i)):EI o n (M.drop k) m=if iB z o then EI o n (M.drop (k+1)) (i+1)else(m,max m i):=by have⟨b,a⟩:=aQ.1 h;rw[<-gT b,a];rfl
def bJ4{M:List XE}(h:M<=k):EI o n (M.drop k) m=(m,max m n):=by rw[iR h];rfl
def bz5(w:aI)(x:dB)(M:List XE)(s n:Nat)(e:eY)(c:aI):Prop:=∃b a:Nat,e=.returned (.tuple #[.int .i64 (b:Int),.int .i64 (a:Int)])/\EI x n M 0=(b,a)/\b<=s/\s<=a/\a<=n/\aR w.heap.size w c
def aO6(v:aN)(l:List dB)(M:List XE)(n s:Nat)(x:dB)(w:aI)(hr:Reads w v 4 M (ZK M))(hM:∀m∈M,l[m.2]?=m.1)(P:∀e∈l,wC e)(T:wC x)(hn:n=l)(h7:n<=1000000)(h4:M.length<=1000000) (hs:s<=n) (p:∀(i:Nat)(e:dB),l[i]?=e->(iB e x=true↔i<s)) :Calls prog 264 #[v,n,.agg (iT x)] w (bz5 w x M s n):=by
 unfold bz5;obtain⟨A,c,rfl,-,-,-,-⟩:=id hr;obtain⟨-,h0,h1,g⟩:=Reads.each (λm=>show(cG5 m).length=4 from rfl) hr;have⟨m,hm⟩:=fR M.length;rw[<-hm]at h0 g h4|-;have⟨q,r,t⟩:=x;have U:=eA w (.cells (iT (q,r,t)) 152);have V:=Row.new w (iT (q,r,t)) 152;unfold iT at U V|-;simp only at U V|-;have m1:max (n:Int) 0=n:=(by omega);have⟨HC,Y,Z,HX,D,HN,HM,K0,R0⟩:=cT1 g hM P T p hn hm U V;clear hr g hM P T p hn hm U V h1;go_in;(go_wp2_with fail);go_step3;(go_wp2_with fail);go_step3;go_wp2_with fail
 go_loopw [6,7,16] (λlo hi i wr=>∃a k:Nat,a<=s/\k<=m/\EI (q,r,t) n M 0=EI (q,r,t) n (M.drop k) a/\lo=.int .i64 a/\hi=.int .i64 n/\i=.int .i64 k/\aR (w.alloc (.cells #[zu q,r,t] 152)) (w.alloc (.cells #[zu q,r,t] 152)) wr) (λ_ _ i _=>m-(intOf i).toNat)
 .exact⟨0,0,bK _,bK _,rfl,rfl,rfl,rfl,iH⟩
 obtain⟨a,k,ha,hk,O,rfl,rfl,rfl,h⟩:=hrel;have y:=aH O;clear O;by_cases h6:k<m
 .have i1:(k:Int)<m:=(by omega);obtain⟨⟨⟨H,I,J⟩,d⟩,S⟩:∃e,M[k]?=some e:=⟨_,aJ (by have:=HM.zz;omega)⟩;have j:=Y _ (bC S);simp only at j;have oe:=Z _ (bC j);have h3:=(aQ.1 j).1;have N:=D _ _ j;obtain⟨b,h9,rfl,h5,L⟩:=HC (by omega);have z:aR w w wr:=cU K0 h dQ;have Q:=L k _ S wr z;have c0:=Q 0 (by omega);have c1:=Q 1 (by omega);have c2:=Q 2 (by omega);have c3:=Q 3 (by omega);simp only[cG5,List.getElem?_cons_succ,List.getElem?_cons_zero,xX]at c0 c1 c2 c3;have k1:=eA wr (.cells #[zu H,I,J,d] 328);have R:=Row.new wr #[zu H,I,J,d] 328;have f:=xO (H,I,J) (q,r,t) (wr.alloc (.cells #[zu H,I,J,d] 328)) oe HX;unfold iT at f;simp only at f;have m2:max (d:Int) 0=d:=(by omega);have h2:=HN.zz;have m3:min (d:Int) (n:Int)=d:=(by omega);have m4:min (d:Int) ((n:Int)-1)=d:=(by omega);have y0:=R0.next h;have W:=y0.next k1;have x0:=W.lO;have hb:=W.qD;have hc:=W.tW;have z0:=R.lO;have z1:=R.qD;have z2:=R.tW;have z3:=R.JF;rw[<-gC]at c1 c2 c3;have⟨u,F,E,C,X⟩:=aD h k1 S N z;clear y0 W R Q L S j oe h3 N h k1 z h2;go_wp2_with fail
  go_call f as e' w3 ⟨rfl,K⟩;rcases o:iB (H,I,J) (q,r,t)with _|_
  iterate 2
   ·(first|have h8:d<s:=C.zz.1 o|(have h8:¬d<s:=λT=>by rw[C.zz.2 T]at o;cases o));have⟨B,G⟩:=aA K o;clear f K o;(try (have m5:max (a:Int) (d:Int)=d:=by omega));go_wp2
    first
     |go_roundw
      .refine⟨d+1,k+1,by omega,by omega,by rw[y.zz,aO3 E.zz,G.zz,aV rfl],by congr 1,rfl,by congr 1,cU (cU u F dQ) B dQ⟩
      simp[intOf];omega
     |try rw[eU]
      go_ret2;exact⟨a,d,rfl,by rw[y.zz,aO3 E.zz,G.zz,aP (by simp)];congr 1;omega,ha,by omega,by omega,cU (cU X F dQ) B dQ⟩
 obtain rfl:k=m:=(by omega);have i1:¬(k:Int)<k:=(by omega);have m5:max (a:Int) (n:Int)=n:=(by omega);have u:=aH h;clear h;go_wp2;try rw[eU]
 go_ret2;exact⟨a,n,rfl,by rw[y.zz,bJ4 (by rw[<-HM.zz];exact cV _)];congr 1;omega,ha,hs,dQ,cU K0 u dQ⟩
variable{M:List Nat}{X:List aN}{w x y:aI}{v:aN}{C:mX}
def xQ{F:List Nat}{w:aI}(h:Reads w v 1 F (fJ F))(x:Nat):Calls prog 224 #[v,x] w λe g=>e=(F.contains x)/\w=g:=by
 obtain⟨A,c,rfl,s,i,t,k⟩:=h;rcases dP F with d|d
 .have l:F=[]:=eG.1 d;subst l;go_call slices_Contains_int_empty A c x w as e g ⟨rfl,rfl⟩;exact⟨rfl,rfl⟩
 obtain⟨b,f,rfl,p,m⟩:=k d;unfold maxLen at i;refine(slices_Contains_int b f F c (F.map λn:Nat=>(n:Int)) x w (by simp) (by omega) (λj o=>?_)).mono ?_
 .have a:j<F.length:=(by simpa using o);rw[m j (by simpa using a),zX];simp[aY,a]
 rintro e g ⟨rfl,rfl⟩;refine⟨?_,rfl⟩;congr 2;rw[aT (by simp),iX,oI,oI,dS];constructor
 .rintro ⟨y,r,u⟩;have:y=x:=(by omega);rw[<-this];exact r
 intro q;exact⟨x,q,rfl⟩
def NH{k n:Nat}{u:aN}{L:List Nat}(I:Row w m 33 X)(g:lS w i X C)(p:X[k]?=v)(N:C[k]?=L)(A:aR w w x)(O:x.grownBy y v.ownBlock)(l:y.ownsRow i 3 1 u (L+1) (fJ L++[.int .i64 n]))(t:u.ownBlock=v.ownBlock\/u.ownBlock=x):Row y m 33 X/\Row (y.setCell (zp m k) u) m 33 (X.set k u)/\lS (y.setCell (zp m k) u) i (X.set k u) (C.set k (L++[n])):=by
 have H:=g.own k v L p N;have J:∀q,v.ownBlock=some q->Row w q 3 (fJ L):=λq a=>dX H a;have K:Row y m 33 X:=(I.next A).grown O (λb=>by have:=dD (J m b.symm) I;exact absurd this (by decide));have P:∀q,q≠m->(y.setCell ⟨m,k,none⟩ u).heap[q]?=y.heap[q]?:=λq a=>aU _ _ _ _ a;have F:∀q,u.ownBlock=some q->q≠m:=λq a b=>by have:=dD (dX l a) (b▸K);exact absurd this (by decide)
 have D:=g.lt;refine⟨K,K.set k u,⟨by simp[g.len],λj S M e G=>?_,λR j S z q f e r a c=>?_⟩⟩
 .by_cases d:j=k
  .subst d;have s:=(aQ.1 p).1;have Q:=(aQ.1 N).1;rw[gU s]at e;rw[gU Q]at G;cases e;cases G;rw[aO,yM];exact eS l λq a=>P q (F q a)
  rw[jP (λh=>d h.symm)]at e G;have E:=g.own j S M e G;refine eS E λq a=>?_;have o:=dX E a;rw[P q (λb=>by have:=dD (b▸o) I;exact absurd this (by decide))];rw[O.block q (aW o.lt A.size) (λb=>g.apart j k S v q d e p a b.symm)];exact A.block q o.lt
 by_cases B:R=k
 .have s:=(aQ.1 p).1;subst B;rw[gU s]at e;rw[jP f]at r;cases e;rcases t with b|b
  .rw[b]at a;exact g.apart R j v z q f p r a c
  rw[b]at a;cases a;have:=D j z _ r c;have:=A.size;omega
 rw[jP (λh=>B h.symm)]at e;by_cases d:j=k
 .have s:=(aQ.1 p).1;subst d;rw[gU s]at r;cases r;rcases t with b|b
  .rw[b]at c;exact g.apart R j S v q f e p a c
  rw[b]at c;cases c;have:=D R S _ e a;have:=A.size;omega
 rw[jP (λh=>d h.symm)]at r;exact g.apart R j S z q f e r a c
def bS6.split(h:bS6 w n v C):(C=[]/\∃A,v=.slice A 0 0)\/∃b x c a r,C=a::r/\v=.slice (zp b) (a::r).length (a::r).length/\n<=b/\Row w b 33 (x::c)/\lS w n (x::c) (a::r):=by
 rcases h with h|⟨b,c,d,f,g,e⟩
 .exact .inl h
 cases C with
 |nil=>exact .inl ⟨rfl,_,d⟩
 |cons a r=>cases c with
  |nil=>have:=e.len;simp at this
  |cons x c=>exact .inr ⟨b,x,c,a,r,rfl,d,f,g,e⟩
def as7{W:aI}(h:aR n w x)(a:aR x x y)(b:y.grownBy W (Value.slice none 0 0).ownBlock)(d:n<=x):aR n w W:=⟨b.os.trans (a.os.trans h.os),b.tape.trans (a.tape.trans h.tape),b.output.trans (a.output.trans h.output),aM h.size (aM a.size b.size),λk c=>(b.block k (aW c (aM d a.size)) (by simp[Value.ownBlock])).trans ((a.block k (aW c d)).trans (h.block k c))⟩
def bz9(w:aI)(l:mX)(n T:Nat)(e:eY)(b:aI):Prop:=∃a,e=.returned (.tuple #[a,.int .i64 (if 40<=T then 60 else 0)])/\(¬40<=T->bS6 b w.heap.size a (pY l n))/\aR w.heap.size w b
def SJ(h:n∉M):M.contains n=false:=by rw[DN,ne_eq,oI];exact h
def bk6(v:aN)(l:mX)(n:Nat)(w:aI)(h:vA w v l)(hv:kR l=true)(hn:n<4294967296)(h5:n∉l.flatten)(h8:∀n∈l.flatten,n<4294967296):Calls prog 154 #[v,n] w (bz9 w l n l.flatten):=by
 have hc:=hv;unfold kR at hc;rw[bG]at hc;obtain⟨hw,V,-⟩:=hc;have hA:=tP v l w h (by omega) (by omega);have hV:=λ(x:aI)(hx:aR w.heap.size w x)=>IW v l x (h.next hx) (by omega) (by omega) h8;have h2:=λ(x:aI)(hx:aR w.heap.size w x)=>VP v l x (h.next hx) (by omega) (by omega);rw[hv]at hV;have J:=SJ h5;have⟨F,hF⟩:=fR l.flatten;have⟨T,hT⟩:=fR F.length;rw[<-hF]at hA J V|-;rw[<-hT]at hA V|-;obtain⟨HT,hl⟩:=aA hT (show T=l.flatten.length from by rw[hT,hF]);have n0:(0:Int)<=(n:Int):=(by omega);by_cases O:40<=T
 .have i1:(40:Int)<=T:=(by omega);clear h h8 h5 hv hF h2 hT;go_in;go_wp2_with fail
  go_call hA as e w1 ⟨v1,rfl,g,u⟩;have E:=hV w1 u;have s:=Reads.cX g;obtain⟨A1,c1,rfl,-⟩:=id s;have h1:=aH s;clear hA hV g s;go_wp2_with fail
  go_call E as e w2 ⟨rfl,A⟩;have B:=xQ (F:=F) (by rw[<-HT.zz];exact h1.next A) n;rw[J]at B;clear E;go_wp2_with fail
  go_call B as e w' ⟨rfl,rfl⟩;go_wp2;go_ret2;exact⟨_,by rw[aV O];rfl,λh9=>absurd O h9,aK u A⟩
 have i1:¬(40:Int)<=T:=(by omega);clear h h8 h5 hv hF hT;go_in;go_wp2_with fail
 go_call hA as e w1 ⟨v1,rfl,g,u⟩;have E:=hV w1 u;have s:=Reads.cX g;obtain⟨A1,c1,rfl,-⟩:=id s;have h1:=aH s;clear hA hV g s;go_wp2_with fail
 go_call E as e w2 ⟨rfl,A⟩;have B:=xQ (F:=F) (by rw[<-HT.zz];exact h1.next A) n;rw[J]at B;have H:=aK u A;have ha:=h2 w2 H;have U:=aH H;clear E h2 u A H;go_wp2_with fail
 go_call B as e w' ⟨rfl,rfl⟩;clear B;go_wp2_with fail
 go_call ha as e t ⟨v3,rfl,ho,h3⟩;have C:=aH (aK U h3);have hm:=U.size;rcases ho.split with⟨h0,A3,rfl⟩|⟨b,x,vs,a,r,hg,rfl,ht,N,P⟩
 .have G:=aH (show pY l n=[[n]]from by unfold pY;rw[h0]);have h4:=(bR t.heap.size t).alloc dQ (.cells #[.slice none 0 0] 33);have r4:=Row.new t #[.slice none 0 0] 33;have z4:(t.alloc (.cells #[.slice none 0 0] 33)).heap.size=t.heap.size+1:=bD _ _;clear h0 h3 ha;have⟨w4,hf⟩:=fR (t.alloc (.cells #[.slice none 0 0] 33));rw[<-hf]at h4 r4 z4;have⟨b,hb⟩:=fR t.heap.size;rw[<-hb]at r4 z4;have⟨hi,X⟩:=aA (And.intro hb z4) (aK C h4);have W:lS w4 w.heap.size [.slice none 0 0] [[]]:=⟨rfl,(λk y M S hM=>by
   rcases k with _|k
   .simp at S hM;subst S;subst hM;exact bM _ _ _ _
   .simp at S),(λi j y z q hu S hz hq=>by
   rcases i with _|i
   .simp at S;subst S;simp[Value.ownBlock]at hq
   simp at S)⟩
  have⟨Z,D⟩:=aA r4 W;have c0:=r4.lO;have I:=(bR w4.heap.size w4).alloc dQ (.cells #[.int .i64 n] 3);have m:=aH I;subst hf;subst hb;have h7:=Row.new (t.alloc (.cells #[.slice none 0 0] 33)) #[.int .i64 n] 3;rw[bD]at h7;have hj:=aH h7;clear r4 W z4 h4 I c0 h7;go_wp2_with (at_builtin;refine bq8 nH underlying33 (bM _ w.heap.size _ _) (rd1 hj rfl) rfl rfl rfl rfl rfl (by omega) (by have:=X.size;rw[bD];omega) ?_;intro v6 w6 c o d;obtain⟨A2,c2,rfl,-⟩:=id (Reads.cX c);have⟨q1,q2,q3⟩:=NH (k:=0) (L:=[]) (n:=n) Z D rfl rfl m o c d;have f1:=q1.NV;have c9:=q1.lO;have Q:=aH (And.intro q2 q3);have Y:=aH (as7 X m o X.size);clear q1 q2 q3 c o d)
  try go_wp2
  go_ret2;have f:w.heap.size<=t.heap.size:=(by have:=hi.zz.1;have:=C.size;omega);refine⟨_,by rw[aP O];rfl,λ_=>?_,Y.setCell (p:=⟨t.heap.size,0,none⟩) f _⟩;rw[G.zz];exact .inr ⟨t.heap.size,_,rfl,f,Q.1,Q.2⟩
 have G:=aH (show pY l n=(a++[n])::r from by unfold pY;rw[hg]);have f:w.heap.size<=b:=(by omega);have K:lS t w.heap.size (x::vs) (a::r):=⟨P.len,λk y M S hM=>iI (P.own k y M S hM) hm,P.apart⟩;have c0:=N.lO;have h6:=K.own 0 x a rfl rfl;obtain⟨Ax,cx,rfl,hp,hr,-⟩:=id (Reads.cX h6);have hh:=aH (show a.length<=1000 from by
  have he:=oA l;rw[hg]at he;have:=gQ List.length he;simp only[iA,aO]at this;have h9:=hl.zz;omega)
 have⟨Z,D,hd⟩:=aB N K h6;have I:=(bR t.heap.size t).alloc dQ (.cells #[.int .i64 n] 3);have m:=aH I;have⟨R,hR⟩:=fR r.length;have hk:=aH hR;have hs:=hh.zz;clear N P K h6 I hp hr ha h3;simp only[cE,<-hR];clear hR;go_wp2_with (at_builtin;refine bq8 nH underlying33 (bY hd m) (rd1 (Row.new t #[.int .i64 n] 3) rfl) rfl rfl rfl rfl rfl (by omega) (by have:=C.size;rw[bD];omega) ?_;intro v6 w6 c o d;obtain⟨A2,c2,rfl,-⟩:=id (Reads.cX c);have⟨q1,q2,q3⟩:=NH (k:=0) (L:=a) (n:=n) Z D rfl rfl m o c d;have f1:=q1.NV;have c9:=q1.lO;have Q:=aH (And.intro q2 q3);have Y:=aH (nX (bY hd m) (aK C m) o (by have:=C.size;rw[bD];omega));clear q1 q2 q3 c o d)
 try go_wp2
 go_ret2;refine⟨_,by rw[aP O];rfl,λ_=>?_,Y.setCell (p:=⟨b,0,none⟩) f _⟩;rw[G.zz];refine .inr ⟨b,_,?_,f,Q.1,Q.2⟩;simp[hk.zz]
def AN(w:aI)(a:Nat)(v:aN)(l:mX):Prop:=(l=[]/\∃A,v=.slice A 0 0)\/∃b d c,v=.slice (some ⟨b,0,none⟩) l.length c/\l.length<=c/\c<=maxLen/\a<=b/\Row w b 33 d/\lS w a d l
def bS6.toU(h:bS6 w n v C)(g:C.length<=1000):AN w n v C:=by
 rcases h with h|⟨b,f,a,c,d,e⟩
 .exact .inl h
 exact .inr ⟨b,f,_,a,dQ,by unfold maxLen;omega,c,d,e⟩
def AN.GQ{v:aN}(h:AN w n v C):vA w v C:=by
 rcases h with⟨rfl,A,rfl⟩|⟨b,m,c,rfl,f,g,p,e,a⟩
 .exact⟨[],rfl,⟨A,0,rfl,dQ,bK _,rfl,(λh=>by simp at h)⟩,(λk x L d=>by simp at d)⟩
 refine⟨m,a.len,⟨_,_,rfl,f,g,by simp[a.len],λo=>⟨b,0,rfl,e.lt,λj l=>?_⟩⟩,λk x L d i=>Reads.cX (a.own k x L d i)⟩;rw[jC];exact e.cell j l
def AN.next{w:aI}{n:Nat}{v:aN}(h:AN w n v C)(a:aR w w x):AN x n v C:=by
 rcases h with h|⟨b,k,c,d,e,f,g,i,j⟩
 .exact .inl h
 exact .inr ⟨b,k,c,d,e,f,g,i.next a,j.next a⟩
def zV(l:mX)(k:Int):Int:=if k<0\/5<=k then 2 else if l.getD k.toNat []=[]then 4 else 0
def af4(w:aI)(l:mX)(k:Int)(e:eY)(b:aI):Prop:=∃a,e=.returned (.tuple #[a,.int .i64 (zV l k)])/\(zV l k=0->b.ownsRow w.heap.size 3 1 a (l.getD k.toNat []).length (fJ (l.getD k.toNat [])))/\aR w.heap.size w b
def VQ(v:aN)(l:mX)(k:Int)(w:aI)(h:vA w v l)(H:kR l=true)(hk:-9223372036854775808<=k/\k<=9223372036854775807)(u:∀n∈l.flatten,n<4294967296):Calls prog 158 #[v,k] w (af4 w l k):=by
 have D:=H;unfold kR at D;rw[bG]at D;obtain⟨C,S,-⟩:=D;have p:=IW v l w h (by omega) (by omega) u;rw[H]at p;have⟨V,E,o,r⟩:=id h;obtain⟨A,c,rfl,g,R,-⟩:=id o;unfold maxLen at R;have⟨k1,k2⟩:=hk;by_cases f:k<0\/5<=k
 .have q:=aH (show zV l k=2 from aV f);have⟨M,z⟩:=fR l.length;rw[<-z]at p g|-;clear h u H o r E z C;rcases(show k<0\/(¬k<0/\5<=k)from by omega)with h1|⟨h1,h2⟩
  all_goals
   clear f;go_in;(go_wp2_with fail);go_call p as e K ⟨rfl,d⟩;clear p;go_wp2;go_ret2;exact⟨_,by rw[q.zz];rfl,(λy=>by rw[q.zz]at y;cases y),d⟩
 obtain⟨j,rfl⟩:=cR (a:=k) (by omega);have h3:j<5:=(by omega);have n1:¬((j:Int)<0):=(by omega);have n2:¬(5:Int)<=j:=(by omega);by_cases s:j<l
 .obtain⟨b,h6,rfl,-,-,-,m⟩:=o.UK (by omega);have J:V[j]?=some (V[j]'(by omega)):=aJ (by omega);have P:l[j]?=some l[j]:=aJ s;have T:l.getD j []=l[j]:=(by rw[aY,P];rfl);have t:=r j _ _ J P;obtain⟨Ax,cx,I,h4,h5,-⟩:=id t;have Q:=λx hb=>m x hb j (by omega);rw[I]at t Q;have h0:l[j].length<=40:=by have:=LQ (dC s);omega
  have G:=λ(x:aI)(J:aR w w x)=>as2 (t.next J) (by omega);generalize l[j]=L at *;have⟨M,z⟩:=fR l.length;rw[<-z]at p g C s|-;have⟨O,X,N⟩:=aB T Q G;have i1:¬(M:Int)<=j:=(by omega);clear h u H o r E z J P t Q G m I f T;by_cases i:L=[]
  iterate 2
   ·(first|((have q:=aH (show zV l j=4 from by unfold zV;rw[aP (by omega),bW,O.zz,aV i]));subst i)|((have q:=aH (show zV l j=0 from by unfold zV;rw[aP (by omega),bW,O.zz,aP i]));have U:0<L.length:=qL.2 i;(have i2:¬(L:Int)=0:=by omega);(have i3:L.length≠0:=by omega);(have i4:((L:Int)==0)=false:=by rw[bA];omega);clear i));go_in;(go_wp2_with fail);go_call p as e K ⟨rfl,d⟩;have Z:=X K d;(first|simp only[kG]at Z|have g:=N K d);clear p;(try (go_wp2_with fail;go_call g as e w2 ⟨v2,rfl,B,F⟩;have⟨Y,W⟩:=aA (iI B d.size) (aK d F);clear g B F));go_wp2;go_ret2;first|(exact⟨_,by rw[q.zz];rfl,(λy=>by rw[q.zz]at y;cases y),d⟩)|(exact⟨_,by rw[q.zz];rfl,(λ_=>by rw[bW,O.zz];exact Y),W⟩)
 have q:=aH (show zV l j=4 from by
  unfold zV;rw[aP (by omega),bW,aV];rw[aY,kD (by omega)];rfl)
 have⟨M,z⟩:=fR l.length;rw[<-z]at p g C s|-;have i1:(M:Int)<=j:=(by omega);clear h u H o r E z f;go_in;go_wp2_with fail
 go_call p as e K ⟨rfl,d⟩;clear p;go_wp2;go_ret2;exact⟨_,by rw[q.zz];rfl,(λy=>by rw[q.zz]at y;cases y),d⟩
def bk7{k:Nat}(s:Row w n 33 X)(o:lS w m X C):Row (w.setCell (zp n k) zs) n 33 (X.set k zs)/\lS (w.setCell (zp n k) zs) m (X.set k zs) (C.set k []):=by
 have u:∀q,q≠n->(w.setCell (zp n k) zs).heap[q]?=w.heap[q]?:=λq d=>aU _ _ _ _ d;refine⟨s.set k _,⟨by simp[o.len],λj y M b e=>?_,λi j y z q p b l d h=>?_⟩⟩
 .by_cases a:k=j
  .subst a;have c:=(aQ.1 b).1;have r:=(aQ.1 e).1;simp only[mV]at c r;rw[gU c]at b;rw[gU r]at e;cases b;cases e;exact bM _ _ _ _
  rw[jP a]at b e;have g:=o.own j y M b e;refine eS g λq d=>u q (λt=>?_);have:=dD (dX g d) (t▸s);exact absurd this (by decide)
 by_cases f:k=i
 .subst f;have c:=(aQ.1 b).1;simp only[mV]at c;rw[gU c]at b;cases b;simp[Value.ownBlock]at d
 by_cases a:k=j
 .subst a;have c:=(aQ.1 l).1;simp only[mV]at c;rw[gU c]at l;cases l;simp[Value.ownBlock]at h
 rw[jP f]at b;rw[jP a]at l;exact o.apart i j y z q p b l d h
def lS.bW1(h:lS w n X C):lS w n (X++[.slice none 0 0]) (C++[[]]):=h.snoc (B:=w.heap.size) (bM _ _ _ _) h.lt (λb a=>by simp[Value.ownBlock]at a)
def bM1(h:lS w n X C):∀u∈X,u.oneCell'=true:=bd6 X λk x a=>by
 have b:=(aQ.1 a).1;obtain⟨A,c,rfl,-⟩:=Reads.cX (h.own k x _ a (aJ (by rw[<-h.len];exact b)));exact⟨_,_,_,rfl⟩
def aC8{b:Type}{a:List b}{x:b}(h:a=n):(a++[x])[n]?=x:=by rw[eF (by omega),h,iM];rfl
def az9{c:Type}{a:List c}{x:c}(h:a=n){b:n<(a++[x]).length}:(a++[x])[n]=x:=by have:=aC8 (x:=x) h;rw[aJ b]at this;exact cJ this
def be9(l:lS x k X C)(q:X=m)(a:y.ownsRow x 33 1 v (m+1) (X++[.slice none 0 0]))(b:x.grownBy y none)(d:aR n w x)(j:n<=x):∃g c,v=.slice (zp g) (m+1) c/\m+1<=c/\c<=maxLen/\x.heap.size<=g/\Row y g 33 (X++[.slice none 0 0])/\lS y k (X++[.slice none 0 0]) (C++[[]])/\aR n w y:=by
 rcases id a.2 with⟨f,u⟩|⟨g,e,r,f,h,-,o,i,-,-⟩
 .omega
 refine⟨g,e,f,o,i,h,dX a (by rw[f];simp[Value.ownBlock]),(l.eW λA t z s _=>b.block A s.lt (by simp)).bW1,⟨b.os.trans d.os,b.tape.trans d.tape,b.output.trans d.output,aM d.size b.size,λA p=>(b.block A (aW p j) (by simp)).trans (d.block A p)⟩⟩
def aY3(w:aI)(l:mX)(k n:Nat)(e:eY)(b:aI):Prop:=∃a,e=.returned (.tuple #[a,.int .i64 0])/\AN b w.heap.size a (mZ l k n)/\aR w.heap.size w b
def au9(l:mX):∃z:mX,l=iQ l++z/\∀a∈z,a=[]:=by
 induction l using CI with
 |h0=>exact⟨[],rfl,by simp⟩
 |h1 l a ih=>
  have e:iQ (l++[a])=if a.isEmpty=true then iQ l else l++[a]:=by unfold iQ;rw[zD];show((a::l.reverse).dropWhile List.isEmpty).reverse=_;rw[nO];split<;>simp
  rw[e];by_cases h:a.isEmpty=true
  .rw[aV h];have⟨z,h1,h2⟩:=ih;refine⟨z++[a],by rw[<-bT,<-h1],λb hb=>?_⟩;rcases cB.1 hb with hb|hb
   .exact h2 b hb
   rw[bP.1 hb];exact T5.1 h
  rw[aP h];exact⟨[],by simp,by simp⟩
def cq2(b:C.getD n []≠[]):n<(iQ C):=by
 have⟨z,c,d⟩:=au9 C;rcases cK n (iQ C) with h|h
 .exact h
 exfalso;apply b;rw[c,aY,eF h];cases e:z[n - (iQ C).length]? with
 |none=>rfl
 |some a=>exact d a (bC e)
def ZT(v:aN)(l:mX)(k n:Nat)(w:aI)(h:vA w v l)(hv:kR l=true)(hk:k<5)(hc:l.getD k []≠[])(hn:n<4294967296)(hz:n∉l.flatten)(x5:∀n∈l.flatten,n<4294967296):Calls prog 160 #[v,k,n] w (aY3 w l k n):=by
 have he:=hv;unfold kR at he;rw[bG]at he;obtain⟨xl,B,-⟩:=he;have hP:=VQ v l (k:Int) w h hv ⟨by omega,by omega⟩ x5;have x1:zV l (k:Int)=0:=(by unfold zV;rw[aP (by omega),bW,aP hc]);unfold af4 at hP;rw[x1]at hP;have hA:=λ(x:aI)(hx:aR w w x)=>tP v l x (h.next hx) (by omega) (by omega);have hs:=λ(x:aI)(hx:aR w w x)=>VP v l x (h.next hx) (by omega) (by omega);have U:=SJ hz;have hw:=cq2 hc;have x7:=CF l;have⟨F,hF⟩:=fR l.flatten;have⟨T,hT⟩:=fR F.length;rw[<-hF]at hA U;rw[<-hT]at hA;obtain⟨HT,h5,hm⟩:=aB hT (And.intro hw (And.intro x7 xl)) (show(iQ l).flatten.length<=40 from by rw[oA];first|exact B|(rw[<-hF];exact B));have n0:(0:Int)<=(n:Int):=(by omega);have⟨j0,xk,xn,xo,xp⟩:=info_parts AF;clear h x5 hz hv hF hT hc x1 B hw x7;go_in;go_wp2_with fail
 go_call hP as e w1 ⟨v1,rfl,-,H⟩;have hq:=hA w1 H;clear hP hA;go_wp2_with fail
 go_call hq as e w2 ⟨v2,rfl,Y,h8⟩;have hd:=Reads.cX Y;obtain⟨A2,c2,rfl,-⟩:=id hd;have ha:=xQ (F:=F) (by rw[<-HT.zz];exact hd) n;rw[U]at ha;have x8:=hs w2 (aK H h8);have hi:=aH (aK H h8);clear hq hs H h8 Y hd;go_wp2_with fail
 go_call ha as e w' ⟨rfl,rfl⟩;clear ha;go_wp2_with fail
 go_call x8 as e w3 ⟨v3,rfl,xm,ht⟩;have hl:=aH (aK hi ht);have xj:=hi.size;clear x8 ht;rcases xm with⟨h0,-⟩|⟨b,vs,rfl,xx,i,q⟩
 .have:=h5.zz.1;rw[h0]at this;simp at this
 have⟨O,hO⟩:=fR (iQ l);rw[<-hO]at q|-;have D:lS w3 w vs O:=⟨q.len,λk y M hy G=>iI (q.own k y M hy G) xj,q.apart⟩;have⟨M,G⟩:=fR O.length;rw[<-G];have xy:k<M:=(by have:=h5.zz.1;rw[<-hO]at this;omega);have xw:M<=5:=(by have:=h5.zz.2;rw[<-hO]at this;omega);have hf:vs.length=M:=(by rw[q.len,G]);have C:w<=b:=(by omega);have⟨r4,c⟩:=bk7 (k:=k) i D;obtain⟨x0,c0⟩:∃x0,w3.cell? (zp b k)=some x0:=⟨_,i.cell k (by omega)⟩;have f0:=i.frozen k (by omega);have h3:=aH (hl.setCell (p:=zp b k) C zs);have⟨I,hI⟩:=fR (min (k+1) 4);have xq:min ((k:Int)+1) 4=(I:Int):=(by omega);have xu:I<=4:=(by omega);have f:(vs.set k zs)=M:=(by simp[hf]);have d:(O.set k [])=M:=by simp[G]
 have t:mZ l k n=if M<=I then O.set k []++[[n]]else(O.set k []).set I ((O.set k []).getD I []++[n]):=by unfold mZ;rw[<-hO,<-hI,d]
 have x6:w.heap.size<=w3:=hl.size;have⟨w4,K⟩:=fR (w3.setCell (zp b k) zs);have z4:w4.heap.size=w3:=(by rw[K];simp);rw[<-K]at r4 c h3;by_cases hr:I<M
 .have hx:(vs.set k zs)[I]?=some ((vs.set k zs)[I]'(by omega)):=aJ (by omega);have hL:(O.set k [])[I]?=some ((O.set k [])[I]'(by omega)):=aJ (by omega);have J:=c.own I _ _ hx hL;obtain⟨Ax,cx,hh,-⟩:=id (Reads.cX J);have xv:((O.set k [])[I]'(by omega)).length<=1000:=by
   have xg:=hm.zz;rw[<-hO]at xg;rcases cp1 (dC (l:=O.set k []) (n:=I) (by rw[d];exact hr))with h9|h9
   .have:=LQ h9;omega
   rw[h9];simp
  rw[hh]at hx J;have hg:(O.set k []).getD I []=(O.set k [])[I]'(by omega):=(by rw[aY,hL];rfl);rw[hg,aP (by omega)]at t;generalize (O.set k [])[I]'(by omega)=L at *;have c9:=r4.cell I (by rw[f];exact hr);rw[show(vs.set k zs)[I]'(by omega)=.slice Ax L.length cx from by rw[<-hh]]at c9;have⟨xc,A,hp,HX,HL,h6⟩:=aE r4 c J hx hL t;have m:=(bR w4 w4).alloc dQ (.cells #[n] 3);have s:=aH m;have E:=Row.new w4 #[n] 3;have⟨h7,g,HH⟩:=aB E (And.intro G (And.intro f d)) (And.intro C x6);have xi:¬(M:Int)<=(I:Int):=(by omega);have xt:=aH z4;subst K;clear r4 c J hx hL t m E G f d hf i q D hO hg hh hI z4;go_wp2_with (at_builtin;refine bq8 nH underlying33 (bY hp s) (rd1 (by have:=h7.zz;simpa using this) rfl) rfl rfl rfl rfl rfl (by omega) (by have h1:=HH.zz.2;rw[bD];simp;omega) ?_;intro v6 w6 a o N;obtain⟨A6,c6,rfl,-⟩:=id (Reads.cX a);have⟨q1,q2,q3⟩:=NH (k:=I) (L:=L) (n:=n) xc A HX HL s o a N;have f1:=q1.frozen I (by rw[g.zz.2.1];omega);have c8:=q1.cell I (by rw[g.zz.2.1];omega);have Q:=aH (And.intro q2 q3);have z:=aH (nX (bY hp s) (aK h3 s) o (by have h1:=HH.zz.2;rw[bD];simp;omega));clear q1 q2 q3 a o N)
  try go_wp2
  go_ret2;refine⟨_,rfl,?_,z.setCell (p:=zp b I) HH.1 _⟩;rw[h6.zz];exact .inr ⟨b,_,M,by simp[g.zz.1],by simp[g.zz.1],by unfold maxLen;omega,HH.1,Q.1,Q.2⟩
 have xh:I=M:=(by omega);rw[aV (by omega)]at t;have⟨h6,g,HH⟩:=aB t (And.intro G (And.intro f d)) (And.intro C x6);have Z:Reads w4 (.slice (zp b) M M) 1 M (vs.set k zs):=⟨_,_,rfl,dQ,by unfold maxLen;omega,by rw[f];omega,λh0=>⟨b,0,rfl,r4.lt,λj hj=>by rw[jC];exact r4.cell j hj⟩⟩;have X:=bM1 c;have m:=(bR w4 w4).alloc dQ (.cells #[zs] 33);have E:=Row.new w4 #[zs] 33;have⟨xe,h7,s,ho,A⟩:=aD (Z.next m) E m X (c.next m);have xi:(M:Int)<=(I:Int):=(by omega);have xr:=aH xh;subst K;clear r4 c t m E G f d hf i q D hO hI z4 Z X;go_wp2_with (first
  |at_builtin;refine CA _ rfl _ _ 55 rfl 33 j0 zs 1 24 underlying55 xk xn xo xp rfl (zp b) M (vs.set k zs) rfl xe ho _ 1 [zs] rfl (rd1 (by have:=h7.zz;simpa using this) rfl) (by intro u hu;simp at hu;subst hu;rfl) (by unfold maxLen;omega) (by omega) ?_;intro v6 w6 x3 a o;obtain⟨g6,xf,rfl,R,S,V,r6,x9,b6⟩:=be9 A g.2.1 (a (by omega)) o (aK h3 s) (by have h1:=HH.zz.2;rw[bD];simp;omega);have c6:=r6.cell M (by simp[g.zz.2.1]);rw[az9 g.zz.2.1]at c6;have⟨xd,xb,z,h4,xs⟩:=aD r6 x9 b6 (And.intro R (And.intro S V)) o.size;clear x3 a o r6 x9 b6 R S V
  |at_builtin;refine bq8 nH underlying33 (bM _ w _ _) (rd1 (Row.new _ #[n] 3) rfl) rfl rfl rfl rfl rfl (by omega) (by have h1:=z.size;rw[bD];omega) ?_;intro v7 w7 r hb P;obtain⟨A7,c7,rfl,-⟩:=id (Reads.cX r);have⟨q1,q2,q3⟩:=NH (k:=M) (L:=[]) (n:=n) xd xb (aC8 g.2.1) (aC8 g.2.2) (iH.alloc dQ _) hb r P;have f7:=q1.frozen M (by simp[g.zz.2.1]);have c8:=q1.cell M (by simp[g.zz.2.1]);have⟨Q,xa⟩:=aA (And.intro q2 q3) (as7 z (iH.alloc dQ _) hb z.size);clear q1 q2 q3 r hb P)
 try go_wp2
 go_ret2;have W:w<=g6:=(by have h1:=h4.zz.2.2;have h2:=HH.zz.2;rw[bD]at h1;simp at h1;omega);refine⟨_,rfl,?_,xa.setCell (p:=zp g6 M) W _⟩;rw[h6.zz];have x4:(O.set k []++[[]]).set M ([]++[n])=O.set k []++[[n]]:=by rw[kC _ _ (by rw[g.zz.2.2];exact cV _),g.zz.2.2,iM];rfl
 have x2:=Q.zz.2;rw[x4]at x2;exact .inr ⟨g6,_,xf,by simp[g.zz.2.2,g.zz.1],by simp[<-g.zz.1];exact h4.1,h4.2.1,W,Q.1,x2⟩
def mN(m:jD)(a:aN):List aN:=[.int .i64 (m.next:Nat),.int .i64 (m.check:Nat),.int .u64 (m.aX:Nat),a]
def ak2(w:aI)(v:aN)(m:jD):Prop:=∃a,v=.agg (mN m a).toArray/\vA w a m.fP
def ak2.next{w:aI}{v:aN}{M:jD}(h:ak2 w v M)(c:aR w w x):ak2 x v M:=by have⟨d,a,b⟩:=h;exact⟨d,a,b.next c⟩
structure DA(m:jD):Prop where
 next:m.next<4294967296
 check:m.check<4294967296
 aX:m.aX<18446744073709551616
 len:m.fP.length<=1000
 flat:m.fP.flatten.length<=100000
 cP8:∀n∈m.fP.flatten,n<4294967296
def cE3{w:aI}(n k B:Nat)(c:w.cell? (zp B)=k):Calls prog 242 #[n,zp B] w λe b=>e=(decide (k<=n))/\w=b:=by
 go_in;by_cases h:k<=n
 .have a:(k:Int)<=n:=(by omega);go_wp2;go_ret;simp[h]
 have a:¬(k:Int)<=n:=(by omega);go_wp2;go_ret;simp
def sP{x:Nat}(h:M[n]?=x)(b:n<(fJ M)):(fJ M)[n]=x:=by obtain⟨a,rfl⟩:=aQ.1 h;simp[fJ,EM]
def aE5(w:aI)(b:Bool)(e:eY)(a:aI):Prop:=(∃i:Int,e=.returned (.int .i64 i)/\(0<=i↔b=true)/\-1<=i/\i<=1000000)/\w=a
def bl8(h:Reads w v 1 M (fJ M))(Q:M.length<=100000)(k B:Nat)(I:w.cell? (zp B)=k):Calls prog 284 #[v,.func (.func 242) #[] #[zp B]] w (aE5 w (M.any λn=>decide (k<=n))):=by
 unfold aE5;obtain⟨A,c,rfl,C,P,-⟩:=id h;have o:=λO=>Reads.UK h O;have z:=λn=>cE3 (w:=w) n k B I;have⟨n,E⟩:=fR M.length;rw[<-E]at Q C o|-;have⟨G,t,l⟩:=aB E o (λ(j x:Nat)(f:M[j]?=x)(p:k<=x)=>(bs1.2 ⟨x,bC f,bZ p⟩:(M.any λn=>decide (k<=n))=true));have d:=aH (λ(q:∀(j x:Nat),M[j]?=x->¬k<=x)=>(show(M.any λn=>decide (k<=n))=false from by
  rw[List.any_eq_false];intro x f;obtain⟨j,K,rfl⟩:=fH f;simpa using q j _ (aJ K)))
 have⟨R,J⟩:=fR (M.any λn=>decide (k<=n));rw[<-J]at l d|-;have U:∀g w,(callFunc 242 g).run prog w=.ok (.enter 242 g) w:=λ_ _=>(by kernel_rfl);clear h E o J I;go_in;go_wp2_with fail
 go_loopw [5,8] (λ_ i wr=>∃j:Nat,j<=n/\i=.int .i64 j/\wr=w/\∀i x:Nat,i<j->M[i]?=x->¬k<=x) (λ_ i _=>n-(intOf i).toNat)
 .exact⟨0,bK _,rfl,rfl,λi x h=>by omega⟩
 obtain⟨j,K,rfl,rfl,r⟩:=hrel;by_cases D:j<n
 .have S:(j:Int)<n:=(by omega);obtain⟨b,T,rfl,-,-,m,a⟩:=t (by omega);obtain⟨x,f⟩:∃x,M[j]?=some x:=⟨_,aJ (by have:=G.zz;omega)⟩;have N:=a wr iH j (by rw[m];exact D);rw[sP f]at N;have s:=z x;have⟨L,H⟩:=aA r f;clear r f a m z;by_cases p:k<=x
  iterate 2
   .first|rw[bZ p]at s;have u:=aH (l j x H p)|rw[bN p]at s
    (go_wp2_with fail);go_call s as e W ⟨rfl,rfl⟩;clear s;go_wp2
    first
     |go_ret
      exact⟨⟨j,rfl,⟨λ_=>u,λ_=>by omega⟩,by omega,by omega⟩,rfl⟩
     |go_roundw
      .
       refine⟨j+1,by omega,by go_num,trivial,λi y V F=>?_⟩;rcases cK i j with q|q
       .exact L i y q F
       obtain rfl:i=j:=(by omega);rw[H.zz]at F;cases F;exact p
      simp[intOf];omega
 obtain rfl:j=n:=(by omega);have S:¬(j:Int)<j:=(by omega);have u:=aH (d (λi x f=>r i x (by have:=(aQ.1 f).1;have:=G.zz;omega) f));clear r z;go_wp2;go_ret;exact⟨⟨-1,rfl,⟨λh=>by omega,λh=>by rw[u.zz]at h;cases h⟩,by omega,by omega⟩,rfl⟩
def aj5(h:Reads w v 1 M (fJ M))(l:M.length<=100000)(k B:Nat)(d:w.cell? (zp B)=k):Calls prog 241 #[v,.func (.func 242) #[] #[zp B]] w λe m=>e=(M.any λn=>decide (k<=n):Bool)/\w=m:=by
 have b:=bl8 h l k B d;unfold aE5 at b;obtain⟨A,c,rfl,-⟩:=id h;generalize (M.any λn=>decide (k<=n))=R at b|-;clear h d;go_in;go_wp2_with fail
 go_call b as e o ⟨⟨i,rfl,a,g,j⟩,rfl⟩;cases R with
 |true=>have f:(0:Int)<=i:=a.2 rfl;clear b a;go_wp2;go_ret;simp
 |false=>have f:¬(0:Int)<=i:=λh=>(by have:=a.1 h;cases this);clear b a;go_wp2;go_ret;simp;omega
def aN5{M:jD}(h:1000000<M.next):wU M=false:=by unfold wU;rw[bN (by omega)];rfl
def ao3{M:jD}(h:2147483647<M.check):wU M=false:=by unfold wU;rw[bN (by omega)];rfl
def bv2{M:jD}(h:kR M.fP=false):wU M=false:=by unfold wU;rw[h];simp
def bv1{M:jD}(b:M.next<=1000000)(c:M.check<=2147483647)(d:kR M.fP=true):wU M=!(M.fP.flatten.any λn=>decide (M.next<=n)):=by
 unfold wU;rw[bZ ⟨b,c⟩,d,fQ,fQ,iX];simp only[dN,bG,OO,List.any_eq_false];constructor
 .intro h x a;have:=h x a;omega
 intro h x a;have:=h x a;omega
def AW(v:aN)(m:jD)(w:aI)(h:ak2 w v m)(l:DA m):Calls prog 179 #[v] w λe Y=>e=(wU m)/\aR w w Y:=by
 obtain⟨C,rfl,k⟩:=h;have B:=λ(x:aI)(G:aR w w x)=>IW C m.fP x (k.next G) l.len l.flat l.cP8;have z:=λ(x:aI)(G:aR w w x)=>tP C m.fP x (k.next G) l.len l.flat;have F:=l.flat;obtain⟨T,U,V,-,-,-⟩:=l;have o:=tR w (.cells (mN m C).toArray 57);have d:=aH o;have p:=@aN5 m;have q:=@ao3 m;have r:=@bv2 m;have s:=@bv1 m;have⟨g,u,M,H⟩:=m;simp only[mN]at *;have⟨R,L⟩:=fR (wU ⟨g,u,M,H⟩);rw[<-L]at p q r s|-;clear L k;have n0:¬(g:Int)<0:=(by omega);have n1:¬(u:Int)<0:=(by omega);by_cases J:g<=1000000
 .have W:decide ((1000000:Int)<(g:Int))=false:=bN (by omega);by_cases K:u<=2147483647
  .have X:decide ((2147483647:Int)<(u:Int))=false:=bN (by omega);have c:=B _ o;cases t:kR H with
   |false=>
    have E:=aH (r t);rw[t]at c;clear p q r s z B t o;go_in;(go_wp2_with fail);go_call c as e O ⟨rfl,a⟩;go_wp2;go_ret;exact⟨by rw[E.zz];rfl,cU d a dQ⟩
   |true=>
    have E:=aH (s J K t);rw[t]at c;have P:=aH z;clear p q r s z B t o;go_in;(go_wp2_with fail);go_call c as e O ⟨rfl,a⟩;have b:=cU d a dQ;have A:=P O b;have I:=(Row.new w #[g,u,zu M,C] 57).next a;have Z:=I.JF;have⟨S,Q,y⟩:=aB I a b;clear I;clear c a b;(go_wp2_with fail);go_call A as e w3 ⟨v3,rfl,f,i⟩;have N:=S.next i;have j:=aj5 (Reads.cX f) F g w (N.lO);rw[show(H.flatten.any λn=>decide (g<=n))=!R from by rw[E.zz];simp]at j;have D:=aH i;clear A f i N;(go_wp2_with fail);go_call j as e w4 ⟨rfl,rfl⟩;clear j;go_wp2;go_ret;exact⟨by simp,cU y D dQ⟩
  have X:decide ((2147483647:Int)<(u:Int))=true:=bZ (by omega);have E:=aH (q (by simpa using K));clear p q r s z B o;go_in;go_wp2;go_ret;exact⟨by rw[E.zz];rfl,d⟩
 have W:decide ((1000000:Int)<(g:Int))=true:=bZ (by omega);have E:=aH (p (by simpa using J));clear p q r s z B o;go_in;go_wp2;go_ret;exact⟨by rw[E.zz];rfl,d⟩
def vA.take{w:aI}{A:Option Addr}{m n k:Nat}(h:vA w (.slice A n m) C)(e:k<=n):vA w (.slice A k m) (C.take k):=by
 obtain⟨u,g,⟨v,y,q,z,l,B,o⟩,p⟩:=h;obtain⟨rfl,rfl,rfl⟩:=eJ q;refine⟨u.take k,by simp[g],⟨A,m,?_,?_,l,by simp[g],λi=>?_⟩,λj x L a c=>?_⟩
 .rw[b8,fX e]
 .rw[b8,fX e];omega
 .rw[b8,fX e]at i;have⟨b,f,r,s,t⟩:=o (by omega);refine⟨b,f,r,s,λj d=>?_⟩;rw[b8]at d;rw[t j (by omega),sJ]
 rw[List.getElem?_take]at a c;split at a
 .rename_i d;rw[aV d]at c;exact p j x L a c
 cases a
def vA.at_(h:vA w v C)(s:C.flatten.length<=100000):∀(j:Nat),j<C->∃A c L x b a,v=.slice A C c/\C[j]?=some L/\A=some ⟨b,a,none⟩/\L.length<=100000/\(∀wr,aR w w wr->Reads wr x 1 L (fJ L)/\wr.cell? (zp b (a+j))=x):=λj p=>by
 have⟨l,q,f,g⟩:=h;obtain⟨A,c,rfl,n,o,-⟩:=id f;obtain⟨b,a,m,-,-,-,d⟩:=f.UK (by omega);have r:l[j]?=some (l[j]'(by omega)):=aJ (by omega);have i:C[j]?=some C[j]:=aJ p;refine⟨A,c,_,_,b,a,rfl,i,m,?_,λwr k=>⟨(g j _ _ r i).next k,?_⟩⟩
 .have e:C=C.take j++C[j]::C.drop (j+1):=by rw[gT,bX]
  have:=gQ (λz=>z.flatten.length) e;simp only[iO,iA,aO]at this;omega
 exact d wr k j (by omega)
def I5(w:aI)(l:mX)(e:eY)(b:aI):Prop:=(∃a,e=.returned a/\vA w a (iQ l))/\w=b
def ZO(v:aN)(l:mX)(w:aI)(h:vA w v l)(P:l.length<=1000)(G:l.flatten.length<=100000):Calls prog 296 #[v] w (I5 w l):=by
 unfold I5;obtain⟨A,c,rfl,e,f⟩:∃A c,v=.slice A l c/\l.length<=c/\c<=maxLen:=by
  obtain⟨vs,Q,⟨A,c,rfl,e,f,-⟩,O⟩:=h;exact⟨A,c,rfl,e,f⟩
 have d:=h.at_ G;have g:=λk B=>h.take (k:=k) B;have r:=λn=>@II l n;have⟨n,C⟩:=fR l.length;rw[<-C]at e P d g|-;unfold maxLen at f;have⟨E,z,o,p⟩:=aC C d g r;clear h G d g r C;go_in;go_wp2_with fail
 go_loopw [0] (λx wr=>∃k:Nat,k<=n/\x=.slice A k c/\wr=w/\∀i L,k<=i->l[i]?=some L->L=[]) (λx _=>match x with|.slice _ k _=>k|_=>0)
 .exact⟨n,dQ,rfl,rfl,λi L N u=>by have:=(aQ.1 u).1;have:=E.zz;omega⟩
 obtain⟨k,B,rfl,rfl,y⟩:=hrel;rcases dP k with F|F
 .subst F;have s:=aH y;clear y;go_wp2;go_ret;exact⟨⟨_,rfl,by rw[p.zz 0 (bK _) s.zz (λL h=>absurd rfl h)];exact o 0 (bK _)⟩,rfl⟩
 obtain⟨j,rfl⟩:∃j,k=j+1:=⟨k - 1,by omega⟩;have Y:(0:Int)<((j+1:Nat):Int):=(by omega);have Z:((j+1:Nat):Int)-1=(j:Int):=(by omega);have⟨T,V,L,x,b,S,I,u,J,K,q⟩:=z j (by omega);obtain⟨rfl,-,rfl⟩:=eJ I;subst J;have⟨H,W⟩:=q wr iH;obtain⟨U,X,rfl,-⟩:=id H;have⟨s,D⟩:=aA y u;clear y q H I u;by_cases a:L.length=0
 .have R:((L:Int)==0)=true:=(by rw[gH];omega);have hE:=aH (eG.1 a);go_wp2;go_roundw
  .
   refine⟨j,by omega,rfl,trivial,λi M N m=>?_⟩;rcases cK j i with t|t
   .exact s i M t m
   obtain rfl:i=j:=(by omega);rw[D.zz]at m;cases m;exact hE
  simp
 have R:((L:Int)==0)=false:=(by rw[DN,ne_eq,gH];omega);go_wp2;go_ret;refine⟨⟨_,rfl,?_⟩,rfl⟩;rw[p.zz (j+1) (by have:=E.zz;omega) s.zz (λM _ m=>by rw[aE0,D.zz]at m;cases m;intro t;rw[t]at a;exact a rfl)];exact o (j+1) B
def bI4(n k:Nat)(w:aI)(f:n<18446744073709551616)(b:1<=k)(d:k<=8):Calls prog 138 #[zu n,k] w λe a=>e=(bs (be k n))/\aR w w a:=by have c:=tM n k w (by omega) (by omega);have e:qY n k=be k n:=(by unfold qY;rw[aP (by omega)];rfl);rwa[bW,e]at c
def by5(L:List Nat):(L.flatMap (be 4)).length=4*L:=by
 induction L with
 |nil=>rfl
 |cons x a b=>rw[eN,aO,b,cE,lF];omega
def ce8(L:List Nat):(uE L).length=L*4+1:=by unfold uE;rw[cE,by5];omega
def ce9(l:mX):(l.flatMap uE).length=l+4*l.flatten:=by
 induction l with
 |nil=>rfl
 |cons a l b=>
  have:(a.flatMap (be 4)).length=4*a:=by
   induction a with
   |nil=>rfl
   |cons x a b=>rw[eN,aO,b];simp;omega
  rw[eN,aO,b,cE,iA,aO];unfold uE;rw[cE,this];omega
def bL2(l:mX)(j:Nat):((l.take j).flatMap uE).length<=(l.flatMap uE):=by
 conv=>rhs;rw[<-bX j l,eB,aO]
 omega
def cC7{f fV fT fN fS:FuncId}(hf:(∃_:Fin 1,(f,fV,fT,fN,fS)=(273,179,296,138,202))\/∃_:Fin 2,(f,fV,fT,fN,fS)=(88,132,133,105,131))(v:aN)(m:jD)(w:aI)(h:ak2 w v m)(hs:DA m) (hV:∀x,aR w w x->Calls prog fV #[v] x λe w'=>e=(wU m)/\aR x x w') (hT:∀lv x,vA x lv m.fP->Calls prog fT #[lv] x (I5 x m.fP)) (hN:∀(n k:Nat) x,n<18446744073709551616->1<=k->k<=8->Calls prog fN #[zu n,k] x λe w'=>e=(bs (be k n))/\aR x x w') (r:∀L x,(bs L).size<=1000->Calls prog fS #[bs L] x λe w'=>e=(bs (kU L))/\aR x x w') :Calls prog f #[v] w λe w'=>e=.returned (.tuple #[.string (if wU m then bs (iS m)else⟨#[]⟩),(if wU m then 0 else 2:Int)])/\aR w w w':=by
 rcases hf with⟨M,hf⟩|⟨M,hf⟩
 all_goals
  cases hf;obtain⟨lv,rfl,h5⟩:=h;have hT:=λ(x:aI)(hx:aR w w x)=>hT lv x (h5.next hx);have b0:=tR w (.cells (mN m lv).toArray 57);have r0:=Row.new w (mN m lv).toArray 57;have⟨ha,x4⟩:=aA b0 r0;have p:=hV _ b0;have ho:=aH hT;by_cases G:wU m=true
  .rw[G]at p|-;obtain⟨⟨o1,o2⟩,⟨o3,o4,o5⟩,o6⟩:=mM.1 G;have h4:=CF m.fP;have Z:=oA m.fP;have h2:=ce9 (iQ m.fP);have h3:=bL2 (iQ m.fP);have O:iS m=kU (X6 m):=rfl;have P:X6 m=([105,109,97,112]++be 4 m.next++be 4 m.check++be 8 m.aX++be 1 (iQ m.fP))++(iQ m.fP).flatMap uE:=by
    unfold X6;congr 2;rw[show be 1 (iQ m.fP).length=[UInt8.ofNat ((iQ m.fP))]from by simp[be,ofNat_mod]]
   have xf:=hs.aX;rw[O,P];have hp:(iQ m.fP).flatten.length<=40:=(by rw[Z];exact o4);have a:∀n∈(iQ m.fP).flatten,n<4294967296:=(by rw[Z];intro n hn;have:=o6 n hn;omega);have⟨mn,mc,ms,ml⟩:=m;simp only[mN]at *;have⟨l,hl⟩:=fR (iQ ml);rw[<-hl]at h4 hp a h2 h3|-;have hd:=aH hl;have⟨n,hn⟩:=fR l.length;rw[<-hn]at h4 h2|-;have⟨HN,he⟩:=aA hn a;have xo:n<=5:=(by omega);have ht:(l.flatMap uE).length<=165:=(by omega);have⟨T,x6,g⟩:=aB (λj=>aM (h3 j) ht) r hN;clear hN r hV hs hT h5 G o3 o4 o5 o6 Z h2 O P hl hn a b0 r0 h4 h3;have u1:IntKind.u64.wrap (mn:Int)=(mn:Int):=(by rw[eE];omega);have u2:IntKind.u64.wrap (mc:Int)=(mc:Int):=(by rw[eE];omega);have u3:IntKind.u64.wrap (n:Int)=(n:Int):=(by rw[eE];omega);have P1:=λw=>g mn 4 w (by omega) (by omega) (by omega);have P2:=λw=>g mc 4 w (by omega) (by omega) (by omega);have P3:=λw=>g ms 8 w xf (by omega) (by omega);have P4:=λw=>g n 1 w (by omega) (by omega) (by omega)
   first
    |(have:=(M:Fin 1);go_in)
    |go_in
   (go_wp2_with fail);go_call p as e Q ⟨rfl,o⟩;have r1:=x4.next o;have c3:=r1.JF;have z:=cU ha o dQ;have I:=ho _ z;have⟨J,U⟩:=aA z r1;clear p o r1 z;unfold I5 at I;rw[<-hd.zz]at I;(go_wp2_with fail);go_call I as e w2 ⟨⟨v2,rfl,h8⟩,rfl⟩;obtain⟨A,c,rfl⟩:∃A c,v2=.slice A n c:=by
    obtain⟨vs,xp,⟨A,c,rfl,-⟩,xn⟩:=h8;exact⟨A,c,by rw[HN.zz]⟩
   have W:=h8.at_ (by omega);rw[<-HN.zz]at W;have hz:=aH W;have z0:∀x:dR Q,x.it.cell? (zp w)=some mn:=λx=>(U.next x.ok).lO;have z1:∀x:dR Q,x.it.cell? (zp w 1)=some mc:=λx=>(U.next x.ok).qD;have z2:∀x:dR Q,x.it.cell? (zp w 2)=some (.int .u64 ms):=λx=>(U.next x.ok).tW;clear h8 W I c3;(go_wp2_with fail);refine cI (by kernel_rfl) (by kernel_rfl) ?_;(repeat go_big_quiet_step (first|(with_reducible exact eL _ (P1 _))|(with_reducible exact eL _ (P2 _))|(with_reducible exact eL _ (P3 _))|(with_reducible exact eL _ (P4 _))));refine wpQuiet_nil ?_;intro _ hx;obtain⟨⟨w3,X⟩,rfl⟩:=hx;rename_i w3;have xi:=aH (cU J X dQ);have⟨H,hH⟩:=fR ([105,109,97,112]++be 4 mn++be 4 mc++be 8 ms++be 1 n);have xm:H.length<=21:=by rw[hH];simp
   have hi:((⟨#[105,109,97,112]⟩:aS)++bs (be 4 mn)++bs (be 4 mc)++bs (be 8 ms)++bs (be 1 n))=bs H:=by rw[hH,show(⟨#[105,109,97,112]⟩:aS)=bs [105,109,97,112]from rfl];simp only[jX]
   rw[hi];have⟨HH,x1⟩:=aA hH X;clear hH hi z0 z1 z2 P1 P2 P3 P4 X hd;go_wp2_with fail
   first
    |(go_loopw [5,7,9,37] (λs _ _ i wr=>∃j:Nat,j<=n/\i=.int .i64 j/\s=.string (bs (H++(l.take j).flatMap uE))/\aR Q Q wr) (λ_ _ _ i _=>n-(intOf i).toNat))
    |go_loopw [5,6,7] (λs i _ wr=>∃j:Nat,j<=n/\i=.int .i64 j/\s=.string (bs (H++(l.take j).flatMap uE))/\aR Q Q wr) (λ_ i _ _=>n-(intOf i).toNat)
   .exact⟨0,bK _,rfl,by simp,x1⟩
   obtain⟨j,hj,rfl,rfl,D⟩:=hrel;by_cases xc:j<n
   .have i1:(j:Int)<n:=(by omega);have⟨A',c',L,x,b,xs,hv,hL,hA,x9,h6⟩:=hz j xc;obtain⟨rfl,-,rfl⟩:=eJ hv;subst hA;have⟨hr,c1⟩:=h6 wr D;obtain⟨Ax,cx,rfl,xg,xq,-⟩:=id hr;have u:=λh0=>Reads.UK hr h0;have xe:=T (j+1);have h1:=T j;have h7:(l.take (j+1)).flatMap uE=(l.take j).flatMap uE++uE L:=by rw[dL,hL];simp
    have F:∀y∈L,y<4294967296:=λy hy=>he y (tS.2 ⟨L,bC hL,hy⟩);have⟨S,r⟩:=fR (H++(l.take j).flatMap uE);have xb:S.length<=186:=(by rw[r,aO];omega);rw[<-r];have x7:=aH (show H++(l.take (j+1)).flatMap uE=S++uE L from by rw[h7,r,bT]);have V:L.length<=41:=by have:=gQ List.length h7;rw[aO]at this;have h9:=ce8 L;omega
    have⟨q,hq⟩:=fR L.length;rw[<-hq]at x9 V xg u c1;have⟨HQ,hw,t,hg,x3⟩:=aD hq u D h6 F;have P5:=λw=>g q 1 w (by omega) (by omega) (by omega);have u4:IntKind.u64.wrap (q:Int)=(q:Int):=(by rw[eE];omega);clear h7 r xe h1 hL h6 hr hv D u hq F;(go_wp2_with fail);go_call P5 _ as e w4 ⟨rfl,Y⟩;obtain⟨x5,hh⟩:=aA (show bs S++bs (be 1 q)=bs (S++be 1 q)from(jX _ _).symm) (show(S++be 1 q).length<=187 from by rw[aO,lF];omega);have x2:=aH (show S++uE L=(S++be 1 q)++L.flatMap (be 4)from by
     unfold uE;rw[bT,<-HQ.zz,show be 1 q=[UInt8.ofNat q]from by simp[be,ofNat_mod]];rfl)
    have⟨xl,hb⟩:=aA (cU t Y dQ) Y;clear Y P5 c1;have xh:(be 1 q).length=1:=lF _ _;(go_wp2_with fail);obtain⟨wo,rfl⟩:=fR wr
    first
     |(go_loopw [5,9,49] (λs _ i wi=>∃k:Nat,k<=q/\i=.int .i64 k/\s=.string (bs ((S++be 1 q)++(L.take k).flatMap (be 4)))/\aR wo wo wi) (λ_ _ i _=>q-(intOf i).toNat))
     |go_loopw [5,7] (λs i wi=>∃k:Nat,k<=q/\i=.int .i64 k/\s=.string (bs ((S++be 1 q)++(L.take k).flatMap (be 4)))/\aR wo wo wi) (λ_ i _=>q-(intOf i).toNat)
    .exact⟨0,bK _,rfl,by rw[x5.zz];simp,hb⟩
    obtain⟨k,hk,rfl,rfl,C⟩:=hrel;have hc:=aH C;have x8:=(hg wr (aK t C)).2;rw[show L.length=q from HQ.zz.symm]at x8;by_cases xd:k<q
    .have i2:(k:Int)<q:=(by omega);obtain⟨b2,xk,rfl,-,-,E,d⟩:=hw (by omega);obtain⟨y,hy⟩:∃y,L[k]?=some y:=⟨_,aJ (by have:=HQ.zz;omega)⟩;have c2:=d wr C k (by rw[E];exact xd);rw[sP hy]at c2;have xr:=x3 y (bC hy);have u5:IntKind.u64.wrap (y:Int)=(y:Int):=(by rw[eE];omega);have P6:=λw=>g y 4 w (by omega) (by omega) (by omega);have xa:(S++be 1 q++(L.take k).flatMap (be 4)).length<=400:=(by rw[aO,by5,b8];have:=hh.zz;omega);have K:=aH (show S++be 1 q++(L.take (k+1)).flatMap (be 4)=(S++be 1 q++(L.take k).flatMap (be 4))++be 4 y from by rw[dL,hy];simp);have⟨S2,hm⟩:=fR (S++be 1 q++(L.take k).flatMap (be 4));rw[<-hm]at xa K|-;clear hm d E hy C;have xj:(be 4 y).length=4:=lF _ _;(go_wp2_with fail);go_call P6 _ as e w6 ⟨rfl,B⟩;have R:=aH (cU hc B dQ);clear B P6;go_wp2;go_roundw
     .exact⟨k+1,by omega,by go_num,by rw[K.zz,jX],R⟩
     simp[intOf];omega
    obtain rfl:k=q:=(by omega);have i2:¬(k:Int)<k:=(by omega);have HE:=aH (show S++be 1 k++(L.take k).flatMap (be 4)=S++uE L from by rw[x2.zz,aT (by have:=HQ.zz;omega)]);clear C;go_wp2;go_roundw
    .exact⟨j+1,by omega,by go_num,by rw[HE.zz,x7.zz],cU t hc dQ⟩
    simp[intOf];omega
   obtain rfl:j=n:=(by omega);have i1:¬(j:Int)<j:=(by omega);have HE:=aH (show(l.take j)=l from aT (by have:=HN.zz;omega));have h1:=T j;have⟨S,r⟩:=fR (H++(l.take j).flatMap uE);have xb:S.length<=186:=(by rw[r,aO];omega);rw[<-r];have HS:=aH r;have hu:=λw=>x6 S w (by rw[eO];omega);have t:=aH D;clear r h1 D;(go_wp2_with fail);go_call hu _ as e w6 ⟨rfl,B⟩;have R:=aH (cU (cU J t dQ) B dQ);clear B hu;go_wp2;go_ret2;refine⟨?_,R⟩;rw[HS.zz,HE.zz,HH.zz];rfl
  have N:wU m=false:=(by simpa using G);rw[N]at p|-;unfold mN at *;clear hV hs hT ho h5 G N b0 r0
  first
   |(have:=(M:Fin 1);go_in)
   |go_in
  go_wp2_with fail
  go_call p as e Q ⟨rfl,o⟩;have x0:=aH (cU ha o dQ);clear p o;go_wp2;go_ret2;exact⟨rfl,x0⟩
def OC(v:aN)(m:jD)(w:aI)(h:ak2 w v m)(a:DA m):Calls prog 273 #[v] w λe f=>e=.returned (.tuple #[.string (if wU m then bs (iS m)else⟨#[]⟩),(if wU m then 0 else 2:Int)])/\aR w w f:=cC7 (.inl ⟨0,rfl⟩) v m w h a (λx c=>AW v m x (h.next c) a) (λd x b=>ZO d m.fP x b a.len a.flat) bI4 (λL x h=>by have:=C2 (bs L) x (by omega);rwa [gP]at this)
variable{r:XD}
def KE(w:aI)(g:Nat)(r:XD):Prop:=∃s:aS,lb s=r.1/\s.size<=1048576/\Row w g 324 [.string s,.bool r.2]
def KE.next{w:aI}{g:Nat}(h:KE w g r)(d:aR w w x):KE x g r:=by have⟨s,a,b,c⟩:=h;exact⟨s,a,b,c.next d⟩
def aY0(w:aI)(g n:Nat)(r:XD)(e:eY)(a:aI):Prop:=e=.returned (.int .u64 ((mY n r).1:Nat))/\KE a g (mY n r).2/\w.grownBy a (some g)
def aK1(h:KE w n r)(E:Nat)(p:E<=8):Calls prog 283 #[zp n,E] w (aY0 w n E r):=by
 unfold aY0;have⟨s,j,y,b⟩:=h;have⟨C,B⟩:=r;simp only at j b;subst j;have t:=b.lO;have u:=b.qD;have v:=b.NV;have x:=b.JE;have z:=b.lt;unfold mY;rw[bI];by_cases c:s.size<E
 .have q:(s.size:Int)<E:=(by omega);rw[aV c];have G:=aH ((jI w ⟨n,0,none⟩ (.string ⟨#[]⟩)).trans (jI (w.setCell ⟨n,0,none⟩ (.string ⟨#[]⟩)) ⟨n,1,none⟩ (.bool false)));have f:KE ((w.setCell ⟨n,0,none⟩ (.string ⟨#[]⟩)).setCell ⟨n,1,none⟩ (.bool false)) n ([],false):=⟨⟨#[]⟩,rfl,by decide,(b.set 0 (.string ⟨#[]⟩)).set 1 (.bool false)⟩;have d:=aH f;clear b f;go_in;go_wp2;go_ret;exact⟨rfl,d,G⟩
 have q:¬(s.size:Int)<E:=(by omega);have A:(E:Int)<=s.size:=(by omega);rw[aP c];have a:=λw=>xG (s.extract 0 E) w (by rw[lZ];unfold maxLen;omega);have g:pF (lb (s.extract 0 E))=num ((lb s).take E):=by rw[dY,gP];unfold pF;rw[mQ,l5,uN,xW p]
 have i:lb (s.extract E s.size)=(lb s).drop E:=by rw[dY,gP,aT (by rw[eK,bI];omega)]
 rw[g]at a;have k:(s.extract E s.size).size<=1048576:=(by rw[lZ];omega);have⟨m,l,o⟩:=aB b i k;clear b g i k;go_in;go_wp2_with fail
 go_call a _ as e D ⟨rfl,rfl⟩;clear a;go_wp2;go_ret;exact⟨rfl,⟨_,l,o,m.set 0 _⟩,jI _ _ _⟩
end Go.Proofs.YtpopikndggffaaaGreatDoor
