/- TOP, part 11. -/
import Derived.Test.YtpopikndggffaaaGreatDoorGt9
namespace Go.Proofs.YtpopikndggffaaaGreatDoor
set_option linter.all false
set_option maxRecDepth 100000
set_option maxHeartbeats 16000000
open Go.RowKit Tryz
variable{P:List (List dB)}{M:List Nat}{L:List dB}{i k m n:Nat}{w:aI}{T:cC}{e o z:dB}
def EJ(b:List (List dB))(c:List Nat):List (List dB):=List.zipWith (fun l a=>l.drop a) b c
def ZV(a:P[k]?=L)(b:M[k]?=n):(EJ P M)[k]?=some (L.drop n):=by unfold EJ;rw[cK4,a,b]
def ZU(h:M.length=P):(EJ P M).length=P:=by unfold EJ;rw[cP2,h,cJ5]
def bL3(a:List (List dB)):EJ a (List.replicate a 0)=a:=by
 unfold EJ;induction a with
 |nil=>rfl
 |cons l a b=>rw[cE,List.replicate_succ,List.zipWith_cons_cons,b];simp
def oM(a:List (List dB))(b:List Nat)(k:Nat):Option dB:=((EJ a b).take k).foldl JN none
def XO(a:P[k]?=L)(b:M[k]?=n):oM P M (k+1)=JN (oM P M k) (L.drop n):=by unfold oM;rw[dL,ZV a b,mH];rfl
def cG1(h:M.length=P):oM P M P=yO (EJ P M):=by unfold oM yO;rw[aT (by rw[ZU h];exact cV _)]
def QL(c:List (List dB))(d:List Nat)(k:Nat)(i:Int):Prop:=(i=-1/\oM c d k=none)\/∃(b:Nat)(l:List dB)(a:Nat)(e:dB),b<k/\i=(b:Int)/\c[b]?=some l/\d[b]?=some a/\l[a]?=some e/\oM c d k=some e
def bQ6(a:List (List dB))(b:List Nat):QL a b 0 (-1):=.inl ⟨rfl,rfl⟩
def bQ7{e:Int}(h:QL P M k e)(i:P[k]?=L)(j:M[k]?=n)(l:L<=n):QL P M (k+1) e:=by
 have m:L.drop n=[]:=iR l;have a:oM P M (k+1)=oM P M k:=(by rw[XO i j,m];rfl);rcases h with⟨rfl,h⟩|⟨b,o,c,q,p,rfl,d,f,g,h⟩
 .exact .inl ⟨rfl,a.trans h⟩
 exact .inr ⟨b,o,c,q,by omega,rfl,d,f,g,a.trans h⟩
def bq1(h:oM P M k=none)(a:P[k]?=L)(b:M[k]?=n)(c:L[n]?=o):QL P M (k+1) k:=by
 have d:oM P M (k+1)=some o:=by rw[XO a b,h];unfold JN;rw[bS4,c]
 exact .inr ⟨k,L,n,o,by omega,rfl,a,b,c,d⟩
def bQ9(h:oM P M k=z)(a:P[k]?=L)(b:M[k]?=n)(c:L[n]?=o)(d:iB o z=true):QL P M (k+1) k:=by
 have e:oM P M (k+1)=some o:=by rw[XO a b,h];unfold JN;rw[bS4,c];simp[d]
 exact .inr ⟨k,L,n,o,by omega,rfl,a,b,c,e⟩
def bQ8{O:List dB}(h:oM P M k=z)(l:m<k)(a:P[m]?=O)(b:M[m]?=i)(c:O[i]?=z)(d:P[k]?=L)(e:M[k]?=n)(f:L[n]?=o)(g:iB o z=false):QL P M (k+1) m:=by
 have j:oM P M (k+1)=some z:=by rw[XO d e,h];unfold JN;rw[bS4,f];simp[g]
 exact .inr ⟨m,O,i,z,by omega,rfl,a,b,c,j⟩
def yC(e:dB)(l:List dB)(a:Nat):Nat:=l.length-(yL e (l.drop a)).length
def an7(e:dB){L:List dB}{n:Nat}(f:n<=L):L.drop (yC e L n)=yL e (L.drop n)/\yC e L n<=L/\n<=yC e L n:=by have d:yL e (L.drop n) <:+ L:=(XH _).trans (List.drop_suffix n L);have b:=XN e (L.drop n);rw[eK]at b;unfold yC;have⟨p,a⟩:=d;have c:=gQ List.length a;rw[aO]at c;refine⟨?_,by omega,by omega⟩;generalize yL e (L.drop n)=q at *;have:L.length-q=p:=(by omega);rw[this,<-a,o7 rfl]
def bG8(h:L[n]?=o):yC o L (n+1)=yC o L n:=by
 have a:=(aQ.1 h).1;have b:L.drop n=o::L.drop (n+1):=by rw[gZ a];rw[(aQ.1 h).2]
 unfold yC yL;rw[b,MN (by simp)]
def bG7(h:L[n]?=z)(c:z≠o):yC o L n=n:=by
 have a:=(aQ.1 h).1;have b:L.drop n=z::L.drop (n+1):=by rw[gZ a];rw[(aQ.1 h).2]
 unfold yC yL;rw[b,MO (by simp[c]),<-b,eK];omega
def cb3(h:L<=n)(a:n<=L):yC o L n=n:=by unfold yC yL;rw[iR h];simp;omega
def JJ(e:dB)(a:List (List dB))(b:List Nat):List Nat:=List.zipWith (yC e) a b
def ZG{e:dB}(a:P[k]?=L)(b:M[k]?=n):(JJ e P M)[k]?=some (yC e L n):=by unfold JJ;rw[cK4,a,b]
def xI(h:M.length=P):(JJ o P M).length=P:=by unfold JJ;rw[cP2,h,cJ5]
def aD1(b:List (List dB))(c:List Nat):Prop:=c.length=b.length/\∀(k:Nat)(l:List dB)(a:Nat),b[k]?=some l->c[k]?=some a->a<=l.length
def bL4{e:dB}(h:aD1 P M):EJ P (JJ e P M)=(EJ P M).map (yL e)/\aD1 P (JJ e P M):=by
 refine⟨?_,xI h.1,λk l a c d=>?_⟩
 .apply pS;intro k;rcases cK k P with b|b
  .have c:P[k]?=some P[k]:=aJ b;have d:M[k]?=some (M[k]'(by rw[h.1];exact b)):=aJ (by rw[h.1];exact b);rw[ZV c (ZG c d),pR,ZV c d,(an7 e (h.2 k _ _ c d)).1];rfl
  rw[kD (by rw[ZU (xI h.1)];exact b),kD (by rw[gK,ZU h.1];exact b)]
 have b:=(aQ.1 c).1;have f:M[k]?=some (M[k]'(by rw[h.1];exact b)):=aJ (by rw[h.1];exact b);have:=ZG (e:=e) c f;rw[d,wO]at this;rw[this];exact(an7 e (h.2 k _ _ c f)).2.1
def PM(e:dB)(b:List (List dB))(a:List Nat)(k:Nat):List Nat:=(JJ e b a).take k++a.drop k
def cu0(h:M.length=P)(k:Nat)(a:k<=P):(PM o P M k).length=P:=by unfold PM;rw[aO,b8,xI h,eK];omega
def cu1{e:dB}(h:M.length=P)(k:Nat)(a:k<P):(PM e P M k)[k]?=M[k]?:=by unfold PM;rw[eF (by rw[b8];omega),b8,xI h,fX (by omega),aE4];simp
def bw2{e:dB}(h:M.length=P)(b:P[k]?=L)(c:M[k]?=n):(PM e P M k).set k (yC e L n)=PM e P M (k+1):=by have f:=(aQ.1 b).1;have a:=(aQ.1 c).1;have d:((JJ e P M).take k)=k:=(by rw[b8,xI h];omega);unfold PM;rw[kC _ _ (by omega),d,iM,dL,ZG b c,gZ a,oR,bT];rfl
def cc9(e:dB)(b:List (List dB))(a:List Nat):PM e b a 0=a:=by unfold PM;simp
def cu2{e:dB}(h:M.length=P):PM e P M P=JJ e P M:=by unfold PM;rw[aT (by rw[xI h];exact cV _),iR (by omega),gM]
def cD7(w:aI)(v:aN)(b:List (List dB)):Prop:=∃a:List aN,a.length=b.length/\Reads w v 1 a.length a/\∀(k:Nat)(x:aN)(l:List dB),a[k]?=some x->b[k]?=some l->pJ w x l
def asC(b:List Nat):List aN:=b.map fun a=>.int .i64 (a:Nat)
@[simp,go_sem] def cH0(a:List Nat):(asC a).length=a:=by simp[asC]
def by8(b:List Nat)(k a:Nat):(asC b).set k a=asC (b.set k a):=by unfold asC;rw[cJ6]
def cz8(h:M[k]?=n):(asC M)[k]?=n:=by unfold asC;rw[pR,h];rfl
def OZ(h:Row w n T (asC M)){k a:Nat}(d:M[k]?=a):w.cell? (zp n k)=a/\w.frozen? (zp n k)=false:=by have b:=(aQ.1 d).1;have e:=h.cell k (by simpa using b);have c:=cz8 d;rw[aJ (by simpa using b),wO]at c;exact⟨by rw[e,c],h.frozen k (by simpa using b)⟩
def aX0(w:aI)(g n:Nat):List Nat:=(List.range n).map fun k=>match w.cell? ⟨g,k,none⟩with
 |some (.int _ i)=>i.toNat
 |_=>0
def ae4(h:Row w n T (asC M)):aX0 w n M=M:=by apply xZ (by simp[aX0]);intro k b a;have:=(OZ h (aJ a)).1;simp[aX0,this]
def cw3:(prog.info? 3).map (λi=>(i.zero,i.size,i.bytes))=some (some (.int .i64 0),1,8):=by kernel_rfl
def bK4(w:aI)(n:Nat)(d:n<=1000000):∃a,(Instr.makeSlice 33 n n).run prog w=.ok (.slice (zp w) n n) a/\Row a w 3 (asC (List.replicate n 0))/\aR w w a/\w.heap.size<a:=by
 have h:=Row.new w (madeCells #[()] n) 3;refine⟨_,run_make_row' 33 3 () 8 underlying33 cw3 rfl .i64 .i64 n (by omega) (by omega) w,?_,iH.alloc dQ _,h.lt⟩;have e:(madeCells #[Value.int .i64 0] n).toList=asC (List.replicate n 0):=by
  apply xZ
  .simp[madeCells,asC]
  intro i b c;simp[madeCells,asC,bz4]
 rwa[e]at h
variable{v:aN}
def bH7{X:List aN}(h:w.ownsRow n T i v m X)(e:k<=n):w.ownsRow k T i v m X:=by
 refine⟨h.1,?_⟩;rcases h.2 with f|⟨g,b,c,j,d,a⟩
 .exact .inl f
 exact .inr ⟨g,b,c,j,aM e d,a⟩
def bW6{c:Type}{l:List c}{a:c}(h:l[n]?=a):l.set n a=l:=by
 apply pS;intro i;rw[List.getElem?_set];by_cases b:n=i
 .subst b;have:=(aQ.1 h).1;rw[aV rfl,aV this,h]
 rw[aP b]
def cj0(h:o≠z):decide (o.1=z.1/\o.2.1=z.2.1/\o.2.2=z.2.2)=false:=by rw[cN];rintro ⟨a,b,c⟩;exact h (Prod.ext a (Prod.ext b c))
def bX3{u z:aN}(h:Row w n T [v,u,z]):w.cell? (zp n)=some v/\w.cell? (zp n 1)=some u/\w.cell? (zp n 2)=z:=⟨h.lO,h.qD,h.tW⟩
def aW9(h:Row w n T (asC M))(b:M=k)(a:M[m]?=i):((aX0 w n k)[m]?).getD 0=i:=by subst b;rw[ae4 h,a];rfl
def cu6(a:k=i)(b:m=i+1)(h:i<n):n-m<n-k:=by omega
def cg6:(prog.info? 152).map (λi=>(i.zero,i.size,i.bytes))=some (some (.agg #[zu 0,(),()]),3,24):=by kernel_rfl
def ab7(l:List dB):∀u∈gV l,u.oneCell'=true:=by intro u b;have⟨e,_,a⟩:=lY.1 b;simp only[KB,cY,r8,or_false]at a;rcases a with rfl|rfl|rfl<;>rfl
def OG(a b:List dB):gV (a++b)=gV a++gV b:=eB
def aq8(w:aI)(e:dB):Reads (w.alloc (.cells #[zu (e.1:Nat),e.2.1,e.2.2] 152)) (.slice (zp w) 1 1) 3 1 (gV [e]):=Reads.FH (Row.new w #[zu (e.1:Nat),e.2.1,e.2.2] 152) rfl dQ (by unfold maxLen;omega)
def UL{n:Nat}(h:Row w k T (asC M))(a:M=n):aX0 w k n=M:=by subst a;exact ae4 h
def as8(w:aI)(o:Obj):aR w w (w.alloc o):=(bR w w).alloc dQ o
def bA9(h:L∈P):L<=pT P:=by
 induction P with
 |nil=>cases h
 |cons x P a=>
  unfold pT at a|-;simp only[dU,l6];rcases cY.1 h with rfl|h
  .omega
  have:=a h;omega
def RM(v:aN)(g:List (List dB))(w:aI)(h:cD7 w v g)(hn:g.length<=1000)(ht:pT g<=1000000):Calls prog 161 #[v] w λe w'=>∃A c,e=.returned (.slice A (kI g) c)/\w'.ownsRow w 152 3 (.slice A (kI g) c) (kI g) (gV (kI g))/\(∀e∈kI g,wC e)/\aR w w w':=by
 have⟨vs,yr,hr,F⟩:=h;obtain⟨A,c,rfl,ze,up,-,x7⟩:=id hr;have⟨n,h9⟩:=fR g.length;rw[yr,<-h9]at ze;rw[<-h9]at hn;have xw:∀(k:Nat)(l:List dB),g[k]?=l->l.length<=1000000:=λk l R=>by have h1:l∈g:=bC R;have h2:=bA9 h1;omega
 have xa:∀(k:Nat)(l:List dB),g[k]?=l->∃bb hh A' c',A=zp bb hh/\(∀w':aI,aR w w w'->w'.cell? (zp bb (hh+k))=some (.slice A' l c'))/\l.length<=c'/\c'<=maxLen/\(∀e∈l,wC e)/\
  (0<l.length->∃b' H,A'=some ⟨b',H,none⟩/\∀(a:Nat)(e:dB),l[a]?=e->∀w':aI,aR w w w'->w'.cell? (zp b' (H+a*3))=zu (e.1:Nat)/\w'.cell? (zp b' (H+a*3+1))=e.2.1/\w'.cell? (zp b' (H+a*3+2))=e.2.2):=by
  intro k l R;have hk:=(aQ.1 R).1;have⟨bb,hh,hA,yi,hc⟩:=x7 (by omega);have zl:k<vs:=(by omega);have hE:=F k vs[k] l (aJ zl) R;obtain⟨⟨A',c',u3,-,-,-,-⟩,uw⟩:=id hE;have yd:=hE;rw[u3]at yd;obtain⟨-,q1,q2,-⟩:=yd.cells;refine⟨bb,hh,A',c',hA,λw' hb=>?_,q1,q2,uw,λh0=>?_⟩
  .rw[<-u3,<-hc k zl];exact hb.cell (p:=zp bb (hh+k)) yi
  obtain⟨b',H,um,-,xo⟩:=yd.later h0;exact⟨b',H,um,λa e he w' hb=>xo a e he w' hb⟩
 have uu:n<=maxLen:=(by unfold maxLen;omega);have⟨w1,ut,xg,uo,xp⟩:=bK4 w n (by omega);have ho:aD1 g (List.replicate n 0):=⟨by rw[List.length_replicate,h9],λk l a h1 h2=>by have:=List.eq_of_mem_replicate (bC h2);omega⟩;have O:EJ g (List.replicate n 0)=g:=(by rw[h9];exact bL3 g);have xe:w1.ownsRow w1 152 3 zs 0 (gV []):=bM _ _ _ _;have⟨J,hi,t⟩:=aB xa xw h9;rw[yr,<-h9];clear xa xw h9 F x7 hr yr;go_in;(go_wp2_with fail);go_step3;(go_wp2_with fail);go_step3;(go_wp2_with fail);have⟨G,hG⟩:=fR w.heap.size;go_loopw [3] (λyv wr=>∃(Y:List Nat)(o:List dB)(A':Option Addr)(c':Nat),aD1 g Y/\yv=.slice A' o c'/\wr.ownsRow w1 152 3 (.slice A' o c') o (gV o)/\Row wr w 3 (asC Y)/\aR w w wr/\w1.heap.size<=wr/\BL (EJ g Y) o=kI g/\(∀e∈o,wC e)/\o+pT (EJ g Y)<=1000000) (λ_ wr=>pT (EJ g (aX0 wr w n)))
 .exact⟨List.replicate n 0,[],none,0,ho,rfl,xe,xg,uo,dQ,by rw[O];rfl,by simp,by rw[O];simpa using ht⟩
 obtain⟨Y,o,A0,c0,zj,rfl,U,xz,yf,uy,u2,zz,v9⟩:=hrel;have⟨x2,u,hs,z3,xl⟩:=aD U xz zj u2 zz;clear U xz zj u2 zz xe xg ut ho O;(go_wp2_with fail);obtain⟨wo,rfl⟩:=fR wr;go_loopw [5,17] (λz5 i wi=>∃(k:Nat)(j:Int),k<=n/\i=.int .i64 k/\z5=.int .i64 j/\QL g Y k j/\aR wo wo wi) (λ_ i _=>n-(intOf i).toNat)
 .exact⟨0,-1,bK _,rfl,rfl,bQ6 _ _,iH⟩
 obtain⟨k,j,hk,rfl,rfl,M,q⟩:=hrel;by_cases yi:k<n
 .have i1:(k:Int)<n:=(by omega);obtain⟨l,R⟩:∃l,g[k]?=some l:=⟨_,aJ (by have:=t.zz;omega)⟩;obtain⟨a,ha⟩:∃a,Y[k]?=some a:=⟨_,aJ (by have:=hs.zz.1;have:=t.zz;omega)⟩;have za:=hs.zz.2 k l a R ha;have us:=hi k l R;obtain⟨bb,hh,A',c',rfl,hv,uq,yh,xq,x9⟩:=J k l R;have z:=aK yf q;have f0:=hv wr z;have f1:=λx:dR wr=>hv x.it (aK z x.ok);have hR:=u.next q;have f2:=λx:dR wr=>(OZ (hR.next x.ok) ha).1;have⟨y4,uc,HR⟩:=aB x9 xq hR;unfold maxLen at yh;clear hv x9 xq hR;by_cases hj:a<l
  .have i2:(a:Int)<l:=(by omega);obtain⟨e,he⟩:∃e,l[a]?=some e:=⟨_,aJ hj⟩;have oe:=uc e (bC he);rcases M with⟨rfl,B⟩|⟨b,P,ab,f,ye,rfl,g1,g2,g3,C⟩
   iterate 2
    .first|((have ur:decide ((b:Int)<0)=false:=bN (by omega));(have zk:(0:Int)<=(b:Int):=by omega);(have zd:(b:Int)<n:=by omega);have z9:ab<P:=(aQ.1 g3).1;(have xu:(ab:Int)<P:=by omega);have zm:=hi b P g1;have⟨uf,u9,A2,c2,yc,hy,u8,xr,xi,xj⟩:=J b P g1;cases yc;(obtain⟨q1,r1,rfl,hq⟩:=y4 (by omega));(obtain⟨q2,r2,rfl,hw⟩:=xj (by omega));have yu:=xi f (bC g3);unfold maxLen at xr;have m1:=λx:dR wr=>hy x.it (aK z x.ok);have m2:=λx:dR wr=>(OZ (HR.next x.ok) g2).1;have ca:=λx:dR wr=>hq a e he x.it (aK z x.ok);have cb:=λx:dR wr=>hw ab f g3 x.it (aK z x.ok);have ug:=λx=>(ca x).1;have uh:=λx=>(ca x).2.1;have ui:=λx=>(ca x).2.2;have z6:=λx=>(cb x).1;have z7:=λx=>(cb x).2.1;have z8:=λx=>(cb x).2.2;have x3:=aH C;clear C ca cb hq hw hy xi xj)|have y6:=aH B;clear B
     (go_wp2_with fail);refine cI (by kernel_rfl) (by kernel_rfl) ?_;(first|(repeat go_big_quiet_step (first|(go_at_call 212;exact eL _ (xO e f _ oe yu))))|(repeat go_big_quiet_step (fail)));refine wpQuiet_nil ?_;intro _ F;obtain⟨⟨w2,x4⟩,rfl⟩:=F
     first
      |rcases N:iB e f with _|_
       iterate 2
        .go_wp2;go_roundw;(first|(case rel=>exact⟨k+1,b,by omega,rfl,rfl,bQ8 x3 ye g1 g2 g3 R ha he N,aK q x4⟩)|(case rel=>exact⟨k+1,k,by omega,rfl,rfl,bQ9 x3 R ha he N,aK q x4⟩));simp[intOf];omega
      |go_wp2
       go_roundw
       .exact⟨k+1,k,by omega,rfl,rfl,bq1 y6 R ha he,aK q x4⟩
       simp[intOf];omega
  have i2:¬(a:Int)<l:=(by omega);have Hb:=aH M;clear M;(go_wp2_with fail);refine cI (by kernel_rfl) (by kernel_rfl) ?_;repeat go_big_quiet_step (fail)
  refine wpQuiet_nil ?_;intro _ F;obtain⟨⟨w2,x4⟩,rfl⟩:=F;go_wp2;go_roundw
  .exact⟨k+1,j,by omega,rfl,rfl,bQ7 Hb R ha (by omega),aK q x4⟩
  simp[intOf];omega
 obtain rfl:k=n:=(by omega);have i1:¬(k:Int)<k:=(by omega);have S:=cG1 hs.1;rw[<-t.zz]at S;rcases M with⟨rfl,B⟩|⟨b,P,ab,f,ye,rfl,g1,g2,g3,C⟩
 .have hm:=IV (out:=o) (S.symm.trans B);have zg:o=kI g:=hm.symm.trans z3;subst zg;have U:=bH7 (bY x2 q) (qT xp);have y8:=aH U;clear U S B hm;go_wp2;go_ret;exact⟨A0,c0,rfl,y8,xl,aK yf q⟩
 have xh:=RN (out:=o) (S.symm.trans C);have xc:=bL4 (e:=f) hs;have ur:decide ((b:Int)<0)=false:=bN (by omega);have zk:(0:Int)<=(b:Int):=(by omega);have zd:(b:Int)<k:=(by omega);have z9:ab<P:=(aQ.1 g3).1;have xu:(ab:Int)<P:=(by omega);have zm:=hi b P g1;have z:=aK yf q;obtain⟨bb,hh,A2,c2,rfl,hy,u8,xr,xi,xj⟩:=J b P g1;obtain⟨q2,r2,rfl,hw⟩:=xj (by omega);have yu:=xi f (bC g3);unfold maxLen at xr;have m1:=hy wr z;have m2:=(OZ (u.next q) g2).1;have⟨z6,z7,z8⟩:=hw ab f g3 wr z;have al:=λo=>(bR wr wr).alloc dQ o;have n1:=λo=>hy _ (aK z (al o));have n2:=λo=>(OZ ((u.next q).next (al o)) g2).1;have nb:=λo=>hw ab f g3 _ (aK z (al o));have uz:=λo=>(nb o).1;have v0:=λo=>(nb o).2.1;have v6:=λo=>(nb o).2.2;clear nb al;have⟨yb,y5⟩:=aA xh xc;clear xh xc S C hw hy xi xj;(go_wp2_with fail);go_region;clear m1 m2 z6 z7 z8 n1 n2 uz v0 v6;have xf:=(Row.new wr #[zu (f.1:Nat),f.2.1,f.2.2] 152).drew;have x5:=((bR wr wr).alloc dQ (.cells #[zu (f.1:Nat),f.2.1,f.2.2] 152)).drew;have hg:=(u.next q).next x5;have hd:=bY (bY x2 q) x5;have xv:=aK z x5;have zh:w.heap.size<wr:=(u.next q).lt;have u4:w1.heap.size<=wr:=aM uy q.size;have⟨E,hE⟩:=fR wr.heap.size;rw[<-hE]at xf zh u4|-;generalize (wr.alloc (.cells #[zu (f.1:Nat),f.2.1,f.2.2] 152)).drew=W3 at xf x5 hg hd xv|-;have un:E<W3:=xf.lt;clear x5 hE;have ym:=hs.zz.1;have L:=aH ym;have zr:aX0 wo w k=Y:=by have h1:=ae4 u;rwa[ym,<-t.zz]at h1
 have yw:=aH zr;clear zr;have⟨i0,zi,u5,u6,u7⟩:=info_parts cg6;have⟨ue,ub,ua⟩:=aB hg hd xf;clear ym hg hd xf u x2;go_wp2_with fail
 go_loopw [69] (λi wj=>∃m:Nat,m<=k/\i=.int .i64 m/\Row wj w 3 (asC (PM f g Y m))/\Row wj E 152 [zu (f.1:Nat),f.2.1,f.2.2]/\wj.ownsRow w1 152 3 (.slice A0 o c0) o (gV o)/\aR w w wj/\W3.heap.size<=wj) (λi _=>k-(intOf i).toNat)
 .exact⟨0,bK _,rfl,by rw[cc9];exact ue,ua,ub,xv,dQ⟩
 obtain⟨wj,rfl⟩:=fR wr;obtain⟨m,hm,rfl,u1,zf,zx,hu,ux⟩:=hrel;have⟨yz,x0,x1⟩:=aB u1 zf zx;clear u1 zf zx;by_cases xb:m<k
 .have j1:(m:Int)<k:=(by omega);obtain⟨l,R⟩:∃l,g[m]?=some l:=⟨_,aJ (by have:=t.zz;omega)⟩;obtain⟨a,ha⟩:∃a,Y[m]?=some a:=⟨_,aJ (by have:=L.zz;have:=t.zz;omega)⟩;have za:=hs.zz.2 m l a R ha;have us:=hi m l R;have⟨uf,u9,A',c',yc,hv,uq,yh,xq,x9⟩:=J m l R;cases yc;unfold maxLen at yh;have f0:=hv wj hu;have zo:=(cu1 (e:=f) L m (by have:=t.zz;omega)).trans ha;have⟨y4,ud⟩:=aA x9 zo;have zq:(PM f g Y m)=k:=(by rw[cu0 L.zz m (by have:=t.zz;omega),t.zz]);have xk:=aH zq;clear hv x9 xq zo zq;go_wp2_with fail
  go_loopw [91] (λ_ wl=>∃D:Nat,a<=D/\D<=l/\yC f l D=yC f l a/\Row wl w 3 (asC ((PM f g Y m).set m D))/\Row wl E 152 [zu (f.1:Nat),f.2.1,f.2.2]/\wl.ownsRow w1 152 3 (.slice A0 o c0) o (gV o)/\aR w w wl/\W3.heap.size<=wl) (λ_ wl=>l.length-((aX0 wl w k)[m]?.getD 0))
  .exact⟨a,dQ,za,rfl,by rw[bW6 ud.zz];exact yz,x0,x1,hu,ux⟩
  have⟨D,ve,zb,yk,yo,yg,zy,xn,yq⟩:=hrel;have x8:((PM f g Y m).set m D)[m]?=some D:=(by rw[gU (by rw[xk.zz];exact xb)]);have f2:=λx:dR wr=>(OZ (yo.next x.ok) x8).1;have fe:=λx:dR wr=>bX3 (yg.next x.ok);have uj:=λx=>(fe x).1;have uk:=λx=>(fe x).2.1;have ul:=λx=>(fe x).2.2;have⟨xm,y3,y7,xs⟩:=aC yo yg zy x8;clear yo yg zy fe x8;by_cases hj:D<l
  .have i2:(D:Int)<l:=(by omega);obtain⟨x,F⟩:∃x,l[D]?=some x:=⟨_,aJ hj⟩;obtain⟨q1,r1,rfl,hq⟩:=y4 (by omega);have ca:=λy:dR wr=>hq D x F y.it (aK xn y.ok);have ug:=λy=>(ca y).1;have uh:=λy=>(ca y).2.1;have ui:=λy=>(ca y).2.2;have Hx:=aH F;clear ca hq F;by_cases yt:x=f
   .subst yt;have i3:IntKind.i64.wrap ((D:Int)+1)=((D+1:Nat):Int):=(by rw[cQ];omega);(go_wp2_with fail);refine cI (by kernel_rfl) (by kernel_rfl) ?_;(repeat go_big_quiet_step (fail));refine wpQuiet_nil ?_;intro _ F;obtain⟨⟨w4,d⟩,rfl⟩:=F;have s:=xm.next d;have⟨s0,s1⟩:=OZ s xs;obtain⟨P1,P2,P3,P4⟩:=aC (s.set m ((D+1:Nat):Int)) ((y3.next d).far (p:=zp w m) (by show E≠w;omega) ((D+1:Nat):Int)) (ownsRow_setCell_below (bY y7 d) (a:=zp w m) xp ((D+1:Nat):Int)) ((aK xn d).setCell (p:=zp w m) dQ ((D+1:Nat):Int));have P5:=aM yq d.size;clear s;go_wp2;go_roundw
    .exact⟨D+1,by omega,by omega,(bG8 Hx).trans yk,(by have:=P1.zz;rwa[by8,List.set_set]at this),P2,P3,P4,by simpa using P5⟩
    have e1:=aW9 xm (by rw[mV,xk.zz]) xs;have z4:=P1.zz;rw[by8,List.set_set]at z4;have e2:=aW9 z4 (by rw[mV,xk.zz]) (show _=some (D+1)by rw[gU (by rw[xk.zz];exact xb)]);exact cu6 e1 e2 hj
   have vg:=cj0 yt;(go_wp2_with fail);have yl:yC f l a=D:=yk.symm.trans (bG7 Hx yt);refine cI (by kernel_rfl) (by kernel_rfl) ?_;(repeat go_big_quiet_step (fail));refine wpQuiet_nil ?_;intro _ F;obtain⟨⟨w4,d⟩,rfl⟩:=F;have s:=xm.next d;have h5:=bw2 (e:=f) L R ha;rw[yl]at h5;rw[h5]at s;have P1:=aH s;have P5:=aM yq d.size;clear s h5;go_wp2;go_roundw
   .exact⟨m+1,by omega,by go_num,P1,y3.next d,bY y7 d,aK xn d,P5⟩
   simp[intOf];omega
  have i2:¬(D:Int)<l:=(by omega);(go_wp2_with fail);have yl:yC f l a=D:=yk.symm.trans (cb3 (by omega) zb);refine cI (by kernel_rfl) (by kernel_rfl) ?_;repeat go_big_quiet_step (fail)
  refine wpQuiet_nil ?_;intro _ F;obtain⟨⟨w4,d⟩,rfl⟩:=F;have s:=xm.next d;have h5:=bw2 (e:=f) L R ha;rw[yl]at h5;rw[h5]at s;have P1:=aH s;have P5:=aM yq d.size;clear s h5;go_wp2;go_roundw
  .exact⟨m+1,by omega,by go_num,P1,y3.next d,bY y7 d,aK xn d,P5⟩
  simp[intOf];omega
 obtain rfl:m=k:=(by omega);have j1:¬(m:Int)<m:=(by omega);have yn:=yz.zz;have e0:=cu2 (e:=f) L;rw[<-t.zz]at e0;rw[e0]at yn;have⟨zv,zw⟩:=y5.zz;have⟨s1,s2⟩:=yb.zz;rw[<-zv]at s1 s2;have⟨HT,hz,HN,ya⟩:=aC (s1.symm.trans z3) s2 zw yn;have yj:pJ wj (.slice A0 o c0) o:=⟨Reads.cX x1,xl⟩;have xx:∀e∈o++[f],wC e:=λe he=>by
  rcases cB.1 he with h|h
  .exact xl e h
  rw[bP.1 h];exact yu
 have xt:=aH xx;have zc:=hu.size;have ys:w1.heap.size<=wj:=(by omega);clear yn e0 zv zw s1 s2 xx;have⟨z0,z1,z2⟩:=bX3 x0;clear zk zd z9 xu g1 g2 g3 zm u8 xr u4 zh un ye i1 yi hk hm xb j1 uu ze hn zc up ht;rcases h4:o.getLast? with _|V
 .obtain rfl:o=[]:=cp3.1 h4;have xd:Z4 [] f=[]++[f]:=rfl;have⟨K,yx⟩:=aA xd (show wj.ownsRow w1 152 3 (.slice A0 0 c0) 0 (gV [])from x1);clear xd yj;(go_wp2_with fail);refine cI (by kernel_rfl) (by kernel_rfl) ?_;repeat go_big_quiet_step (fail)
  refine wpQuiet_nil ?_;intro _ F;obtain⟨⟨w4,d⟩,rfl⟩:=F;rename_i w4;have T:=aK hu d;have W:=bY yx d;have X:=ya.next d;have v7:=aM ys d.size;have⟨I,Z,y9⟩:=aB T W X;clear T W X;have⟨y0,y1,y2⟩:=bX3 (x0.next d);go_wp2_with (first
   |(at_builtin;refine iF _ rfl _ _ 113 rfl w1 152 i0 _ 3 24 underlying113 zi u5 u6 u7 rfl (by decide) _ 0 _ rfl (bY Z (as8 _ _)) _ 1 (gV [f]) rfl (aq8 _ f) (ab7 _) (by unfold maxLen;omega) (by omega) (by simp only[bD];omega) ?_;intro v5 w5 r h3;obtain⟨A5,c5,rfl,-,-,-,-⟩:=Reads.cX r))
  have x6:=(I.alloc I.size (.cells #[zu (f.1:Nat),f.2.1,f.2.2] 152)).grown h3 (I.alloc I.size _).size (λk hk=>aM (qT xp) (dH Z k hk));have hf:=(y9.alloc (.cells #[zu (f.1:Nat),f.2.1,f.2.2] 152)).grown h3 (λh=>by have:=dH Z _ h.symm;omega);have yp:w1.heap.size<=w5:=(by have:=h3.size;simp only[bD]at this;omega);obtain⟨H5,H6,H7,H8⟩:=aC (UL (n:=m) hf (by rw[xI L.zz];exact t.symm)) hf x6 r;clear hf x6 r;go_wp2;go_roundw
  .exact⟨JJ f g Y,Z4 [] f,A5,c5,HN,by rw[K.zz];simp,by rw[K.zz,OG];simpa using H8.zz,H6,H7,yp,HT,by rw[K.zz];exact xt,by rw[K.zz,aO];have:=hz.zz;simp only[vO];simp only[kG]at *;omega⟩
  (have h6:=hz.zz);(have h7:=yw.zz);(have h8:=H5.zz);rw[h7,h8];exact h6
 have xd:∀h:V≠f,Z4 o f=o++[f]:=λh=>(by unfold Z4;rw[h4,aP (by simpa using h)]);have xy:V=f->Z4 o f=o:=λh=>(by unfold Z4;rw[h4,aV (by rw[h])]);have uv:o≠[]:=λh=>(by rw[h]at h4;cases h4);have u0:=qL.2 uv;obtain⟨p,hp⟩:∃p,o.length=p+1:=⟨o.length - 1,by omega⟩;rw[cp4,hp,aE0]at h4;obtain⟨b0,va,rfl,vf,xo⟩:=yj.later u0;have v1:IntKind.i64.wrap ((o:Int)-1)=(p:Int):=(by rw[cQ];omega);have v2:(0:Int)<=(p:Int):=(by omega);have v3:(p:Int)<o:=(by omega);have v4:(0:Int)<o:=(by omega);have fo:=λx:dR wj=>xo p V h4 x.it x.ok;have fe:=λx:dR wj=>bX3 (x0.next x.ok);have vb:=λx=>(fo x).1;have vc:=λx=>(fo x).2.1;have vd:=λx=>(fo x).2.2;have uj:=λx=>(fe x).1;have uk:=λx=>(fe x).2.1;have ul:=λx=>(fe x).2.2;have⟨K,yy,Hp⟩:=aB xd xy hp;clear fo fe xd xy xo yj hp;by_cases N:V=f
 iterate 2
  ·(first|have v8:=cj0 N|subst N);(go_wp2_with fail);refine cI (by kernel_rfl) (by kernel_rfl) ?_;(repeat go_big_quiet_step (fail));refine wpQuiet_nil ?_;intro _ F;obtain⟨⟨w4,d⟩,rfl⟩:=F;rename_i w4
   first
    |have T:=aK hu d
     have W:=bY x1 d;have X:=ya.next d;have v7:=aM ys d.size;have⟨I,Z,y9⟩:=aB T W X;clear T W X;have⟨y0,y1,y2⟩:=bX3 (x0.next d);go_wp2_with (first
      |(at_builtin;refine iF _ rfl _ _ 113 rfl w1 152 i0 _ 3 24 underlying113 zi u5 u6 u7 rfl (by decide) _ o _ rfl (bY Z (as8 _ _)) _ 1 (gV [f]) rfl (aq8 _ f) (ab7 _) (by unfold maxLen;omega) (by omega) (by simp only[bD];omega) ?_;intro v5 w5 r h3;obtain⟨A5,c5,rfl,-,-,-,-⟩:=Reads.cX r))
     have x6:=(I.alloc I.size (.cells #[zu (f.1:Nat),f.2.1,f.2.2] 152)).grown h3 (I.alloc I.size _).size (λk hk=>aM (qT xp) (dH Z k hk));have hf:=(y9.alloc (.cells #[zu (f.1:Nat),f.2.1,f.2.2] 152)).grown h3 (λh=>by have:=dH Z _ h.symm;omega);have yp:w1.heap.size<=w5:=(by have:=h3.size;simp only[bD]at this;omega);obtain⟨H5,H6,H7,H8⟩:=aC (UL (n:=m) hf (by rw[xI L.zz];exact t.symm)) hf x6 r;clear hf x6 r
    |have s:=ya.next d
     obtain⟨H5,H4⟩:=aA (UL (n:=m) s (by rw[xI L.zz];exact t.symm)) s;clear s
   go_wp2;go_roundw;(first|(case rel=>exact⟨JJ f g Y,Z4 o f,A5,c5,HN,by rw[K.zz N];simp,by rw[K.zz N,OG];simpa using H8.zz,H6,H7,yp,HT,by rw[K.zz N];exact xt,by rw[K.zz N,aO];have:=hz.zz;simp only[vO];omega⟩)|(case rel=>exact⟨JJ V g Y,o,_,c0,HN,rfl,bY x1 d,H4,aK hu d,aM ys d.size,by have:=HT.zz;rw[yy.zz trivial]at this;exact this,xl,by have:=hz.zz;omega⟩));(have h6:=hz.zz);(have h7:=yw.zz);(have h8:=H5.zz);rw[h7,h8];exact h6
variable{C:List (List bH)}{a:List bH}{D:aL}{s:bH}{f l:cA}
def YZ:∀{d i:Nat},jB s a i<=jB s a (i+d)
 |0,i=>cV _
 |d+1,i=>aM (YZ (d:=d)) (an6 s a (i+d))
def IP{H:bH}{ps:List bH}{i j:Nat}(h:i<=j):jB H ps i<=jB H ps j:=by obtain⟨d,rfl⟩:=Nat.exists_eq_add_of_le h;exact YZ
def bZ0(n:Nat)(a:List bH)(r:lW)(h:r∈qW n a):n*4096<=r.1:=by unfold qW at h;obtain⟨i,_,rfl⟩:=dS.1 h;simp only;omega
def bN7(C:List (List bH))(a:List bH):(C++[a]).flatten.length=C.flatten+a:=by simp only[iO,aO,iA,bs0,gM]
def bb5{ps:List bH}(a:KH C)(d:n<=C.flatten)(f:k<=kF (fB C)):JQ (C++[ps]) C n k:=by
 refine⟨dF C,by rw[mK,mP],by rw[sA];exact d,by rw[mK];simp,λi b c=>?_⟩;have:=bZ0 C ps ((dF (C++[ps]))[i]) (by
  have e:(dF (C++[ps]))[i]=(qW C ps)[i-(dF C).length]'(by rw[mK]at b;simp at b|-;omega):=by simp only[mK];rw[fM c]
  rw[e];exact dC _)
 have:=zJ a;omega
def bA8(d:n<=a)(c:k<=C.flatten+n)(g:m<=C*4096+jB (fC (C:Nat)) a n):JQ (C++[a]) (C++[a.take n]) k m:=by
 refine⟨(dF C)+n,?_,by rw[sA];exact c,by rw[mK];simp;omega,λj b f=>?_⟩
 .rw[mK,mK,bf8 _ _ _ d,T3,aT (l:=dF C) (by omega),show(dF C).length+n-(dF C)=n from by omega]
 have e:(dF (C++[a]))[j]=(qW C a)[j-(dF C).length]'(by rw[mK]at b;simp at b|-;omega):=by simp only[mK];rw[fM (by omega)]
 rw[e];simp only[qW,tT,List.getElem_range];have:=IP (H:=fC (C:Nat)) (ps:=a) (i:=n) (j:=j-(dF C)) (by omega);omega
def YU{q:List bH}(p:C.length<=199)(j:AP l C){Z:cA}(k:∀n,n<C.length->bO Z (iJ n)=bO l (iJ n)){f:fK}(m:bO Z (iJ C)=f)(i:f.data=eD C q)(o:f.data<=f.sync):AP Z (C++[q]):=λn h=>by
 rcases cK n C with a|a
 .have⟨g,b,c,d⟩:=j n a;rw[jT a];exact⟨g,(k n a).trans b,c,d⟩
 have e:n=C.length:=by simp at h;omega
 subst e;rw[fM dQ];simp only[iM,dA];exact⟨f,m,i,o⟩
structure cB0(b N:Nat)(c:cA)(C:List (List bH))(S P:Nat)(a:List (List bH))(l:cA):Prop where
 sys:Sys b N l
 stay:iW aO0 c l
 ok:KH a
 full:AP l a
 no:NoC l a.length
 bU8:JQ C a S P
 le:S<=a.flatten.length/\P<=kF (fB a)
 new:bO l dI=none
def cg2(h:isC s):¬aO0 s:=λa=>a.1 h
def bK1(P:D.down=false)(U:D.cap=n)(hN:k<=98)(F:bO D.files dI=none){l:cA}{C:List (List bH)}{b:List bH}{m i:Nat}(t:InO n k l (C++[b]) m i D.files) (S:KH (C++[b])) (u:AP D.files C) (Z:au3 D.files C b m i) (no:NoC D.files (C+1)) :(D.load C).2=0/\Good D ((wF D C (D.load C).1.1 (D.load C).1.2 (fB C)).1,(wF D C (D.load C).1.1 (D.load C).1.2 (fB C)).2.2) (λD'=>∃C',(wF D C (D.load C).1.1 (D.load C).1.2 (fB C)).2.1=fB C'/\cB0 n k l (C++[b]) m i C' D'.files) (InO n k l (C++[b]) m i):=by
 have⟨f,c,V,hc,hd,hj,E⟩:=Z;have⟨hk,h8,Q⟩:=S.last;have K:∀ho y,InO n k l (C++[b]) m i ho->InO n k l (C++[b]) m i (eR ho y):=λho y h=>h.kJ y;have G:=t.sys;have hb:f.data=c:=(by rw[hd,b8];omega);have M:∀hp,hp<C.length->iJ C≠iJ hp:=λhp h e=>(by have:=EG (by omega) (by omega) e;omega);have X:∀hp,C.length+1<=hp->hp<=999999->iJ C≠iJ hp:=λhp h v e=>(by have:=EG (by omega) v e;omega);have d:dI≠iJ C:=NF _ (by omega);have hq:¬aO0 (iJ C):=cg2 (EK (by omega));have⟨la,h7⟩:=bw7 Q h8 V hc hd;by_cases h0:c<12
 .rw[la h0];refine⟨rfl,?_⟩;unfold wF;rw[aV rfl];have B:i<=kF (fB C)/\m<=C.flatten:=by
   rcases E with h|⟨hm,I,v,h3,z⟩
   .exact h
   have:=RH (fC (C:Nat)) b hm;rw[jZ Q]at this;omega
  have a:AP (kN D.files (iJ C)) C:=λhp h=>by have⟨g,I,v,h3⟩:=u hp h;exact⟨g,by rw[iK,aP (M hp h)];exact I,v,h3⟩
  have p:NoC (kN D.files (iJ C)) C:=λhp I v=>by
   rw[iK];split
   .rfl
   rename_i h9;refine no hp ?_ v;rcases cK C hp with h|h
   .exact h
   exact absurd (by rw[show hp=C.length from by omega]) h9
  have O:=bb5 (ps:=b) S.front B.2 B.1;have N:=G.del (iJ C);have W:zB (kN D.files (iJ C)) C m i:=ND S.front a N.oW.sync p B.2 B.1 (λh=>by subst h;have I:=B.1;have v:=B.2;simp[fB,kF]at I v;exact⟨v,I⟩);refine((J0 P V).NZ K t (t.next N (iW.del hq) W O)).mono (λD' _ _ _ e=>?_) (λ_ h=>h);refine⟨C,rfl,?_⟩;rw[e];exact⟨N,t.stay.trans (iW.del hq),S.front,a,p,O,⟨B.2,B.1⟩,by rw[iK,aP (λh=>d h.symm)];exact F⟩
 have⟨hm,hi,I,v,h3⟩:=h7 (by omega);rw[h3];refine⟨rfl,?_⟩;have T:=RH (fC (C:Nat)) b hm;rw[jZ Q]at T;have J:m<=C.flatten+hm/\i<=C*4096+jB (fC (C:Nat)) b hm:=by
  rcases E with h|⟨j,g1,g2,g3,g4⟩
  .have:=zJ S.front;omega
  have h6:j<=hm:=by
   rcases cK hm j with h|h
   .have:=v (by omega);have:=IP (H:=fC (C:Nat)) (ps:=b) (i:=hm+1) (j:=j) (by omega);omega
   exact h
  have:=IP (H:=fC (C:Nat)) (ps:=b) h6;omega
 have O:=bA8 hi J.1 J.2;have A:=S.cut hm;have r:m<=(C++[b.take hm]).flatten.length/\i<=kF (fB (C++[b.take hm])):=by refine⟨by rw[bN7,b8];omega,?_⟩;rw[yR,CX];exact J.2
 have hz:C++[b.take hm]=[]->m=0/\i=0:=λh=>by simp at h
 have p:∀l',(∀hp,iJ C≠iJ hp->hp<=999999->bO l' (iJ hp)=bO D.files (iJ hp))->NoC l' (C++[b.take hm]).length:=λl' hg hp z R=>by have z:C.length+1<=hp:=(by simpa using z);rw[hg hp (X hp z R) R];exact no hp z R
 have Y:fB C++[jB (fC (C:Nat)) b hm]=fB (C++[b.take hm]):=(by rw[rL,CX]);unfold wF;rw[aP (by simp only;omega)];by_cases L:jB (fC (C:Nat)) b hm<f.data
 .rw[aV L];have w:f.data.take (jB (fC (C:Nat)) b hm)=eD C (b.take hm):=by rw[hd,l5,fX (by omega),as5]
  simp only;rw[w];have ha:(eD C (b.take hm)).length<f.data:=by rw[CX];exact L
  have o:∀hp,iJ C≠iJ hp->hp<=999999->bO (F9 D.files (iJ C) (eD C (b.take hm))) (iJ hp)=bO D.files (iJ hp):=λhp z R=>by rw[uI d,aP z,aP (NF hp R)]
  have a:AP (F9 D.files (iJ C) (eD C (b.take hm))) (C++[b.take hm]):=YU (by omega) u (λhp h=>o hp (M hp h) (by omega)) (by rw[uI d,aV rfl]) rfl dQ;have q:=at8 G (s:=eD C (b.take hm)) d F (.inr (.inr (.inl ⟨C,by omega,rfl⟩))) (by rw[V];have:=G.room;simp;omega);have W:=ND A a q.oW.sync (p _ o) r.1 r.2 hz;have x:iW aO0 D.files (F9 D.files (iJ C) (eD C (b.take hm))):=λhp F=>by left;rw[uI d,aP (λh=>hq (by rw[h];exact F)),aP (λh=>F.2 h.symm)]
  have hh:=ch8 G F;refine(at6 P U G hN F _ _ (AB (by omega)) d (by omega) (InO n k l (C++[b]) m i) K t (λg hg=>?_) (t.next q x W O)).mono (λD' _ _ _ e=>?_) (λ_ h=>h)
  .have⟨C1,k1,k2,k3⟩:=t.log;exact t.next (G.ca3 hg) (QZ (λh=>h.2 rfl) _ _) (k1.stay (QZ EL _ _)) k3
  refine⟨_,Y,?_⟩;rw[e];exact⟨q,t.stay.trans x,A,a,p _ o,O,r,(uI d dI).trans (by rw[aP (λh=>d h.symm),aV rfl])⟩
 rw[aP L];have he:jB (fC (C:Nat)) b hm=c:=(by omega);have w:f.data=eD C (b.take hm):=(by rw[hd,<-he,as5]);have o:∀hp,iJ C≠iJ hp->hp<=999999->bO (eC D.files (iJ C) ⟨f.data,f.data⟩) (iJ hp)=bO D.files (iJ hp):=λhp z R=>(by rw[fF,aP z]);have a:AP (eC D.files (iJ C) ⟨f.data,f.data⟩) (C++[b.take hm]):=YU (by omega) u (λhp h=>o hp (M hp h) (by omega)) (f:=⟨f.data,f.data⟩) (by rw[fF,aV rfl]) w dQ;have q:=G.put (n:=iJ C) (.inr (.inr (.inl ⟨C,by omega,rfl⟩))) (f:=⟨f.data,f.data⟩) dQ (by rw[V];have:=G.room;simp;omega);have W:=ND A a q.oW.sync (p _ o) r.1 r.2 hz;have x:iW aO0 D.files (eC D.files (iJ C) ⟨f.data,f.data⟩):=iW.put hq _;refine((QX P V).NZ K t (t.next q x W O)).mono (λD' _ _ _ e=>?_) (λ_ h=>h);refine⟨_,Y,?_⟩;rw[e];exact⟨q,t.stay.trans x,A,a,p _ o,O,r,by rw[fF,aP (λh=>d h.symm)];exact F⟩
def Y7(a:D.down=false)(m:Sys n k D.files)(I:cA->Prop)(j:∀l b,I l->I (eR l b))(g:I D.files)(i:I (kN D.files dI)):Good D D.gS (λc=>bO c.files dI=none/\(c.files=D.files\/c.files=kN D.files dI)) I:=by
 unfold aL.gS;cases d:bO D.files dI with
 |none=>exact Good.ok a ⟨d,.inl rfl⟩
 |some f=>exact((J0 a d).NZ j g i).mono (λc _ _ _ e=>⟨by rw[e,iK,aV rfl],.inr e⟩) (λ_ h=>h)
def bH9(I:D.down=false)(F:D.cap=n)(X:k<=98)(S:Sys n k D.files){C:List (List bH)}{m i:Nat}(w:zB D.files C m i):Good D ((kB D).1,(kB D).2.2) (λW=>∃A,(kB D).2.1=some ⟨fB A,kF (fB A)⟩/\cB0 n k D.files C m i A W.files) (InO n k D.files C m i):=by
 have P:InO n k D.files C m i D.files:=⟨S,iW.refl _ _,C,w,w.ok,JQ.refl i w.le⟩;have Q:∀l p,InO n k D.files C m i l->InO n k D.files C m i (eR l p):=λl p h=>h.kJ p;have G:InO n k D.files C m i (kN D.files dI):=P.next (S.del _) (iW.del λh=>h.2 rfl) (w.stay (iW.del EL)) (JQ.refl i w.le);have Z:=Y7 I S _ Q P G;unfold kB;rw[I,aP (by simp)];rcases Z with⟨M,J,e,r,t,R⟩|⟨M,L,e,r,H⟩
 .have z:zB D.gS.2.files C m i/\InO n k D.files C m i D.gS.2.files:=by
   rcases R with h|h<;>rw[h]
   .exact⟨w,P⟩
   exact⟨w.stay (iW.del EL),G⟩
  rw[aP (by simpa using M)];generalize D.gS.2=E at *;have⟨x,o⟩:=z;have s:E.count=(C.length,true):=by
   have B:=x.ok.1;cases x with
   |none h=>exact aU9 o.sys.oW.kV 0 (by omega) (λh0 h=>by omega) h
   |some u V m i K g q T=>
    refine aU9 o.sys.oW.kV _ B (λh0 h=>?_) (by simpa using T);rcases cK h0 u.length with U|U
    .have⟨f,v,_⟩:=g h0 U;exact⟨f,v⟩
    have:h0=u.length:=(by simp at h;omega);subst this;have⟨f,c,v,_⟩:=q;exact⟨f,v⟩
  rw[s];simp only[aE9,dW];cases x with
  |none h=>simp only[kG,nF,ne_eq,not_true_eq_false,dW];refine .inl ⟨rfl,J,e,r,[],rfl,?_⟩;exact⟨o.sys,o.stay,⟨by simp,by simp,by simp⟩,λh0 h=>by simp at h,h,JQ.refl 0 (by simp),⟨by simp,by simp⟩,t⟩
  |some u V m i K g q T=>
   have⟨y,Y⟩:=bK1 J (e.trans F) X t o K g q T;have O:=K.last.2.2;have j:=bg4 u K.front (λh0 h=>by have⟨f,v,N,_⟩:=g h0 h;exact⟨f,v,N⟩) O u.length 0 (by omega);rcases j with j|j
   .simp only[DE]at j;rw[show(u++[V]).length=u.length+1 from by simp,j];rcases Y with⟨a,b,c,d,A,v,N⟩|⟨a,b,c,d,h⟩
    .rw[aP (by simpa using a)];exact .inl ⟨rfl,b,c.trans e,d.trans r,A,by simp only;rw[v],N⟩
    rw[aV (by simp only at a;omega)];exact .inr ⟨a,b,c.trans e,d.trans r,h⟩
   exact absurd y j
 rw[aV (by omega)];exact .inr ⟨M,L,e,r,H⟩
structure wQ(l:cA)(G:cS)(C:List (List bH))(S P:Nat):Prop where
 log:zB l C S P
 whole:∀n (h:n<C.length),∃f,bO l (iJ n)=some f/\f.data=eD n C[n]
 bV:G.bV=fB C
 new:bO l dI=none
def aO1(n:bH):Prop:=¬isC n
structure InL(a N:Nat)(c:cA)(b:List (List bH)->Prop)(S P:Nat)(l:cA):Prop where
 sys:Sys a N l
 stay:iW aO1 c l
 log:∃C,zB l C S P/\b C
def InL.kJ{n k:Nat}{b:List (List bH)->Prop}(h:InL n k l b i m f)(a:List Int):InL n k l b i m (eR f a):=by have⟨C,c,d⟩:=h.log;exact⟨h.sys.kJ a,h.stay.trans (iW.kJ _ h.sys.oW.sync a),C,c.stay (iW.kJ _ h.sys.oW.sync a),d⟩
def cB0.open{a:List (List bH)}(h:cB0 n k l C m i a f):wQ f ⟨fB a,kF (fB a)⟩ a a.flatten (kF (fB a)):=⟨(U9 h.ok h.full h.sys.oW.sync h.no).log,(U9 h.ok h.full h.sys.oW.sync h.no).whole,rfl,h.new⟩
def TM(F:D.down=false)(T:D.cap=n){G:cS}{C:List (List bH)}{m i:Nat}(B:Sys n k D.files)(U:wQ D.files G C m i){Ok:List (List bH)->Prop}(v:Ok C):Good D ((gO G D).1,(gO G D).2.2) (λu=>(gO G D).2.1.bV=G.bV/\Sys n k u.files/\iW aO1 D.files u.files/\wQ u.files (gO G D).2.1 C C.flatten (kF (fB C))/\dZ u.files=dZ D.files/\AP u.files C) (InL n k D.files Ok m i):=by
 have X:InL n k D.files Ok m i D.files:=⟨B,iW.refl _ _,C,U.log,v⟩;have L:∀l p,InL n k D.files Ok m i l->InL n k D.files Ok m i (eR l p):=λl p h=>h.kJ p;have⟨y,V,o,s⟩:=U;unfold gO;cases y with
 |none h=>rw[aV (by rw[o];rfl)];exact Good.ok F ⟨rfl,B,iW.refl _ _,⟨.none h,V,o,s⟩,rfl,λhb h=>by simp at h⟩
 |some g I m i H r t W=>
  have⟨Z,h0,R⟩:=H.last;have x:G.bV.length=g+1:=(by rw[o];simp);rw[aP (by rw[o,rL];simp),x,show g+1-1=g.length from rfl];have⟨f,N,M⟩:=V g (by simp);rw[fM dQ]at M;simp only[iM,dA]at M;have Q:∀hb,hb<g.length->iJ g≠iJ hb:=λhb h e=>(by have:=EG (by omega) (by omega) e;omega);have O:∀hb,hb<g.length->bO (eC D.files (iJ g) ⟨f.data,f.data⟩) (iJ hb)=bO D.files (iJ hb):=λhb h=>(by rw[fF,aP (Q hb h)]);have j:AP (eC D.files (iJ g) ⟨f.data,f.data⟩) (g++[I]):=YU R r O (f:=⟨f.data,f.data⟩) (by rw[fF,aV rfl]) M dQ;have q:=B.put (n:=iJ g) (.inr (.inr (.inl ⟨g,by omega,rfl⟩))) (f:=⟨f.data,f.data⟩) dQ (by rw[N];have:=B.room;simp;omega);have z:NoC (eC D.files (iJ g) ⟨f.data,f.data⟩) (g++[I]).length:=λhb J K=>by have J:g.length+1<=hb:=(by simpa using J);rw[fF,aP (λe=>by have:=EG (by omega) K e;omega)];exact W hb J K
  have E:iW aO1 D.files (eC D.files (iJ g) ⟨f.data,f.data⟩):=iW.put (λh=>h (EK (by omega))) _;have P:=(zB.some g I m i H r t W).le;have w:i<=kF (fB (g++[I])):=by
   have⟨f',c,J,K,h3,h4,S⟩:=t;rw[yR];have:=zJ H.front;rcases S with S|⟨ha,h6,h7,h8,h9⟩
   .omega
   have:=BJ (fC (g:Nat)) I ha;unfold eD;omega
  have Y:=ND H j q.oW.sync z P w (λh=>by simp at h);have A:=U9 H j q.oW.sync z;refine((QX F N).NZ L X ⟨q,E,_,Y,v⟩).imp (λ⟨a,b,c,d,e⟩=>⟨a,b,c,d,?_⟩) id;simp only at a e;rw[aV a];simp only;rw[e];refine⟨by first|rfl|trivial,q,E,⟨A.log,A.whole,o,?_⟩,?_,j⟩
  .rw[fF,aP (λe=>NF _ (by omega) e.symm)];exact s
  have:=lB B.oW.kV (iJ g) ⟨f.data,f.data⟩;rw[N]at this;simp at this;exact this
def am3{D:aL}{k:Nat}(h:zR D k=true):dZ D.files+k+6000<=D.cap:=by unfold zR aL.free at h;simp only[bG]at h;omega
def bt6{D:aL}{k:Nat}(h:¬zR D k=true):D.cap<dZ D.files+k+6000:=by unfold zR aL.free at h;simp only[bG]at h;omega
def ag4(b N:Nat)(D:aL)(G:cS)(C:List (List bH))(S P:Nat)(p:bH)(r:Int×Nat×cS×aL):Prop:=(r=(60,0,G,D)/\(200<=C.length\/D.cap<dZ D.files+p.length+24+6000))\/
 (r.1=0/\r.2.2.2.down=false/\r.2.2.2.cap=D.cap/\r.2.2.2.bQ=D.bQ/\Sys b N r.2.2.2.files/\iW aO1 D.files r.2.2.2.files/\dZ r.2.2.2.files<=dZ D.files+p.length+24/\∃a d c,wQ r.2.2.2.files r.2.2.1 a d c/\dF a=dF C++[(r.2.1,p)]/\S<=d/\P<=c/\c<=r.2.1)\/
 (r.1=61/\r.2.1=0/\r.2.2.2.down=true/\r.2.2.2.cap=D.cap/\r.2.2.2.bQ=D.bQ/\InL b N D.files (fun a=>a=C\/∃k,dF a=dF C++[(k,p)]/\P<=k) S P r.2.2.2.files)
def ct1{d:List bH}(h:KH (C++[d]))(i:s.length<=2000)(f:(eD C d).length+s+12<=4096):KH (C++[d++[s]]):=by
 refine⟨by have:=h.1;simp at this|-;omega,λq a x b=>?_,λn g=>?_⟩
 .rcases cB.1 a with a|a
  .exact h.2.1 q (by simp[a]) x b
  rw[bP]at a;subst a;rcases cB.1 b with b|b
  .exact h.last.2.1 x b
  rw[bP.1 b];exact i
 rcases cK n C with c|c
 .rw[jT c];exact h.front.2.2 n c
 have e:n=C:=(by simp at g;omega);subst e;rw[fM dQ];simp only[iM,dA];unfold eD at f|-;rw[MZ,aO,nG];omega
def cF8(h:KH C)(g:C.length<200)(f:s.length<=2000):KH (C++[[s]]):=by
 refine⟨by simp;omega,λq a x d=>?_,λn c=>?_⟩
 .rcases cB.1 a with a|a
  .exact h.2.1 q a x d
  rw[bP]at a;subst a;rw[bP.1 d];exact f
 rcases cK n C with b|b
 .rw[jT b];exact h.2.2 n b
 have e:n=C:=(by simp at c;omega);subst e;rw[fM dQ];simp only[iM,dA];unfold eD;rw[show[s]=[]++[s]from rfl,MZ,aI6,aO,nG,jZ (by omega)];omega
def UI(p:bH):eD n [p]=fC (n:Int)++kE p:=by unfold eD sV;simp
def aL4(a:bH)(b:List bH)(p:bH){n:Nat}(h:n<=b):jB a (b++[p]) n=jB a b n:=TW a b p n h
def bq2(h0:D.down=false)(h6:D.cap=n){G:cS}{C:List (List bH)}{j:List bH}{m i:Nat}(V:Sys n k D.files)(O:wQ D.files G (C++[j]) m i)(ok:KH (C++[j]))(y:AP D.files C)(S:au3 D.files C j m i)(no:NoC D.files (C+1)){s:bH}(hp:s.length<=2000)(L:(eD C j).length+s+12<=4096):ag4 n k D G (C++[j]) m i s (pM G D C (kE s)):=by
 unfold pM;by_cases w:zR D (kE s)=true;case neg=>rw[aV (by simpa using w)];exact .inl ⟨rfl,.inr (by have:=bt6 w;have:=nG s;omega)⟩
 rw[aP (by simpa using w)];have Z:=am3 w;have⟨ha,hb,hc⟩:=ok.last;have⟨f,F,B⟩:=O.whole C (by simp);rw[fM dQ]at B;simp only[iM,dA]at B;have h8:=nG s;have Y:G.bV.getD C 0=(eD C j):=(by rw[O.bV,rL,aY,eF (by simp)];simp);have N:∀hi,hi<C.length->iJ C≠iJ hi:=λhi h e=>(by have:=EG (by omega) (by omega) e;omega);have T:=ct1 ok hp L;have o:eD C (j++[s])=eD C j++kE s:=MZ _ _ _;have⟨f',c,h1,h2,h3,h4,J⟩:=S;rw[F]at h1;cases h1;have X:f.data.length=(eD C j):=(by rw[B]);have h7:f.sync<=f.data:=V.oW.sync _ _ F;have K:(i<=kF (fB C)/\m<=C.flatten)\/∃he,he<=(j++[s]).length/\i<=C*4096+jB (fC (C:Nat)) (j++[s]) he/\jB (fC (C:Nat)) (j++[s]) he<=f.sync/\m<=C.flatten+he:=by
  rcases J with J|⟨he,v,u,U,g4⟩
  .exact .inl J
  exact .inr ⟨he,by simp;omega,by rw[aL4 _ _ _ v];exact u,by rw[aL4 _ _ _ v];exact U,g4⟩
 have p:i<=C*4096+(eD C j):=by
  have:=zJ ok.front;rcases J with J|⟨he,v,u,U,g4⟩
  .omega
  have:=BJ (fC (C:Nat)) j he;unfold eD;omega
 have t:dF (C++[j++[s]])=dF (C++[j])++[(C*4096+(eD C j).length,s)]:=by rw[mK,mK,YP,bT]
 have A:zB D.files (C++[j++[s]]) m i:=.some C (j++[s]) m i T y ⟨f,eD C j,F,by rw[o,aO];omega,by rw[o,mP];exact B,by omega,K⟩ no;have z:∀hi,iJ C≠iJ hi->bO (eC D.files (iJ C) ⟨f.data++kE s,f.sync⟩) (iJ hi)=bO D.files (iJ hi):=λhi h=>by rw[fF,aP h]
 have q:zB (eC D.files (iJ C) ⟨f.data++kE s,f.sync⟩) (C++[j++[s]]) m i:=by
  refine .some C (j++[s]) m i T (λhi h=>?_) ⟨⟨f.data++kE s,f.sync⟩,eD C (j++[s]),by rw[fF,aV rfl],dQ,by rw[eX,o,B],by rw[o,aO,<-X];simp only;omega,K⟩ (λhi v u=>?_)
  .have⟨g,v,u,U⟩:=y hi h;exact⟨g,by rw[z hi (N hi h)];exact v,u,U⟩
  rw[z hi (λe=>by have:=EG (by omega) u e;omega)];exact no hi v u
 have P:=V.put (n:=iJ C) (.inr (.inr (.inl ⟨C,by omega,rfl⟩))) (f:=⟨f.data++kE s,f.sync⟩) (by simp;omega) (by
  rw[F];have:=CC rS D.files;simp only[aO,pZ,lX];omega)
 have Q:iW aO1 D.files (eC D.files (iJ C) ⟨f.data++kE s,f.sync⟩):=iW.put (λh=>h (EK (by omega))) _;have M:=(J7 h0 F (kE s) (by omega)).NZ (I:=InL n k D.files (λC'=>C'=C++[j]\/∃hh,dF C'=dF (C++[j])++[(hh,s)]/\i<=hh) m i) (λl R h=>h.kJ R) ⟨V,iW.refl _ _,_,A,.inr ⟨_,t,p⟩⟩ ⟨P,Q,_,q,.inr ⟨_,t,p⟩⟩;generalize D.append (iJ C) (kE s)=r at M|-;have⟨e,E⟩:=r;rcases M with⟨a,b,H,d,x⟩|⟨a,b,H,d,x⟩
 .simp only at a b H d x;subst a;rw[aP (by simp)];refine .inr (.inl ⟨rfl,b,H,d,by simp only;rw[x];exact P,by simp only;rw[x];exact Q,?_,C++[j++[s]],m,i,?_,?_,dQ,dQ,?_⟩)
  .simp only;rw[x];have:=lB V.oW.kV (iJ C) ⟨f.data++kE s,f.sync⟩;rw[F]at this;simp at this;omega
  .simp only;rw[x];refine⟨q,λhi h=>?_,?_,?_⟩
   .rcases cK hi C with W|W
    .have⟨g,v,u⟩:=O.whole hi (by simp;omega);rw[jT W]at u|-;exact⟨g,by rw[z hi (N hi W)];exact v,u⟩
    have e:hi=C.length:=(by simp at h;omega);subst e;rw[fM dQ];simp only[iM,dA];exact⟨_,by rw[fF,aV rfl],by rw[o,B]⟩
   .show G.bV.set C (G.bV.getD C 0+(kE s))=_;rw[Y,O.bV,rL,rL,o,aO,kC _ _ (by simp)];simp
   rw[fF,aP (λe=>NF _ (by omega) e.symm)];exact O.new
  .simp only;rw[Y];exact t
  simp only;rw[Y];exact p
 simp only at a b H d x;subst a;rw[aV (by simp)];exact .inr (.inr ⟨rfl,rfl,b,H,d,x⟩)
def bR0(hu:D.down=false)(X:D.cap=n)(hN:k<=98){G:cS}{C:List (List bH)}{m i:Nat}(hs:Sys n k D.files)(ho:wQ D.files G C m i){s:bH}(hp:s.length<=2000):ag4 n k D G C m i s (pX G D C (kE s)):=by
 have he:=nG s;unfold pX;by_cases N:200<=C.length\/zR D (12+(kE s))=false
 .rw[aV N];exact .inl ⟨rfl,N.imp id λT=>by have:=bt6 (D:=D) (k:=12+(kE s)) (by rw[T];simp);omega⟩
 rw[aP N];have hr:=am3 (D:=D) (k:=12+(kE s)) (by
  cases h:zR D (12+(kE s))
  .exact absurd (.inr h) N
  rfl)
 have L:C.length<200:=by
  rcases cK C 200 with h|h
  .exact h
  exact absurd (.inl h) N
 have ok:=ho.log.ok;have P:=TM hu X hs ho (Ok:=λo=>o=C\/∃hz,dF o=dF C++[(hz,s)]/\i<=hz) (.inl rfl);have A:=ho.log.le;have t:i<=kF (fB C):=by
  have hb:=ho.log;cases hb with
  |none h=>exact bK _
  |some C0 ps m i ok hx hh no=>
   have⟨f',c,h1,h2,h3,h4,h5⟩:=hh;rw[yR];have:=zJ ok.front;rcases h5 with h5|⟨hy,h6,h7,h8,T⟩
   .omega
   have:=BJ (fC (C0:Nat)) ps hy;unfold eD;omega
 have hj:=zJ ok;have B:dF (C++[[s]])=dF C++[(C.length*4096+12,s)]:=by
  rw[mK,show[s]=[]++[s]from rfl,YP];congr 1;show[]++[(C*4096+(eD C []).length,s)]=_;rw[show(eD C []).length=12 from by unfold eD;rw[aI6,jZ (by omega)]];rfl
 generalize hq:gO G D=q at P|-;have⟨e1,G1,j⟩:=q;simp only at P|-;rcases P with⟨a,hi,w,R,hg,v,F,y,ht,p⟩|⟨a,b,J,d,z⟩
 .simp only at a hi w R hg v F y ht p;subst a;rw[aP (by simp)];have hv:=cF8 ok L hp;have O:bO j.files (iJ C)=none:=by
   have:=y.log;cases this with
   |none h=>exact h 0 dQ (by omega)
   |some C0 ps _ _ _ _ _ no=>simpa using no (C0+1) dQ (by simp at L;omega)
  have M:NoC j.files C:=by
   have:=y.log;cases this with
   |none h=>exact h
   |some C0 ps _ _ _ _ _ no=>simpa using no
  have hn:∀x0,x0<C.length->iJ C≠iJ x0:=λx0 h e=>(by have:=EG (by omega) (by omega) e;omega);have ha:∀f x0,iJ C≠iJ x0->bO (eC j.files (iJ C) f) (iJ x0)=bO j.files (iJ x0):=λf x0 h=>by rw[fF,aP h]
  have x:∀f,AP (eC j.files (iJ C) f) C:=λf x0 h=>by have⟨g,g1,K,g3⟩:=p x0 h;exact⟨g,by rw[ha f x0 (hn x0 h)];exact g1,K,g3⟩
  have hf:∀f,NoC (eC j.files (iJ C) f) (C+1):=λf x0 g1 K=>by rw[ha f x0 (λe=>by have:=EG (by omega) K e;omega)];exact M x0 (by omega) K
  have u:∀c,c<=(eD C [s]).length->∀S' P',S'<=C.flatten.length->P'<=kF (fB C)->zB (eC j.files (iJ C) ⟨(eD C [s]).take c,0⟩) (C++[[s]]) S' P':=λc N S' P' hS hP=>.some C [s] S' P' hv (x _) ⟨_,c,by rw[fF,aV rfl],N,rfl,bK _,.inl ⟨hP,hS⟩⟩ (hf _);have Q:∀d:bH,dZ j.files+d+6000<=n->Sys n k (eC j.files (iJ C) ⟨d,0⟩):=λd hd=>v.put (.inr (.inr (.inl ⟨C,by omega,rfl⟩))) (bK _) (by have:=CC rS j.files;simp only;omega);have H:∀f,iW aO1 D.files (eC j.files (iJ C) f):=λf=>F.trans (iW.put (λh=>h (EK (by omega))) _);have Y:(eD C [s]).length=s+24:=(by rw[UI,aO,he,jZ (by omega)];omega);have hm:=y.log.stay (iW.refl _ _);have hl:InL n k D.files (λo=>o=C\/∃hz,dF o=dF C++[(hz,s)]/\i<=hz) m i j.files:=by
   refine⟨v,F,C,?_,.inl rfl⟩;exact ND ok p v.oW.sync M A t (λh=>by subst h;have h1:=A;have h2:=t;simp[fB,kF]at h1 h2;exact⟨h1,h2⟩)
  have Z:∀l I,InL n k D.files (λo=>o=C\/∃hz,dF o=dF C++[(hz,s)]/\i<=hz) m i l->InL n k D.files (λo=>o=C\/∃hz,dF o=dF C++[(hz,s)]/\i<=hz) m i (eR l I):=λl I h=>h.kJ I;have W:InL n k D.files (λo=>o=C\/∃hz,dF o=dF C++[(hz,s)]/\i<=hz) m i (eC j.files (iJ C) ⟨[],0⟩):=⟨Q [] (by simp;omega),H _,_,by have:=u 0 (bK _) m i A t;simpa using this,.inr ⟨_,B,by omega⟩⟩;have hk:InL n k D.files (λo=>o=C\/∃hz,dF o=dF C++[(hz,s)]/\i<=hz) m i (eC j.files (iJ C) ⟨eD C [s],0⟩):=⟨Q _ (by omega),H _,_,by have:=u _ dQ m i A t;rw[eX]at this;exact this,.inr ⟨_,B,by omega⟩⟩;have h0:Good j (FT j C (kE s)) (λD'=>D'.files=eC j.files (iJ C) ⟨eD C [s],0⟩) (InL n k D.files (λo=>o=C\/∃hz,dF o=dF C++[(hz,s)]/\i<=hz) m i):=by
   unfold FT;refine((Q6 hi (AB (by omega)) O (v.yG hN)).NZ Z hl W).then λU hw V _ S=>?_;have S:U.files=eC j.files (iJ C) ⟨[],0⟩:=S;have K:bO U.files (iJ C)=some ⟨[],0⟩:=(by rw[S,fF,aV rfl]);have s2:eC U.files (iJ C) ⟨[]++(fC (C:Nat)++kE s),0⟩=eC j.files (iJ C) ⟨eD C [s],0⟩:=by rw[S,RF,UI];rfl
   have u2:dZ U.files=dZ j.files:=by rw[S];have:=lB v.oW.kV (iJ C) ⟨[],0⟩;rw[O]at this;simp at this;exact this
   refine((J7 hw K (fC (C:Nat)++kE s) (by rw[u2,<-UI,Y,V,w];omega)).NZ Z (by rw[S];exact W) (by show InL _ _ _ _ _ _ (eC U.files (iJ C) ⟨[]++(fC (C:Nat)++kE s),0⟩);rw[s2];exact hk)).mono (λD3 _ _ _ e3=>e3.trans s2) (λ_ h=>h)
  generalize FT j C (kE s)=r at h0|-;have⟨e,E⟩:=r;rcases h0 with⟨a,b,J,d,z⟩|⟨a,b,J,d,z⟩
  .simp only at a b J d z;subst a;rw[aP (by simp)];refine .inr (.inl ⟨rfl,b,J.trans w,d.trans R,by simp only;rw[z];exact Q _ (by omega),by simp only;rw[z];exact H _,?_,C++[[s]],C.flatten,kF (fB C),?_,B,A,t,by simp only;omega⟩)
   .simp only;rw[z];have:=lB v.oW.kV (iJ C) ⟨eD C [s],0⟩;rw[O]at this;simp at this;omega
   simp only;rw[z];refine⟨by have:=u _ dQ _ _ dQ dQ;rw[eX]at this;exact this,λx0 h=>?_,?_,?_⟩
   .rcases cK x0 C with T|T
    .have⟨g,g1,K,_⟩:=x ⟨eD C [s],0⟩ x0 T;rw[jT T];exact⟨g,g1,K⟩
    have e:x0=C.length:=(by simp at h;omega);subst e;rw[fM dQ];simp only[iM,dA];exact⟨_,by rw[fF,aV rfl],rfl⟩
   .rw[y.bV,rL,Y,he,show s+24=12+(s.length+12)from by omega]
   rw[fF,aP (λe=>NF _ (by omega) e.symm)];exact y.new
  simp only at a b J d z;subst a;rw[aV (by simp)];exact .inr (.inr ⟨rfl,rfl,b,J.trans w,d.trans R,z⟩)
 simp only at a b J d z;subst a;rw[aV (by simp)];exact .inr (.inr ⟨rfl,rfl,b,J,d,z⟩)
def bq7(f:D.down=false)(a:D.cap=n)(r:k<=98){G:cS}{C:List (List bH)}{m i:Nat}(q:Sys n k D.files)(c:wQ D.files G C m i){s:bH}(p:s.length<=2000):ag4 n k D G C m i s (iE G D s):=by
 unfold iE;rw[aP (by omega)];have b:G.bV.length=C:=(by rw[c.bV];simp);by_cases h:G.bV≠[]/\yF (G.bV.getD (G.bV-1) 0) s=true
 .rw[aV h];have⟨o,j⟩:=h;have e:=c.log;cases e with
  |none _=>rw[c.bV]at o;exact absurd rfl o
  |some l x m i w d g v=>have u:G.bV.length-1=l:=(by rw[b];simp);rw[u]at j|-;have t:G.bV.getD l 0=(eD l x):=(by rw[c.bV,rL,aY,eF (by simp)];simp);rw[t]at j;unfold yF at j;simp only[bG]at j;exact bq2 f a q c w d g v p (by omega)
 rw[aP h,b];exact bR0 f a r q c p
variable{G:cS}
def cl3(b:n<=199)(a:List bH)(d:∀p∈a,p.length<=2000):cAt (eD n a) (n:Int)=(List.range a).map (jB (fC (n:Int)) a):=by have c:=(ad2 b a (eD n a) dQ).2;rw[eX,bZ (Q9 b a)]at c;unfold cAt;rw[aV c];have:=(ar6 (fC (n:Int)) a (eD n a) a dQ d (by rw[CK];exact cV _) (λh=>by omega) dQ).1;rw[jZ b]at this;unfold eD at this|-;rw[eX]at this;rw[show(12:Int)=((12:Nat):Int)from rfl,this];unfold rowAt;rw[<-qX,List.take_range,fX (by omega)]
def cD1{n:Nat}(a:List bH)(i:Nat)(h:i<a)(b:a[i].length<=2000):gA (eD n a) ((jB (fC (n:Int)) a i:Nat):Int)=a[i]/\gN (eD n a) ((jB (fC (n:Int)) a i:Nat):Int)=jB (fC (n:Int)) a i+a[i].length+12/\UB (eD n a) ((jB (fC (n:Int)) a i:Nat):Int)=true:=by unfold eD;rw[IL (fC (n:Int)) a i h];unfold jB;exact⟨bx7 _ _ _ b,cx2 _ _ _ b,S8 _ _ _ b⟩
def vW(n:Nat):List (List bH)->List lW
 |[]=>[]
 |ps::C=>qW n ps++vW (n+1) C
def bZ1(C:List (List bH)):∀n,vW n C=(C.mapIdx λi a=>qW (n+i) a).flatten:=by
 induction C with
 |nil=>intro n;rfl
 |cons a C b=>
  intro n;rw[vW,b,br9,iA];simp only[xX];congr 3;funext i q;rw[gC,Nat.add_comm 1 i]
def XM(C:List (List bH)):dF C=vW 0 C:=by rw[bZ1];unfold dF;simp
def MH(l:cA)(C:List (List bH)):Prop:=∀n (h:n<C.length),∃f,bO l (iJ n)=some f/\f.data=eD n C[n]
def bI9(w:MH D.files C)(c:KH C)(h:G.bV=fB C)(a:Int):∀k n,n+k=C.length->FJ G D a k n=M1 ((vW n (C.drop n)).find? λr=>decide (a<=(r.1:Int))):=by
 intro k;induction k with
 |zero=>intro n v;rw[FJ,iR (by omega)];rfl
 |succ k x=>
  intro n v;have b:n<C:=(by omega);have j:=c.1;have⟨f,t,s⟩:=w n b;have l:=c.2.1 _ (dC b);have u:G.bV.getD n 0=(eD n C[n]):=(by rw[h,aY,aJ (by simpa using b)];simp[fB]);rw[FJ,t];simp only;rw[u,s,eX,cl3 (by omega) _ l,List.find?_map,<-gT b,vW,aZ2];have e:(qW n C[n]).find? (λr=>decide (a<=(r.1:Int)))=((List.range C[n].length).find? λi=>decide (a<=((n*4096+jB (fC (n:Int)) C[n] i:Nat):Int))).map λi=>(n*4096+jB (fC (n:Int)) C[n] i,C[n].getD i []):=by unfold qW;rw[List.find?_map];rfl
  rw[e];have m:((λp:Nat=>decide (a<=((n*4096+p:Nat):Int))) ∘ jB (fC (n:Int)) C[n])=λi=>decide (a<=((n*4096+jB (fC (n:Int)) C[n] i:Nat):Int)):=rfl;rw[m];cases d:(List.range C[n].length).find? (λi=>decide (a<=((n*4096+jB (fC (n:Int)) C[n] i:Nat):Int)))with
  |none=>simp only[bS1,Option.none_or];exact x (n+1) (by omega)
  |some i=>have g:i<C[n].length:=gB.1 (cp2 d);have⟨o,q,y⟩:=cD1 (n:=n) C[n] i g (l _ (dC g));simp only[pZ,Option.some_or,M1];rw[o,q,aY,aJ g];simp[gC]
def aJ7(c:(eD n a).length<=4096){r:lW}(h:r∈qW n a):n*4096<=r.1/\r.1+r.2+12<=(n+1)*4096:=by unfold qW at h;obtain⟨i,b,rfl⟩:=dS.1 h;have b:=gB.1 b;have e:=vY (fC (n:Int)) a i b;have f:=BJ (fC (n:Int)) a (i+1);have d:a.getD i []=a[i]:=(by rw[aY,aJ b];rfl);unfold eD at c;simp only;rw[d];omega
def aq3{d:Type}(q:d->Bool)(a b:List d)(h:∀x∈a,q x=false):(a++b).find? q=b.find? q:=by rw[aZ2,MM.2 (λx c=>by rw[h x c];simp)];rfl
def aJ8(C:List (List bH)):∀(n m:Nat),m<=C->vW n C=vW n (C.take m)++vW (n+m) (C.drop m):=by
 induction C with
 |nil=>intro n m a;simp[vW]
 |cons c C b=>
  intro n m a;cases m with
  |zero=>simp[vW]
  |succ m=>rw[zC,ak4,vW,vW,b (n+1) m (by simpa using a),bT,show n+1+m=n+(m+1)from by omega]
def YQ(C:List (List bH)):∀(n:Nat),(∀i (h:i<C.length),(eD (n+i) C[i]).length<=4096)->∀r∈vW n C,n*4096<=r.1/\r.1+r.2+12<=(n+C)*4096:=by
 induction C with
 |nil=>intro n _ r a;cases a
 |cons e C d=>
  intro n c r a;rw[vW]at a;rcases cB.1 a with a|a
  .have b:=c 0 (by simp);simp only[xX,dA]at b;have:=aJ7 b a;simp only[cE];omega
  have:=d (n+1) (λi h=>by have:=c (i+1) (by simpa using h);rw[show n+(i+1)=n+1+i from by omega]at this;simpa using this) r a;simp only[cE];omega
def cc6(o:MH D.files C)(d:KH C)(e:G.bV=fB C)(b:Int):EH G D b=M1 ((dF C).find? λr=>decide (b<=(r.1:Int))):=by
 unfold EH;have c:G.bV.length=C:=by rw[e];simp
 have l:(λr:lW=>decide (b<=(r.1:Int)))=λr:lW=>decide (max b 0<=(r.1:Int)):=by
  funext r;rw[iX,bG,bG];omega
 rw[l,c,XM];obtain⟨p,k⟩:∃p:Nat,max b 0=(p:Int):=⟨(max b 0).toNat,by omega⟩;rw[k];have j:((p:Int)/4096).toNat=p/4096:=(by omega);rw[j];have a:∀m,m<=C.length->m*4096<=p->∀r∈vW 0 (C.take m),decide ((p:Int)<=(r.1:Int))=false:=λm g f r n=>by
  have:=YQ (C.take m) 0 (λi h=>by simp at h;have:=d.2.2 i (by omega);simpa using this) r n;simp only[b8,jC]at this;rw[cN];rw[fX g]at this;omega
 by_cases h:p/4096<=C
 .rw[bI9 o d e (p:Int) (C-p/4096) (p/4096) (by omega),aJ8 C 0 (p/4096) h,aq3 _ _ _ (a _ h (by omega)),jC]
 rw[show C.length-p/4096=0 from by omega,FJ];have:=a C dQ (by omega);rw[eX]at this;rw[MM.2 (λx q=>by rw[this x q];simp)];rfl
def B8(R:List lW):Prop:=R.Pairwise fun a b=>a.1+a.2.length+12<=b.1
def aw3(n:Nat)(a:List bH):B8 (qW n a):=by unfold B8 qW;rw[mF];refine List.pairwise_lt_range.imp_of_mem fun {i j} b g d=>?_;have b:=gB.1 b;have e:=vY (fC (n:Int)) a i b;have f:=IP (H:=fC (n:Int)) (ps:=a) (i:=i+1) (j:=j) (by omega);have c:a.getD i []=a[i]:=(by rw[aY,aJ b];rfl);simp only;rw[c];omega
def aw4(C:List (List bH)):∀(n:Nat),(∀i (h:i<C.length),(eD (n+i) C[i]).length<=4096)->B8 (vW n C):=by
 induction C with
 |nil=>intro n _;exact List.Pairwise.nil
 |cons k C j=>intro n e;have c:∀i (h:i<C.length),(eD (n+1+i) C[i]).length<=4096:=λi h=>(by have:=e (i+1) (by simpa using h);rw[show n+(i+1)=n+1+i from by omega]at this;simpa using this);rw[vW];refine pH.2 ⟨aw3 n k,j (n+1) c,λa f b g=>?_⟩;have d:=e 0 (by simp);simp only[xX,dA]at d;have l:=aJ7 d f;have m:=YQ C (n+1) c b g;omega
def rZ(h:KH C):B8 (dF C):=by rw[XM];exact aw4 C 0 (λi a=>by have:=h.2.2 i a;simpa using this)
def GM(h:KH C){r:lW}(a:r∈dF C):r.1+r.2+12<=C*4096:=by rw[XM]at a;have:=YQ C 0 (λi b=>by have:=h.2.2 i b;simpa using this) r a;simpa using this.2
def bF2(E:MH l C)(c:KH C){r:lW}(w:r∈dF C):∃f,r.1/4096<C/\bO l (iJ (r.1/4096))=some f/\f.data=(fB C).getD (r.1/4096) 0/\12<=r.1%4096/\recAt f.data (r.1%4096)=true/\gA f.data ((r.1%4096:Nat):Int)=r.2/\f.data.length<=4096:=by
 have t:∀(d:List (List bH)) (n:Nat),(∀i (h:i<d.length),n+i<C.length/\C[n+i]?=some d[i])->r∈vW n d->∃m,m<C.length/\∃j,C[m]?=some j/\r∈qW m j:=by
  intro d;induction d with
  |nil=>intro n _ h;cases h
  |cons j d F=>
   intro n s h;rw[vW]at h;rcases cB.1 h with h|h
   .exact⟨n,(s 0 (by simp)).1,j,(s 0 (by simp)).2,h⟩
   exact F (n+1) (λi b=>by have:=s (i+1) (by simpa using b);rw[show n+(i+1)=n+1+i from by omega]at this;simpa using this) h
 rw[XM]at w;have⟨m,g,j,k,o⟩:=t C 0 (λi h=>⟨by omega,by simp[h]⟩) w;have e:C[m]=j:=(by rw[aJ g]at k;exact cJ k);subst e;have⟨f,B,p⟩:=E m g;have a:=c.2.2 m g;have u:=c.1;unfold qW at o;obtain⟨i,b,rfl⟩:=dS.1 o;have b:=gB.1 b;have H:=vY (fC (m:Int)) C[m] i b;have I:=BJ (fC (m:Int)) C[m] (i+1);have A:C[m].getD i []=C[m][i]:=(by rw[aY,aJ b];rfl);have v:=RH (fC (m:Int)) C[m] i;rw[jZ (by omega)]at v;have D:jB (fC (m:Int)) C[m] i<4096:=(by unfold eD at a;omega);simp only;have x:(m*4096+jB (fC (m:Int)) C[m] i)/4096=m:=(by omega);have y:(m*4096+jB (fC (m:Int)) C[m] i)%4096=jB (fC (m:Int)) C[m] i:=(by omega);rw[x,y,A];have⟨z,G,q⟩:=cD1 (n:=m) C[m] i b (c.2.1 _ (dC g) _ (dC b));refine⟨f,g,B,?_,v,?_,?_,by rw[p];exact a⟩
 .rw[p,aY,aJ (by simpa using g)];simp[fB]
 .rw[p];unfold UB at q;rw[bL,bW]at q;exact q.2
 rw[p];exact z
def ao6(h:MH D.files C)(a:KH C)(c:G.bV=fB C){R P:List lW}(f:dF C=R++P){n:Nat}(d:∀r∈R,r.1<n)(e:∀r∈P,n<=r.1):EH G D n=M1 P.head?:=by
 rw[cc6 h a c,f,aq3 _ _ _ (λr g=>by rw[cN];have:=d r g;omega)];cases P with
 |nil=>rfl
 |cons b P=>rw[US (by simpa using e b (by simp))];rfl
def bN3(b:KH C){P R:List lW}{r:lW}(g:dF C=P++r::R):(∀x∈P++[r],x.1<r.1+r.2+12)/\∀x∈R,r.1+r.2+12<=x.1:=by
 have c:=rZ b;unfold B8 at c;rw[g]at c;have⟨h,d,e⟩:=pH.1 c;have⟨f,i⟩:=dG.1 d;refine⟨λx a=>?_,f⟩;rcases cB.1 a with a|a
 .have:=e x a r (by simp);omega
 rw[bP.1 a];omega
def QV(h:k<256^n)(t:bH)(b:Bool):mY n (be n k++t,b)=(k,(t,b)):=by unfold mY;rw[aP (by simp)];have d:(be n k)=n:=(by simp);simp only;have a:(be n k++t).take n=be n k:=(by rw[gE (by omega),aT (by omega)]);have c:(be n k++t).drop n=t:=o7 d;rw[a,c,LK,qZ h]
def al3(h:n<256)(t:bH)(b:Bool):mY 1 (UInt8.ofNat n::t,b)=(n,(t,b)):=by unfold mY;rw[aP (by simp)];simp[num];omega
def cd5(l:List Nat)(t:bH):∀(a:List Nat),(∀n∈l,n<4294967296)->DQ l (l.flatMap (be 4)++t,true) a=(a++l,(t,true)):=by
 induction l with
 |nil=>intro a _;simp[DQ]
 |cons n l c=>intro a h;rw[cE,DQ,aP (by simp),eN,bT,QV (h n (by simp))];simp only;rw[c _ (λm b=>h m (by simp[b]))];simp
def bK5(L:mX)(t:bH):∀(a:mX),(∀l∈L,l.length<256/\∀n∈l,n<4294967296)->wG L (L.flatMap uE++t,true) a=(a++L,(t,true)):=by
 induction L with
 |nil=>intro a _;simp[wG]
 |cons l L g=>intro a h;have⟨c,d⟩:=h l (by simp);rw[cE,wG,aP (by simp),eN,bT];show wG L (DQ (mY 1 (UInt8.ofNat l::l.flatMap (be 4)++(L.flatMap uE++t),true)).1 _ []).2 _=_;rw[show UInt8.ofNat l.length::l.flatMap (be 4)++(L.flatMap uE++t)=UInt8.ofNat l::(l.flatMap (be 4)++(L.flatMap uE++t))from rfl];have e:=al3 c (l.flatMap (be 4)++(L.flatMap uE++t)) true;have b:mY 1 (uE l++(L.flatMap uE++t),true)=(l.length,(l.flatMap (be 4)++(L.flatMap uE++t),true)):=e;rw[e,b];simp only;rw[cd5 l _ [] d];simp only;rw[g _ (λm f=>h m (by simp[f]))];simp
def oA(l:mX):(iQ l).flatten=l.flatten:=by
 induction l using CI with
 |h0=>rfl
 |h1 l a b=>
  unfold iQ at b|-;rw[zD];show((a::l.reverse).dropWhile List.isEmpty).reverse.flatten=_;rw[nO];by_cases h:a.isEmpty=true
  .rw[aV h,b];have:a=[]:=T5.1 h;subst this;simp
  rw[aP h];simp
def bb7(l:mX):iQ (iQ l)=iQ l:=by
 unfold iQ;rw[List.reverse_reverse];congr 1;have:∀m:mX,(m.dropWhile List.isEmpty).dropWhile List.isEmpty=m.dropWhile List.isEmpty:=by
  intro m;induction m with
  |nil=>rfl
  |cons a m b=>
   rw[nO];by_cases h:a.isEmpty=true
   .rw[aV h,b]
   rw[aP h,nO,aP h]
 exact this _
def CF(l:mX):(iQ l).length<=l:=by unfold iQ;rw[zF];have:=(XH List.isEmpty (l:=l.reverse)).length_le;simpa using this
def DY(m:jD):jD:={m with fP:=iQ m.fP}
def mM{M:jD}:wU M=true↔(M.next<=1000000/\M.check<=2147483647)/\(M.fP.length<=5/\M.fP.flatten.length<=40/\M.fP.flatten.Nodup)/\∀n∈M.fP.flatten,n<M.next:=by unfold wU kR;simp only[bL,bG,dN]
def cb9{M:jD}(h:wU M=true):wU (DY M)=true:=by rw[mM]at h|-;obtain⟨a,⟨b,c,d⟩,e⟩:=h;have:=CF M.fP;refine⟨a,⟨by show(iQ M.fP).length<=5;omega,?_,?_⟩,?_⟩<;>(show _;simp only[DY,oA];assumption)
def LQ{C:mX}(h:M∈C):M.length<=C.flatten:=by obtain⟨a,b,rfl⟩:=List.append_of_mem h;simp only[iO,iA,aO];omega
def bF6{M:jD}(h:wU M=true)(m:M.aX<18446744073709551616):sY (X6 M)=(DY M,([],true)):=by obtain⟨⟨f,g⟩,⟨i,j,k⟩,d⟩:=mM.1 h;have o:=CF M.fP;have a:=oA M.fP;unfold sY X6 DY;have c:([105,109,97,112]++be 4 M.next++be 4 M.check++be 8 M.aX++[UInt8.ofNat (iQ M.fP)]++(iQ M.fP).flatMap uE).drop 4=be 4 M.next++(be 4 M.check++(be 8 M.aX++(UInt8.ofNat (iQ M.fP)::((iQ M.fP).flatMap uE++[])))):=(by simp);rw[c,QV (by omega)];simp only;rw[QV (by omega)];simp only;rw[QV (by omega)];simp only;rw[al3 (by omega)];simp only;rw[bK5 (iQ M.fP) [] [] (λl b=>⟨by have:=LQ b;rw[a]at this;omega,λn e=>by have:n∈M.fP.flatten:=(by rw[<-a];exact tS.2 ⟨l,b,e⟩);have:=d n this;omega⟩)];simp
def bF9(m:jD):iS (DY m)=iS m:=by unfold iS X6 DY;simp only[bb7]
def bi3(l:bH):kY (kU l)=true/\kH (kU l)=l:=by
 have b:=oK l;have e:(kU l).take ((kU l)-4)=l:=by rw[b,show l+4-4=l.length from by omega];unfold kU;rw[mP]
 have a:kY (kU l)=true:=by unfold kY;rw[e,b,show l+4-4=l.length from by omega,bZ (by omega)];unfold kU;rw[mR];simp
 exact⟨a,by unfold kH;rw[a,aV rfl,e]⟩
def RW{M:jD}(h:wU M=true)(g:M.aX<18446744073709551616):sB (iS M)=true/\getM (iS M)=DY M:=by
 have⟨c,d⟩:=bi3 (X6 M);have e:kH (iS M)=X6 M:=d;have b:=bF6 h g;have f:FO (X6 M)=true:=by unfold FO X6;simp
 have a:sB (iS M)=true:=by unfold sB;rw[e,b,f];simp only;rw[cb9 h,bF9];unfold iS;rw[c];simp
 refine⟨a,?_⟩;unfold getM;rw[a,aV rfl,e,b]
def az8(h:sB s=true):wU (getM s)=true/\iS (getM s)=s:=by have a:=h;unfold sB at a;simp only[bL,bG]at a;unfold getM;rw[h,aV rfl];exact⟨a.1.2,a.2⟩
end Go.Proofs.YtpopikndggffaaaGreatDoor
