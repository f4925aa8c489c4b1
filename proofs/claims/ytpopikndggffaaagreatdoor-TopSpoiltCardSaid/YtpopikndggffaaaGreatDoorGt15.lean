/- TOP, part 15. -/
import Derived.Test.YtpopikndggffaaaGreatDoorGt11
import Derived.Test.YtpopikndggffaaaGreatDoorGt12
namespace Go.Proofs.YtpopikndggffaaaGreatDoor
set_option linter.all false
set_option maxRecDepth 100000
set_option maxHeartbeats 16000000
open Go.RowKit Tryz
def cm9(b:aI)(a:Nat)(v:aN)(l:List dB):Prop:=b.ownsRow a 152 3 v l.length (gV l)/\∀e∈l,wC e
def pA(w:aI)(a:Nat):cm9 w a zs []:=⟨bM _ _ _ _,by simp⟩
def YC(s:aS)(w:aI)(hs:s.size<=1000000000):Calls prog 232 #[s] w λe w'=>∃v,e=.returned (.tuple #[v,yK (lb s)])/\cm9 w' w v (rY (lb s))/\aR w w w':=by
 have⟨a,d⟩:=aI1 (s:=lb s) (by rw[bI];exact hs);go_in;go_wp2_with fail
 go_call MY s w (by omega) as e w1 ⟨rfl,r⟩;rcases ho:kY (lb s)with _|_
 .have c:kT (lb s)=false:=(by rw[<-a];unfold OY;rw[ho];simp);go_wp2;refine bE (v:=.tuple #[zs,(90:Int)]) (by simp[results,results232,go_sem]) rfl ⟨zs,by unfold yK;rw[c];rfl,by unfold rY;rw[c];exact pA _ _,r⟩
 have hA:kH (lb s)=(lb s).take ((lb s)-4):=(by unfold kH;rw[ho,aV rfl]);rw[hA];have hp:((lb s).take ((lb s)-4)).length<=1000000000:=(by simp;omega);unfold OY at a;rw[ho]at a;generalize (lb s).take ((lb s)-4)=t at a d hp|-;have I:((bs t).extract 0 4).toList=t.take 4:=(by rw[dY,gP,GF];simp);by_cases c2:t.length<8
 .have hg:(t:Int)<8:=(by omega);have c:kT (lb s)=false:=(by rw[<-a];simp;intros;omega);clear a d;go_wp2;refine bE (v:=.tuple #[zs,(90:Int)]) (by simp[results,results232,go_sem]) rfl ⟨zs,by unfold yK;rw[c];rfl,by unfold rY;rw[c];exact pA _ _,r⟩
 have hg:¬(t:Int)<8:=(by omega);have hy:(4:Int)<=(t:Int):=(by omega);have hz:(8:Int)<=(t:Int):=(by omega);rcases Z:(t.take 4==[112,116,97,98])with _|_
 .have c:kT (lb s)=false:=(by rw[<-a,Z];simp);have h4:(((bs t).extract 0 4).toList==[112,116,97,98])=false:=(by rw[I];exact Z);clear a d Z I;go_wp2;refine bE (v:=.tuple #[zs,(90:Int)]) (by simp[results,results232,go_sem]) rfl ⟨zs,by unfold yK;rw[c];rfl,by unfold rY;rw[c];exact pA _ _,r⟩
 have h4:(((bs t).extract 0 4).toList==[112,116,97,98])=true:=(by rw[I];exact Z);rw[Z]at a;clear Z I;have h9:((t.drop 4).take 4).length=4:=by simp;omega
 have V:pF (lb ((bs t).extract 4 8))=num ((t.drop 4).take 4):=by rw[dY,gP,gP];unfold pF;rw[aT (by simp;omega)]
 have ha:=AU ((t.drop 4).take 4);rw[h9]at ha;generalize num ((t.drop 4).take 4)=m at a d V ha;have hr:(bs t).extract 8 t=bs (t.drop 8):=by
  rw[dY,gP];congr 1;exact aT (by simp)
 have h7:(t.drop 8).length=t-8:=(by simp);generalize hR:t.drop 8=R at a d hr h7;have hx:m<4294967296:=(by omega);have wm:IntKind.u64.wrap ((m:Int)*24)=(m:Int)*24:=(by rw[eE];omega);have hv:IntKind.u64.wrap ((R:Nat):Int)=(R:Int):=(by rw[eE];omega);have⟨g,h0⟩:=aA a d;clear a d hR h9;go_wp2_with fail
 go_call xG _ _ (by rw[dY,eO];simp[maxLen];omega) as e w' ⟨rfl,rfl⟩;rw[V];clear V h4;have⟨i0,hn,hq,ht,hu⟩:=info_parts RU;by_cases c4:R=m*24
 .have h5:(R:Int)=(m:Int)*24:=(by omega);have x1:m<=100000000:=(by omega);have⟨Hr,q⟩:=aA hr c4;have hw:((bs R).size:Int)=(m:Int)*24:=(by rw[eO];exact h5);clear c4 h7;(go_wp2_with fail);clear hr hv hw;go_loopw [7,8] (λx b wr=>∃k:Nat,k<=m/\x=.string (bs (R.drop (24*k)))/\nU R k=true/\wr.ownsRow w 152 3 b k (gV (gG R k))/\aR w w wr) (λx _ _=>match x with|.string y=>y.size|_=>0)
  .exact⟨0,by omega,by first|rfl|(rw[Hr.zz];rfl),rfl,bM _ _ _ _,r⟩
  obtain⟨k,hk,rfl,hb,N,U⟩:=hrel;have⟨P,K⟩:=aA hb N;clear hb N;have G:(R.drop (24*k))=24*(m-k):=(by rw[eK,q.zz];omega);by_cases x0:k<m
  .have n:(R.drop (24*k)).take 24=uK R k:=rfl;have l:(R.drop (24*k)).drop 24=R.drop (24*(k+1)):=(by rw[lN];congr 1);generalize hX:R.drop (24*k)=X at G n l|-;have x3:(X==[])=false:=by
    cases X
    .simp at G;omega
    rfl
   have x2:(24:Int)<=(X:Int):=(by omega);have f:=λw=>W8 ((bs X).extract 0 24) w (by rw[dY,eO];simp[maxLen];omega);have h8:lb ((bs X).extract 0 24)=uK R k:=(by rw[dY,gP,gP,<-n];simp);rw[h8]at f;have hl:(bs X).extract 24 X=bs (R.drop (24*(k+1))):=by
    rw[dY,gP,<-l];congr 1;exact aT (by simp)
   have H:okG (uK R k)=true->wC (IX (uK R k)):=λh=>(YT h).2.2;have o:=xD R k;have Y:=xC R k;generalize IX (uK R k)=e at f H o;generalize okG (uK R k)=og at f H Y;have⟨C,D,E⟩:=e;unfold iT at f;have⟨hf,Q,h1,he,hd⟩:=aD H o Y hl G;clear hX n l H o Y h8 G;cases og
   .have c:kT (lb s)=false:=by
     rw[<-g.zz];have:nU R m=false:=by
      rw[<-kL];intro h;unfold nU at h;have h2:=h1.zz;rw[ag2]at h2;have h3:nU R (k+1)=true:=by unfold nU;rw[dN]at h|-;exact λi hi=>h i (gB.2 (by have:=gB.1 hi;omega))
      rw[h2]at h3;cases h3
     rw[this];simp
    (go_wp2_with fail);go_call f _ as y J ⟨rfl,p⟩;go_wp2;refine bE (v:=.tuple #[zs,(90:Int)]) (by simp[results,results232,go_sem]) rfl ⟨zs,by unfold yK;rw[c];rfl,by unfold rY;rw[c];exact pA _ _,cU U (aK p (eA _ _)) dQ⟩
   (go_wp2_with fail);go_call f _ as y J ⟨rfl,p⟩;have k3:=aK p (eA J (.cells #[zu C,D,E] 152));have F:=cU U k3 dQ;have z:=bY K k3;have oe:=hf (by first|rfl|trivial);have T:=cU F (eA (J.alloc (.cells #[zu C,D,E] 152)) (.cells #[zu C,D,E] 152)) dQ;have hh:pJ ((J.alloc (.cells #[zu C,D,E] 152)).alloc (.cells #[zu C,D,E] 152)) (.slice (zp (J+1)) 1 1) [(C,D,E)]:=by have h:=SI (J.alloc (.cells #[zu C,D,E] 152)) (C,D,E) oe;have e:(J.alloc (.cells #[zu C,D,E] 152)).heap.size=J+1:=(by simp);rwa[e]at h
   have h6:=hh.1;go_wp2_with (first
    |(at_builtin;refine iF _ rfl _ _ 113 rfl w 152 i0 _ 3 24 underlying113 hn hq ht hu rfl (by decide) _ k _ rfl (bY z (eA _ _)) _ 1 (gV [(C,D,E)]) rfl h6 (C5 _) (by unfold maxLen;omega) (by omega) T.size ?_;intro v3 w5 W hm))
   have hj:=T.grown hm T.size (dH z);go_wp2;go_roundw
   .refine⟨k+1,by omega,by first|rfl|(rw[he.zz]),by rw[h1.zz,P.zz];rfl,?_,hj⟩;rw[Q.zz,BO];exact W
   have:=hd.zz;simp[eO];omega
  obtain rfl:k=m:=(by omega);have M:R.drop (24*k)=[]:=UT (by rw[q.zz];omega);rw[M];clear M;have xz:(([]:List bB)==[])=true:=rfl;have S:∀e∈gG R k,wC e:=(CL P).2.2;have u:=K.zz;have L:=aH (show k=(gG R k) from(pD R k).symm);go_wp2_with fail
  go_call MA _ (gG R k) _ ⟨by have:=Reads.cX u;rw[<-L.zz];exact this,S⟩ as y J ⟨rfl,p⟩;have F:=cU U p dQ;rcases hc:fD (gG R k)with _|_
  .have c:kT (lb s)=false:=(by rw[<-g.zz,hc];simp);go_wp2;refine bE (v:=.tuple #[zs,(90:Int)]) (by simp[results,results232,go_sem]) rfl ⟨zs,by unfold yK;rw[c];rfl,by unfold rY;rw[c];exact pA _ _,F⟩
  have B:kT (lb s)=true:=by rw[<-g.zz,hc,P.zz];simp;refine⟨?_,q⟩;omega
  have hP:gG R k=rY (lb s):=by unfold rY;rw[B,aV rfl];refine h0 ?_;rw[(aI1 (s:=lb s) (by rw[bI];exact hs)).1];exact B
  have A:=bY u p;have j:=L.zz;rw[hP]at A S j;have O:=aH j;clear j;go_wp2;refine bE (v:=.tuple #[u8,()]) (by simp[results,results232,go_sem]) rfl ⟨u8,by unfold yK;rw[B];rfl,⟨by rw[<-O.zz];exact A,S⟩,F⟩
 have c:kT (lb s)=false:=(by rw[<-g.zz];simp[c4]);have h5:¬(R:Int)=(m:Int)*24:=(by omega);clear c4;go_wp2;refine bE (v:=.tuple #[zs,(90:Int)]) (by simp[results,results232,go_sem]) rfl ⟨zs,by unfold yK;rw[c];rfl,by unfold rY;rw[c];exact pA _ _,r⟩
variable{L:List dB}
def aC5(c:L.all qF=true){n:Nat}{o:dB}(b:L[n]?=o)(z:List bB):uK (nW L++z) n=lJ o/\24*n+24<=(nW L):=by
 have a:n<L:=(aQ.1 b).1;have d:qF o=true:=dN.1 c o (bC b);have h:L=L.take n++o::L.drop (n+1):=by
  have:L.drop n=o::L.drop (n+1):=by rw[gZ a];rw[aJ a,wO]at b;rw[b]
  rw[<-this,bX]
 have g:nW L=nW (L.take n)++(lJ o++nW (L.drop (n+1))):=by
  conv=>lhs;rw[h]
  unfold nW;rw[eB,eN]
 have e:(nW (L.take n))=24*n:=by rw[qG (dN.2 λx i=>dN.1 c x (lM i))];simp;omega
 have f:=qO d;refine⟨?_,?_⟩
 .unfold uK;rw[g,bT,bT,o7 e,uZ f]
 rw[qG c];omega
def QW(o:tN L=true)(r:∀e∈L,wC e)(u:L.length<=1000000):kT (lU L)=true/\rY (lU L)=L/\(lU L).length=12+24*L/\∀i e,L[i]?=some e->((lU L).drop (8+24*i)).take 24=lJ e:=by
 have j:=o;unfold tN at j;rw[bL]at j;have⟨v,l⟩:=j;have f:lU L=kU (JY L):=(by unfold lU;rw[o,aV rfl]);have n:=qG l;have q:(oG L).length=8:=by simp[oG]
 have c:(lU L).length=12+24*L:=by rw[f,oK];unfold JY;rw[aO,n,q];omega
 obtain⟨z,s⟩:∃z,lU L=oG L++(nW L++z):=⟨U5 (WX (JY L)),by rw[f];unfold kU JY;rw[bT]⟩;have a:(lU L).drop 8=nW L++z:=(by rw[s,o7 q]);have b:n5 (lU L)=L:=by unfold n5;omega
 have d:gG (nW L++z) L=L:=by refine xZ (pD _ _) λi t g=>?_;have h:L[i]?=some L[i]:=aJ g;have k:qF L[i]=true:=dN.1 l _ (dC g);simp only[gG,tT,List.getElem_range];rw[(aC5 l h z).1];exact(S7 (r _ (dC g)) k).2
 have p:nU (nW L++z) L=true:=by unfold nU;refine dN.2 λi h=>?_;have g:=gB.1 h;have h:L[i]?=some L[i]:=aJ g;have k:qF L[i]=true:=dN.1 l _ (dC g);rw[(aC5 l h z).1];exact(S7 (r _ (dC g)) k).1
 have m:kT (lU L)=true:=by unfold kT;rw[b,a,d,p,o,c];simp
 refine⟨m,?_,c,λi e h=>?_⟩
 .unfold rY;rw[m,aV rfl,b,a,d]
 rw[<-lN,a];exact(aC5 l h z).1
variable{i j k m n:Nat}{w x:aI}{v:aN}
def B3(w:aI)(a g:Nat)(v:aN)(l:List dB):Prop:=Row w g 267 [.bool true,v]/\w.ownsRow a 152 3 v l.length (gV l)/\(∀e∈l,wC e)/\fD l=true
def B3.next{w:aI}{base g:Nat}{v:aN}(h:B3 w base g v L)(a:aR w w x):B3 x base g v L:=⟨h.1.next a,bY h.2.1 a,h.2.2⟩
def B3.GV(h:B3 w n k v L):pJ w v L:=⟨Reads.cX h.2.1,h.2.2.1⟩
def B3.cells{w:aI}{base n:Nat}{v:aN}{l:List dB}(h:B3 w base n v l):∀a,aR w w a->a.cell? (zp n)=true/\a.cell? (zp n 1)=v:=λa b=>
 ⟨(h.1.next b).lO,(h.1.next b).qD⟩
def Below.aG6(h:aR w w x)(r:Option Nat):w.grownBy x r:=⟨h.os,h.tape,h.output,h.size,λk a _=>h.block k a⟩
def aa4(w:aI)(p:Addr)(v:aN):w.grownBy (w.setCell p v) p.block:=⟨rfl,rfl,rfl,by simp,λk b a=>aU w p v k (λe=>a (by rw[e]))⟩
def EP{y:aI}{r:Option Nat}(a:aR w w x)(b:x.grownBy y r):w.grownBy y r:=⟨b.os.trans a.os,b.tape.trans a.tape,b.output.trans a.output,aM a.size b.size,λk d c=>(b.block k (aW d a.size) c).trans (a.block k d)⟩
def vT(h:B3 w n k v L):Calls prog 210 #[zp k] w λe a=>e=false/\w=a:=by have⟨b,c⟩:=h.cells w iH;go_in;go_wp2;go_ret;exact⟨rfl,rfl⟩
def cq4(w:aI):Calls prog 180 #[] w λe a=>e=.returned (zp w)/\B3 a w w zs []/\aR w w a:=by go_in;go_wp2;go_ret;refine⟨rfl,⟨Row.new w #[true,zs] _,bM _ _ _ _,by simp,rfl⟩,eA _ _⟩
def cq5(h:B3 w n k v L):Calls prog 153 #[zp k] w λe a=>e=L.length/\w=a:=by
 have⟨b,d⟩:=h.cells w iH;obtain⟨⟨A,c,rfl,-,-,-,-⟩,-⟩:=h.GV;go_in;go_wp2_with fail
 go_call vT h as e a ⟨rfl,rfl⟩;go_wp2;go_ret;exact⟨rfl,rfl⟩
def bB6(h:B3 w n k v L)(l:L.length<=1000000000)(x:Nat)(f t:Int)(j:x<18446744073709551616) (i:-9223372036854775808<=f/\f<=9223372036854775807) (m:-9223372036854775808<=t/\t<=9223372036854775807) :Calls prog 213 #[zp k,zu x,f,t] w λe c=>∃b,e=.returned b/\c.ownsRow w 152 3 b (kW L x f t) (gV (kW L x f t))/\aR w w c:=by
 have⟨o,p⟩:=h.cells w iH;have g:=h.GV;go_in;go_wp2_with fail
 go_call vT h as e c ⟨rfl,rfl⟩;go_wp2_with fail
 go_call aj1 _ L x f t _ g h.2.2.2 l j i m as e q ⟨b,rfl,a,d⟩;go_wp2;go_ret;exact⟨_,rfl,a,d⟩
def bV3(h:B3 w n k v L)(g:L.length<=1000000000):Calls prog 156 #[zp k] w λe c=>∃b,e=.returned b/\c.ownsRow w 152 3 b L (gV L)/\aR w w c:=by
 have⟨i,j⟩:=h.cells w iH;have f:=h.GV;go_in;go_wp2_with fail
 go_call vT h as e c ⟨rfl,rfl⟩;go_wp2_with fail
 go_call zH _ L _ f g as e l ⟨b,rfl,a,d⟩;go_wp2;go_ret;exact⟨_,rfl,a,d⟩
def bB7(h:B3 w n k v L):Calls prog 157 #[zp k] w λe a=>e=zt/\B3 a n k zs []/\w.grownBy a k:=by
 have⟨b,c⟩:=h.cells w iH;have d:=h.1.JE;go_in;go_wp2_with fail
 go_call vT h as e a ⟨rfl,rfl⟩;go_wp2;go_end0;exact⟨rfl,⟨h.1.set 1 _,bM _ _ _ _,by simp,rfl⟩,aa4 w (zp k 1) _⟩
def bV2(h:B3 w n k v L)(x:Nat)(t:Int)(m:x<18446744073709551616)(o:-9223372036854775808<=t/\t<=9223372036854775807):Calls prog 149 #[zp k,zu x,t] w λe j=>e=.returned (.tuple #[.agg (iT (bO4 (kO L x t))),(kO L x t).isSome])/\aR w w j:=by
 have i:=eA w (.cells #[zu 0,(),()] 152);have f:=h.next i;have⟨C,D⟩:=f.cells _ iH;have l:=f.GV;have d:=λw p=>aB0 v L x t w p h.2.2.2 m o;generalize bO4 (kO L x t)=z at d|-;generalize (kO L x t).isSome=B at d|-;have⟨u,y,A⟩:=z;unfold iT at d|-;have c:Row (w.alloc (.cells #[zu 0,(),()] 152)) w 152 [zu 0,(),()]:=Row.new w #[zu 0,(),()] 152;go_in;go_wp2_with fail
 go_call vT f as e j ⟨rfl,rfl⟩;go_wp2_with fail
 go_call d _ l as e H ⟨rfl,b⟩;have a:=c.next b;have q:=a.lO;have r:=a.qD;have s:=a.tW;have E:=a.NV;have F:=a.JE;have G:=a.QP;have g:=aK i b;clear a;go_wp2;refine bE (v:=.tuple #[.agg #[zu u,y,A],B]) (by simp[results,results149,go_sem,q,r,s]) rfl ⟨rfl,((g.setCell dQ _).setCell dQ _).setCell dQ _⟩
variable{o:dB}
def YV(n:Nat):qY n 4=be 4 n:=by unfold qY;rw[aP (by omega)];rfl
def bY6(n:Nat)(w:aI)(b:n<18446744073709551616):Calls prog 105 #[zu n,(4:Int)] w λe a=>e=(bs (be 4 n))/\aR w w a:=by have c:=XL n 4 w (by omega) (by omega);rwa[bW,YV]at c
def bI6(n:Nat)(w:aI)(b:n<18446744073709551616):Calls prog 138 #[zu n,(4:Int)] w λe a=>e=(bs (be 4 n))/\aR w w a:=by have c:=tM n 4 w (by omega) (by omega);rwa[bW,YV]at c
def bw5(a:o∈L)(b:qF o=false):tN L=false:=by
 unfold tN;have:L.all qF=false:=by rw[List.all_eq_false];exact⟨o,a,by simp[b]⟩
 rw[this,ag2]
def bX8(v:aN)(l:List dB)(w:aI)(u:pJ w v l)(hn:l.length<=1000000):Calls prog 86 #[v] w λe w'=>e=.returned (.tuple #[bs (lU l),SH l])/\aR w w w':=by
 obtain⟨⟨A,c,rfl,-,-,-,-⟩,-⟩:=id u;obtain⟨-,S,T,-⟩:=u.cells;unfold maxLen at T;have d:=λh0=>u.later h0;have I:=λ(i:Nat)(e:dB)(hi:l[i]?=e)=>u.ok hi;have⟨n,K⟩:=fR l.length;rw[<-K]at S hn;rw[<-K]at u|-;have⟨E,Hl,N,o⟩:=aC K u I d;clear K u I d;have wn:IntKind.u64.wrap (n:Int)=(n:Int):=by rw[eE];omega
 go_in;go_wp2_with fail
 go_call bY6 n _ (by omega) as e w1 ⟨rfl,Q⟩;go_wp2_with fail
 go_loopw [4,5] (λs i wr=>∃k:Nat,k<=n/\i=.int .i64 k/\s=.string (bs (oG n++nW (l.take k)))/\(l.take k).all qF=true/\(k=0\/fD l=true)/\aR w w wr) (λ_ i _=>n-(intOf i).toNat)
 .exact⟨0,by omega,rfl,by first|rfl|(simp[oG,nW,bs];rfl),by simp,.inl rfl,Q⟩
 obtain⟨k,hk,rfl,rfl,p,J,g⟩:=hrel;have⟨a,O⟩:=aA p J;clear p J;by_cases U:k<n
 .obtain⟨e,C⟩:∃e,l[k]?=some e:=⟨_,aJ (by rw[<-E.zz];exact U)⟩;have oe:=N k e C;have X:=ae1 C;have W:=OJ C;have q:=bC C;obtain⟨b,h3,rfl,-,Y⟩:=o (by rw[<-E.zz];omega);have⟨c0,c1,c2⟩:=Y k e C wr g;have M:=bf4 e wr oe;have i1:(k:Int)<n:=(by omega);have⟨Hb,Ha,D⟩:=aB X W q;clear C Y X W q;have P:(oG n++nW (l.take k)).length<=100000000:=by have B:=qG a;rw[aO,B];simp[oG];omega
  generalize V:oG n++nW (l.take k)=L at P|-;have HL:=aH V;clear V;rcases H:qF e with _|_
  .have m:=bw5 D H;rw[an4 H]at M;(go_wp2_with fail);go_call M as x w2 ⟨rfl,f⟩;go_wp2;refine bE (v:=.tuple #[(⟨#[]⟩:aS),(2:Int)]) (by simp[results,results86,go_sem]) rfl ⟨TQ (by unfold lU;rw[m];rfl) (by unfold SH;rw[m];rfl) _,cU g f dQ⟩
  have j:=qO H;have Hm:=aH H;generalize hx:lJ e=x at M j;have Hx:=aH hx;have h4:(x==[])=false:=(by cases x;simp at j;rfl);have h2:¬x=[]:=(by intro h;subst h;simp at j);clear hx H;go_wp2_with fail
  go_call M as y w2 ⟨rfl,f⟩;go_wp2_with fail
  go_call bf6 _ l _ ((Hl.next g).next f) as y w3 ⟨rfl,R⟩;have F:=cU (cU g f dQ) R dQ;rcases Z:fD l with _|_
  .have m:tN l=false:=(by unfold tN;rw[Z];rfl);go_wp2;refine bE (v:=.tuple #[(⟨#[]⟩:aS),(2:Int)]) (by simp[results,results86,go_sem]) rfl ⟨TQ (by unfold lU;rw[m];rfl) (by unfold SH;rw[m];rfl) _,F⟩
  go_wp2;go_roundw
  .exact⟨k+1,by omega,by go_num,by rw[Hb.zz,Hx.zz,<-bT,HL.zz,jX],by rw[Ha.zz,a.zz,Hm.zz];rfl,.inr Z,F⟩
  simp[intOf];omega
 obtain rfl:k=n:=(by omega);have i1:¬(k:Int)<k:=(by omega);have z:l.take k=l:=aT (by rw[<-E.zz];exact cV _);have r:oG k++nW (l.take k)=JY l:=by rw[z];unfold JY;rw[<-E.zz]
 have t:tN l=true:=by
  have B:=a.zz;rw[z]at B;unfold tN;rw[B,au4];rcases O.zz with h|h
  .have:l=[]:=gF (by rw[<-E.zz];exact h);rw[this];rfl
  exact h
 have G:(oG k++nW (l.take k)).length<=100000000:=by have B:=qG a;rw[aO,B];simp[oG];omega
 rw[r]at G|-;clear r z;go_wp2_with fail
 go_call aJ4 _ _ (by rw[eO];omega) as x w2 ⟨rfl,f⟩;rw[gP];go_wp2;refine bE (v:=.tuple #[bs (kU (JY l)),()]) (by simp[results,results86,go_sem]) rfl ⟨TQ (by unfold lU;rw[t];rfl) (by unfold SH;rw[t];rfl) _,cU g f dQ⟩
def bM2:(prog.info? 5).map (λi=>(i.zero,i.size,i.bytes))=some (some (.int .u8 0),1,1):=by kernel_rfl
def az0(n:Nat):(⟨#[112,116,97,98]⟩:aS)++bs (be 4 n)=bs (oG n):=by have:(⟨#[112,116,97,98]⟩:aS)=bs [112,116,97,98]:=rfl;rw[this,jX];rfl
def bc3(v:aN)(l:List dB)(w:aI)(C:pJ w v l)(hn:l.length<=1000000):Calls prog 269 #[v] w λe w'=>e=.returned (.tuple #[bs (lU l),SH l])/\aR w w w':=by
 obtain⟨⟨A,c,rfl,-,-,-,-⟩,-⟩:=id C;obtain⟨-,h5,h6,-⟩:=C.cells;unfold maxLen at h6;have⟨i0,h9,hj,ho,hq⟩:=info_parts bM2;have d:=λh0=>C.later h0;have R:=λ(i:Nat)(e:dB)(hi:l[i]?=e)=>C.ok hi;have⟨n,o⟩:=fR l.length;rw[<-o]at h5 hn;rw[<-o]at C|-;have⟨V,Hl,Y,m⟩:=aC o C R d;clear o C R d;have wn:IntKind.u64.wrap (n:Int)=(n:Int):=by rw[eE];omega
 go_in;go_wp2_with fail
 go_call MA _ l w Hl as e w0 ⟨rfl,B⟩;rcases hs:fD l with _|_
 .have j:tN l=false:=(by unfold tN;rw[hs];rfl);go_wp2;refine bE (v:=.tuple #[(⟨#[]⟩:aS),(2:Int)]) (by simp[results,results269,go_sem]) rfl ⟨TQ (by unfold lU;rw[j];rfl) (by unfold SH;rw[j];rfl) _,B⟩
 have Hs:=aH hs;go_wp2_with fail
 go_call bI6 n _ (by omega) as e w1 ⟨rfl,L⟩;have⟨w2,G,O,J,h3⟩:=pK.ofString (P:=prog) w1 9 110 5 ((⟨#[112,116,97,98]⟩:aS)++bs (be 4 n)) (by rw[az0,eO];simp[oG]) underlying9 underlying110 underlying5;have hh:=aK B (aK L h3);have Z:pK w2 w1 G (oG n):=(by rwa[az0,gP]at J);have hg:w.heap.size<=w1:=aM B.size L.size;have T:((⟨#[112,116,97,98]⟩:aS)++bs (be 4 n)).size=8:=(by rw[az0,eO];rfl);rw[T]at O;clear J;(go_wp2_with fail);clear O;go_loopw [4,19] (λb i wr=>∃k I a N:Nat,k<=n/\i=.int .i64 k/\b=.slice (zp I) N a/\pK wr I a (oG n++nW (l.take k))/\(oG n++nW (l.take k)).length=N/\(l.take k).all qF=true/\w<=I/\aR w w wr) (λ_ i _=>n-(intOf i).toNat)
 .exact⟨0,w1,G,8,by omega,rfl,rfl,by simpa[nW]using Z,by simp[oG,nW],by simp,hg,hh⟩
 obtain⟨k,I,a,N,hk,rfl,rfl,J,o,f,h7,p⟩:=hrel;have⟨q,HB⟩:=aA f J;have ht:N<=100000000:=by have W:=qG f;rw[aO,W]at o;simp[oG]at o;omega
 have X:=aH o;clear f J o;by_cases hd:k<n
 .obtain⟨e,E⟩:∃e,l[k]?=some e:=⟨_,aJ (by rw[<-V.zz];exact hd)⟩;have oe:=Y k e E;have hb:=ae1 E;have ha:=OJ E;have r:=bC E;obtain⟨b,hu,rfl,-,hc⟩:=m (by rw[<-V.zz];omega);have⟨c0,c1,c2⟩:=hc k e E wr p;have S:=λw=>W7 e w oe;have i1:(k:Int)<n:=(by omega);have⟨Hb,Ha,F⟩:=aB hb ha r;clear E hc hb ha r;have k1:=eA wr (.cells (iT e) 152);unfold iT at k1 S;rcases Q:qF e with _|_
  .have j:=bw5 F Q;rw[an4 Q]at S;(go_wp2_with fail);go_call S _ as x w3 ⟨rfl,g⟩;go_wp2;refine bE (v:=.tuple #[(⟨#[]⟩:aS),(2:Int)]) (by simp[results,results269,go_sem]) rfl ⟨TQ (by unfold lU;rw[j];rfl) (by unfold SH;rw[j];rfl) _,cU p (aK k1 g) dQ⟩
  have h:=qO Q;have Hm:=aH Q;generalize hx:lJ e=x at S h;have Hx:=aH hx;have hf:(bs x).size=24:=(by rw[eO];exact h);clear hx Q;go_wp2_with fail
  go_call S _ as y w3 ⟨rfl,g⟩;have U:=aK k1 g;have h2:=HB.next U;have M:=cU p U dQ;go_wp2_with (first
   |(at_builtin;refine NW _ rfl _ _ 110 9 rfl rfl h2 X (bs x) rfl underlying110 underlying9 h9 hj ho hq rfl w h7 M.size (by rw[hf];omega) ?_;intro g3 H w4 K h8 h4))
  go_wp2;go_roundw
  .exact⟨k+1,g3,H,N+24,by omega,by go_num,rfl,by rw[Hb.zz,Hx.zz,<-bT];rw[gP]at K;exact K,by rw[Hb.zz,Hx.zz,<-bT,aO,X.zz,h],by rw[Ha.zz,q.zz,Hm.zz];rfl,h8,M.trans h4⟩
  simp[intOf];omega
 obtain rfl:k=n:=(by omega);have i1:¬(k:Int)<k:=(by omega);have D:l.take k=l:=aT (by rw[<-V.zz];exact cV _);have s:oG k++nW (l.take k)=JY l:=by rw[D];unfold JY;rw[<-V.zz]
 have t:tN l=true:=by have W:=q.zz;rw[D]at W;unfold tN;rw[W,Hs.zz];rfl
 have u:=HB.zz;have z:=X.zz;rw[s]at u z;have hr:(convert 110 9 (.slice (zp I) N a)).run prog wr=.ok (bs (JY l)) wr:=u.conv z underlying110 underlying5 underlying9;clear s D u;go_wp2_with fail
 go_call C2 _ _ (by rw[eO,z];omega) as x w3 ⟨rfl,g⟩;rw[gP];go_wp2;refine bE (v:=.tuple #[bs (kU (JY l)),()]) (by simp[results,results269,go_sem]) rfl ⟨TQ (by unfold lU;rw[t];rfl) (by unfold SH;rw[t];rfl) _,cU p g dQ⟩
variable{C:List (List bH)}{R:List lW}{I:aZ}{s:bH}{f l:cA}{M:jD}
def ai9(a:Nat)(A B:List lW):fZ a (A++B)=fZ a A++fZ a B:=by simp[fZ]
def oC:o∈fZ n R↔∃r∈R,o∈uY n r:=by simp[fZ,lY]
def VW(n:bH):Prop:=n=fE\/isT n
def NL:VW fE:=.inl rfl
def bx2(h:n<=999999):VW (nN n):=.inr ⟨n,rD h⟩
structure WU(l:cA)(b s:Nat)(R:List lW)(P:Nat)(m:jD):Prop where
 next:m.next<=s
 check:m.check<=P
 on:∀n∈m.fP.flatten,∃a,bO l (nN n)=some a/\a.data.length<=a.sync
 eq:(∀n∈m.fP.flatten,∀a,bO l (nN n)=some a->kT a.data=true)->∀e,(∃n,n∈m.fP.flatten/\∃a,bO l (nN n)=some a/\e∈rY a.data)↔e∈fZ b (R.filter fun r=>decide (r.1<m.check))
def BV(l:cA)(a s:Nat)(R:List lW)(P:Nat):Prop:=∀b,bO l fE=some b->b.data.length<=b.sync/\(sB b.data=true->(getM b.data).aX=a->WU l a s R P (getM b.data))
def CP(h:sB s=true):∀n∈(getM s).fP.flatten,n<=999999:=λn c=>by have⟨a,_⟩:=az8 h;obtain⟨⟨d,_⟩,_,b⟩:=mM.1 a;have:=b n c;omega
def WU.stay(h:WU l k n R m M)(y:∀A∈M.fP.flatten,A<=999999)(z:iW VW l f):WU f k n R m M:=by
 have g:∀A∈M.fP.flatten,∃i c,bO l (nN A)=some i/\bO f (nN A)=some c/\c.data=i.data/\c.data<=c.sync:=λA a=>by
  have⟨i,b,d⟩:=h.on A a;have⟨c,q,r,x⟩:=z.sure (bx2 (y A a)) b d;exact⟨i,c,b,q,r,x⟩
 refine⟨h.next,h.check,λA a=>?_,λv e=>?_⟩
 .have⟨i,c,b,d,q,r⟩:=g A a;exact⟨c,d,r⟩
 have:=h.eq (λA a i o=>by have⟨j,c,b,d,q,r⟩:=g A a;rw[b]at o;cases o;rw[<-q];exact v A a c d) e;rw[<-this];constructor
 .rintro ⟨A,a,c,b,d⟩;have⟨j,p,s,t,u,w⟩:=g A a;rw[t]at b;cases b;exact⟨A,a,j,s,by rw[<-u];exact d⟩
 rintro ⟨A,a,i,b,d⟩;have⟨j,p,s,t,u,w⟩:=g A a;rw[s]at b;cases b;exact⟨A,a,p,t,by rw[u];exact d⟩
def BV.stay(h:BV l k n R m)(e:iW VW l f):BV f k n R m:=λs a=>by
 cases b:bO l fE with
 |none=>rw[e.no NL b]at a;cases a
 |some r=>have⟨i,j⟩:=h r b;have⟨g,o,p,q⟩:=e.sure NL b i;rw[o]at a;cases a;refine⟨q,λd c=>?_⟩;rw[p]at d c|-;exact(j d c).stay (CP d) e
def sS(R a:List lW)(P:Nat):Prop:=∀k,k<=P->(a.filter fun r=>decide (r.1<k))=R.filter fun r=>decide (r.1<k)
def sS.refl(R:List lW)(P:Nat):sS R R P:=λ_ _=>rfl
def YM{a:List (List bH)}(h:JQ C a n k):sS (dF C) (dF a) k:=λl j=>by
 have⟨r,b,f,g,c⟩:=h;rw[b];conv=>rhs;rw[<-bX r (dF C)]
 rw[jA];have:((dF C).drop r).filter (λx=>decide (x.1<l))=[]:=by rw[iD];intro x e;obtain⟨i,d,rfl⟩:=fH e;rw[eK]at d;have:=c (r+i) (by omega) (by omega);rw[pQ];simp;omega
 rw[this,gM]
def TP(h:k<=n):sS R (R++[(n,s)]) k:=λj a=>by
 rw[jA];have:([(n,s)]:List lW).filter (λx=>decide (x.1<j))=[]:=by rw[jK,aP (by simp;omega)];rfl
 rw[this,gM]
def WU.same{P:List lW}(h:WU l k n R i M)(d:sS R P i)(c:i<=j)(b:n<=m):WU l k m P j M:=⟨aM h.next b,aM h.check c,h.on,λa e=>by rw[d _ h.check];exact h.eq a e⟩
def BV.same{P:List lW}(h:BV l k n R i)(g:sS R P i)(f:i<=j)(c:n<=m):BV l k m P j:=λd a=>
 ⟨(h d a).1,λe b=>((h d a).2 e b).same g f c⟩
structure nJ(l:cA)(n:Nat)(L:List dB):Prop where
 file:∃a,bO l (nN n)=some a/\a.data.length<=a.sync/\a.data=lU L
 may:tN L=true
 ok:∀e∈L,wC e
 yG:L.length<=1000000
structure sK(l:cA)(I:aZ)(a s:Nat)(R:List lW)(P:Nat):Prop where
 cZ:wU I.cZ=true
 zQ:I.cZ.aX=a
 next:I.cZ.next<=s
 check:I.cZ.check<=P
 fI:∀n∈I.cZ.fP.flatten,∃L,I.fI n=some L/\nJ l n L
 eqT:∀e,(∃n,n∈I.cZ.fP.flatten/\∃L,I.fI n=some L/\e∈L)↔e∈fZ a (R.filter fun r=>decide (r.1<I.cZ.check))
 PQ:fD I.mem=true
 eqM:∀e,e∈I.mem↔e∈fZ a (R.filter fun r=>!decide (r.1<I.cZ.check))
 free:∀k,I.cZ.next<=k->k<=999999->bO l (nN k)=none/\bO l (wE k)=none
 eI:BV l a s R P
def nJ.rY(h:nJ l n L):∃a,bO l (nN n)=some a/\kT a.data=true/\rY a.data=L:=by obtain⟨a,c,f,b⟩:=h.file;obtain⟨d,e,_⟩:=QW h.may h.ok h.yG;exact⟨a,c,by rw[b];exact d,by rw[b];exact e⟩
def nJ.stay(h:nJ l n L)(j:n<=999999)(k:iW VW l f):nJ f n L:=by have⟨m,a,b,c⟩:=h.file;have⟨g,d,e,i⟩:=k.sure (bx2 j) a b;exact⟨⟨g,d,i,e.trans c⟩,h.may,h.ok,h.yG⟩
def bV5{a:fK}(g:bO l (nN n)=a)(j:a.data<=a.sync)(b:kT a.data=true)(o:a.data.length<=10000000):nJ l n (rY a.data):=by have h:=b;unfold kT at h;simp only[bL,bG,gH]at h;obtain⟨⟨⟨⟨k,m⟩,c⟩,d⟩,f⟩:=h;have e:rY a.data=gG (a.data.drop 8) (n5 a.data):=(by unfold rY;rw[b,aV rfl]);have i:=CL c;rw[e];refine⟨⟨a,g,j,f.symm⟩,d,i.2.2,?_⟩;rw[pD];unfold n5;omega
def sK.all{aX:Nat}{R:List lW}(h:sK l I aX n R k)(e:dB):(e∈I.mem\/∃d,d∈I.cZ.fP.flatten/\∃L,I.fI d=some L/\e∈L)↔e∈fZ aX R:=by
 rw[h.eqM,h.eqT,oC,oC,oC];simp only[fL,bG,OO,cN];constructor
 .rintro (⟨r,a,b⟩|⟨r,a,b⟩)
  .exact⟨r,a.1,b⟩
  exact⟨r,a.1,b⟩
 rintro ⟨r,a,b⟩;by_cases c:r.1<I.cZ.check
 .exact .inr ⟨r,⟨a,c⟩,b⟩
 exact .inl ⟨r,⟨a,c⟩,b⟩
def sK.lists(h:sK l I k n R m):∀d∈I.cZ.fP.flatten,fD ((I.fI d).getD [])=true:=λd c=>by have⟨L,a,b⟩:=h.fI d c;rw[a];have:=b.may;unfold tN at this;rw[bL]at this;exact this.1
def IM{a e:Int}:o∈kW L n a e↔o∈L/\o.1=n/\a<=o.2.1/\o.2.1<=e:=by unfold kW inE;rw[fL,bG]
def OA(a:fD L=true)(h:Nat)(f t:Int):fD (kW L h f t)=true:=by unfold fD at a|-;rw[bG]at a|-;exact cN9 _ a
def TU(h:sK l I k n R m)(q:Nat)(f t:Int):fD (FE I q f t)=true/\∀e,e∈FE I q f t↔e∈fZ k R/\e.1=q/\max f 0<=e.2.1/\e.2.1<=min t 1073741824:=by
 have p:∀L∈(kW I.mem q (max f 0) (min t 1073741824)::I.cZ.fP.flatten.map λr=>kW ((I.fI r).getD []) q (max f 0) (min t 1073741824)),fD L=true:=λL b=>by
  rcases cY.1 b with rfl|b
  .exact OA h.PQ _ _ _
  obtain⟨r,d,rfl⟩:=dS.1 b;exact OA (h.lists r d) _ _ _
 have⟨j,o⟩:=OB p;refine⟨j,λe=>?_⟩;unfold FE;rw[o,<-h.all e];constructor
 .rintro ⟨L,b,i⟩;rcases cY.1 b with rfl|b
  .have⟨a,c⟩:=IM.1 i;exact⟨.inl a,c⟩
  obtain⟨r,d,rfl⟩:=dS.1 b;have⟨a,c⟩:=IM.1 i;have⟨L,g,_⟩:=h.fI r d;rw[g]at a;exact⟨.inr ⟨r,d,L,g,a⟩,c⟩
 rintro ⟨a|⟨r,d,L,g,a⟩,c⟩
 .exact⟨_,by simp,IM.2 ⟨a,c⟩⟩
 exact⟨_,iU _ (dS.2 ⟨r,d,rfl⟩),IM.2 ⟨by rw[g];exact a,c⟩⟩
variable{r:Int×aL}{D:aL}{F P Q:aL->Prop}
def cG2(b:n<=999999)(a:k<=999999):nN n≠iJ k:=λe=>by have:=rD b;rw[e,uC a]at this;cases this
def cG3(b:n<=999999)(a:k<=999999):wE n≠iJ k:=λe=>by have:=sO b;rw[e,uC a]at this;cases this
def FI{n k:Nat}(b:n<=999999)(a:k<=999999):nN n≠wE k:=λe=>by have:=rD b;rw[e,sO a]at this;cases this
def IU(a:n<=999999):nN n≠dI:=λe=>by have:=rD a;rw[e,C4]at this;cases this
def ZE(a:n<=999999):wE n≠dI:=λe=>by have:=sO a;rw[e,C4]at this;cases this
def AV(a:n<=999999):nN n≠fE:=λe=>by have:=rD a;rw[e,NA]at this;cases this
def ZF(a:n<=999999):wE n≠fE:=λe=>by have:=sO a;rw[e,NA]at this;cases this
def EE(b:n<=999999)(c:k<=999999)(h:nN n=nN k):n=k:=by have a:=rD b;rw[h,rD c]at a;cases a;rfl
def bv8(b:n<=999999)(c:k<=999999)(h:wE n=wE k):n=k:=by have a:=sO b;rw[h,sO c]at a;cases a;rfl
def LL(a:n<=999999):¬isC (nN n):=λ⟨k,h⟩=>by rw[rD a]at h;cases h
def IT(a:n<=999999):¬isC (wE n):=λ⟨k,h⟩=>by rw[sO a]at h;cases h
def ZC:¬isC fE:=λ⟨k,h⟩=>by rw[NA]at h;cases h
def ZB(a:n<=999999):¬VW (wE n):=λh=>by
 rcases h with h|⟨k,h⟩
 .exact ZF a h
 rw[sO a]at h;cases h
def PI:¬VW dI:=λh=>by
 rcases h with h|⟨k,h⟩
 .exact xH h
 rw[C4]at h;cases h
def ax4(a:n<=999999):¬VW (iJ n):=λh=>by
 rcases h with h|⟨k,h⟩
 .exact ct7 n a h.symm
 rw[uC a]at h;cases h
structure wY(b a s:Nat)(R:List lW)(P:Nat)(c l:cA):Prop where
 sys:Sys b 98 l
 stay:iW isC c l
 idx:BV l a s R P
def wY.kJ{n k:Nat}(h:wY n m k R i l f)(a:List Int):wY n m k R i l (eR f a):=⟨h.sys.kJ a,h.stay.trans (iW.kJ _ h.sys.oW.sync a),h.idx.stay (iW.kJ _ h.sys.oW.sync a)⟩
def JV(D:aL)(r:Int×aL)(P F:aL->Prop)(I:cA->Prop):Prop:=Good D r P I\/(r.1=60/\r.2.down=false/\r.2.cap=D.cap/\r.2.bQ=D.bQ/\F r.2)
def Good.cB6{I:cA->Prop}{k:aL->Int×aL}(h:Good D r P I)(n:∀f,f.down=false->f.cap=D.cap->f.bQ=D.bQ->P f->JV f (k f) Q F I):JV D (kS r k) Q F I:=by
 rcases h with⟨a,b,c,d,e⟩|⟨a,b,c,d,e⟩
 .unfold kS;rw[aV a];rcases n _ b c d e with(⟨g,i,j,l,m⟩|⟨g,i,j,l,m⟩)|⟨g,i,j,l,m⟩
  .exact .inl (.inl ⟨g,i,j.trans c,l.trans d,m⟩)
  .exact .inl (.inr ⟨g,i,j.trans c,l.trans d,m⟩)
  exact .inr ⟨g,i,j.trans c,l.trans d,m⟩
 unfold kS;rw[aP (by omega)];exact .inl (.inr ⟨a,b,c,d,e⟩)
def JV.then{P:aL->Prop}{I:cA->Prop}{k:aL->Int×aL}(h:JV D r P F I)(g:∀f,f.down=false->f.cap=D.cap->f.bQ=D.bQ->P f->JV f (k f) Q F I):JV D (kS r k) Q F I:=by
 rcases h with h|⟨a,b,c,d,e⟩
 .exact h.cB6 g
 unfold kS;rw[aP (by omega)];exact .inr ⟨a,b,c,d,e⟩
def JV.mono{Q G:aL->Prop}{I J:cA->Prop}(h:JV D r P F I)(n:∀f,f.down=false->f.cap=D.cap->P f->Q f)(k:∀f,f.down=false->f.cap=D.cap->F f->G f)(m:∀l,I l->J l):JV D r Q G J:=by
 rcases h with h|⟨a,b,c,d,e⟩
 .exact .inl (h.mono (λf g i _ j=>n f g i j) m)
 exact .inr ⟨a,b,c,d,k _ b c e⟩
def aQ2(k:D.down=false){s:bH}(A:jR s=true)(p:bO D.files s=none)(B:CZ D.files)(z:D.files.length<400)(F:bH)(y:dZ D.files+F<=D.cap){I:cA->Prop}(j:∀l c,I l->I (eR l c))(x:I D.files)(b:∀f,f.sync<=f.data->f.data.length<=F.length->I (eC D.files s f)):Good D (D.lay s F) (λt=>t.files=eC D.files s ⟨F,F⟩) I:=by
 unfold aL.lay;refine((Q6 k A p z).NZ j x (b _ dQ (bK _))).then λg m a _ d=>?_;have v:bO g.files s=some ⟨[],0⟩:=by rw[d,fF,aV rfl]
 have C:dZ g.files=dZ D.files:=by rw[d];have:=lB B.kV s ⟨[],0⟩;rw[p]at this;simp at this;exact this
 have q:eC g.files s ⟨[]++F,0⟩=eC D.files s ⟨F,0⟩:=(by rw[d,RF];rfl);refine((J7 m v F (by rw[C,a];exact y)).NZ j (by rw[d];exact b _ dQ (bK _)) (by rw[q];exact b _ (bK _) dQ)).then λi n o _ e=>?_;rw[q]at e;have w:bO i.files s=some ⟨F,0⟩:=(by rw[e,fF,aV rfl]);have r:eC i.files s ⟨F,F⟩=eC D.files s ⟨F,F⟩:=(by rw[e,RF]);exact((QX n w).NZ j (by rw[e];exact b _ (bK _) dQ) (by show I (eC i.files s ⟨F,F⟩);rw[r];exact b _ dQ dQ)).mono (λE _ _ _ u=>u.trans r) (λ_ h=>h)
def BV.lU{n:Nat}(h:BV l k n R m){i:Nat}(v:i<=999999)(w:bO l (nN i)=none)(f:fK):BV (eC l (nN i) f) k n R m:=λu c=>by
 rw[fF,aP (AV v)]at c;refine⟨(h u c).1,λo r=>?_⟩;have j:=(h u c).2 o r;have s:=CP o;have b:∀x∈(getM u.data).fP.flatten,bO (eC l (nN i) f) (nN x)=bO l (nN x):=λx a=>by
  rw[fF,aP];intro e;have:=EE v (s x a) e;subst this;have⟨g,d,_⟩:=j.on i a;rw[w]at d;cases d
 refine⟨j.next,j.check,λx a=>by rw[b x a];exact j.on x a,λq e=>?_⟩;rw[<-j.eq (λx a g t=>q x a g (by rw[b x a];exact t)) e];constructor
 .rintro ⟨x,a,g,d,p⟩;exact⟨x,a,g,by rw[<-b x a];exact d,p⟩
 rintro ⟨x,a,g,d,p⟩;exact⟨x,a,g,by rw[b x a];exact d,p⟩
def bz3(l:cA)(a n:Nat):Prop:=∀b,bO l fE=some b->sB b.data=true->(getM b.data).aX=a->n∉(getM b.data).fP.flatten
def BV.cL9(h:BV l k n R m){i:Nat}(u:i<=999999)(v:bz3 l k i):BV (kN l (nN i)) k n R m:=λo b=>by
 rw[iK,aP (AV u)]at b;refine⟨(h o b).1,λd f=>?_⟩;have j:=(h o b).2 d f;have s:=CP d;have c:∀w∈(getM o.data).fP.flatten,bO (kN l (nN i)) (nN w)=bO l (nN w):=λw a=>by
  rw[iK,aP];intro e;have:=EE u (s w a) e;subst this;exact v o b d f a
 refine⟨j.next,j.check,λw a=>by rw[c w a];exact j.on w a,λr e=>?_⟩;rw[<-j.eq (λw a g t=>r w a g (by rw[c w a];exact t)) e];constructor
 .rintro ⟨w,a,g,p,q⟩;exact⟨w,a,g,by rw[<-c w a];exact p,q⟩
 rintro ⟨w,a,g,p,q⟩;exact⟨w,a,g,by rw[c w a];exact p,q⟩
def aG8(l:cA)(n:Nat)(f t:bH):cA:=eC (eC l (wE n) ⟨f,f.length⟩) (nN n) ⟨t,t.length⟩
def bN4(h:¬D.free-(n:Int)-(k:Int)<6000):dZ D.files+n+k+6000<=D.cap:=by unfold aL.free at h;omega
def OP(b:CZ l){n:bH}(a:bO l n=none)(f:fK):dZ (eC l n f)=dZ l+f.data:=by have:=lB b.kV n f;rw[a]at this;simpa using this
def wY.jG{n k:Nat}(h:wY n m k R i l f){j:Nat}(a:j<98){d:fK}(b:d.sync<=d.data)(c:dZ f+d.data+6000<=n):wY n m k R i l (eC f (wE j) d):=⟨h.sys.put (.inr (.inr (.inr ⟨j,a,.inr rfl⟩))) b (by have:=CC rS f;omega),h.stay.trans (iW.put (IT (by omega)) _),h.idx.stay (iW.put (ZB (by omega)) _)⟩
def wY.lU{n:Nat}{f:cA}(h:wY n m k R i l f){j:Nat}(b:j<98)(a:bO f (nN j)=none){e:fK}(c:e.sync<=e.data)(d:dZ f+e.data+6000<=n):wY n m k R i l (eC f (nN j) e):=⟨h.sys.put (.inr (.inr (.inr ⟨j,b,.inl rfl⟩))) c (by have:=CC rS f;omega),h.stay.trans (iW.put (LL (by omega)) _),h.idx.lU (by omega) a _⟩
def ba3(c:D.down=false)(z:D.cap=n)(h:wY n i m R j l D.files){d:Nat}(s:d<98)(B:bO D.files (nN d)=none)(y:bO D.files (wE d)=none)(L:List dB)(f:bH):JV D (o8 D d L f) (λq=>q.files=aG8 D.files d f (lU L)/\wY n i m R j l q.files) (λq=>q=D/\D.cap<dZ D.files+(lU L)+f+6000) (wY n i m R j l):=by
 unfold o8;rw[c,aP (by simp)];by_cases t:D.free-(lU L)-f<6000
 .rw[aV t];exact .inr ⟨rfl,c,rfl,rfl,rfl,by unfold aL.free at t;omega⟩
 rw[aP t];have G:=bN4 t;have p:∀J b,wY n i m R j l J->wY n i m R j l (eR J b):=λJ b h=>h.kJ b;have A:=h.sys.oW;left;refine(aQ2 c (AB (by omega)) y A (h.sys.yG dQ) f (by omega) p h (λg o F=>h.jG s o (by omega))).then λu v w _ r=>?_;have a:wY n i m R j l u.files:=(by rw[r];exact h.jG s dQ (by simp only;omega));have o:bO u.files (nN d)=none:=(by rw[r,fF,aP (λe=>FI (n:=d) (k:=d) (by omega) (by omega) e.symm)];exact B);have I:dZ u.files=dZ D.files+f:=(by rw[r];exact OP A y _);refine(aQ2 v (AB (by omega)) o a.sys.oW (a.sys.yG dQ) (lU L) (by omega) p a (λg C H=>a.lU s o C (by omega))).mono (λE _ _ _ x=>?_) (λ_ h=>h);refine⟨by rw[x,r];rfl,?_⟩;rw[x];exact a.lU s o dQ (by simp only;omega)
def bB8{cap aX s:Nat}{P:Nat}{l0:cA}(hup:D.down=false)(hcap:D.cap=cap)(h:wY cap aX s R P l0 D.files)(m:jD) (hnew:∀l,(∀n,VW n->n≠fE->bO l n=bO D.files n)->bO l fE=some ⟨iS m,iS m⟩->BV l aX s R P) :JV D (qV D m) (λD'=>wY cap aX s R P l0 D'.files/\(∀n,n≠dI->n≠fE->bO D'.files n=bO D.files n)/\bO D'.files fE=some ⟨iS m,iS m⟩/\bO D'.files dI=none) (λD'=>wY cap aX s R P l0 D'.files/\(∀n,n≠dI->bO D'.files n=bO D.files n)/\bO D'.files dI=none/\D.cap<dZ D.files+(iS m)+6000) (wY cap aX s R P l0):=by
 unfold qV;rw[hup,aP (by simp)];have hcr:∀l eW,wY cap aX s R P l0 l->wY cap aX s R P l0 (eR l eW):=λl eW h=>h.kJ eW;have hd:wY cap aX s R P l0 (kN D.files dI):=⟨h.sys.del _,h.stay.trans (iW.del EL),h.idx.stay (iW.del PI)⟩;refine(Y7 hup h.sys (wY cap aX s R P l0) hcr h hd).cB6 λD1 up1 cap1 _ ⟨hno,hfi⟩=>?_;have hI1:wY cap aX s R P l0 D1.files:=by rcases hfi with e|e<;>rw[e]<;>assumption
 have hsame:∀n,n≠dI->bO D1.files n=bO D.files n:=λn hn=>by rcases hfi with e|e<;>rw[e];rw[iK,aP (λe=>hn e.symm)]
 have hule:dZ D1.files<=dZ D.files:=by
  rcases hfi with e|e<;>rw[e]
  .exact cV _
  have:=yJ h.sys.oW.kV dI;omega
 by_cases hr:D1.free-(iS m).length<6000
 .rw[aV hr];exact .inr ⟨rfl,up1,rfl,rfl,hI1,hsame,hno,by unfold aL.free at hr;omega⟩
 rw[aP hr];have hu:dZ D1.files+(iS m).length+6000<=D1.cap:=(by unfold aL.free at hr;omega);have hub:=CC rS D1.files;have hst:∀n,n≠dI->n≠fE->bO (F9 D1.files fE (iS m)) n=bO D1.files n:=λn h1 h2=>by rw[uI xH,aP (λe=>h2 e.symm),aP (λe=>h1 e.symm)]
 have hI2:wY cap aX s R P l0 (F9 D1.files fE (iS m)):=by
  refine⟨at8 hI1.sys xH hno (.inr (.inl rfl)) (by omega),hI1.stay.trans (λn hn=>.inl (hst n (λe=>EL (e▸hn)) (λe=>ZC (e▸hn)))),hnew _ (λn h1 h2=>?_) ?_⟩
  .have hnn:n≠dI:=λe=>PI (e▸h1);rw[hst n hnn h2,hsame n hnn]
  rw[uI xH,aV rfl]
 refine .inl ((at6 up1 (cap1.trans hcap) hI1.sys dQ hno fE (iS m) bj0 xH (by omega) (wY cap aX s R P l0) hcr hI1 (λf hf=>?_) hI2).mono (λD2 _ _ _ e2=>?_) (λ_ h=>h))
 .exact⟨hI1.sys.ca3 hf,hI1.stay.trans (QZ EL _ _),hI1.idx.stay (QZ PI _ _)⟩
 rw[e2];exact⟨hI2,λn h1 h2=>by rw[hst n h1 h2,hsame n h1],by rw[uI xH,aV rfl],by rw[uI xH,aP (λe=>xH e.symm),aV rfl]⟩
def MB(a:D.down=false)(n:bH){I:cA->Prop}(h:∀l b,I l->I (eR l b))(e:I D.files)(g:I (kN D.files n)):((D.delete n).1=4/\(D.delete n).2=D/\bO D.files n=none)\/Good D (D.delete n) (λd=>d.files=kN D.files n) I:=by
 cases c:bO D.files n with
 |none=>rw[WE a c];exact .inl ⟨rfl,rfl,rfl⟩
 |some f=>exact .inr ((J0 a c).NZ h e g)
def ar0(r:D.down=false)(h:wY n m k R i l D.files){j:Nat}(u:j<=999999)(w:bz3 D.files m j):Good D (pG D j) (λf=>wY n m k R i l f.files/\(∀G,G≠nN j->G≠wE j->bO f.files G=bO D.files G)/\bO f.files (nN j)=none/\bO f.files (wE j)=none/\dZ f.files<=dZ D.files) (wY n m k R i l):=by
 have q:∀H o,wY n m k R i l H->wY n m k R i l (eR H o):=λH o h=>h.kJ o;have y:wY n m k R i l (kN D.files (nN j)):=⟨h.sys.del _,h.stay.trans (iW.del (LL u)),h.idx.cL9 u w⟩;have x:∀H,wY n m k R i l H->wY n m k R i l (kN H (wE j)):=λH h=>⟨h.sys.del _,h.stay.trans (iW.del (IT u)),h.idx.stay (iW.del (ZB u))⟩;have s:∀E:aL,E.down=false->E.cap=D.cap->E.bQ=D.bQ->wY n m k R i l E.files->(∀G,G≠nN j->bO E.files G=bO D.files G)->bO E.files (nN j)=none->dZ E.files<=dZ D.files->Good D (if(E.delete (wE j)).1=61 then E.delete (wE j)else(0,(E.delete (wE j)).2)) (λf=>wY n m k R i l f.files/\(∀G,G≠nN j->G≠wE j->bO f.files G=bO D.files G)/\bO f.files (nN j)=none/\bO f.files (wE j)=none/\dZ f.files<=dZ D.files) (wY n m k R i l):=λE t g p hE A z F=>by
  rcases MB t (wE j) q hE (x _ hE)with⟨a,b,c⟩|⟨a,b,c,d,e⟩|⟨a,b,c,d,e⟩
  .rw[aP (by omega),b];exact .inl ⟨rfl,t,g,p,hE,λG v _=>A G v,z,c,F⟩
  .rw[aP (by omega)];refine .inl ⟨rfl,b,c.trans g,d.trans p,?_⟩;simp only;rw[e];refine⟨x _ hE,λG v B=>by rw[iK,aP (λe=>B e.symm)];exact A G v,by rw[iK];split;rfl;exact z,by rw[iK,aV rfl],?_⟩;have:=yJ hE.sys.oW.kV (wE j);omega
  rw[aV a];exact .inr ⟨a,b,c.trans g,d.trans p,e⟩
 unfold pG;rcases MB r (nN j) q h y with⟨a,b,c⟩|⟨a,b,c,d,e⟩|⟨a,b,c,d,e⟩
 .rw[aP (by omega),b];exact s D r rfl rfl h (λ_ _=>rfl) c dQ
 .rw[aP (by omega)];refine s _ b c d (by rw[e];exact y) (λG C=>by rw[e,iK,aP (λe=>C e.symm)]) (by rw[e,iK,aV rfl]) ?_;rw[e];have:=yJ h.sys.oW.kV (nN j);omega
 rw[aV a];exact .inr ⟨a,b,c,d,e⟩
structure aZ0(I:aZ)(a s:Nat)(R:List lW)(P:Nat)(m:jD)(L:List dB):Prop where
 ok:wU m=true
 zQ:m.aX=a
 next:m.next=I.cZ.next+1
 small:I.cZ.next<98
 le:m.next<=s
 check:m.check<=P
 old:∀k∈m.fP.flatten,k=I.cZ.next\/k∈I.cZ.fP.flatten
 new:I.cZ.next∈m.fP.flatten
 may:tN L=true
 wC:∀e∈L,wC e
 yG:L.length<=1000000
 eq:∀e,(e∈L\/∃k,k∈m.fP.flatten/\k≠I.cZ.next/\∃M,I.fI k=some M/\e∈M)↔e∈fZ a (R.filter fun r=>decide (r.1<m.check))
def xK(h:sK l I k n R m):∀d∈I.cZ.fP.flatten,d<I.cZ.next/\d<=999999:=λd b=>by obtain⟨⟨c,_⟩,_,a⟩:=mM.1 h.cZ;have:=a d b;omega
def uP(a:n<=999999)(f t k:bH):bO (aG8 l n f t) k=if nN n=k then some ⟨t,t⟩else if wE n=k then some ⟨f,f⟩else bO l k:=by
 unfold aG8;rw[fF];split
 .rfl
 rw[fF]
def ao5{l2:cA}(h:sK l I k n R m){i j:Nat}{M:jD}{L:List dB}(f:aZ0 I k i R j M L)(C:bO l2 (nN I.cZ.next)=some ⟨lU L,lU L⟩)(D:∀J∈I.cZ.fP.flatten,bO l2 (nN J)=bO l (nN J)):WU l2 k i R j M/\(∀J∈M.fP.flatten,∃H,jM I.fI I.cZ.next L J=some H/\nJ l2 J H)/\(∀e,(∃K,K∈M.fP.flatten/\∃H,jM I.fI I.cZ.next L K=some H/\e∈H)↔e∈fZ k (R.filter λr=>decide (r.1<M.check))):=by
 have E:=f.small;have u:nJ l2 I.cZ.next L:=⟨⟨_,C,dQ,rfl⟩,f.may,f.wC,f.yG⟩;have v:∀J∈I.cZ.fP.flatten,∃H,I.fI J=some H/\nJ l2 J H:=λJ p=>by
  have⟨H,b,c⟩:=h.fI J p;have⟨y,g,o,B⟩:=c.file;exact⟨H,b,⟨y,by rw[D J p];exact g,o,B⟩,c.may,c.ok,c.yG⟩
 have z:∀J∈I.cZ.fP.flatten,J≠I.cZ.next:=λJ p e=>by have:=(xK h J p).1;omega
 have a:∀J∈M.fP.flatten,∃H,jM I.fI I.cZ.next (some L) J=some H/\nJ l2 J H:=λJ p=>by
  unfold jM;rcases f.old J p with rfl|t
  .rw[aV rfl];exact⟨L,rfl,u⟩
  rw[aP (z J t)];exact v J t
 have s:∀e,(∃K,K∈M.fP.flatten/\∃H,jM I.fI I.cZ.next (some L) K=some H/\e∈H)↔e∈fZ k (R.filter λr=>decide (r.1<M.check)):=λe=>by
  rw[<-f.eq e];constructor
  .rintro ⟨K,d,H,b,c⟩;unfold jM at b;by_cases q:K=I.cZ.next
   .rw[aV q]at b;cases b;exact .inl c
   rw[aP q]at b;exact .inr ⟨K,d,q,H,b,c⟩
  rintro (b|⟨K,d,q,H,b,c⟩)
  .exact⟨_,f.new,L,by unfold jM;rw[aV rfl],b⟩
  exact⟨K,d,H,by unfold jM;rw[aP q];exact b,c⟩
 refine⟨⟨f.le,f.check,λK d=>?_,λ_ e=>?_⟩,a,s⟩
 .have⟨H,_,c⟩:=a K d;have⟨y,g,o,B⟩:=c.file;exact⟨y,g,o⟩
 rw[<-s e];constructor
 .rintro ⟨K,d,y,b,c⟩;have⟨H,g,o⟩:=a K d;have⟨w,x,F,A⟩:=o.rY;rw[b]at x;cases x;exact⟨K,d,H,g,by rw[<-A];exact c⟩
 rintro ⟨K,d,H,b,c⟩;have⟨G,g,o⟩:=a K d;rw[b]at g;cases g;have⟨w,x,F,A⟩:=o.rY;exact⟨K,d,w,x,by rw[A];exact c⟩
def FA(D:aL)(L:List dB)(f:bH):Prop:=D.cap<dZ D.files+(lU L).length+f.length+6300
def IN(h:wU M=true):(iS M).length<=190+10:=by
 obtain⟨_,⟨f,g,i⟩,j⟩:=mM.1 h;have d:=oA M.fP;have e:=CF M.fP;have c:∀L:mX,(L.flatMap uE).length=L+4*L.flatten:=by
  intro L;induction L with
  |nil=>rfl
  |cons l L b=>
   rw[eN,aO,b,iA,aO,cE];have:(uE l).length=1+4*l:=by
    unfold uE;rw[cE];have:∀l:List Nat,(l.flatMap (be 4)).length=4*l:=by
     intro l;induction l with
     |nil=>rfl
     |cons a l b=>rw[eN,aO,b,cE];simp;omega
    rw[this];omega
   omega
 unfold iS X6;rw[oK];simp only[aO,c,d,cE,kG,lF];omega
def YA(hd:D.down=false)(x:D.cap=n)(hs:Sys n 98 D.files){I:aZ}(h:sK D.files I k m R i)(B:k<18446744073709551616){j d:Nat}(hb:m<=j)(h9:i<=d){M:jD}{L:List dB}(y:aZ0 I k j R d M L)(f:bH):let r:=nR I D M I.cZ.next L f
 (r.1=0/\r.2.1={I with cZ:=M,fI:=jM I.fI I.cZ.next L}/\r.2.2.down=false/\r.2.2.cap=D.cap/\r.2.2.bQ=D.bQ/\wY n k j R d D.files r.2.2.files/\bO r.2.2.files dI=none/\bO r.2.2.files fE=some ⟨iS M,iS M⟩/\(∀hp,hp≠dI->hp≠fE->bO r.2.2.files hp=bO (aG8 D.files I.cZ.next f (lU L)) hp))\/
 (r.1=60/\r.2.1=I/\r.2.2.down=false/\r.2.2.cap=D.cap/\r.2.2.bQ=D.bQ/\wY n k j R d D.files r.2.2.files/\(bO D.files dI=none->bO r.2.2.files dI=none)/\(∀hp,hp≠dI->bO r.2.2.files hp=bO D.files hp)/\FA D L f)\/
 ((r.1=60\/r.1=61)/\r.2.2.down=true/\r.2.2.cap=D.cap/\r.2.2.bQ=D.bQ/\wY n k j R d D.files r.2.2.files/\(r.1=60->FA D L f)):=by
  intro r;have h8:=y.small;have g:I.cZ.next<=999999:=(by omega);have⟨T,Z⟩:=h.free I.cZ.next dQ g;have J:wY n k j R d D.files D.files:=⟨hs,iW.refl _ _,h.eI.same (sS.refl _ _) h9 hb⟩;have hh:∀l u,wY n k j R d D.files l->wY n k j R d D.files (eR l u):=λl u h=>h.kJ u;have P:∀l,(∀hp,VW hp->hp≠nN I.cZ.next->bO l hp=bO D.files hp)->bz3 l k I.cZ.next:=λl V mf s hg S hc=>by rw[V _ NL (λe=>AV g e.symm)]at s;have⟨tf,v,_⟩:=((h.eI mf s).2 hg S).on _ hc;rw[T]at v;cases v
  have ha:=IN y.ok;have O:JV D (kS (o8 D I.cZ.next L f) λD=>qV D M) (λp=>wY n k j R d D.files p.files/\bO p.files dI=none/\bO p.files fE=some ⟨iS M,iS M⟩/\(∀hp,hp≠dI->hp≠fE->bO p.files hp=bO (aG8 D.files I.cZ.next f (lU L)) hp)) (λp=>wY n k j R d D.files p.files/\(bO D.files dI=none->bO p.files dI=none)/\(∀hp,hp≠dI->hp≠nN I.cZ.next->hp≠wE I.cZ.next->bO p.files hp=bO D.files hp)/\FA D L f) (wY n k j R d D.files):=by
   refine((ba3 hd x J h8 T Z L f).mono (Q:=λp=>p.files=aG8 D.files I.cZ.next f (lU L)/\wY n k j R d D.files p.files) (λ_ _ _ h=>h) (λp _ _ ⟨e,ht⟩=>⟨e▸J,λhn=>e▸hn,λhp _ _ _=>by rw[e],by unfold FA;omega⟩) (λ_ h=>h)).then λD1 he F hi ⟨o,h0⟩=>?_;have hu:dZ D1.files<=dZ D.files+f+(lU L):=by rw[o];unfold aG8;have w1:=hs.oW.put (wE I.cZ.next) (f:=⟨f,f⟩) dQ;have a1:=OP hs.oW Z ⟨f,f⟩;have a2:=OP w1 (n:=nN I.cZ.next) (by rw[fF,aP (λe=>FI g g e.symm)];exact T) ⟨lU L,lU L⟩;simp only at a1 a2;omega
   refine(bB8 he (F.trans x) h0 M (λl V h7=>?_)).mono (λD2 _ _ ⟨a,b,c,hj⟩=>⟨a,hj,c,λhp v H=>by rw[b hp v H,o]⟩) (λD2 _ hf ⟨a,b,c,hj⟩=>⟨a,λ_=>c,λhp v H h3=>by rw[b hp v,o,uP g,aP (λe=>H e.symm),aP (λe=>h3 e.symm)],by unfold FA;omega⟩) (λ_ h=>h);intro mf s;rw[h7]at s;cases s;refine⟨dQ,λhg S=>?_⟩;have h6:=(RW y.ok (by rw[y.zQ];exact B)).2;rw[h6];have w:=(ao5 h y (l2:=l) (by rw[V _ (bx2 g) (AV g),o,uP g,aV rfl]) (λhp hk=>by have⟨U,A⟩:=xK h hp hk;rw[V _ (bx2 A) (AV A),o,uP g,aP (λe=>by have:=EE g A e;omega),aP (λe=>FI A g e.symm)])).1;have N:(DY M).fP.flatten=M.fP.flatten:=oA _;exact⟨w.next,w.check,by rw[N];exact w.on,by rw[N];exact w.eq⟩
  have⟨q,hq⟩:=fR (kS (o8 D I.cZ.next L f) λD=>qV D M);have t:r=if q.1≠0 then(q.1,I,(pG q.2 I.cZ.next).2)else if(kX q.2 I.cZ.next).1≠0 then((kX q.2 I.cZ.next).1,I,q.2)else(0,{I with cZ:=M,fI:=jM I.fI I.cZ.next (kX q.2 I.cZ.next).2},q.2):=(by rw[hq];rfl);rw[<-hq]at O;clear hq;have⟨e,E⟩:=q;rcases O with(⟨a,b,c,hj,o,G,C,z⟩|⟨a,b,c,hj,o⟩)|⟨a,b,c,hj,o,G,C,z⟩
  .simp only at a b c hj o G C z t;have ho:kX E I.cZ.next=(0,some L):=by have⟨t1,t2,_⟩:=QW y.may y.wC y.yG;unfold kX;rw[b,aP (by simp),z _ (IU g) (AV g),uP g,aV rfl];simp only[t1,t2,eH]
   rw[aP (by simpa using a),ho,aP (by simp)]at t;left;rw[t];exact⟨rfl,rfl,b,c,hj,o,G,C,z⟩
  .simp only at a b c hj o t;rw[aV (by omega)]at t;have h4:pG E I.cZ.next=(61,E):=by have K:∀hv,E.delete hv=(61,E):=λhv=>(by unfold aL.delete;rw[b,aV rfl]);unfold pG;rw[K,aV rfl]
   rw[h4]at t;right;right;rw[t];exact⟨.inr a,b,c,hj,o,λh=>by simp only at h;omega⟩
  simp only at a b c hj o G C z t;rw[aV (by omega)]at t;have h5:=ar0 b o g (P _ λhp v H=>C hp (λe=>PI (e▸v)) H (λe=>ZB g (e▸v)));right;rcases h5 with⟨a',W,X,Y,U,A,g3,g4,g5⟩|⟨a',W,X,Y,U⟩
  .left;rw[t];refine⟨a,rfl,W,X.trans c,Y.trans hj,U,λhn=>?_,λhp hk=>?_,z⟩
   .simp only;rw[A _ (λe=>IU g e.symm) (λe=>ZE g e.symm)];exact G hn
   simp only;by_cases k1:hp=nN I.cZ.next
   .rw[k1,g3,T]
   by_cases k2:hp=wE I.cZ.next
   .rw[k2,g4,Z]
   rw[A hp k1 k2,C hp hk k1 k2]
  right;rw[t];exact⟨.inl a,W,X.trans c,Y.trans hj,U,λ_=>z⟩
variable{G:cS}
def I0(l:mX)(n:Nat):∀k,k∈(pY l n).flatten↔k=n\/k∈l.flatten:=λk=>by
 unfold pY;have e:=oA l;cases b:iQ l with
 |nil=>rw[b]at e;rw[<-e];simp
 |cons a r=>
  rw[b]at e;rw[<-e];simp only[iA,cB,cY,r8,or_false];constructor
  .rintro ((h|h)|h)
   .exact .inr (.inl h)
   .exact .inl h
   exact .inr (.inr h)
  rintro (h|h|h)
  .exact .inl (.inr h)
  .exact .inl (.inl h)
  exact .inr h
def aX5(l:mX)(n:Nat)(h:l.length<=5):(pY l n).length<=5/\(pY l n).flatten.length=l.flatten+1:=by
 unfold pY;have e:=oA l;have b:=CF l;cases c:iQ l with
 |nil=>rw[c]at e;rw[<-e];simp
 |cons a r=>rw[c]at e b;rw[<-e];simp only[cE,iA,aO,kG]at b|-;omega
def br3{C:mX}(h:C.flatten.Nodup)(c:n∉C.flatten):(pY C n).flatten.Nodup:=by
 unfold pY;have e:=oA C;cases j:iQ C with
 |nil=>simp
 |cons a r=>
  rw[j]at e;rw[<-e]at h c;simp only[iA]at h c|-;have⟨f,g,i⟩:=mG.1 h;rw[cB]at c;refine mG.2 ⟨mG.2 ⟨f,by simp,λx b y d=>?_⟩,g,λx b y d=>?_⟩
  .rw[bP.1 d];intro e;exact c (.inl (e▸b))
  rcases cB.1 b with b|b
  .exact i x b y d
  rw[bP.1 b];intro e;exact c (.inr (e▸d))
def ct4(h:sK l I k n R m)(a:∀e∈fZ k R,wC e/\qF e=true):(∀e∈I.mem,wC e/\qF e=true):=λe b=>by refine a e ?_;rw[<-h.all e];exact .inl b
def vK(h:fD L=true):L.Nodup:=by unfold fD at h;rw[bG]at h;exact h.imp fun {a b} c e=>by subst e;rw[NI]at c;cases c
def ab1(h:sK l I k n R m)(z:∀e∈fZ k R,wC e/\qF e=true)(d:(fZ k R).length<=1000000){i:Nat}(hE:∀r∈R,r.1<i)(E:m<=i)(q:i<=2147483647)(u:I.cZ.next<98)(y:¬40<=I.cZ.fP.flatten.length):aZ0 I k (n+1) R i ⟨I.cZ.next+1,i,I.cZ.aX,pY I.cZ.fP I.cZ.next⟩ I.mem:=by
 obtain⟨⟨F,G⟩,⟨C,H,D⟩,v⟩:=mM.1 h.cZ;have g:I.cZ.next∉I.cZ.fP.flatten:=λA=>(by have:=v _ A;omega);have b:=ct4 h z;have⟨w,x⟩:=aX5 I.cZ.fP I.cZ.next C;have t:=h.next;refine⟨mM.2 ⟨⟨by simp only;omega,q⟩,⟨w,by simp only;rw[x];omega,br3 D g⟩,λJ a=>?_⟩,h.zQ,rfl,u,by simp only;omega,dQ,λJ a=>(I0 _ _ J).1 a,(I0 _ _ _).2 (.inl rfl),?_,λe c=>(b e c).1,?_,λe=>?_⟩
 .rcases(I0 _ _ J).1 a with rfl|a
  .exact Nat.lt_succ_self _
  have:=v J a;simp only;omega
 .unfold tN;rw[h.PQ,fQ,dN];exact λe c=>(b e c).2
 .exact aM (uS (vK h.PQ) λe c=>(h.all e).1 (.inl c)) d
 have f:(R.filter λr=>decide (r.1<i))=R:=qM.2 λr B=>(by simpa using hE r B);rw[f,<-h.all e];constructor
 .rintro (j|⟨J,a,s,M,o,p⟩)
  .exact .inl j
  rcases(I0 _ _ J).1 a with rfl|a
  .exact absurd rfl s
  exact .inr ⟨J,a,M,o,p⟩
 rintro (j|⟨J,a,M,o,p⟩)
 .exact .inl j
 exact .inr ⟨J,(I0 _ _ J).2 (.inr a),λe=>g (e▸a),M,o,p⟩
def Y9{Z:cA}(h:sK l I m k R i){j d:Nat}{M:jD}{L:List dB}(c:aZ0 I m j R d M L){s:bH}(x:wY n m j R d Z f)(o:∀A,A≠dI->A≠fE->bO f A=bO (aG8 l I.cZ.next s (lU L)) A){O:List dB}(t:fD O=true)(q:∀e,e∈O↔e∈fZ m (R.filter λr=>!decide (r.1<M.check))):sK f {cZ:=M,mem:=O,fI:=jM I.fI I.cZ.next L} m j R d:=by
 have y:=c.small;have a:I.cZ.next<=999999:=by omega
 have⟨z,v,w⟩:=ao5 h c (l2:=f) (by rw[o _ (IU a) (AV a),uP a,aV rfl]) (λA p=>by have⟨u,g⟩:=xK h A p;rw[o _ (IU g) (AV g),uP a,aP (λe=>by have:=EE a g e;omega),aP (λe=>FI g a e.symm)]);refine⟨c.ok,c.zQ,c.le,c.check,v,w,t,q,λA p b=>?_,x.idx⟩;have p:I.cZ.next+1<=A:=(by rw[<-c.next];exact p);have⟨u,g⟩:=h.free A (by omega) b;rw[o _ (IU b) (AV b),o _ (ZE b) (ZF b),uP a,uP a,aP (λe=>by have:=EE a b e;omega),aP (λe=>FI b a e.symm),aP (λe=>FI a b e),aP (λe=>by have:=bv8 a b e;omega)];exact⟨u,g⟩
def sK.stay(h:sK l I k n R m)(d:∀o,o≠dI->¬isC o->bO f o=bO l o):sK f I k n R m:=by
 have g:iW VW l f:=λp c=>.inl (d p (λe=>PI (e▸c)) (λi=>by
  have⟨o,j⟩:=i;have⟨b,a⟩:=tJ j;rcases a with a|a|a
  .exact ax4 b (a.1▸c)
  .exact absurd a.2 (by decide)
  exact absurd a.2 (by decide)))
 refine⟨h.cZ,h.zQ,h.next,h.check,λp c=>?_,h.eqT,h.PQ,h.eqM,λo b a=>?_,h.eI.stay g⟩
 .have⟨L,b,a⟩:=h.fI p c;exact⟨L,b,a.stay (xK h p c).2 g⟩
 rw[d _ (IU a) (LL a),d _ (ZE a) (IT a)];exact h.free o b a
def sK.same(h:sK l I k n R i)(a:i<=j)(b:n<=m):sK l I k m R j:=⟨h.cZ,h.zQ,aM h.next b,aM h.check a,h.fI,h.eqT,h.PQ,h.eqM,h.free,h.eI.same (sS.refl _ _) a b⟩
def zB.less(h:zB l C n m)(v:k<=n):zB l C k m:=by
 cases h with
 |none h=>rw[show k=0 from by omega];exact .none h
 |some C u n m t e g s=>have⟨f,c,j,o,p,q,r⟩:=g;exact .some C u k m t e ⟨f,c,j,o,p,q,r.imp (λ⟨a,b⟩=>⟨a,by omega⟩) (λ⟨i,a,b,c,d⟩=>⟨i,a,b,c,by omega⟩)⟩ s
def wQ.stay(h:wQ l G C n k)(c:∀j,j≠dI->isC j->bO f j=bO l j)(a:bO f dI=none):wQ f G C n k:=⟨h.log.stay (λm a=>.inl (c m (λe=>EL (e▸a)) a)),λm a=>by have⟨i,d,g⟩:=h.whole m a;have b:=h.log.ok.1;exact⟨i,by rw[c _ (λe=>NF m (by omega) e.symm) (EK (by omega))];exact d,g⟩,h.bV,a⟩
variable{B:List bH}
def kK(b a s:Nat)(l:cA)(B:List bH)(S:Nat):Prop:=Sys b 98 l/\∃C P,zB l C S P/\C.flatten <+: B/\BV l a s (dF C) P
structure jJ(a b s:Nat)(D:aL)(G:cS)(I:aZ)(B:List bH)(S:Nat):Prop where
 up:D.down=false
 tA:D.cap=a
 sys:Sys a 98 D.files
 st:∃C P,wQ D.files G C S P/\C.flatten=B/\sK D.files I b s (dF C) P
def jJ.eI{n:Nat}(h:jJ n m k D G I B i):kK n m k D.files B i:=by have⟨C,P,a,b,c⟩:=h.st;exact⟨h.sys,C,P,a.log,by rw[b];exact oT _,c.eI⟩
def kK.kJ{n k:Nat}(h:kK n m k l B i)(a:List Int):kK n m k (eR l a) B i:=by have⟨b,C,P,c,d,e⟩:=h;exact⟨b.kJ a,C,P,c.stay (iW.kJ _ b.oW.sync a),d,e.stay (iW.kJ _ b.oW.sync a)⟩
def cB2(B:List bH):Prop:=∀p∈B,rN p=true/\p.length<=2000
def by0{aX:Nat}{R:List lW}(h:∀r∈R,rN r.2=true/\r.1<=1000000000):∀e∈fZ aX R,wC e/\qF e=true:=λe a=>by have⟨r,f,a⟩:=oC.1 a;have⟨c,k⟩:=h r f;have⟨d,l⟩:=GU c;have⟨_,_,_,_,g,j,_⟩:=j8 d;unfold uY at a;obtain⟨i,b,rfl⟩:=dS.1 a;have b:=gB.1 b;have m:=aa2 aX (lb (lH r.2).1);unfold wC qF;simp only[bG];omega
def bO2{aX:Nat}{r:lW}(h:rN r.2=true):(uY aX r).length<=8:=by have⟨a,b⟩:=GU h;have⟨_,_,_,g,_⟩:=j8 a;unfold uY;simpa using g
def CU{aX:Nat}{R:List lW}(h:∀r∈R,rN r.2=true):(fZ aX R).length<=8*R:=by
 induction R with
 |nil=>simp[fZ]
 |cons r R c=>have d:=bO2 (aX:=aX) (h r (by simp));have a:=c (λx b=>h x (by simp[b]));unfold fZ at a|-;rw[eN,aO,cE];omega
def aJ6(h:KH C):(dF C).length<=68267:=by
 have a:=rZ h;have b:=λr a=>GM (r:=r) h a;have d:=h.1;have c:∀(R:List lW)(k:Nat),B8 R->(∀r∈R,k<=r.1/\r.1+r.2+12<=819200)->k<=819200->k+12*R<=819200:=by
  intro R;induction R with
  |nil=>intro k _ _ f;simpa using f
  |cons r R l=>
   intro k a e f;have⟨i,j⟩:=dG.1 a;have⟨m,n⟩:=e r (by simp);have:=l (k+12) j (λx g=>by have:=i x g;have:=(e x (by simp[g])).2;omega) (by omega);rw[cE];omega
 have:=c (dF C) 0 a (λr a=>by have:=b r a;omega) (by omega);omega
def AD(d:KH C){B:List bH}(h:C.flatten=B)(j:cB2 B)(c:Nat):(∀e∈fZ c (dF C),wC e/\qF e=true)/\(fZ c (dF C)).length<=1000000/\∀r∈dF C,r.1<kF (fB C)/\rN r.2=true:=by
 have a:∀r∈dF C,rN r.2=true:=λr b=>by have:r.2∈B:=(by rw[<-h,<-tZ];exact ak3 b);exact(j _ this).1
 have g:=d.1;refine⟨by0 λr b=>⟨a r b,by have:=GM d b;omega⟩,by have:=CU (aX:=c) a;have:=aJ6 d;omega,λr b=>⟨?_,a r b⟩⟩;clear j a h;induction C using CI with
 |h0=>cases b
 |h1 C k _=>
  rw[yR];rw[mK]at b;rcases cB.1 b with b|b
  .have:=GM d.front b;omega
  unfold qW at b;obtain⟨i,f,rfl⟩:=dS.1 b;have f:=gB.1 f;have h1:=vY (fC (C:Nat)) k i f;have l:=BJ (fC (C:Nat)) k (i+1);simp only;unfold eD;omega
def aB1(h:zB l C n k):k<=kF (fB C):=by
 cases h with
 |none h=>exact bK _
 |some e g n k f b a v=>
  have⟨j,c,m,o,p,q,d⟩:=a;rw[yR];have:=zJ f.front;rcases d with d|⟨i,r,s,t,u⟩
  .omega
  have:=BJ (fC (e:Nat)) g i;unfold eD;omega
def MI(b a s:Nat)(D:aL)(B:List bH)(S:Nat)(G:cS)(I:aZ)(L:List dB)(f:bH)(r:Int×aZ×cS×aL):Prop:=r.2.2.2.cap=D.cap/\r.2.2.2.bQ=D.bQ/\
 ((r.1=0/\jJ b a (s+1) r.2.2.2 r.2.2.1 r.2.1 B S/\r.2.1.cZ.next<=I.cZ.next+1)\/
  (r.1=60/\(FA D L f\/40<=I.cZ.fP.flatten.length)/\r.2.1=I/\jJ b a (s+1) r.2.2.2 r.2.2.1 I B S)\/
  ((r.1=60/\(FA D L f\/40<=I.cZ.fP.flatten.length)\/r.1=61)/\r.2.2.2.down=true/\kK b a (s+1) r.2.2.2.files B S))
def NN(h:jJ n k m D G I B i)(hb:cB2 B)(hs:m<90)(K:k<18446744073709551616)(f:bH):MI n k m D B B G I I.mem f (jS I G D f)\/((jS I G D f).1=61/\(jS I G D f).2.2.2.down=true/\(jS I G D f).2.2.2.cap=D.cap/\(jS I G D f).2.2.2.bQ=D.bQ/\kK n k m (jS I G D f).2.2.2.files B i):=by
 have⟨C,P,ho,p,j⟩:=h.st;have M:=TM h.up h.tA h.sys ho (Ok:=λC'=>C'=C) rfl;have H:=ho.log.ok;have⟨h7,h8,h3⟩:=AD H p hb k;have W:=aB1 ho.log;have l:C.flatten.length=B:=(by rw[p]);have h4:kF (fB C)<=2147483647:=(by have:=zJ H;have:=H.1;omega);unfold jS;generalize hq:gO G D=q at M|-;have⟨e1,G1,R⟩:=q;simp only at M|-;rcases M with⟨a,N,g,v,Z,J,t,u,h0,z⟩|⟨a,b,c',d,e'⟩;case inr=>
  simp only at a b c' d e';subst a;rw[aV (by simp)];refine .inr ⟨rfl,b,c',d,e'.sys,?_⟩;obtain⟨C',U,rfl⟩:=e'.log;refine⟨C',P,U,by rw[p];exact oT _,j.eI.stay (e'.stay.mono λha Q=>?_)⟩;rintro ⟨h9,A⟩;have⟨p1,s⟩:=tJ A;rcases s with s|s|s
  .exact ax4 p1 (s.1▸Q)
  .exact absurd s.2 (by decide)
  exact absurd s.2 (by decide)
 simp only at a N g v Z J t u h0 z;subst a;rw[aP (by simp)];left;have o:sK R.files I k m (dF C) (kF (fB C)):=by
  have hI:iW VW D.files R.files:=t.mono λha Q=>by
   rintro ⟨h9,A⟩;have⟨p1,s⟩:=tJ A;rcases s with s|s|s
   .exact ax4 p1 (s.1▸Q)
   .exact absurd s.2 (by decide)
   exact absurd s.2 (by decide)
  refine⟨j.cZ,j.zQ,j.next,aM j.check W,λha Q=>?_,j.eqT,j.PQ,j.eqM,λh9 U V=>?_,(j.eI.stay hI).same (sS.refl _ _) W dQ⟩
  .have⟨L,U,V⟩:=j.fI ha Q;exact⟨L,U,V.stay (xK j ha Q).2 hI⟩
  have⟨x,T⟩:=j.free h9 U V;exact⟨t.no (LL V) x,t.no (IT V) T⟩
 have w:jJ n k (m+1) R G1 I B B:=⟨N,g.trans h.tA,J,C,kF (fB C),by rw[<-l];exact u,p,o.same dQ (by omega)⟩;unfold MI;by_cases X:I.mem=[]
 .rw[aV X];exact⟨g,v,.inl ⟨rfl,w,by simp only;omega⟩⟩
 rw[aP X];by_cases y:40<=I.cZ.fP.flatten.length
 .rw[aV y];exact⟨g,v,.inr (.inl ⟨rfl,.inr y,rfl,w⟩)⟩
 rw[aP y];have h6:I.cZ.next<98:=(by have:=j.next;omega);have Y:=ab1 o h7 h8 (λr hr=>(h3 r hr).1) dQ h4 h6 y;have E:=YA N (g.trans h.tA) J o K (gI m) dQ Y f;have h5:kF G.bV=kF (fB C):=(by rw[ho.bV]);rw[h5];have hT:∀{L:List dB},FA R L f->FA D L f:=fun {L} ht=>(by unfold FA at ht|-;rwa[g,h0]at ht);simp only at E;generalize nR I R ⟨I.cZ.next+1,kF (fB C),I.cZ.aX,pY I.cZ.fP I.cZ.next⟩ I.cZ.next I.mem f=r at E|-;have⟨e2,I2,D2⟩:=r;simp only at E|-;rcases E with⟨a,b,c,d,e,x,T,g3,O⟩|⟨a,b,c,d,e,x,T,g3,O⟩|⟨a,c,d,e,x,O⟩
 .subst a;rw[aV rfl,b];refine⟨d.trans g,e.trans v,.inl ⟨rfl,⟨c,d.trans (g.trans h.tA),x.sys,C,kF (fB C),?_,p,?_⟩,dQ⟩⟩
  .rw[<-l];have F:I.cZ.next<=999999:=(by omega);exact u.stay (λh9 A hc=>by have n1:¬nN I.cZ.next=h9:=λS=>LL F (by rw[S];exact hc);have n2:¬wE I.cZ.next=h9:=λS=>IT F (by rw[S];exact hc);rw[O h9 A (λS=>ZC (by rw[<-S];exact hc)),uP F,aP n1,aP n2]) T
  refine Y9 o Y x O rfl (λe=>?_);have:((dF C).filter λr=>!decide (r.1<kF (fB C)))=[]:=by rw[iD];intro r hr;have:=(h3 r hr).1;simp;omega
  simp only;rw[this];simp[fZ]
 .subst a;rw[aP (by simp),b];refine⟨d.trans g,e.trans v,.inr (.inl ⟨rfl,.inl (hT O),rfl,⟨c,d.trans (g.trans h.tA),x.sys,C,kF (fB C),?_,p,?_⟩⟩)⟩
  .rw[<-l];exact u.stay (λh9 A hc=>g3 h9 A) (T u.new)
  exact(o.stay (λh9 A _=>g3 h9 A)).same dQ (by omega)
 refine⟨d.trans g,e.trans v,.inr (.inr ⟨a.imp (λh=>⟨h,.inl (hT (O h))⟩) id,c,x.sys,C,kF (fB C),?_,by rw[p];exact oT _,x.idx⟩)⟩;rw[<-l];exact u.log.stay x.stay
def VB(l:mX):∃z:mX,l=iQ l++z/\∀a∈z,a=[]:=by
 induction l using CI with
 |h0=>exact⟨[],rfl,by simp⟩
 |h1 l a f=>
  have e:iQ (l++[a])=if a.isEmpty=true then iQ l else l++[a]:=by unfold iQ;rw[zD];show((a::l.reverse).dropWhile List.isEmpty).reverse=_;rw[nO];split<;>simp
  rw[e];by_cases h:a.isEmpty=true
  .rw[aV h];have⟨z,h1,d⟩:=f;refine⟨z++[a],by(conv=>lhs;rw[h1]);simp,λb c=>?_⟩;rcases cB.1 c with c|c
   .exact d b c
   rw[bP.1 c];exact T5.1 h
  rw[aP h];exact⟨[],by simp,by simp⟩
def bj1{C:mX}(y:n<5)(D:C.length<=5)(o:C.getD n []≠[])(E:Nat):∃A B U V,iQ C=A++C.getD n []::B/\(mZ C n E).flatten=U++E::V/\U++V=A.flatten++B.flatten/\(mZ C n E).length<=5:=by
 have⟨z,q,s⟩:=VB C;have f:n<(iQ C):=by
  rcases cK n (iQ C) with h|h
  .exact h
  exfalso;apply o;rw[q,aY,eF h];cases w:z[n - (iQ C).length]? with
  |none=>rfl
  |some a=>exact s a (bC w)
 have v:(iQ C)[n]=C.getD n []:=by
  conv=>rhs;rw[q]
  rw[aY,fO f,aJ f];rfl
 have i:=CF C;generalize C.getD n []=x at *;unfold mZ;generalize iQ C=T at *;have p:T=T.take n++x::T.drop (n+1):=(by rw[<-v,gT,bX]);have c:(T.take n)=n:=(by simp;omega);generalize T.take n=A at *;generalize T.drop (n+1)=B at *;subst p;have g:(A++x::B).set n []=A++[]::B:=(by rw[kC _ _ (by omega),c,iM];rfl);rw[g];have r:(A++([]:List Nat)::B).length=n+1+B:=(by simp;omega);have l:(A++x::B).length=n+1+B:=(by simp;omega);by_cases e:(A++([]:List Nat)::B).length<=min (n+1) 4
 .rw[aV e];have u:B=[]:=eG.1 (by omega);subst u;refine⟨A,[],A.flatten,[],rfl,by simp,by simp,by simp at e i|-;omega⟩
 rw[aP e];rcases cK n 4 with t|t
 .have m:min (n+1) 4=n+1:=(by omega);rw[m]at e|-;cases B with
  |nil=>simp at e;omega
  |cons b B=>
   have j:(A++[]::b::B).getD (n+1) []=b:=by rw[aY,eF (by omega),c,show n+1-n=1 from by omega];rfl
   have d:(A++[]::b::B).set (n+1) (b++[E])=A++[]::(b++[E])::B:=by rw[kC _ _ (by omega),c,show n+1-n=1 from by omega];rfl
   rw[j,d];refine⟨A,b::B,A.flatten++b,B.flatten,rfl,by simp,by simp,by simp at i|-;omega⟩
 have k:n=4:=(by omega);subst k;have m:min (4+1) 4=4:=(by omega);rw[m];have j:(A++[]::B).getD 4 []=[]:=by rw[aY,eF (by omega),c];rfl
 have d:(A++[]::B).set 4 ([]++[E])=A++[E]::B:=by rw[kC _ _ (by omega),c];rfl
 rw[j,d];refine⟨A,B,A.flatten,B.flatten,rfl,by simp,rfl,by simp at i|-;omega⟩
def ao7{C:mX}(r:n<5)(s:C.length<=5)(c:C.flatten.Nodup)(d:C.getD n []≠[]){k:Nat}(f:k∉C.flatten):(∀j,j∈(mZ C n k).flatten↔j=k\/j∈C.flatten/\j∉C.getD n [])/\(mZ C n k).flatten.Nodup/\(mZ C n k).length<=5/\(mZ C n k).flatten.length<=C.flatten/\(∀j∈C.getD n [],j∈C.flatten)/\(C.getD n []).Nodup:=by
 have⟨A,B,U,V,p,g,i,q⟩:=bj1 r s d k;have e:=oA C;rw[p]at e;have o:A.flatten++(C.getD n []++B.flatten)=C.flatten:=(by rw[<-e];simp);rw[<-o]at c f|-;have⟨w,z,l⟩:=mG.1 c;have⟨D,E,m⟩:=mG.1 z;simp only[cB,not_or]at f;have b:∀j,(j∈U\/j∈V)↔(j∈A.flatten\/j∈B.flatten):=λj=>(by rw[<-cB,i,cB]);have u:0<(C.getD n []).length:=qL.2 d;refine⟨λj=>?_,?_,q,?_,λj a=>by simp only[cB];exact .inr (.inl a),D⟩
 .rw[g];simp only[cB,cY];constructor
  .rintro (h|h|h)
   .rcases(b j).1 (.inl h)with h|h
    .exact .inr ⟨.inl h,λa=>l j h j (sI _ a) rfl⟩
    exact .inr ⟨.inr (.inr h),λa=>m j a j h rfl⟩
   .exact .inl h
   rcases(b j).1 (.inr h)with h|h
   .exact .inr ⟨.inl h,λa=>l j h j (sI _ a) rfl⟩
   exact .inr ⟨.inr (.inr h),λa=>m j a j h rfl⟩
  rintro (h|⟨h|h|h,a⟩)
  .exact .inr (.inl h)
  .rcases(b j).2 (.inl h)with h|h
   .exact .inl h
   exact .inr (.inr h)
  .exact absurd h a
  rcases(b j).2 (.inr h)with h|h
  .exact .inl h
  exact .inr (.inr h)
 .rw[g];rw[List.perm_middle.nodup_iff,bS3,i];refine⟨?_,mG.2 ⟨w,E,λx t y v=>l x t y (FC _ v)⟩⟩;rw[cB];rintro (h|h)
  .exact f.1 h
  exact f.2.2 h
 rw[g];have:=gQ List.length i;simp only[aO,cE]at this|-;omega
def PN(h:sK l I m n R i)(B:∀e∈fZ m R,wC e/\qF e=true)(o:(fZ m R).length<=1000000)(z:I.cZ.next<98){k:Nat}(E:k<5)(x:I.cZ.fP.getD k []≠[]):aZ0 I m (n+1) R i ⟨I.cZ.next+1,I.cZ.check,I.cZ.aX,mZ I.cZ.fP k I.cZ.next⟩ (kI ((I.cZ.fP.getD k []).map λQ=>(I.fI Q).getD [])):=by
 obtain⟨⟨O,H⟩,⟨J,P,K⟩,C⟩:=mM.1 h.cZ;have r:I.cZ.next∉I.cZ.fP.flatten:=λu=>(by have:=C _ u;omega);have⟨t,F,G,M,v,N⟩:=ao7 E J K x r;have y:=h.next;have s:∀L∈((I.cZ.fP.getD k []).map λQ=>(I.fI Q).getD []),fD L=true:=λL w=>by obtain⟨Q,a,rfl⟩:=dS.1 w;exact h.lists Q (v Q a)
 have⟨A,D⟩:=OB s;have g:∀e,e∈kI ((I.cZ.fP.getD k []).map λQ=>(I.fI Q).getD [])↔∃Q,Q∈I.cZ.fP.getD k []/\∃L,I.fI Q=some L/\e∈L:=λe=>by
  rw[D];constructor
  .rintro ⟨L,w,d⟩;obtain⟨Q,a,rfl⟩:=dS.1 w;have⟨L,b,_⟩:=h.fI Q (v Q a);rw[b]at d;exact⟨Q,a,L,b,d⟩
  rintro ⟨Q,a,L,b,d⟩;exact⟨_,dS.2 ⟨Q,a,rfl⟩,by rw[b];exact d⟩
 have c:∀e∈kI ((I.cZ.fP.getD k []).map λQ=>(I.fI Q).getD []),e∈fZ m R:=λe d=>by have⟨Q,a,L,b,f⟩:=(g e).1 d;exact(h.all e).1 (.inr ⟨Q,v Q a,L,b,f⟩)
 refine⟨mM.2 ⟨⟨by simp only;omega,H⟩,⟨G,by simp only;omega,F⟩,λj p=>?_⟩,h.zQ,rfl,z,by simp only;omega,h.check,λj p=>((t j).1 p).imp id (λh=>h.1),(t _).2 (.inl rfl),?_,λe d=>(B e (c e d)).1,aM (uS (vK A) c) o,λe=>?_⟩
 .rcases(t j).1 p with rfl|⟨p,_⟩
  .exact Nat.lt_succ_self _
  have:=C j p;simp only;omega
 .unfold tN;rw[A,fQ,dN];exact λe d=>(B e (c e d)).2
 rw[<-h.eqT e,g];constructor
 .rintro (⟨Q,a,L,b,f⟩|⟨Q,a,q,L,b,f⟩)
  .exact⟨Q,v Q a,L,b,f⟩
  rcases(t Q).1 a with rfl|⟨a,_⟩
  .exact absurd rfl q
  exact⟨Q,a,L,b,f⟩
 rintro ⟨Q,a,L,b,f⟩;by_cases u:Q∈I.cZ.fP.getD k []
 .exact .inl ⟨Q,u,L,b,f⟩
 exact .inr ⟨Q,(t Q).2 (.inr ⟨a,u⟩),λe=>r (e▸a),L,b,f⟩
def bO6(W:wU M=true)(K:M.aX<18446744073709551616):∀(f:List Nat) {D:aL} {I:aZ},D.down=false->wY n m k R i l D.files->bO D.files fE=some ⟨iS M,iS M⟩->(∀h3∈f,h3<=999999/\h3<M.next/\h3∉M.fP.flatten)->I.cZ=M->sK D.files I m k R i->bO D.files dI=none->(lE I D f).2.2.cap=D.cap/\(lE I D f).2.2.bQ=D.bQ/\wY n m k R i l (lE I D f).2.2.files/\((lE I D f).1=0/\(lE I D f).2.2.down=false/\(lE I D f).2.1.cZ=M/\sK (lE I D f).2.2.files (lE I D f).2.1 m k R i/\bO (lE I D f).2.2.files dI=none/\(∀h0,(∀h3,h0≠nN h3/\h0≠wE h3)->bO (lE I D f).2.2.files h0=bO D.files h0)\/(lE I D f).1=61/\(lE I D f).2.2.down=true):=by
 intro f;induction f with
 |nil=>intro D I w F q s o g r;exact⟨rfl,rfl,F,.inl ⟨rfl,w,o,g,r,λ_ _=>rfl⟩⟩
 |cons h3 f ih=>
  intro D I w F q s o g r;have⟨h,X,C⟩:=s h3 (by simp);have J:bz3 D.files m h3:=λmf B hg Z G=>by rw[q]at B;cases B;simp only at G;rw[(RW W K).2]at G;exact C (by rw[<-oA M.fP];exact G)
  have H:=ar0 w F h J;unfold lE;rcases H with⟨a,b,c,d,E,x,g3,g4,g5⟩|⟨a,b,c,d,E⟩
  .rw[aP (by simpa using a)];have y:sK (pG D h3).2.files {I with fI:=jM I.fI h3 none} m k R i:=by
    have u:∀h0∈I.cZ.fP.flatten,h0≠h3:=λh0 j e=>C (by rw[<-o,<-e];exact j);have v:∀h0,h0≠h3->jM I.fI h3 none h0=I.fI h0:=λh0 j=>aP j;refine⟨g.cZ,g.zQ,g.next,g.check,λh0 j=>?_,λe=>?_,g.PQ,g.eqM,λh0 t p=>?_,E.idx⟩
    .have⟨L,t,p⟩:=g.fI h0 j;have⟨tf,N,O,q3⟩:=p.file;have z:=(xK g h0 j).2;refine⟨L,(v h0 (u h0 j)).trans t,⟨tf,?_,O,q3⟩,p.may,p.ok,p.yG⟩;rw[x _ (λe=>u h0 j (EE z h e)) (λe=>FI z h e)];exact N
    .rw[<-g.eqT e];constructor
     .rintro ⟨h0,j,L,t,p⟩;exact⟨h0,j,L,(v h0 (u h0 j)).symm.trans t,p⟩
     rintro ⟨h0,j,L,t,p⟩;exact⟨h0,j,L,(v h0 (u h0 j)).trans t,p⟩
    have⟨N,O⟩:=g.free h0 t p;have A:h0≠h3:=λe=>(by have t:I.cZ.next<=h0:=t;rw[o]at t;omega);rw[x _ (λe=>A (EE p h e)) (λe=>FI p h e),x _ (λe=>FI h p e.symm) (λe=>A (bv8 p h e))];exact⟨N,O⟩
   have Y:=ih (D:=(pG D h3).2) (I:={I with fI:=jM I.fI h3 none}) b E (by rw[x _ (λe=>AV h e.symm) (λe=>ZF h e.symm)];exact q) (λh0 j=>s h0 (by simp[j])) o y (by rw[x _ (λe=>IU h e.symm) (λe=>ZE h e.symm)];exact r);have⟨r1,r2,r3,r4⟩:=Y;refine⟨r1.trans c,r2.trans d,r3,r4.imp (λ⟨P,Q,S,T,U,V⟩=>⟨P,Q,S,T,U,λh0 j=>(V h0 j).trans (x h0 (j h3).1 (j h3).2)⟩) id⟩
  rw[aV (by omega)];exact⟨c,d,E,.inr ⟨a,b⟩⟩
def bl6(h:isC s)(n:Nat):s≠nN n/\s≠wE n:=by
 have⟨j,b⟩:=h;have⟨d,a⟩:=tJ b;have i:s=iJ j:=by
  rcases a with a|a|a
  .exact a.1
  .exact absurd a.2 (by decide)
  exact absurd a.2 (by decide)
 by_cases c:n<=999999
 .rw[i];exact⟨λe=>cG2 c d e.symm,λe=>cG3 c d e.symm⟩
 have f:nN n=[]:=(by unfold nN M5;rw[aV (by omega)]);have g:wE n=[]:=(by unfold wE M5;rw[aV (by omega)]);rw[f,g];refine⟨λe=>?_,λe=>?_⟩<;>(rw[e]at b;cases b)
def U4(h:jJ n k m D G I B i)(hb:cB2 B)(hs:m<90)(o:k<18446744073709551616)(h2:Int)(f:bH):(lK I D h2 f=(2,I,D)/\(h2<0\/5<=h2))\/(lK I D h2 f=(4,I,D)/\(0<=h2/\h2<5)/\I.cZ.fP.getD h2.toNat []=[])\/((0<=h2/\h2<5)/\I.cZ.fP.getD h2.toNat []≠[]/\MI n k m D B i G I (kI ((I.cZ.fP.getD h2.toNat []).map λh3=>(I.fI h3).getD [])) f ((lK I D h2 f).1,(lK I D h2 f).2.1,G,(lK I D h2 f).2.2)):=by
 have⟨C,P,z,l,g⟩:=h.st;have U:=z.log.ok;have⟨V,W,h0⟩:=AD U l hb k;unfold lK;by_cases s:h2<0\/5<=h2
 .rw[aV s];exact .inl ⟨rfl,s⟩
 rw[aP s];have F:0<=h2/\h2<5:=(by omega);by_cases j:I.cZ.fP.getD h2.toNat []=[]
 .rw[aV j];exact .inr (.inl ⟨rfl,F,j⟩)
 rw[aP j];refine .inr (.inr ⟨F,j,?_⟩);have S:I.cZ.next<98:=(by have:=g.next;omega);obtain⟨⟨o1,o2⟩,⟨o3,o4,o5⟩,o6⟩:=mM.1 g.cZ;have R:I.cZ.next∉I.cZ.fP.flatten:=λp=>(by have:=o6 _ p;omega);have H:h2.toNat<5:=(by omega);have⟨m1,m2,m3,m4,m5,m6⟩:=ao7 H o3 o5 j R;have t:=PN g V W S H j;have u:=YA h.up h.tA h.sys g o (gI m) dQ t f;simp only at u;unfold MI;simp only;generalize nR I D ⟨I.cZ.next+1,I.cZ.check,I.cZ.aX,mZ I.cZ.fP h2.toNat I.cZ.next⟩ I.cZ.next (kI ((I.cZ.fP.getD h2.toNat []).map λh3=>(I.fI h3).getD [])) f=r at u|-;have⟨e2,N,M⟩:=r;simp only at u|-;have x:I.cZ.next<=999999:=(by omega);rcases u with⟨a,b,c,d,e,v,K,L,y⟩|⟨a,b,c,d,e,v,K,L,y⟩|⟨a,c,d,e,v,y⟩
 .subst a;rw[aP (by simp)];have E:sK M.files N k (m+1) (dF C) P:=by rw[b];exact Y9 g t v y g.PQ g.eqM
  have T:wQ M.files G C i P:=z.stay (λh2 s p=>by have n1:¬nN I.cZ.next=h2:=λA=>LL x (by rw[A];exact p);have n2:¬wE I.cZ.next=h2:=λA=>IT x (by rw[A];exact p);rw[y h2 s (λA=>ZC (by rw[<-A];exact p)),uP x,aP n1,aP n2]) K;have w:=bO6 t.ok (by rw[t.zQ];exact o) (I.cZ.fP.getD h2.toNat []) (I:=N) c v L (λh3 Z=>by
   have h1:=m5 h3 Z;have⟨q1,q2⟩:=xK g h3 h1;refine⟨q2,by simp only;omega,λp=>?_⟩;rcases(m1 h3).1 p with Y|⟨_,Y⟩
   .omega
   exact Y Z) (by rw[b]) E K
  generalize lE N M (I.cZ.fP.getD h2.toNat [])=q at w|-;have⟨e3,I3,D3⟩:=q;simp only at w|-;have⟨X,d2,J,d4⟩:=w;refine⟨X.trans d,d2.trans e,?_⟩;rcases d4 with⟨O,Q,a3,a4,a5,a6⟩|⟨O,Q⟩
  .refine .inl ⟨O,⟨Q,(X.trans d).trans h.tA,J.sys,C,P,?_,l,a4⟩,by rw[a3];exact cV _⟩;exact T.stay (λh2 s p=>a6 h2 (bl6 p)) a5
  exact .inr (.inr ⟨.inr O,Q,J.sys,C,P,z.log.stay J.stay,by rw[l];exact oT _,J.idx⟩)
 .subst a;rw[aV (by simp)];refine⟨d,e,.inr (.inl ⟨rfl,.inl y,b,⟨c,d.trans h.tA,v.sys,C,P,z.stay (λh2 s p=>L h2 s) (K z.new),l,(g.stay (λh2 s _=>L h2 s)).same dQ (by omega)⟩⟩)⟩
 rw[aV (by omega)];exact⟨d,e,.inr (.inr ⟨a.imp (λh=>⟨h,.inl (y h)⟩) id,c,v.sys,C,P,z.log.stay v.stay,by rw[l];exact oT _,v.idx⟩)⟩
def bP3(I:cA->Prop)(B:∀l o,I l->I (eR l o)):∀(L:List bH) {D:aL},D.down=false->I D.files->(∀l n,n∈L->I l->(∀k,k∉L->bO l k=bO D.files k)->I (kN l n))->L.Nodup->(∀n∈L,∃f,bO D.files n=some f)->Good D (D.XB L) (λq=>I q.files/\(∀n∈L,bO q.files n=none)/\(∀n,n∉L->bO q.files n=bO D.files n)) I:=by
 intro L;induction L with
 |nil=>intro D m p _ _ _;exact Good.ok m ⟨p,by simp,λ_ _=>rfl⟩
 |cons n L G=>
  intro D m p w t x;have⟨z,A⟩:=bS3.1 t;have⟨f,C⟩:=x n (by simp);unfold aL.XB;have g:=w D.files n (by simp) p (λ_ _=>rfl);refine((J0 m C).NZ B p g).then λy u _ _ r=>?_;have i:∀k,k≠n->bO y.files k=bO D.files k:=λk d=>(by rw[r,iK,aP (λe=>d e.symm)]);refine(G u (by rw[r];exact g) (λl k d E F=>w l k (by simp[d]) E (λj s=>?_)) A (λk d=>by rw[i k (λe=>z (e▸d))];exact x k (by simp[d]))).mono (λH _ _ _ ⟨a,b,c⟩=>⟨a,λk d=>?_,λk d=>?_⟩) (λ_ h=>h)
  .simp only[cY,not_or]at s;rw[F j s.2,i j s.1]
  .rcases cY.1 d with rfl|d
   .by_cases v:k∈L
    .exact b k v
    rw[c k v,r,iK,aV rfl]
   exact b k d
  simp only[cY,not_or]at d;rw[c k d.2,i k d.1]
def vJ:lV M s=true↔s=dI\/∃k,k<=999999/\(s=nN k\/s=wE k)/\k∉M.fP.flatten:=by
 unfold lV;cases a:jY s with
 |none=>
  simp only[cB1,bG];constructor
  .exact .inl
  rintro (h|⟨k,e,h|h,_⟩)
  .exact h
  .rw[h,rD e]at a;cases a
  rw[h,sO e]at a;cases a
 |some p=>
  have⟨c,j⟩:=p;have⟨i,b⟩:=tJ a;simp only[vD,bL,bG,OO,oI];constructor
  .rintro (h|⟨d,g⟩)
   .exact .inl h
   right;refine⟨j,i,?_,by simpa using g⟩;rcases b with b|b|b
   .rcases d with d|d
    iterate 2
     .rw[b.2]at d;exact absurd d (by decide)
   .exact .inl b.1
   exact .inr b.1
  rintro (h|⟨k,e,h|h,f⟩)
  .exact .inl h
  .rw[h,rD e]at a;cases a;exact .inr ⟨.inl rfl,by simpa using f⟩
  rw[h,sO e]at a;cases a;exact .inr ⟨.inr rfl,by simpa using f⟩
def bp2(u:D.down=false)(h:wY n m k R i l D.files){M:jD}(H:∀q,bO D.files fE=some q->sB q.data=true->(getM q.data).aX=m->(getM q.data).fP.flatten=M.fP.flatten):Good D (mE D M) (λw=>wY n m k R i l w.files/\(∀N,lV M N=true->bO w.files N=none)/\(∀N,lV M N=false->bO w.files N=bO D.files N)) (wY n m k R i l):=by
 unfold mE;rw[u,aP (by simp)];have B:(D.names.filter (lV M)).Nodup:=by have F:D.names.Pairwise (·<·):=mF.2 h.sys.oW.kV;exact(F.imp fun {a b} y e=>by subst e;exact mO _ y).filter _
 have d:∀N,N∈D.names.filter (lV M)↔(∃f,bO D.files N=some f)/\lV M N=true:=λN=>by
  rw[fL,<-M0 h.sys.oW.kV];rfl
 refine(bP3 (wY n m k R i l) (λL v h=>h.kJ v) _ u h (λL N p g J=>?_) B (λN p=>((d N).1 p).1)).mono (λw _ _ _ ⟨a,b,c⟩=>⟨a,λN p=>?_,λN p=>c N (λo=>by have:=((d N).1 o).2;rw[p]at this;cases this)⟩) (λ_ h=>h)
 .have I:=((d N).1 p).2;rcases vJ.1 I with rfl|⟨K,x,rfl|rfl,G⟩
  .exact⟨g.sys.del _,g.stay.trans (iW.del EL),g.idx.stay (iW.del PI)⟩
  .refine⟨g.sys.del _,g.stay.trans (iW.del (LL x)),g.idx.cL9 x (λq t z C s=>?_)⟩;have A:fE∉D.names.filter (lV M):=λo=>by
    have:=((d _).1 o).2;rcases vJ.1 this with r|⟨j,E,r|r,_⟩
    .exact xH r.symm
    .exact AV E r.symm
    exact ZF E r.symm
   rw[J _ A]at t;rw[H q t z C]at s;exact G s
  exact⟨g.sys.del _,g.stay.trans (iW.del (IT x)),g.idx.stay (iW.del (ZB x))⟩
 by_cases o:N∈D.names.filter (lV M)
 .exact b N o
 rw[c N o];cases z:bO D.files N with
 |none=>rfl
 |some f=>exact absurd ((d N).2 ⟨⟨f,z⟩,p⟩) o
def PG(l:D.down=false):∀(L:List Nat) (t:Nat->Option (List dB)),((pU D L t).1=0/\(∀n∈L,∃d,bO D.files (nN n)=some d/\kT d.data=true/\(pU D L t).2 n=some (rY d.data))/\∀n,n∉L->(pU D L t).2 n=t n)\/(pU D L t).1=90:=by
 intro L;induction L with
 |nil=>intro t;exact .inl ⟨rfl,by simp,λ_ _=>rfl⟩
 |cons n L q=>
  intro t;unfold pU;have p:(∃d,bO D.files (nN n)=some d/\kT d.data=true/\kX D n=(0,some (rY d.data)))\/kX D n=(90,none):=by
   unfold kX;rw[l,aP (by simp)];cases r:bO D.files (nN n)with
   |none=>exact .inr rfl
   |some d=>
    by_cases j:kT d.data=true
    .exact .inl ⟨d,rfl,j,by simp only;rw[aV j]⟩
    exact .inr (by simp only;rw[aP j])
  rcases p with⟨d,m,o,g⟩|g
  .rw[g,aP (by simp)];rcases q (jM t n (some (rY d.data)))with⟨a,b,c⟩|a
   .refine .inl ⟨a,λk f=>?_,λk f=>?_⟩
    .by_cases e:k∈L
     .exact b k e
     have i:k=n:=by
      rcases cY.1 f with h|h
      .exact h
      exact absurd h e
     subst i;exact⟨d,m,o,by rw[c k e];unfold jM;rw[aV rfl]⟩
    simp only[cY,not_or]at f;rw[c k f.2];unfold jM;rw[aP f.1]
   exact .inr a
  rw[g,aV (by simp)];exact .inr rfl
def ck6(h:Sys n k l)(g:n<=1048576){s:bH}(d:s≠dI){f:fK}(c:bO l s=f):f.data.length<=1048576:=by have e:=h.room;have a:=DX h.oW.kV rS s;rw[c]at a;have b:rS s=false:=bN d;rw[b]at a;simp at a;omega
def ad1{E:aL}(M:E.down=false)(g:E.cap=D.cap)(o:E.bQ=D.bQ){G:cS}{C:List (List bH)}{i j:Nat}(V:wY n m k (dF C) j D.files E.files)(X:wQ E.files G C i j){I:aZ}(N:wU I.cZ=true)(Q:I.cZ.aX=m)(R:I.cZ.next<=k)(S:I.cZ.check<=j)(T:∀ha∈I.cZ.fP.flatten,∃L,I.fI ha=some L/\nJ E.files ha L) (U:∀e,(∃ha,ha∈I.cZ.fP.flatten/\∃L,I.fI ha=some L/\e∈L)↔e∈fZ m ((dF C).filter λr=>decide (r.1<I.cZ.check))) (O:I.mem=[]) (W:∀H,bO E.files fE=some H->sB H.data=true->(getM H.data).aX=m->(getM H.data).fP.flatten=I.cZ.fP.flatten) :let r:=qQ E I m (λh8=>(dF C).filter λr=>!decide (r.1<h8))
 (∃I,r.1=0/\r.2.1=some I/\r.2.2.down=false/\r.2.2.cap=D.cap/\r.2.2.bQ=D.bQ/\Sys n 98 r.2.2.files/\wQ r.2.2.files G C i j/\sK r.2.2.files I m k (dF C) j)\/
 (r.1=61/\r.2.1=none/\r.2.2.down=true/\r.2.2.cap=D.cap/\r.2.2.bQ=D.bQ/\wY n m k (dF C) j D.files r.2.2.files):=by
  intro r;have v:=bp2 M V W;have t:r=if(mE E I.cZ).1≠0 then((mE E I.cZ).1,none,(mE E I.cZ).2)else(0,some {I with mem:=(fZ m ((dF C).filter λr=>!decide (r.1<I.cZ.check))).foldl pW I.mem},(mE E I.cZ).2):=rfl;generalize mE E I.cZ=q at v t;have⟨e,F⟩:=q;obtain⟨⟨o1,o2⟩,⟨o3,o4,o5⟩,P⟩:=mM.1 N;rcases v with⟨a,b,c,d,u,B,K⟩|⟨a,b,c,d,u⟩
  .simp only at a b c d u B K t;rw[aP (by simpa using a)]at t;left;rw[t];have A:∀ha∈I.cZ.fP.flatten,lV I.cZ (nN ha)=false:=λha y=>by
    have p:ha<=999999:=by have:=P ha y;omega
    cases s:lV I.cZ (nN ha)with
    |false=>rfl
    |true=>
     exfalso;rcases vJ.1 s with f|⟨h8,l,f|f,h⟩
     .exact IU p f
     .have:=EE p l f;subst this;exact h y
     exact FI p l f
   have z:∀h8,h8≠dI->isC h8->lV I.cZ h8=false:=λh8 l h=>by
    cases s:lV I.cZ h8 with
    |false=>rfl
    |true=>
     exfalso;rcases vJ.1 s with f|⟨h0,hj,f|f,_⟩
     .exact l f
     .exact(bl6 h h0).1 f
     exact(bl6 h h0).2 f
   refine⟨_,rfl,rfl,b,c.trans g,d.trans o,u.sys,X.stay (λh8 l h=>K h8 (z h8 l h)) (B _ (vJ.2 (.inl rfl))),⟨N,Q,R,S,λha y=>?_,U,?_,λe=>?_,λh8 l w=>?_,u.idx⟩⟩
   .have⟨L,q1,J⟩:=T ha y;have⟨tf,Y,Z,p3⟩:=J.file;exact⟨L,q1,⟨tf,by rw[K _ (A ha y)];exact Y,Z,p3⟩,J.may,J.ok,J.yG⟩
   .simp only;rw[O];exact ER _ rfl
   .simp only;rw[O,LN];simp
   have x:h8∉I.cZ.fP.flatten:=λh=>(by have:=P h8 h;simp only at l;omega);exact⟨B _ (vJ.2 (.inr ⟨h8,w,.inl rfl,x⟩)),B _ (vJ.2 (.inr ⟨h8,w,.inr rfl,x⟩))⟩
  simp only at a b c d u t;rw[aV (by omega)]at t;right;rw[t];exact⟨a,rfl,b,c.trans g,d.trans o,u⟩
def VH(s:D.down=false)(hc:n<=1048576)(hs:Sys n 98 D.files){G:cS}{C:List (List bH)}{i j:Nat}(Q:wQ D.files G C i j)(F:BV D.files m k (dF C) j):let r:=fY D G m (λh6=>(dF C).filter λr=>!decide (r.1<h6))
 (∃I,r.1=0/\r.2.1=some I/\r.2.2.down=false/\r.2.2.cap=D.cap/\r.2.2.bQ=D.bQ/\Sys n 98 r.2.2.files/\wQ r.2.2.files G C i j/\sK r.2.2.files I m k (dF C) j)\/
 (r.1=61/\r.2.1=none/\r.2.2.down=true/\r.2.2.cap=D.cap/\r.2.2.bQ=D.bQ/\wY n m k (dF C) j D.files r.2.2.files):=by
  intro r;have U:wY n m k (dF C) j D.files D.files:=⟨hs,iW.refl _ _,F⟩;have h2:(∃I o,lC D G m=(0,some I)/\bO D.files fE=some o/\sB o.data=true/\I.cZ=getM o.data/\I.cZ.aX=m/\I.mem=[]/\∀h7∈I.cZ.fP.flatten,∃y,bO D.files (nN h7)=some y/\kT y.data=true/\I.fI h7=some (rY y.data))\/((lC D G m).1≠0/\(lC D G m).1≠61/\(lC D G m).2=none):=by
   unfold lC pP;rw[s];simp only[bU,dW];cases hg:bO D.files fE with
   |none=>exact .inr ⟨by simp,by simp,rfl⟩
   |some o=>
    simp only;by_cases p:sB o.data=true
    .have R:UC o.data=0:=(by unfold UC;rw[aV p]);rw[R,aP (by simp)];by_cases z:(getM o.data).aX≠m\/kF G.bV<(getM o.data).check
     .rw[aV z];exact .inr ⟨by simp,by simp,rfl⟩
     rw[aP z];unfold xF;rw[s,aP (by simp)];rcases PG s (getM o.data).fP.flatten (λ_=>none)with⟨a,b,_⟩|a
     .rw[aP (by simpa using a)];left;have w:(getM o.data).aX=m:=by
       by_cases h:(getM o.data).aX=m
       .exact h
       exact absurd (.inl h) z
      exact⟨_,o,rfl,rfl,p,rfl,w,rfl,b⟩
     rw[aV (by rw[a];decide)];exact .inr ⟨by rw[a];decide,by rw[a];decide,rfl⟩
    have R:UC o.data=90:=(by unfold UC;rw[aP p]);rw[R,aV (by simp)];exact .inr ⟨by simp,by simp,rfl⟩
  rcases h2 with⟨I,o,hl,t,p,f,w,H,g⟩|⟨Y,Z,h0⟩
  .have v:r=qQ D I m (λh6=>(dF C).filter λr=>!decide (r.1<h6)):=by show fY D G m _=_;unfold fY;rw[hl];rfl
   rw[v];have⟨_,A⟩:=F o t;have A:=A p (by rw[<-f];exact w);have X:=az8 p;have W:=A.eq (λh7 q y h4=>by rw[<-f]at q;have⟨O,u,M,_⟩:=g h7 q;rw[h4]at u;cases u;exact M);refine ad1 s rfl rfl U Q (by rw[f];exact X.1) w (by rw[f];exact A.next) (by rw[f];exact A.check) (λh7 q=>?_) (λe=>?_) H (λh5 B _ _=>by rw[t]at B;cases B;rw[f])
   .have⟨y,u,M,N⟩:=g h7 q;have⟨O,p1,p2⟩:=A.on h7 (by rw[<-f];exact q);rw[u]at p1;cases p1;refine⟨_,N,bV5 u p2 M ?_⟩;have h3:=CP p h7 (by rw[<-f];exact q);have:=ck6 hs hc (IU h3) u;omega
   rw[f,<-W e];constructor
   .rintro ⟨h7,q,L,P,T⟩;have⟨y,u,M,N⟩:=g h7 (by rw[f];exact q);rw[N]at P;cases P;exact⟨h7,q,y,u,T⟩
   rintro ⟨h7,q,y,P,T⟩;have⟨O,u,M,N⟩:=g h7 (by rw[f];exact q);rw[P]at u;cases u;exact⟨h7,q,_,N,T⟩
  have v:r=if(D.delete fE).1=61 then(61,none,(D.delete fE).2)else qQ (D.delete fE).2 (xP m) m (λh6=>(dF C).filter λr=>!decide (r.1<h6)):=by
   show fY D G m _=_;unfold fY;rw[aP Z,h0];split
   .rename_i h9 _;exact absurd h9 Y
   rfl
  have x:wY n m k (dF C) j D.files (kN D.files fE):=⟨hs.del _,iW.del ZC,λo t=>by rw[iK,aV rfl]at t;cases t⟩;have K:∀E:aL,E.down=false->E.cap=D.cap->E.bQ=D.bQ->wY n m k (dF C) j D.files E.files->bO E.files fE=none->wQ E.files G C i j->_:=λE e1 e2 e3 e4 e5 e6=>ad1 e1 e2 e3 e4 e6 (I:=xP m) (by rw[mM];simp[xP]) rfl (bK _) (bK _) (λh7 q=>by simp[xP]at q) (λe=>by
   have:((dF C).filter λr=>decide (r.1<(xP m).cZ.check))=[]:=by rw[iD];intro r v;simp[xP]
   rw[this];simp[fZ,xP]) rfl (λo B _ _=>by rw[e5]at B;cases B)
  rcases MB s fE (λl J h=>h.kJ J) U x with⟨a,b,c⟩|⟨a,b,c,d,e⟩|⟨a,b,c,d,e⟩
  .rw[aP (by omega),b]at v;rw[v];exact K D s rfl rfl U c Q
  .rw[aP (by omega)]at v;rw[v];refine K _ b c d (by rw[e];exact x) (by rw[e,iK,aV rfl]) ?_;rw[e];exact Q.stay (λh6 hk V=>by rw[iK,aP (λS=>ZC (by rw[S];exact V))]) (by rw[iK,aP (λS=>xH S.symm)];exact Q.new)
  rw[aV a]at v;right;rw[v];exact⟨rfl,rfl,b,c,d,e⟩
def bQ0(g:MH D.files C)(b:KH C)(d:G.bV=fB C):∀(B A:List lW)(a:Nat),dF C=A++B->(∀r∈A,r.1<a)->(∀r∈B,a<=r.1)->MT G D a B:=by
 intro B;induction B with
 |nil=>intro A a c f e;exact ao6 g b d c f e
 |cons r B j=>intro A a c f e;have⟨h,i⟩:=bN3 b c;exact⟨ao6 g b d c f e,e r (by simp),j (A++[r]) _ (by rw[c];simp) h i⟩
def aA6(f:B8 R)(k:Nat):R=R.filter (λr=>decide (r.1<k))++R.filter (λr=>!decide (r.1<k)):=by
 induction R with
 |nil=>rfl
 |cons r R g=>
  have⟨b,e⟩:=dG.1 f;rw[jK,jK];by_cases h:r.1<k
  .simp only[h,decide_true,eH,p8,bU,dW,l8];rw[<-g e]
  simp only[h,decide_false,DM,eH,bU,dW];have c:R.filter (λr=>decide (r.1<k))=[]:=by rw[iD];intro x a;have:=b x a;simp;omega
  have d:R.filter (λr=>!decide (r.1<k))=R:=by rw[qM];intro x a;have:=b x a;simp;omega
  rw[c,d];rfl
def ad3(d:MH D.files C)(a:KH C)(c:G.bV=fB C)(k:Nat):MT G D k ((dF C).filter λr=>!decide (r.1<k)):=bQ0 d a c _ _ k (aA6 (rZ a) k) (λr b=>by simpa using(fL.1 b).2) (λr b=>by have:=(fL.1 b).2;simp at this;exact this)
def aK3(s:List bB):(lI s=false/\mL s=false)\/(lI s=true/\lI (gY s)=false/\mL s=false)\/(lI s=true/\lI (gY s)=true/\(AE s).length<8/\mL s=false)\/(lI s=true/\lI (gY s)=true/\8<=(AE s).length/\kA (NY s)≠0/\mL s=false)\/(lI s=true/\lI (gY s)=true/\8<=(AE s).length/\kA (NY s)=0/\mL s=true):=by
 unfold mL ci1;rcases lI s with _|_
 .exact .inl ⟨rfl,rfl⟩
 rcases lI (gY s)with _|_
 .exact .inr (.inl ⟨rfl,rfl,rfl⟩)
 by_cases h:8<=(AE s).length
 .rw[bZ h];by_cases a:kA (NY s)=0
  .exact .inr (.inr (.inr (.inr ⟨rfl,rfl,h,a,by rw[a];rfl⟩)))
  exact .inr (.inr (.inr (.inl ⟨rfl,rfl,h,a,by rw[bN a];rfl⟩)))
 exact .inr (.inr (.inl ⟨rfl,rfl,by omega,by rw[bN h];rfl⟩))
def aT4(s:aS)(w:aI)(hs:s.size<=1000000000):Calls prog 114 #[s] w λe p=>e=.returned (.tuple #[.agg (KG (zS (lb s))),bs (vV (lb s)),mL (lb s)])/\aR w w p:=by
 have h2:(gY (lb s)).length<=1000000000:=(by have:=uA (lb s);rw[bI]at this;omega);have h1:(pO (lb s)).length<=1000000000:=(by have:=GO (lb s);rw[bI]at this;omega);have h4:(gY (gY (lb s))).length<=1000000000:=(by have:=uA (gY (lb s));omega);have h3:(pO (gY (lb s))).length<=1000000000:=(by have:=GO (gY (lb s));omega);have F:=λw=>TZ s w (by omega);have I:=λw=>TZ (bs (gY (lb s))) w (by rw[eO];omega);have J:=λw=>xG ((bs (gY (gY (lb s)))).extract 0 8) w (by simp[maxLen];omega);have Q:(bs (gY (gY (lb s)))).extract 0 8=bs ((gY (gY (lb s))).take 8):=(by rw[dY,gP,mQ,uN]);have m:=bv0 (lb s) (by rw[bI];simp[Go.maxLen];omega);have g:=λw=>IY (NY (lb s)) w m;have H:=aI2;have c:=aK3 (lb s);have y:=bI7 (s:=lb s);have k:mL (lb s)=true->zS (lb s)=NY (lb s)/\vV (lb s)=(AE (lb s)).drop 8:=λh=>(by unfold zS vV;rw[h];exact⟨rfl,rfl⟩);have E:=cD w (.cells #[zn,zn,.float .f64 0] 44);have j:Row (w.alloc (.cells #[zn,zn,.float .f64 0] 44)) w 44 [zn,zn,.float .f64 0]:=Row.new w #[zn,zn,.float .f64 0] _;have z:∀(p:aI) W X Y,aR w w p->aR w w (((p.setCell (zp w) W).setCell (zp w 1) X).setCell (zp w 2) Y):=λp W X Y h=>((h.setCell dQ _).setCell dQ _).setCell dQ _;unfold NY AE at c k;unfold NY at g;unfold AE at g;simp only[gP]at I J;rw[Q,gP]at J;unfold KG at g;simp only[]at g;generalize hA:pO (lb s)=A at *;generalize hB:gY (lb s)=B at *;generalize hC:pO B=C at *;generalize hD:gY B=D at *;generalize mL (lb s)=o at *;generalize zS (lb s)=r at *;generalize vV (lb s)=q at *;generalize pF (D.take 8)=N at *;have⟨O,Hx,t,u,h0⟩:=aD z Q y k m;clear z Q y k m hA hB hC hD;generalize hc:kA (bs A,bs C,N)=ck at *;rcases c with⟨n,rfl⟩|hq
 focus
  obtain⟨rfl,rfl⟩:=t rfl;rw[n]at F;clear H;go_in;go_wp2_with fail
  go_call F _ as e w1 ⟨rfl,d⟩;have a:=j.next d;have f:=aK E d
 rotate_left
 focus
  rcases hq with⟨n,G,rfl⟩|⟨n,G,R,rfl⟩|⟨n,G,R,c4,rfl⟩|⟨n,G,R,rfl,rfl⟩
  all_goals
   (first|obtain⟨rfl,rfl⟩:=t rfl|obtain⟨rfl,rfl⟩:=u rfl);rw[n]at F;rw[G]at I;go_in;(go_wp2_with fail);go_call F _ as e w1 ⟨rfl,d⟩;(go_wp2_with fail);go_call I _ as e Z ⟨rfl,l⟩;have a:=(j.next d).next l;have f:=aK E (aK d l);clear d l
  rotate_left
  focus
   have P:(D:Int)<8:=(by omega);clear H
  rotate_left;rotate_left 2
  focus
   clear H
  rotate_left 2
  all_goals try
   have P:¬(D:Int)<8:=(by omega);have S:(8:Int)<=D:=(by omega);have h5:(bs D).extract 8 D=bs (D.drop 8):=(by rw[dY,gP,aT (by simp)]);clear F I;(go_wp2_with fail);rw[Hx.zz];go_call J _ as e p ⟨rfl,rfl⟩;have K:=a.lO;have L:=a.qD;have M:=a.tW;have T:=a.NV;have U:=a.JE;have V:=a.QP;have i:=O Z (bs A) (bs C) (.float .f64 N) f;have b:=((a.set 0 (bs A)).set 1 (bs C)).set 2 (.float .f64 N);simp only[oR,oS]at b;clear J a f;(go_wp2_with fail);clear K L M T U V;generalize ((Z.setCell (zp w) (bs A)).setCell (zp w 1) (bs C)).setCell (zp w 2) (.float .f64 N)=w3 at i b|-;go_call g _ as e w4 ⟨rfl,x⟩;have f:=cU i x (by have:=i.size;omega);have a:=b.next x;clear H b j
 all_goals
  have K:=a.lO;have L:=a.qD;have M:=a.tW;have T:=a.NV;have U:=a.JE;have V:=a.QP;clear a g;first|(go_wp2;refine bE (v:=.tuple #[.agg #[zn,zn,.float .f64 0],zn,false]) (by simp[results,results114,go_sem,K,L,M]) rfl ⟨rfl,O _ _ _ _ f⟩)|(go_wp2_with fail;go_region;go_wp2;refine bE (v:=.tuple #[.agg #[bs A,bs C,.float .f64 N],bs (D.drop 8),true]) (by simp[results,results114,go_sem,K,L,M]) rfl ⟨rfl,O _ _ _ _ f.drew⟩)
def bX9(s:aS)(w:aI)(hs:s.size<=10000000):Calls prog 53 #[s] w λe w'=>∃v,e=.returned (.tuple #[v,yK (lb s)])/\cm9 w' w v (rY (lb s))/\aR w w w':=by
 have⟨i0,ha,hc,hd,he⟩:=info_parts RU;have E:(lb s)=s.size:=bI s;by_cases c1:s.size<12
 .have h1:(s.size:Int)<12:=(by omega);have a:kT (lb s)=false:=by unfold kT;rw[E];simp;intros;omega
  go_in;go_wp2;refine bE (v:=.tuple #[zs,(90:Int)]) (by simp[results,results53,go_sem]) rfl ⟨zs,by unfold yK;rw[a];rfl,by unfold rY;rw[a];exact pA _ _,iH⟩
 have h1:¬(s.size:Int)<12:=(by omega);have w0:IntKind.i64.wrap ((s.size:Int)-12)=(s.size:Int)-12:=(by rw[cQ];omega);by_cases c2:(s.size-12)%24=0
 .obtain⟨m,hm⟩:∃m,s.size=12+24*m:=⟨(s.size - 12)/24,by omega⟩;have h4:Int.tmod ((s.size:Int)-12) 24=0:=(by rw[rH (by omega)];omega);have T:((s.size:Int)-12)%24=0:=(by omega);have r:n5 (lb s)=m:=(by unfold n5;rw[E];omega);have⟨Hm,j⟩:=aA hm r;have hR:(lb s).drop 8=(lb s).drop 8:=rfl;generalize W:(lb s).drop 8=R at hR;have HR:=aH W;have hg:m<=1000000:=(by omega);clear hm r hR W c2;go_in;go_wp2_with fail
  go_loopw [4,5] (λb i wr=>∃k:Nat,k<=m/\i=.int .i64 (8+24*(k:Int))/\nU R k=true/\wr.ownsRow w 152 3 b k (gV (gG R k))/\aR w w wr) (λ_ i _=>(8+24*(m:Int)-intOf i).toNat)
  .exact⟨0,by omega,by first|rfl|simp,rfl,bM _ _ _ _,iH⟩
  obtain⟨k,hk,rfl,Y,H,p⟩:=hrel;have⟨K,G⟩:=aA Y H;clear Y H;have w1:IntKind.i64.wrap (8+24*(k:Int)+28)=8+24*(k:Int)+28:=(by rw[cQ];omega);have w2:IntKind.i64.wrap (8+24*(k:Int)+24)=8+24*(k:Int)+24:=(by rw[cQ];omega);by_cases hf:k<m
  .have i1:8+24*(k:Int)+28<=(s.size:Int):=(by have:=Hm.zz;omega);have i2:8+24*(k:Int)+24<=(s.size:Int):=(by have:=Hm.zz;omega);have i3:(0:Int)<=8+24*(k:Int):=(by omega);have i4:8+24*(k:Int)<=8+24*(k:Int)+24:=(by omega);have n1:(8+24*(k:Int)).toNat=8+24*k:=(by omega);have n2:(8+24*(k:Int)+24).toNat=8+24*k+24:=(by omega);have d:=λw=>bf5 (s.extract (8+24*k) (8+24*k+24)) w (by rw[dY,eO];simp[maxLen];omega);have X:lb (s.extract (8+24*k) (8+24*k+24))=uK R k:=by
    rw[dY,gP,<-HR.zz];unfold uK;rw[lN];congr 1;omega
   rw[X]at d;have F:okG (uK R k)=true->wC (IX (uK R k)):=λh=>(YT h).2.2;have n:=xD R k;have Q:=xC R k;generalize IX (uK R k)=e at d F n;generalize okG (uK R k)=og at d F Q;have⟨A,B,C⟩:=e;unfold iT at d;have⟨h0,L,S⟩:=aB F n Q;clear F n Q X;cases og
   .have a:kT (lb s)=false:=by
     unfold kT;rw[j.zz,HR.zz];have:nU R m=false:=by
      rw[<-kL];intro h;unfold nU at h;have h2:=S.zz;rw[ag2]at h2;have h3:nU R (k+1)=true:=by unfold nU;rw[dN]at h|-;exact λi hi=>h i (gB.2 (by have:=gB.1 hi;omega))
      rw[h2]at h3;cases h3
     rw[this];simp
    (go_wp2_with fail);go_call d _ as y D ⟨rfl,g⟩;go_wp2;refine bE (v:=.tuple #[zs,(90:Int)]) (by simp[results,results53,go_sem]) rfl ⟨zs,by unfold yK;rw[a];rfl,by unfold rY;rw[a];exact pA _ _,cU p (aK g (eA _ _)) dQ⟩
   (go_wp2_with fail);go_call d _ as y D ⟨rfl,g⟩;have k3:=aK g (eA D (.cells #[zu A,B,C] 152));have h8:=cU p k3 dQ;have u:=bY G k3;have oe:=h0 (by first|rfl|trivial);have N:=cU h8 (eA (D.alloc (.cells #[zu A,B,C] 152)) (.cells #[zu A,B,C] 152)) dQ;have h5:pJ ((D.alloc (.cells #[zu A,B,C] 152)).alloc (.cells #[zu A,B,C] 152)) (.slice (zp (D+1)) 1 1) [(A,B,C)]:=by have h:=SI (D.alloc (.cells #[zu A,B,C] 152)) (A,B,C) oe;have e:(D.alloc (.cells #[zu A,B,C] 152)).heap.size=D+1:=(by simp);rwa[e]at h
   have U:=h5.1;go_wp2_with (first
    |(at_builtin;refine iF _ rfl _ _ 113 rfl w 152 i0 _ 3 24 underlying113 ha hc hd he rfl (by decide) _ k _ rfl (bY u (eA _ _)) _ 1 (gV [(A,B,C)]) rfl U (C5 _) (by unfold maxLen;omega) (by omega) N.size ?_;intro v3 w5 P h9))
   have h7:=N.grown h9 N.size (dH u);go_wp2;go_roundw
   .refine⟨k+1,by omega,by first|(rw[w2];congr 1;omega)|(congr 1;omega)|go_num,by rw[S.zz,K.zz];rfl,?_,h7⟩;rw[L.zz,BO];exact P
   simp[intOf];omega
  obtain rfl:k=m:=(by omega);have i1:¬8+24*(k:Int)+28<=(s.size:Int):=(by have:=Hm.zz;omega);have M:∀e∈gG R k,wC e:=(CL K).2.2;have t:=G.zz;have q:=aH (show k=(gG R k) from(pD R k).symm);have z:=λw hw=>bX8 u4 (gG R k) w hw (by rw[<-q.zz];omega);have V:pJ wr u4 (gG R k):=⟨by have:=Reads.cX t;rw[<-q.zz];exact this,M⟩;have hP:kT (lb s)=(tN (gG R k)&&(lU (gG R k)==lb s)):=by unfold kT;rw[j.zz,HR.zz,K.zz,E,Hm.zz];simp
  have hL:kT (lb s)=true->gG R k=rY (lb s):=λh=>by unfold rY;rw[h,aV rfl,j.zz,HR.zz]
  have⟨HL,HP⟩:=aA hL hP;clear hL hP;have c:=z wr V;rcases f:tN (gG R k)with _|_
  .have a:kT (lb s)=false:=(by rw[HP.zz,f];rfl);have O:SH (gG R k)=2:=(by unfold SH;rw[f];rfl);rw[O]at c;clear z f;(go_wp2_with fail);go_call c as y D ⟨rfl,g⟩;go_wp2;refine bE (v:=.tuple #[zs,(90:Int)]) (by simp[results,results53,go_sem]) rfl ⟨zs,by unfold yK;rw[a];rfl,by unfold rY;rw[a];exact pA _ _,cU p g dQ⟩
  have O:SH (gG R k)=0:=(by unfold SH;rw[f];rfl);rw[O]at c;have o:=HP.zz;rw[f,fQ]at o;generalize lU (gG R k)=PT at c o;rcases Z:(PT==lb s)with _|_
  iterate 2
   ·(first|((have a:kT (lb s)=false:=by rw[o,Z]);(have hb:(PT==s.toList)=false:=by rw[jL];exact Z))|((have I:kT (lb s)=true:=by rw[o,Z]);(have hb:(PT==s.toList)=true:=by rw[jL];exact Z);have h6:=HL I));clear z f o Z;(go_wp2_with fail);go_call c as y D ⟨rfl,g⟩;(try (have x:=bY t g;have l:=q.zz;rw[h6]at x M l;have J:=aH l;clear l));go_wp2;first|(refine bE (v:=.tuple #[zs,(90:Int)]) (by simp[results,results53,go_sem]) rfl ⟨zs,by unfold yK;rw[a];rfl,by unfold rY;rw[a];exact pA _ _,cU p g dQ⟩)|(refine bE (v:=.tuple #[u4,()]) (by simp[results,results53,go_sem]) rfl ⟨u4,by unfold yK;rw[I];rfl,⟨by rw[<-J.zz];exact x,M⟩,cU p g dQ⟩)
 have a:kT (lb s)=false:=(by unfold kT;rw[E];simp[c2]);have h4:¬Int.tmod ((s.size:Int)-12) 24=0:=(by rw[rH (by omega)];omega);have T:¬((s.size:Int)-12)%24=0:=by omega
 go_in;go_wp2;refine bE (v:=.tuple #[zs,(90:Int)]) (by simp[results,results53,go_sem]) rfl ⟨zs,by unfold yK;rw[a];rfl,by unfold rY;rw[a];exact pA _ _,iH⟩
end Go.Proofs.YtpopikndggffaaaGreatDoor
