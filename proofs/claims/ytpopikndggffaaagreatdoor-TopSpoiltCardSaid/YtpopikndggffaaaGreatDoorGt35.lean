/- TOP, part 35. -/
import Derived.Test.YtpopikndggffaaaGreatDoorGt34
namespace Go.Proofs.YtpopikndggffaaaGreatDoor
set_option linter.all false
set_option maxRecDepth 100000
set_option maxHeartbeats 16000000
open Go.RowKit Go.Maps Tryz
variable{a e:Int}{l:List Ev}{T:List jU}{B:List kM}{d g i j k m n q:Nat}{w x:aI}{D:aL}{u v:aN}{s:aS}
structure gW(b a s:Nat)(D:aL)(o:iL)(c:List kM)(S:Nat):Prop where
 ad9:b<=1048576
 sX:a<18446744073709551616
 tA:D.cap=b
 bQ:D.bQ<=s
 mU:lG c
 yG:c.length<=s
 le:S<=c.length
 ok:match o with
  |none=>kK b a s D.files (c.map jG) S
  |some (G,I)=>jJ b a s D G I (c.map jG) S
section
variable {cap aX s S:Nat}{D:aL}{G:cS}{I:aZ}{o:iL}{Bs:List kM}
def gW.wX(P:gW cap aX s D (some (G,I)) Bs S):jJ cap aX s D G I (Bs.map jG) S:=P.ok
def gW.stP(P:gW cap aX s D (some (G,I)) Bs S)(a:s<90):∃C,J9 D G I aX C Bs:=P.wX.stP P.mU (by have:=P.yG;omega) P.sX
def gW.up(P:gW cap aX s D (some (G,I)) Bs S):D.down=false:=P.wX.up
end
def bS0(D:aL)(G:cS)(I:aZ)(c:Nat)(b:List kM)(a:aS)(x:Int)(l:List Ev)(g n:Int)(T:List jU)(d:aL)(e:cS)(f:aZ):Prop:=T=[]/\((nP (b.flatMap dO) a x l≠0/\g=nP (b.flatMap dO) a x l/\n=0/\d=D/\e=G/\f=I)\/
 (nP (b.flatMap dO) a x l=0/\(iE G D (jG (a,(n6 b a:Int),l))).1≠0/\g=(iE G D (jG (a,(n6 b a:Int),l))).1/\n=0/\d=(iE G D (jG (a,(n6 b a:Int),l))).2.2.2/\e=(iE G D (jG (a,(n6 b a:Int),l))).2.2.1/\f=I)\/
 (nP (b.flatMap dO) a x l=0/\(iE G D (jG (a,(n6 b a:Int),l))).1=0/\g=0/\n=(n6 b a:Nat)/\d=(iE G D (jG (a,(n6 b a:Int),l))).2.2.2/\e=(iE G D (jG (a,(n6 b a:Int),l))).2.2.1/\f={I with mem:=(uY c ((iE G D (jG (a,(n6 b a:Int),l))).2.1,jG (a,(n6 b a:Int),l))).foldl pW I.mem}))
def bz2(D:aL)(G:cS)(I:aZ)(a g:Int)(e:List jU)(f n:Int)(T:List jU)(b:aL)(c:cS)(d:aZ):Prop:=f=a/\n=g/\T=e/\b=D/\c=G/\d=I
def cJ3(D:aL)(G:cS)(I:aZ)(d n:Int)(T:List jU)(a:aL)(b:cS)(c:aZ):Prop:=d=(gO G D).1/\n=0/\T=[]/\a=(gO G D).2.2/\b=(gO G D).2.1/\c=I
def bR9(D:aL)(G:cS)(I:aZ)(d n:Int)(T:List jU)(a:aL)(b:cS)(c:aZ):Prop:=n=0/\T=[]/\∃f:bH,f.length<=128+4*I.mem.length/\d=(jS I G D f).1/\a=(jS I G D f).2.2.2/\b=(jS I G D f).2.2.1/\c=(jS I G D f).2.1
def cn1(D:aL)(G:cS)(I:aZ)(k:Int)(d n:Int)(T:List jU)(a:aL)(b:cS)(c:aZ):Prop:=n=0/\T=[]/\∃f:bH,f.length<=128+4*(kI ((I.cZ.fP.getD k.toNat []).map fun n=>(I.fI n).getD [])).length/\d=(lK I D k f).1/\a=(lK I D k f).2.2/\b=G/\c=(lK I D k f).2.1
def CR(h:∀b∈B,uV b):(B.flatMap dO).length<=8*B:=by
 induction B with
 |nil=>simp
 |cons b B c=>have d:=c λx a=>h x (by simp[a]);have e:=(h b (by simp)).range;have f:(dO b).length=b.2.2:=zG _ _ _;rw[eN,aO,cE];omega
def aQ1(h:∀b∈B,uV b)(a:aS):n6 B a<=8*B:=aM (zO _ _) (CR h)
def cc0(a:Y2 w v l)(f:l.length<=1000){s:aS}(d:s<=maxLen){e:Int}(b:-9223372036854775808<=e/\e<=9223372036854775807):okB (s,e,l):=by obtain⟨A,c,rfl,-⟩:=id a.1;exact(show MU w (.agg #[s,e,.slice A l c]) (s,e,l)from⟨A,c,rfl,a,d,b.1,b.2⟩).okB
def at5(h:nP T s e l=0):eP (s,((dJ T s):Int),l)=0:=by
 unfold nP at h;split at h
 .rename_i a;exact absurd h a
 split at h
 .cases h
 split at h
 .cases h
 exact h
def aC3(e:Ev):kA e≠60/\kA e≠61:=by
 unfold kA;split
 .exact⟨by decide,by decide⟩
 split
 .exact⟨by decide,by decide⟩
 exact⟨by decide,by decide⟩
def MI.bU3{B:List bH}{G:cS}{I:aZ}{L:List dB}{s:bH}{r:Int×aZ×cS×aL}(h:MI n m k D B i G I L s r)(b:r.2.2.2.down=false):r.1≠61:=by
 obtain⟨-,-,c⟩:=h;rcases c with⟨a,-⟩|⟨a,-⟩|⟨-,a,-⟩
 .rw[a];decide
 .rw[a];decide
 rw[a]at b;cases b
def bg6{b:kM}(h:uV b):(jG b).length<=2000:=(rG (Bs:=[b]) (λx a=>by rw[bP.1 a];exact h) _ (by simp)).2
def ae3:∀l:List Ev,BS l≠60/\BS l≠61
 |[]=>⟨by decide,by decide⟩
 |e::l=>by
  unfold BS;split
  .exact ae3 l
  exact aC3 e
def SM(b:kM):eP b≠60/\eP b≠61:=by
 unfold eP;split
 .exact⟨by decide,by decide⟩
 split
 .exact⟨by decide,by decide⟩
 split
 .exact⟨by decide,by decide⟩
 exact ae3 _
def ae6(T:List jU)(a:aS)(x:Int)(l:List Ev):nP T a x l≠60/\nP T a x l≠61:=by
 unfold nP;split
 .exact SM _
 split
 .exact⟨by decide,by decide⟩
 split
 .exact⟨by decide,by decide⟩
 exact SM _
section
variable {w:aI}{base W q:Nat}{h:dV}{D:aL}{G:cS}{I:aZ}{cF aX cap s S:Nat}{Bs:List kM}
def iY.cE7(H:iY w base W q h D (some (G,I)) cF aX){x y:aI}(a:aR w w x)(b:aR x x y):oE y base q h D G I cF aX:=(H.next (aK a b)).1.it
def cz9(P:gW cap aX s D (some (G,I)) Bs S){st:aS}{x:Int}{l:List Ev}(hf:nP (Bs.flatMap dO) st x l=0->uV (st,(n6 Bs st:Int),l)){er n:Int}{T:List jU}{D':aL}{G':cS}{I':aZ}(hq:bS0 D G I aX Bs st x l er n T D' G' I')(hu:D'.down=false):er≠61:=by
 obtain⟨-,hq⟩:=hq;rcases hq with⟨h0,rfl,-⟩|⟨h0,h1,rfl,-,rfl,-⟩|⟨h0,h1,rfl,-⟩
 .exact(ae6 _ _ _ _).2
 .have hl:=bg6 (hf h0);rcases(SU P.wX hl).it with⟨h9,-⟩|⟨h9,-⟩|⟨h9,-,h8,-⟩
  .rw[h9];exact(by decide:(60:Int)≠61)
  .exact absurd h9 h1
  rw[h8]at hu;cases hu
 decide
def ab9(H:iY w base W q h D (some (G,I)) cF aX)(e:base<=w)(p:Sp)(k:1<=p.k/\p.k<=8)(Q:Int->Int->List jU->aL->cS->aZ->Prop)(j:∀d n T c f i,Q d n T c f i->c.down=false->d≠61)(g:∀z,aR w w z->oE z base q h D G I cF aX->base<=z->bS8 base q h cF aX p Q z):Calls prog 17 #[zp W,.agg p.c] w (tV base W q h (some (G,I)) cF aX (G8 Q) w):=cj4 H p (.inl (by omega)) _ j λy a=>cz7 (H.next a).1 (aM e a.size) p k _ λz b=>g z (aK a b) (H.cE7 a b) (aM e (aK a b).size)
def bP0(H:iY w base W q h D (some (G,I)) cF aX)(P:gW cap aX s D (some (G,I)) Bs S)(U:s<90)(K:base<=w)(p:Sp)(O:p.k=1)(i:p.n.size<=1000000)(J:DI p.a)(l:List Ev)(m:∀y z,aR w w y->gX base h.m y z->Y2 z (.slice p.E p.e p.f) l)(o:l.length<=1000):Calls prog 17 #[zp W,.agg p.c] w (tV base W q h (some (G,I)) cF aX (G8 (bS0 D G I aX Bs p.n p.a l)) w):=by
 have hE:=m w w iH (gX.refl _ _ _);have Q:=aQ1 P.mU.uW p.n;have N:=P.yG;have M:nP (Bs.flatMap dO) p.n p.a l=0->uV (p.n,(n6 Bs p.n:Int),l):=λE=>⟨cc0 hE o (by unfold maxLen;omega) (by omega),at5 E⟩;refine ab9 H K p (by omega) _ (λer n T Y Z I' R V=>cz9 P M R V) λz j a g=>?_;have⟨r,t,L⟩:=a.sys.eI;have⟨C,F⟩:=P.stP U;unfold bS8;rw[O];go_call av4 a L F P.wX g p.n i p.a J _ l (λX k=>m z X j k) o as e x ⟨u,v⟩;by_cases b:nP (Bs.flatMap dO) p.n p.a l=0
 .have⟨A,B⟩:=v b;by_cases f:(iE G D (jG (p.n,(n6 Bs p.n:Int),l))).1=0
  .have⟨c,d⟩:=B f;exact⟨0,(n6 Bs p.n:Nat),_,_,_,c,⟨rfl,.inr (.inr ⟨b,f,rfl,rfl,rfl,rfl,rfl⟩)⟩,sM.left a d⟩
  have⟨c,d⟩:=A f;exact⟨_,0,_,_,_,c,⟨rfl,.inr (.inl ⟨b,f,rfl,rfl,rfl,rfl,rfl⟩)⟩,sM.left a d⟩
 have⟨c,d⟩:=u b;exact⟨_,0,D,G,I,c,⟨rfl,.inl ⟨b,rfl,rfl,rfl,rfl,rfl⟩⟩,sM.kept a d⟩
def bZ6{f:Int}(b:e≠61){a t:Int}{S:List jU}{E:aL}{M:cS}{J:aZ}(c:bz2 D G I e f T a t S E M J):a≠61:=by rw[c.1];exact b
def rdA(Bs:List kM)(p:Sp):Int×Int×List jU:=match p.k with
 |2=>(pgE p.n p.a p.b,0,pgT Bs p.n p.a p.b false)
 |3=>(pgE p.n p.a p.b,0,pgT Bs p.n p.a p.b true)
 |4=>(if iZ p.n then 0 else 2,if iZ p.n then(n6 Bs p.n:Int)-1 else -1,[])
 |_=>(0,0,Bs.flatMap dO)
def cy2(H:iY w base W q h D (some (G,I)) cF aX)(P:gW cap aX s D (some (G,I)) Bs S)(F:s<90)(B:base<=w)(p:Sp)(i:2<=p.k/\p.k<=5)(f:p.n.size<=1000000)(r:DI p.a)(g:DI p.b):Calls prog 17 #[zp W,.agg p.c] w (tV base W q h (some (G,I)) cF aX (G8 (bz2 D G I (rdA Bs p).1 (rdA Bs p).2.1 (rdA Bs p).2.2)) w):=by
 refine ab9 H B p (by omega) _ (λV n T K O Q E X=>bZ6 (by unfold rdA pgE;split<;>dsimp only<;>(try split)<;>decide) E) λz J d c=>?_;have⟨v,A,k⟩:=d.sys.eI;have⟨C,j⟩:=P.stP F;have⟨l,o,a,b,L,N,M,R,Kn,U,Y⟩:=p;have m:l=2\/l=3\/l=5\/l=4:=(by dsimp only at i;omega);rcases m with rfl|rfl|rfl|rfl
 iterate 3
  ·(first|refine(ah2 d k j c o f a b r g).mono ?_|refine(YI d k j c o f a b r g).mono ?_|refine(al6 d k j c).mono ?_);rintro e x ⟨Z,rfl,t,i⟩;obtain⟨u,y,rfl,-⟩:=Reads.cX t;exact⟨_,u,_,y,_,D,G,I,rfl,⟨rfl,rfl,rfl,rfl,rfl,rfl⟩,t,sM.kept d i⟩
 refine(YH d k j c o f).mono ?_;rintro e x ⟨rfl,i⟩;exact⟨_,_,D,G,I,rfl,⟨rfl,rfl,rfl,rfl,rfl,rfl⟩,sM.kept d i⟩
def cx4(P:gW cap aX s D (some (G,I)) Bs S){a e:Int}{T:List jU}{E:aL}{M:cS}{J:aZ}(f:cJ3 D G I a e T E M J)(c:E.down=false):a≠61:=by
 obtain⟨rfl,-,-,rfl,-⟩:=f;rcases(MX P.wX).2.2 with⟨b,-⟩|⟨b,d,-⟩
 .rw[b];decide
 rw[d]at c;cases c
def cw7(P:gW cap aX s D (some (G,I)) Bs S)(h:s<90){a e:Int}{T:List jU}{E:aL}{M:cS}{J:aZ}(g:bR9 D G I a e T E M J)(b:E.down=false):a≠61:=by
 obtain⟨-,-,f,-,rfl,rfl,-⟩:=g;rcases NN P.wX (rG P.mU.uW) h P.sX f with c|⟨c,d,-⟩
 .exact MI.bU3 c b
 rw[d]at b;cases b
def ct8(P:gW cap aX s D (some (G,I)) Bs S)(d:s<90){a:Int}{f e:Int}{T:List jU}{E:aL}{M:cS}{J:aZ}(c:cn1 D G I a f e T E M J)(g:E.down=false):f≠61:=by
 obtain⟨-,-,h,-,rfl,rfl,-⟩:=c;rcases U4 P.wX (rG P.mU.uW) d P.sX a h with⟨b,-⟩|⟨b,-⟩|⟨-,-,b⟩
 .rw[b];exact(by decide:(2:Int)≠61)
 .rw[b];exact(by decide:(4:Int)≠61)
 exact MI.bU3 b g
def cj7(H:iY w base W q h D (some (G,I)) cF aX)(P:gW cap aX s D (some (G,I)) Bs S)(d:base<=w)(p:Sp)(b:p.k=6):Calls prog 17 #[zp W,.agg p.c] w (tV base W q h (some (G,I)) cF aX (G8 (cJ3 D G I)) w):=by refine ab9 H d p (by omega) _ (λm n T j k l f g=>cx4 P f g) λz i c a=>?_;unfold bS8;rw[b];go_call aH5 c a P.up (MX P.wX).2.1 as e x ⟨rfl,b⟩;exact⟨_,_,_,_,rfl,⟨rfl,rfl,rfl,rfl,rfl,rfl⟩,sM.left c b⟩
def cj6(H:iY w base W q h D (some (G,I)) cF aX)(P:gW cap aX s D (some (G,I)) Bs S)(d:s<90)(g:base<=w)(p:Sp)(b:p.k=7):Calls prog 17 #[zp W,.agg p.c] w (tV base W q h (some (G,I)) cF aX (G8 (bR9 D G I)) w):=by refine ab9 H g p (by omega) _ (λu n T o r t k l=>cw7 P d k l) λz m c a=>?_;have j:=P.yG;unfold bS8;rw[b];go_call aH4 c a P.up (P.wX.aA2 P.mU (by omega) d P.sX) as e x ⟨f,i,rfl,b⟩;exact⟨_,_,_,_,rfl,⟨rfl,rfl,f,i,rfl,rfl,rfl,rfl⟩,sM.left c b⟩
def cj5(H:iY w base W q h D (some (G,I)) cF aX)(P:gW cap aX s D (some (G,I)) Bs S)(d:s<90)(i:base<=w)(p:Sp)(b:p.k=8)(g:DI p.a):Calls prog 17 #[zp W,.agg p.c] w (tV base W q h (some (G,I)) cF aX (G8 (cn1 D G I p.a)) w):=by refine ab9 H i p (by omega) _ (λv n T r t u l m=>ct8 P d l m) λz o c a=>?_;have k:=P.yG;unfold bS8;rw[b];go_call aH3 c a P.up p.a g (P.wX.bw3 P.mU (by omega) d P.sX p.a) as e x ⟨f,j,rfl,b⟩;exact⟨_,_,_,_,rfl,⟨rfl,rfl,f,j,rfl,rfl,rfl,rfl⟩,sM.left c b⟩
end
section
variable {cap aX s s' S S':Nat}{D D':aL}{G G':cS}{I I':aZ}{o o':iL}{Bs:List kM}{B:List bH}{l l':cA}
def gW.QE(P:gW cap aX s D o Bs S)(a:D'.cap=D.cap)(g:D'.bQ=D.bQ){B:List kM}(d:lG B)(e:B<=s+1)(c:S'<=B)(h:jJ cap aX (s+1) D' G' I' (B.map jG) S')(f:(D'.down=true/\o'=none)\/(D'.down=false/\o'=some (G',I'))):gW cap aX (s+1) D' o' B S':=by
 refine⟨P.ad9,P.sX,a.trans P.tA,by have:=P.bQ;omega,d,e,c,?_⟩;rcases f with⟨b,-⟩|⟨-,rfl⟩
 .rw[h.up]at b;cases b
 exact h
def gW.MF(P:gW cap aX s D o Bs S)(a:D'.cap=D.cap)(i:D'.bQ=D.bQ){B:List kM}(d:lG B)(f:B<=s+1)(c:S'<=B)(e:D'.down=true)(h:kK cap aX (s+1) D'.files (B.map jG) S')(g:(D'.down=true/\o'=none)\/(D'.down=false/\o'=some (G',I'))):gW cap aX (s+1) D' o' B S':=by
 refine⟨P.ad9,P.sX,a.trans P.tA,by have:=P.bQ;omega,d,f,c,?_⟩;rcases g with⟨-,rfl⟩|⟨b,-⟩
 .exact h
 rw[e]at b;cases b
def gW.same(P:gW cap aX s D (some (G,I)) Bs S)(a:(D.down=true/\o'=none)\/(D.down=false/\o'=some (G,I))):gW cap aX (s+1) D o' Bs S:=P.QE rfl rfl P.mU (Nat.le_succ_of_le P.yG) P.le (P.wX.more (gI s)) a
def gW.append{st:aS}{x:Int}{le:List Ev}(P:gW cap aX s D (some (G,I)) Bs S)(hf:nP (Bs.flatMap dO) st x le=0->uV (st,(n6 Bs st:Int),le)){er n:Int}{T:List jU}(hq:G8 (bS0 D G I aX Bs st x le) er n T D' o'):(nP (Bs.flatMap dO) st x le≠0/\er=nP (Bs.flatMap dO) st x le/\n=0/\D'.down=false/\gW cap aX (s+1) D' o' Bs S)\/(nP (Bs.flatMap dO) st x le=0/\er=60/\n=0/\D'.down=false/\gW cap aX (s+1) D' o' Bs S)\/(nP (Bs.flatMap dO) st x le=0/\er=61/\n=0/\D'.down=true/\gW cap aX (s+1) D' o' (Bs++[(st,(n6 Bs st:Int),le)]) S)\/(nP (Bs.flatMap dO) st x le=0/\er=0/\n=(n6 Bs st:Nat)/\D'.down=false/\gW cap aX (s+1) D' o' (Bs++[(st,(n6 Bs st:Int),le)]) S):=by
 obtain⟨G1,I1,⟨-,hq⟩,ho⟩:=hq;have hfw:=P.yG;have hle:=P.le;have hmap:(Bs++[(st,(n6 Bs st:Int),le)]).map jG=Bs.map jG++[jG (st,(n6 Bs st:Int),le)]:=(by rw[iC];rfl);have hln:(Bs++[(st,(n6 Bs st:Int),le)]).length=Bs.length+1:=(by simp);rcases hq with⟨h0,rfl,rfl,rfl,rfl,rfl⟩|⟨h0,h1,rfl,rfl,hD,hG,rfl⟩|⟨h0,h1,rfl,rfl,hD,hG,hI⟩
 .exact .inl ⟨h0,rfl,rfl,P.up,P.same ho⟩
 iterate 2
  .have ha:=SU P.wX (bg6 (hf h0));have hbo:lG (Bs++[(st,(n6 Bs st:Int),le)]):=bq5 P.mU (hf h0);have⟨c1,c2,c3⟩:=ha;generalize iE G D (jG (st,(n6 Bs st:Int),le))=R at *;first|(rcases c3 with⟨h9,-⟩|⟨h9,-,h7⟩|⟨h9,-,h8,h7⟩)|(rcases c3 with⟨h9,-⟩|⟨h9,-⟩|⟨h9,-,h8,h7⟩)
   .first|subst h9;cases h1|subst h9;subst hD;subst hG;exact .inr (.inl ⟨h0,rfl,rfl,P.up,P.same ho⟩)
   .first|(subst hD;subst hG;subst hI;(exact .inr (.inr (.inr ⟨h0,rfl,rfl,h7.up,P.QE c1 c2 hbo (by omega) (by omega) (by rw[hmap];exact h7.more (gI s)) ho⟩))))|exact absurd h9 h1
   first|rw[h9]at h1;cases h1|(subst hD;(exact .inr (.inr (.inl ⟨h0,h9,rfl,h8,P.MF c1 c2 hbo (by omega) (by omega) h8 (by rw[hmap];exact h7.more (gI s)) ho⟩))))
def gW.flush(P:gW cap aX s D (some (G,I)) Bs S){a e:Int}{T:List jU}(l:G8 (cJ3 D G I) a e T D' o'):(a=0/\D'.down=false/\gW cap aX (s+1) D' o' Bs Bs)\/(a=61/\D'.down=true/\gW cap aX (s+1) D' o' Bs S):=by
 obtain⟨m,n,⟨rfl,-,-,rfl,rfl,rfl⟩,h⟩:=l;have⟨f,g,i⟩:=MX P.wX;have k:=P.yG;have d:=P.le;rcases i with⟨c,b⟩|⟨c,b,j⟩
 .rw[gK]at b;exact .inl ⟨c,b.up,P.QE f g P.mU (by omega) dQ (b.more (gI s)) h⟩
 exact .inr ⟨c,b,P.MF f g P.mU (by omega) d b (j.more (gI s)) h⟩
def gW.index(P:gW cap aX s D (some (G,I)) Bs S)(r:s<90){a e:Int}{T:List jU}(q:G8 (bR9 D G I) a e T D' o'):(a=0/\gW cap aX (s+1) D' o' Bs Bs)\/(a=60/\gW cap aX (s+1) D' o' Bs S)\/(a=61/\D'.down=true/\gW cap aX (s+1) D' o' Bs S):=by
 obtain⟨t,u,⟨-,-,f,-,rfl,rfl,rfl,rfl⟩,j⟩:=q;have p:=P.yG;have b:=P.le;have l:(Bs.map jG).length=Bs:=gK ..;rcases NN P.wX (rG P.mU.uW) r P.sX f with⟨d,h,i⟩|⟨n,d,h,i,o⟩
 .rw[l]at i;rcases i with⟨c,g,-⟩|⟨c,-,k,g⟩|⟨c,g,k⟩
  .exact .inl ⟨c,P.QE d h P.mU (by omega) dQ g j⟩
  .exact .inr (.inl ⟨c,P.QE d h P.mU (by omega) b (by rw[k];exact g.less b) j⟩)
  have m:=P.MF d h P.mU (by omega) b g (k.less b) j;rcases c with⟨c,-⟩|c
  .exact .inr (.inl ⟨c,m⟩)
  exact .inr (.inr ⟨c,g,m⟩)
 exact .inr (.inr ⟨n,d,P.MF h i P.mU (by omega) b d (o.more (gI s)) j⟩)
def gW.merge(P:gW cap aX s D (some (G,I)) Bs S)(n:s<90){a f e:Int}{T:List jU}(m:G8 (cn1 D G I a) f e T D' o'):(f=0\/f=4\/(f=2/\(a<0\/5<=a))\/f=60\/(f=61/\D'.down=true))/\gW cap aX (s+1) D' o' Bs S:=by
 obtain⟨o,p,⟨-,-,q,-,rfl,rfl,rfl,rfl⟩,g⟩:=m;have l:=P.yG;have d:=P.le;rcases U4 P.wX (rG P.mU.uW) n P.sX a q with⟨b,c⟩|⟨b,-⟩|⟨-,-,h,i,k⟩
 .rw[b]at g|-;exact⟨.inr (.inr (.inl ⟨rfl,c⟩)),P.same g⟩
 .rw[b]at g|-;exact⟨.inr (.inl rfl),P.same g⟩
 simp only at h i k;rcases k with⟨b,c,-⟩|⟨b,-,j,c⟩|⟨b,c,j⟩
 .exact⟨.inl b,P.QE h i P.mU (by omega) d c g⟩
 .exact⟨.inr (.inr (.inr (.inl b))),P.QE h i P.mU (by omega) d (by rw[j];exact c) g⟩
 refine⟨?_,P.MF h i P.mU (by omega) d c j g⟩;rcases b with⟨b,-⟩|b
 .exact .inr (.inr (.inr (.inl b)))
 exact .inr (.inr (.inr (.inr ⟨b,c⟩)))
def gW.eI(P:gW cap aX s D o Bs S):kK cap aX s D.files (Bs.map jG) S:=by
 match o,P with
 |none,P=>exact P.ok
 |some (G,I),P=>exact P.wX.eI
def gW.read(P:gW cap aX s D (some (G,I)) Bs S){a t:Int}{T:List jU}{f e:Int}{k:List jU}(h:G8 (bz2 D G I a t T) f e k D' o'):f=a/\e=t/\k=T/\D'=D/\o'=some (G,I)/\gW cap aX (s+1) D' o' Bs S:=by
 obtain⟨i,j,⟨rfl,rfl,rfl,rfl,rfl,rfl⟩,c⟩:=h;have g:=P.yG;have d:=P.same c;rcases c with⟨b,-⟩|⟨b,rfl⟩
 .rw[P.up]at b;cases b
 exact⟨rfl,rfl,rfl,rfl,rfl,d⟩
def gW.later(P:gW cap aX s D o Bs S):gW cap aX (s+1) D o Bs S:=by
 refine⟨P.ad9,P.sX,P.tA,by have:=P.bQ;omega,P.mU,by have:=P.yG;omega,P.le,?_⟩;match o,P with
 |none,P=>exact kK.more P.ok (gI s)
 |some (G,I),P=>exact P.wX.more (gI s)
def gW.shut(P:gW cap aX s D o Bs S):gW cap aX (s+1) D none Bs S:=⟨P.ad9,P.sX,P.tA,by have:=P.bQ;omega,P.mU,by have:=P.yG;omega,P.le,P.eI.more (gI s)⟩
def gW.kJ(P:gW cap aX s D o Bs S)(a:List Int):gW cap aX (s+1) (D.kJ a).2 none Bs S:=by
 unfold aL.kJ;split
 .exact P.shut
 exact⟨P.ad9,P.sX,P.tA,by have:=P.bQ;show D.bQ<=_;omega,P.mU,by have:=P.yG;omega,P.le,(P.eI.kJ a).more (gI s)⟩
def gW.fail(P:gW cap aX s D o Bs S)(n:Int)(g:List Int):gW cap aX (s+1) (D.fail n g).2 o Bs S:=by
 unfold aL.fail;split
 .exact P.later
 split
 .exact P.later
 refine⟨P.ad9,P.sX,P.tA,by have:=P.bQ;show D.bQ<=_;omega,P.mU,by have:=P.yG;omega,P.le,?_⟩;match o,P with
 |none,P=>exact kK.more P.ok (gI s)
 |some (G,I),P=>have⟨a,b,c,C,Q,d,e,f⟩:=P.wX.more (gI s);exact⟨a,b,c,C,Q,d,e,f⟩
def gW.open_(P:gW cap aX s D o Bs S){e:Int}(h:nY cap aX s (QO D) Bs S e o' D'):(e=61/\o'=none/\D'.down=true/\gW cap aX (s+1) D' o' Bs S)\/(e=0/\∃G I k,o'=some (G,I)/\k<=Bs.length/\S<=k/\gW cap aX (s+1) D' o' (Bs.take k) k):=by
 have f:=TG D;have l:(QO D).bQ<=D.bQ+1:=by unfold QO aL.start;split<;>simp
 have i:=P.yG;have j:=P.bQ;rcases h.it with⟨d,c,b,a⟩|⟨d,G,I,k,c,b,a,g⟩
 .subst c;exact .inl ⟨d,rfl,b,P.ad9,P.sX,h.tA.trans (f.2.trans P.tA),by rw[h.bt4];omega,P.mU,by omega,P.le,a.more (gI s)⟩
 subst c;exact .inr ⟨d,G,I,k,rfl,b,a,P.ad9,P.sX,h.tA.trans (f.2.trans P.tA),by rw[h.bt4];omega,WN P.mU k,by rw[b8];omega,by rw[b8];omega,g.more (gI s)⟩
def sF(D:aL)(n:bH)(a:aL):Prop:=a=D\/∃f g,bO D.files n=some f/\QH f g/\a={D with files:=eC D.files n g}
def bC9(b:Sys n k D.files)(d:bH)(c:Int)(s:bH):sF D d (D.aH6 d c s).2:=by
 unfold aL.aH6;cases a:bO D.files d with
 |none=>exact .inl rfl
 |some f=>
  simp only;split
  .exact .inl rfl
  split
  .exact .inr ⟨f,_,a,bd3 (b.oW.sync d f a) s (by omega),rfl⟩
  exact .inl rfl
def cy6(D:aL)(n:bH)(k:Int):sF D n (D.cut n k).2:=by
 unfold aL.cut;cases a:bO D.files n with
 |none=>exact .inl rfl
 |some f=>
  simp only;split
  .exact .inl rfl
  exact .inr ⟨f,_,a,bd4 k.toNat,rfl⟩
def gW.cE9(P:gW cap aX s D o Bs S){l:bH}(b:isB l)(h:sF D l D'):gW cap aX (s+1) D' o Bs S:=by
 rcases h with rfl|⟨f,g,c,d,rfl⟩
 .exact P.later
 have⟨i,e,j⟩:=bx3 b;refine⟨P.ad9,P.sX,P.tA,by have:=P.bQ;show D.bQ<=_;omega,P.mU,by have:=P.yG;omega,P.le,?_⟩;match o,P with
 |none,P=>exact kK.more (kK.spoilt P.ok c d i (λa=>absurd (.inr a) e) (λa=>absurd (.inl a) e)) (gI s)
 |some (G,I),P=>exact(P.wX.spoilt c d b).more (gI s)
def gW.cE8(P:gW cap aX s D none Bs S){l:bH}(i:VW l)(h:sF D l D')(d:∀f g,bO D.files l=some f->bO D'.files l=some g->isT l->kT g.data=true->g.data=f.data)(c:∀f g,bO D.files l=some f->bO D'.files l=some g->l=fE->sB g.data=true->g.data=f.data):gW cap aX (s+1) D' none Bs S:=by
 rcases h with rfl|⟨f,g,b,e,rfl⟩
 .exact P.later
 have a:bO (eC D.files l g) l=some g:=(by rw[fF,aV rfl]);exact⟨P.ad9,P.sX,P.tA,by have:=P.bQ;show D.bQ<=_;omega,P.mU,by have:=P.yG;omega,P.le,kK.more (kK.spoilt P.ok b e (GP i) (d f g b a) (c f g b a)) (gI s)⟩
end
variable{X:List aN}
abbrev aj2(t:cC):Prop:=t=103\/t=112\/t=5
abbrev Gh:=Nat->Option Obj
def Gh.no:Gh:=fun _=>none
section
variable {w x y w':aI}{base W q r g c:Nat}{F:Gh}{h:dV}{D D':aL}{o o':iL}{cF aX:Nat}{vL vM vL' vM':aN}{Bs Bs':List kM}{S S':Nat}{brk:Bool}
def iY.fresh(H:iY w base W q h D o cF aX)(p:aR w w x){n:Nat}{T:cC}{X:List aN}(s:Row x n T X)(t:¬aj2 T)(A:w<=n):¬mS x W q h o n:=by
 have⟨j,k,i⟩:=H.it.eI;have g:¬jQ x h.d h.m n:=by
  rintro (a|⟨C,E,z,e,b⟩|⟨F,b,f⟩)
  .have:=i.lt.2;omega
  .obtain⟨y,m,r,-⟩:=s;rw[r]at e;cases e;exact t b
  obtain⟨c,B,u,-,v⟩:=i.row;have d:=(u.next p).zc9;rw[b]at d;have l:=cJ d;rw[l]at f;have:=(v.row f).1.lt;omega
 rintro (a|a)
 .match o,H,a with
  |none,H,a=>exact g a
  |some (G,I),H,a=>
   have S:oE w base q h D G I cF aX:=H.it;rcases a with((a|a|a)|a)|a
   .exact g a
   .have:=S.old n (.inr (.inl a));omega
   .have:=S.old n (.inr (.inr (.inl a)));omega
   .have:=S.old n (.inl a);omega
   have:=S.old n (.inr (.inr (.inr a)));omega
 have:=H.row.lt;omega
def iY.back(H:iY x base W q h D o cF aX){n:Nat}{T:cC}{X:List aN}(e:x.grownBy y n)(u:Row y n T X)(v:¬aj2 T)(c:¬mS x W q h o n):¬mS y W q h o n:=by
 have⟨l,m,k⟩:=H.it.eI;have d:h.d≠n:=λb=>c (by
  obtain⟨f,A,r,-⟩:=k.row;have g:jQ x h.d h.m n:=.inr (.inl (by rw[<-b];exact oF r (.inl rfl)));match o with
  |none=>exact .inl g
  |some (G,I)=>exact .inl (.inl (.inl (.inl g))))
 have j:jQ y h.d h.m n->jQ x h.d h.m n:=by
  rintro (b|⟨C,B,z,i,s⟩|b)
  .exact .inl b
  .obtain⟨w,p,c,-⟩:=u;rw[c]at i;cases i;exact absurd s v
  refine .inr (.inr ?_);unfold OwnAt at b|-;rw[<-dK (a:=zp h.d 9) (e.block h.d k.lt.1 (λt=>d (cJ t)))];exact b
 rintro (b|b)
 .match o,c,b with
  |none,c,b=>exact c (.inl (j b))
  |some (G,I),c,b=>
   rcases b with((b|b)|b)|b
   .exact c (.inl (.inl (.inl (.inl (j b)))))
   .exact c (.inl (.inl (.inl (.inr b))))
   .exact c (.inl (.inl (.inr b)))
   exact c (.inl (.inr b))
 exact c (.inr b)
structure jH(w:aI)(a:Nat)(F:Gh)(r W q g:Nat)(h:dV)(D:aL)(o:iL)(c d:Nat)(f i:aN)(j:List kM)(S:Nat)(e:Bool):Prop where
 row:Row w r 52 [.pointer (some ⟨W,0,none⟩),.pointer (some ⟨g,0,none⟩),.bool e]
 low:a<=r
 pN:iY w a W q h D o c d
 mod:xV w a g f i (j.flatMap dO) (kZ j) S
 sep:∀k,(k=r\/k=g\/f.ownBlock=some k\/i.ownBlock=some k)->¬mS w W q h o k
 gh:∀k b,F k=some b->w.heap[k]?=some b/\¬(k=r\/k=g\/f.ownBlock=some k\/i.ownBlock=some k)/\¬mS w W q h o k
def UO(w:aI)(a:Nat)(F:Gh)(r:Nat)(D:aL)(o:iL)(b c:Nat)(e:List kM)(S:Nat)(d:Bool):Prop:=∃W q g h f i,jH w a F r W q g h D o b c f i e S d
def vR:¬aj2 52/\¬aj2 48/\¬aj2 133/\¬aj2 3:=by decide
def vG:(48:cC)≠52/\(133:cC)≠52/\(3:cC)≠52:=by decide
def jH.lt(H:jH w base F r W q g h D o cF aX vL vM Bs S brk):∀k,(k=r\/k=g\/vL.ownBlock=k\/vM.ownBlock=k)->k<w.heap.size:=by
 rintro k (rfl|rfl|h9|h9)
 .exact H.row.lt
 .exact H.mod.1.lt
 .exact(H.mod.2.2.1.row h9).1.lt
 exact(H.mod.2.2.2.1.row h9).1.lt
def jH.OF{b:Obj}(H:jH w base F r W q g h D o cF aX vL vM Bs S brk)(a:F n=b):n<w:=(fG.1 (H.gh n b a).1).1
def jH.eW{h':dV}(H:jH w base F r W q g h D o cF aX vL vM Bs S brk)(s:iY w' base W n h' D' o' cF aX)(v:p7 base (mS w W q h o) (mS w' W n h' o') w w'):jH w' base F r W n g h' D' o' cF aX vL vM Bs S brk:=by have c:∀k,(k=r\/k=g\/vL.ownBlock=k\/vM.ownBlock=k)->w'.heap[k]?=w.heap[k]?:=λk c=>v.block k (H.lt k c) (.inr (H.sep k c));exact⟨H.row.of_block (c r (.inl rfl)),H.low,s,⟨H.mod.1.of_block (c g (.inr (.inl rfl))),H.mod.2.1,H.mod.2.2.1.eW λk d=>c k (.inr (.inr (.inl d))),H.mod.2.2.2.1.eW λk d=>c k (.inr (.inr (.inr d))),H.mod.2.2.2.2⟩,(λk d e=>H.sep k d (v.rJ k (H.lt k d) e)),λk b a=>⟨(v.block k (H.OF a) (.inr (H.gh k b a).2.2)).trans (H.gh k b a).1,(H.gh k b a).2.1,λe=>(H.gh k b a).2.2 (v.rJ k (H.OF a) e)⟩⟩
def jH.next(H:jH w base F r W q g h D o cF aX vL vM Bs S brk)(a:aR w w w'):jH w' base F r W q g h D o cF aX vL vM Bs S brk:=H.eW (H.pN.next a).1 (H.pN.next a).2
def jH.to(H:jH w base F r W q g h D o cF aX vL vM Bs S brk)(K:oH w base W q h o D' o' cF aX w'):∃b a,jH w' base F r W b g a D' o' cF aX vL vM Bs S brk:=by have⟨b,a,e,s,v⟩:=K;exact⟨b,a,H.eW s v⟩
def iY.ME(H:iY w base W q h D o cF aX)(K:oH w base W q h o D' o' cF aX w'):aR base w w':=by have⟨f,b,e,s,v⟩:=K;have c:=H.low;have d:=H.row.lt;exact⟨v.os,v.tape,v.output,v.size,λk a=>v.block k (by omega) (.inl a)⟩
def jH.bt0{k j:Nat}{u:aN}{T:cC}(H:jH w base F r W q g h D o cF aX vL vM Bs S brk)(d:k=r\/k=g\/vL.ownBlock=k\/vM.ownBlock=k)(l:Row w k T X)(m:¬aj2 T):iY (w.setCell (zp k j) u) base W q h D o cF aX/\∀i,i<w.heap.size->mS (w.setCell (zp k j) u) W q h o i->mS w W q h o i:=by
 have c:=jI w (zp k j) u;have⟨s,b⟩:=H.pN.grown c (H.sep k d);refine⟨s,λi f a=>?_⟩;by_cases e:i=k
 .subst e;exact absurd a (H.pN.back c (l.set j u) m (H.sep i d))
 exact b i f e a
def jH.model(H:jH w base F r W q g h D o cF aX vL vM Bs S brk)(v:aR w w x)(J:w<=c)(e:xV x base c vL' vM' (Bs'.flatMap dO) (kZ Bs') S')(z:∀k,vL'.ownBlock=some k->vL.ownBlock=k\/w.heap.size<=k)(A:∀k,vM'.ownBlock=some k->vM.ownBlock=k\/w.heap.size<=k):jH (x.setCell (zp r 1) (zp c)) base F r W q c h D o cF aX vL' vM' Bs' S' brk:=by
 have l:=H.next v;have⟨s,b⟩:=l.bt0 (k:=r) (j:=1) (u:=zp c) (.inl rfl) l.row vR.1;have n:∀k t B,Row x k t B->t≠52->(x.setCell (zp r 1) (zp c)).heap[k]?=x.heap[k]?:=λk t B K L=>aU _ _ _ _ (λa=>L (by
  have y:k=r:=a;subst y;exact dD K l.row))
 refine⟨l.row.set 1 _,H.low,s,⟨e.1.of_block (n _ _ _ e.1 vG.1),e.2.1,e.2.2.1.eW λk a=>n _ _ _ (e.2.2.1.row a).1 vG.2.1,e.2.2.2.1.eW λk a=>n _ _ _ (e.2.2.2.1.row a).1 vG.2.2,e.2.2.2.2⟩,λk d a=>?_,λk C m=>?_⟩;rotate_left
 .have⟨E,p,G⟩:=l.gh k C m;have I:=H.OF m;refine⟨(aU _ _ _ _ (λa=>p (.inl a))).trans E,λa=>?_,λa=>G (b k (l.OF m) a)⟩;rcases a with a|a|a|a
  .exact p (.inl a)
  .omega
  .rcases z k a with f|f
   .exact p (.inr (.inr (.inl f)))
   omega
  rcases A k a with f|f
  .exact p (.inr (.inr (.inr f)))
  omega
 have i:∀k,(k=r\/k=g\/vL.ownBlock=k\/vM.ownBlock=k)->¬mS (x.setCell (zp r 1) (zp c)) W q h o k:=λk d a=>l.sep k d (b k (l.lt k d) a);rcases d with d|d|d|d
 .exact i k (.inl d) a
 .subst d;exact H.pN.fresh v e.1 vR.2.1 J (b k e.1.lt a)
 .rcases z k d with f|f
  .exact i k (.inr (.inr (.inl f))) a
  exact H.pN.fresh v (e.2.2.1.row d).1 vR.2.2.1 f (b k (e.2.2.1.row d).1.lt a)
 rcases A k d with f|f
 .exact i k (.inr (.inr (.inr f))) a
 exact H.pN.fresh v (e.2.2.2.1.row d).1 vR.2.2.2 f (b k (e.2.2.2.1.row d).1.lt a)
def jH.aO5(H:jH w base F r W q g h D o cF aX vL vM Bs S brk)(j:w.grownBy x g)(y:xV x base g vL' vM' (Bs'.flatMap dO) (kZ Bs') S')(u:vL'.ownBlock=vL.ownBlock)(v:vM'.ownBlock=vM.ownBlock):jH x base F r W q g h D o cF aX vL' vM' Bs' S' brk:=by
 have i:=H.sep g (.inr (.inl rfl));have⟨s,b⟩:=H.pN.grown j i;have l:=H.pN.back j y.1 vR.2.1 i;have n:r≠g:=λa=>by have t:=H.row;rw[a]at t;exact vG.1 (dD H.mod.1 t)
 refine⟨H.row.of_block (j.block r H.row.lt (λa=>n (cJ a))),H.low,s,y,λk m a=>?_,λk z f=>?_⟩;rotate_left
 .have⟨A,p,B⟩:=H.gh k z f;have c:=H.OF f;have d:k≠g:=λa=>p (.inr (.inl a));exact⟨(j.block k c (λa=>d (cJ a))).trans A,by rw[u,v];exact p,λa=>B (b k c d a)⟩
 rw[u,v]at m;by_cases e:k=g
 .subst e;exact l a
 exact H.sep k m (b k (H.lt k m) e a)
def jH.cz2(H:jH w base F r W q g h D o cF aX vL vM Bs S brk)(d:Bool):jH (w.setCell (zp r 2) d) base F r W q g h D o cF aX vL vM Bs S d:=by
 have⟨s,b⟩:=H.bt0 (k:=r) (j:=2) (u:=d) (.inl rfl) H.row vR.1;have e:∀k t l,Row w k t l->t≠52->(w.setCell (zp r 2) d).heap[k]?=w.heap[k]?:=λk t l m n=>aU _ _ _ _ (λa=>n (by
  have f:k=r:=a;subst f;exact dD m H.row))
 exact⟨H.row.set 2 _,H.low,s,⟨H.mod.1.of_block (e _ _ _ H.mod.1 vG.1),H.mod.2.1,H.mod.2.2.1.eW λk a=>e _ _ _ (H.mod.2.2.1.row a).1 vG.2.1,H.mod.2.2.2.1.eW λk a=>e _ _ _ (H.mod.2.2.2.1.row a).1 vG.2.2,H.mod.2.2.2.2⟩,(λk i a=>H.sep k i (b k (H.lt k i) a)),λk d c=>⟨(aU _ _ _ _ (λa=>(H.gh k d c).2.1 (.inl a))).trans (H.gh k d c).1,(H.gh k d c).2.1,λa=>(H.gh k d c).2.2 (b k (H.OF c) a)⟩⟩
def jH.ghost{c:Gh}(H:jH w base F r W q g h D o cF aX vL vM Bs S brk)(d:aR w w x)(n:∀k b,c k=some b->x.heap[k]?=b/\w.heap.size<=k/\∃t e,Row x k t e/\¬aj2 t):jH x base c r W q g h D o cF aX vL vM Bs S brk:=by have a:=H.next d;refine⟨a.row,a.low,a.pN,a.mod,a.sep,λk b p=>?_⟩;have⟨f,i,t,e,j,l⟩:=n k b p;exact⟨f,λm=>by have:=H.lt k m;omega,H.pN.fresh d j l i⟩
end
variable{F:Gh}{M:List Nat}{A:Option Addr}{S:dV}{o:iL}
def RD(e:Int)(up:Bool)(w:aI):Calls prog 39 #[e,up] w λx w'=>x=.returned (.bool (decide (e=60)||(decide (e=61)&&!up)))/\w=w':=by
 by_cases h1:e=60
 .subst h1;go_in;go_wp2;go_ret;exact⟨rfl,rfl⟩
 by_cases h2:e=61
 .subst h2;cases up
  all_goals
   go_in;go_wp2;go_ret;exact⟨rfl,rfl⟩
 have i1:(e==60)=false:=(by rw[bA];exact h1);have i2:(e==61)=false:=(by rw[bA];exact h2);have hR:(decide (e=60)||(decide (e=61)&&!up))=false:=(by rw[bN h1,bN h2];rfl);rw[hR];clear h1 h2 hR;go_in;go_wp2;go_ret;exact⟨rfl,rfl⟩
def xV.copy{B:Option Addr}(H:xV w n k (.slice A T m) (.slice B M i) T M j)(g:T.length<=1000000)(f:M.length<=1000000)(b:aR w w x)(a:n<=w):xV (x.alloc (.cells #[.slice A T T,.slice B M M,j] 48)) n x (.slice A T T) (.slice B M M) T M j:=by have e:=H.next (b.alloc b.size (.cells #[.slice A T T,.slice B M M,j] 48));have c:=IS e.2.2.1 dQ g;have d:=IS e.2.2.2.1 dQ f;rw[VC,aT dQ]at c;rw[ZI,aT dQ]at d;exact⟨Row.new x #[.slice A T T,.slice B M M,j] _,aM a b.size,c,d,H.2.2.2.2⟩
def bv6{T:cC}(h:l3 w n T k (.slice A i i) m X):(none:Option Nat)=(Value.slice A i i).ownBlock\/((none:Option Nat)=none/\∃b e,Value.slice A i i=.slice (zp b) e e):=by
 rcases h with h|⟨b,a,-⟩
 .rcases h.2 with⟨a,-⟩|⟨g,c,d,a,-⟩
  .rw[a];exact .inl rfl
  obtain⟨rfl,-,-⟩:=eJ a;exact .inr ⟨rfl,g,i,rfl⟩
 obtain⟨rfl,-,-⟩:=eJ a;exact .inr ⟨rfl,b,i,rfl⟩
def co3(T:List jU)(c:aS)(a:Int)(l:List Ev)(d n:Int)(b:Bool):Prop:=(nP T c a l≠0/\d=nP T c a l/\n=0/\b=false)\/(nP T c a l=0/\d=60/\n=0/\b=false)\/
 (nP T c a l=0/\d=61/\n=0/\b=true)\/(nP T c a l=0/\d=0/\n=((dJ T c).length:Nat)/\b=false)
def FU(b:List kM)(c:aS)(a:Int)(l:List Ev)(d:Int):List kM:=if nP (b.flatMap dO) c a l=0/\d≠60 then b++[(c,(n6 b c:Int),l)]else b
def EZ{er:Int}(h:nP (B.flatMap dO) s e l≠0\/er=60):FU B s e l er=B:=aP (by omega)
def QC(h:nP (B.flatMap dO) s e l=0)(b:a≠60):FU B s e l a=B++[(s,(n6 B s:Int),l)]:=aV ⟨h,b⟩
def cd2(a:List kM)(b:aS)(l:List Ev):(a++[(b,(n6 a b:Int),l)]).flatMap dO=a.flatMap dO++eQ b ((dJ (a.flatMap dO) b):Int) l/\kZ (a++[(b,(n6 a b:Int),l)])=kZ a++[l.length]:=by
 constructor
 .rw[eB];simp[dO,n6]
 unfold kZ;rw[iC];rfl
def ag3(a:Nat)(F:Gh)(r:Nat)(D:aL)(o:iL)(b c:Nat)(f:List kM)(S:Nat)(w:aI)(e:eY)(d:aI):Prop:=e=.returned (.bool true)/\aR a w d/\UO d a F r D o b c f S false
def aI4(H:jH w m F k n i j S D o g q v u B d false)(hb:m<=w.heap.size)(hf:∀b∈B,uV b)(hi:B.length<=1000)(p:Sp)(xl:p.k=1)(xr:p.n.size<=1000000)(ha:DI p.a)(l:List Ev)(hl:Y2 w (.slice p.E p.e p.f) l)(hn:l.length<=1000)(x:An)(hc:co3 (B.flatMap dO) p.n p.a l x.r x.n D.down):Calls prog 18 #[.pointer (some ⟨k,0,none⟩),.agg p.c,.agg x.v,.bool true] w (ag3 m F k D o g q (FU B p.n p.a l x.r) d w):=by
 obtain⟨I,hz,b0,xh,xf,xg⟩:=au7 w p.c x.v;obtain⟨kd,R,a,b,EA,En,Ec,KA,Kn,Kc,tx⟩:=p;obtain⟨U,xw,A9,k9,c9⟩:=x;obtain rfl:kd=1:=xl;dsimp only[Sp.c,An.v]at *;have xc:=CR hf;obtain⟨A,cL,rfl,x7,x8,-⟩:=id H.mod.2.2.1.reads;obtain⟨A',cM,rfl,x9,xa,-⟩:=id H.mod.2.2.2.1.reads;have xd:(kZ B).length=B.length:=gK ..;obtain⟨Q,hw⟩:∃Q,Q=(B.flatMap dO).length:=⟨_,rfl⟩;obtain⟨P,hu⟩:∃P,P=(kZ B).length:=⟨_,rfl⟩;have xq:Q<=8000:=(by omega);have xp:P<=1000:=(by omega);have⟨M,L⟩:=aA hw hu;rw[<-hw]at x7;rw[<-hu]at x9;unfold maxLen at x8 xa;have H0:=H.next b0;have z1:∀x:dR I,x.it.cell? ⟨k,1,none⟩=some (.pointer (some ⟨j,0,none⟩)):=λx=>(H0.row.next x.ok).cell 1 (by simp);have z2:∀x:dR I,x.it.cell? ⟨j,0,none⟩=some (.slice A Q cL):=λx=>(by rw[M.out];exact(H0.mod.1.next x.ok).cell 0 (by simp));have z3:∀x:dR I,x.it.cell? ⟨j,1,none⟩=some (.slice A' P cM):=λx=>(by rw[L.out];exact(H0.mod.1.next x.ok).cell 1 (by simp));have z4:∀x:dR I,x.it.cell? ⟨j,2,none⟩=some (.int .i64 d):=λx=>(H0.mod.1.next x.ok).cell 2 (by simp);have⟨HH,z,hr,h7,T,hs,HB,HL,HC,hg,x0,x4⟩:=cT2 H H0 xf xg b0 xh hb hl hc hi xc xd;have⟨x5,hq⟩:=aA hz ha;clear H H0 xf xg b0 xh hb hl hc hf xc hi xd hw hu ha;go_in;(go_wp2_with fail);rw[<-hz];clear hz;refine jF (by kernel_rfl) (by kernel_rfl) (by kernel_rfl) (by kernel_rfl) (by kernel_rfl) ?_;simp only[List.dropLast,List.drop,List.length];repeat go_big_quiet_step (fail)
 refine wpQuiet_nil ?_;rintro _ ⟨⟨wq,X⟩,rfl⟩;rename_i wq;have hm:=z.out.mod.copy (by rw[<-M.out];omega) (by rw[<-L.out];omega) X (aM HB.out T.out.size);rw[<-M.out,<-L.out]at hm;have W:aR I.heap.size I (wq.alloc (.cells #[.slice A Q Q,.slice A' P P,.int .i64 d] 48)):=X.alloc X.size _;have xi:(wq.alloc (.cells #[.slice A Q Q,.slice A' P P,.int .i64 d] 48)).heap.size=wq.heap.size+1:=bD _ _;have xb:=X.size;have E:=hr.out.next W;have k1:=E.cell 1 (by simp);have k2:=E.cell 2 (by simp);have k4:=E.cell 4 (by simp);simp only[dA,fA]at k1 k2 k4;clear z1 z2 z3 z4;(go_wp2_with fail);generalize xm:(wq.alloc (.cells #[.slice A Q Q,.slice A' P P,.int .i64 d] 48))=w1 at hm W xi k1 k2 k4 E|-;generalize xk:wq.heap.size=c at hm xi xb|-;clear xm xk X k1 k2 k4;have h:aR w.heap.size w w1:=aK T.out W;obtain⟨h6,x3,r⟩:=aB (aw2 hm R a (.slice EA En Ec) l hn (by unfold maxLen;omega) (by rw[<-M.out];omega) (by rw[<-L.out];omega) (aM HB.out h.size) hq.out none none (λG xs h0=>HL.out.next ⟨h0.os.trans h.os,h0.tape.trans h.tape,h0.output.trans h.output,aM h.size h0.size,λxv hk=>(h0.block xv (aW hk h.size) (by have:=hs.out;omega) (by simp)).trans (h.block xv hk)⟩) (bv6 hm.2.2.1) (bv6 hm.2.2.2.1)) hm W;clear hm W E h;have he:=aH (λ(y:aI)(hy:aR I.heap.size I y)=>show y.cell? ⟨k,0,none⟩=some (.pointer (some ⟨n,0,none⟩))/\(Calls prog 28 #[.pointer (some ⟨n,0,none⟩)] y (λe G=>e=.returned (.pointer (some ⟨S.d,0,none⟩))/\y=G))/\(Calls prog 29 #[.pointer (some ⟨S.d,0,none⟩)] y (λe G=>e=.returned (.bool (!D.down))/\y=G))/\y.cell? ⟨w.heap.size+1,0,none⟩=some (.int .i64 U)/\y.cell? ⟨w.heap.size+1,1,none⟩=some (.int .i64 xw)from by
  have H9:=z.out.next hy;obtain⟨xn,xo,hd⟩:=H9.pN.it.eI;exact⟨H9.row.cell 0 (by simp),yI H9.pN,BP hd,(h7.out.next hy).cell 0 (by simp),(h7.out.next hy).cell 1 (by simp)⟩)
 have BW:=aH (λ(y:aI)(hy:aR I.heap.size I y)=>show aR m w y from by
  have V:=aK T.out hy;exact⟨V.os,V.tape,V.output,V.size,λxv hk=>V.block xv (aW hk HB.out)⟩)
 have K:=aH (λ(y:aI)(hy:aR I.heap.size I y)(N:FU B R a l U=B)=>show ag3 m F k D o g q (FU B R a l U) d w (.returned (.bool true)) y from⟨rfl,BW.out y hy,by rw[N];exact⟨n,i,j,S,_,_,z.out.next hy⟩⟩);have ht:=aH (λ(y:aI) (hy:aR I.heap.size I y) (N:FU B R a l U=B++[(R,(n6 B R:Int),l)]) (h4 h5:aN) (h3:xV y m c h4 h5 (B.flatMap dO++eQ R ((dJ (B.flatMap dO) R).length:Int) l) (kZ B++[l.length]) d) (h1:∀xv,h4.ownBlock=some xv->(Value.slice A Q Q).ownBlock=some xv\/w1.heap.size<=xv) (h2:∀xv,h5.ownBlock=some xv->(Value.slice A' P P).ownBlock=some xv\/w1.heap.size<=xv)=>show ag3 m F k D o g q (FU B R a l U) d w (.returned (.bool true)) (y.setCell ⟨k,1,none⟩ (.pointer (some ⟨c,0,none⟩)))from by
  obtain⟨m1,m2⟩:=cd2 B R l;rw[<-m1,<-m2]at h3;have V:=z.out.model hy xb h3 (λxv hk=>(h1 xv hk).imp (λh8=>by rw[<-h8];exact NC _ _ _ _ _) (λh8=>by have:=r.out.size;omega)) (λxv hk=>(h2 xv hk).imp (λh8=>by rw[<-h8];exact NC _ _ _ _ _) (λh8=>by have:=r.out.size;omega));exact⟨rfl,(BW.out y hy).setCell HH.out.low _,by rw[N];exact⟨n,i,c,S,h4,h5,V⟩⟩)
 rcases HC.out with⟨s,O,Y,J⟩|⟨s,O,Y,J⟩|⟨s,O,Y,J⟩|⟨s,O,Y,J⟩
 .have N:=EZ (er:=U) (.inl s);have Z:=ae6 (B.flatMap dO) R a l;subst Y;refine h6.out.mono ?_;rintro e t ⟨xe,-⟩;obtain⟨rfl,x6⟩:=xe s;rw[<-O]at s Z|-;have f:=aK r.out x6;have hE:=aH (K.out t f N);obtain⟨y0,yd,yu,y1,y2⟩:=he.out t f;rw[J]at yu;have i1:(U==61)=false:=(by rw[bA];exact Z.2);have i2:(U==0)=false:=by rw[bA];exact s
  have hR:Calls prog 39 #[.int .i64 U,.bool true] t λx G=>x=.returned (.bool false)/\t=G:=by have V:=RD U true t;rwa [bN Z.1,bN Z.2]at V
  clear xe x6 f N Z s HC K ht BW he O J h6 x3 r HH z hr h7 x5 HL M L x0 hg x4 hq T hs HB;(go_wp2_with fail);refine yd.mono ?_;rintro e G ⟨rfl,rfl⟩;(go_wp2_with fail);refine yu.mono ?_;rintro e G ⟨rfl,rfl⟩;(go_wp2_with fail);refine hR.mono ?_;rintro e G ⟨rfl,rfl⟩;go_wp2;go_ret;exact hE.out
 all_goals
  subst O Y;refine h6.out.mono ?_;rintro e t ⟨-,hp⟩;obtain⟨rfl,h4,h5,h3,C,hh,hj,ho⟩:=hp s;have f:aR I.heap.size I t:=⟨C.os.trans r.out.os,C.tape.trans r.out.tape,C.output.trans r.out.output,aM r.out.size C.size,λxv hk=>(hh xv (aW hk r.out.size) (by omega) (by simp) (by simp)).trans (r.out.block xv hk)⟩;obtain⟨y0,yd,yu,y1,y2⟩:=he.out t f;rw[J]at yu;obtain⟨N9,hv⟩:=fR (dJ (B.flatMap dO) R).length
  first
   |have hE:=aH (K.out t f (EZ (.inr rfl)))
   |(have hE:=aH (ht.out t f (QC s (by decide)) h4 h5 h3 hj ho)
     have xu:=(z.out.next f).row.qD;have xt:=(z.out.next f).row.JE;have hx:⟨k,1,none⟩≠(⟨w.heap.size+1,0,none⟩:Addr)/\⟨k,1,none⟩≠(⟨w.heap.size+1,1,none⟩:Addr):=by have:=HH.out.row.lt;constructor<;>(intro V;have:=gQ Addr.block V;simp only at this;omega)
     have x1:=(co9 t ⟨k,1,none⟩ ⟨w.heap.size+1,0,none⟩ (.pointer (some ⟨c,0,none⟩)) hx.1).trans y1;have x2:=(co9 t ⟨k,1,none⟩ ⟨w.heap.size+1,1,none⟩ (.pointer (some ⟨c,0,none⟩)) hx.2).trans y2;(try rw[<-hv]at x2);rw[<-hv];clear hx)
  have hR:Calls prog 39 #[.int .i64 60,.bool true] t λx G=>x=.returned (.bool true)/\t=G:=RD 60 true t;have xj:Calls prog 39 #[.int .i64 0,.bool true] t λx G=>x=.returned (.bool false)/\t=G:=RD 0 true t;clear hv hp h3 C hh hj ho f s J HC K ht BW he h6 x3 r HH z hr h7 x5 HL M L x0 hg x4 hq T hs HB;(go_wp2_with fail);refine yd.mono ?_;rintro e G ⟨rfl,rfl⟩;(go_wp2_with fail);refine yu.mono ?_;rintro e G ⟨rfl,rfl⟩;go_wp2_with fail
  try
   (first|(with_reducible refine hR.mono ?_)|(with_reducible refine xj.mono ?_));rintro e G ⟨rfl,rfl⟩;go_wp2
  go_ret;exact hE.out
def PgR(b:List kM)(a:aS)(f c:Int)(d:Bool)(y:aI)(e:eY)(x:aI):Prop:=∃(A:Option Addr)(k n:Nat),e=.returned (.tuple #[.slice A k n,.int .i64 (pgE a f c)])/\wL x (.slice A k n) (pgT b a f c d)/\aR y.heap.size y x
def YB(w:aI):wL w zs []:=⟨Reads.nil _ _,by simp⟩
def QT(h:lG B):∀t∈B.flatMap dO,okT t:=λt d=>by have⟨b,c,a⟩:=lY.1 d;exact(h.uW b c).told t a
def aL6{b:Bool}{t:jU}(h:t∈BE T e a b):t∈T:=by
 unfold BE at h;split at h
 .exact(fL.1 (List.mem_reverse.1 h)).1
 exact(fL.1 h).1
def cb2(h:lG B)(b:aS)(f c:Int)(d:Bool):∀t∈pgT B b f c d,okT t:=λt a=>by
 unfold pgT at a;split at a
 .cases a
 exact QT h t (fL.1 (aL6 a)).1
def cs6(h:lG B)(a:aS)(f c:Int)(d:Bool):(pgT B a f c d).length<=8*B:=by
 unfold pgT;split
 .simp
 have b:=CR h.uW;have e:=zO (B.flatMap dO) a;unfold BE;split
 iterate 2
  ·(try rw[zF]);exact aM (jE _ _) (by omega)
def cF3(h:af1 w n v u (B.flatMap dO) M k)(i:lG B)(m:B.length<=1000)(b:aS)(s:b.size<=1000000)(f c:Int)(r:DI f)(q:DI c)(d:Bool):Calls prog 40 #[zp n,b,f,c,d] w (PgR B b f c d w):=by
 have z:=CR i.uW;go_call bE8 n v u _ M k b f c d w h (by omega) (by unfold maxLen;omega) r q (λt l=>by have:=vH i l;omega) as e x ⟨o,p⟩;unfold PgR pgE pgT;rcases a:KC b f c with _|_
 .obtain⟨C,rfl,j,y⟩:=p a;have g:0<=f/\1<=c:=by unfold KC at a;simp at a;omega
  rw[cj3 (i.row b) g.1 g.2]at j;obtain⟨A,D,rfl,-⟩:=Reads.cX j;refine⟨A,_,D,rfl,⟨Reads.cX j,λt l=>?_⟩,y⟩;exact QT i t (fL.1 (aL6 l)).1
 obtain⟨rfl,rfl⟩:=o a;exact⟨none,0,0,rfl,YB _,iH⟩
def sU(a:Nat)(F:Gh)(r:Nat)(D:aL)(o:iL)(b c:Nat)(f:List kM)(S:Nat)(w:aI)(e:eY)(d:aI):Prop:=e=.returned (.bool true)/\aR a w d/\UO d a F r D o b c f S false
def jH.TS(H:jH w m F k n i j S D o g q v u B d false)(b:m<=w)(a:aR w w x):sU m F k D o g q B d w (.returned true) x:=⟨rfl,⟨a.os,a.tape,a.output,a.size,λe c=>a.block e (aW c b)⟩,n,i,j,S,v,u,H.next a⟩
def jH.boxed(H:jH w m F k n i j S D o g q v u B d false):w.cell? (zp k 1)=zp j/\w.cell? (zp j)=v/\k<w/\j<w:=⟨H.row.qD,H.mod.1.lO,H.row.lt,H.mod.1.lt⟩
def RdS(r g B:Nat)(p:Sp)(z:aI):Prop:=z.cell? ⟨r,1,none⟩=some (.pointer (some ⟨g,0,none⟩))/\z.cell? ⟨B,1,none⟩=some (.string p.n)/\z.cell? ⟨B,2,none⟩=some (.int .i64 p.a)/\z.cell? ⟨B,3,none⟩=some (.int .i64 p.b)
def RdN(g:Nat)(p:Sp)(er n:Int)(L:List jU)(y:aI):Prop:=match p.k with
 |2=>Calls prog 40 #[.pointer (some ⟨g,0,none⟩),.string p.n,.int .i64 p.a,.int .i64 p.b,.bool false] y fun e x=>∃(A:Option Addr)(k c:Nat),e=.returned (.tuple #[.slice A k c,.int .i64 er])/\wL x (.slice A k c) L/\aR y.heap.size y x
 |3=>Calls prog 40 #[.pointer (some ⟨g,0,none⟩),.string p.n,.int .i64 p.a,.int .i64 p.b,.bool true] y fun e x=>∃(A:Option Addr)(k c:Nat),e=.returned (.tuple #[.slice A k c,.int .i64 er])/\wL x (.slice A k c) L/\aR y.heap.size y x
 |4=>L=[]/\Calls prog 41 #[.pointer (some ⟨g,0,none⟩),.string p.n] y fun e x=>e=.returned (.tuple #[.int .i64 n,.int .i64 er])/\aR y.heap.size y x
 |_=>False
def bD7(H:jH w m F k n i j S D o g q v u B d false)(hb:m<=w)(C:lG B)(E:B.length<=1000)(p:Sp)(hk:2<=p.k/\p.k<=5)(Y:p.n.size<=1000000)(ha:DI p.a)(W:DI p.b)(x:An)(hx:(x.r,x.n)=((rdA B p).1,(rdA B p).2.1))(ht:wL w (.slice x.A x.k x.c) (rdA B p).2.2):Calls prog 19 #[zp k,.agg p.c,.agg x.v,true] w (sU m F k D o g q B d w):=by
 obtain⟨G,Z,b0,-,l,c⟩:=au7 w p.c x.v;have X:=CR C.uW;have K:(rdA B p).2.2.length<=1000000:=by
  unfold rdA;split
  iterate 2
   .exact aM (cs6 C _ _ _ _) (by omega)
  .exact bK _
  dsimp only;omega
 have O:=H.next b0;have hC:p.k≠5->∀y:aI,aR G G y->RdN j p x.r x.n (rdA B p).2.2 y:=by
  intro h5 y f;have⟨e1,e2⟩:=Prod.mk.inj hx;unfold RdN rdA at *;have h2:=cF3 (O.mod.r.next f) C E p.n Y p.a p.b ha W;rcases(show p.k=2\/p.k=3\/p.k=4 by omega)with t|t|t
  all_goals
   simp only[t]at e1 e2|-;rw[e1]
  .exact h2 false
  .exact h2 true
  refine⟨trivial,(bE9 j v u _ (kZ B) d p.n y (O.mod.r.next f) (by omega) (by unfold maxLen;omega)).mono ?_⟩;rintro e z ⟨rfl,hz⟩;exact⟨by rw[e2];split<;>rfl,hz⟩
 have h1:(p.k≠4->x.n=0)/\(p.k=5->x.r=0):=by
  have⟨e1,e2⟩:=Prod.mk.inj hx;rw[e1,e2];unfold rdA;constructor
  .intro t;split<;>first|rfl|exact absurd ‹_› t
  intro t;simp only[t]
 have⟨R,HE,HA⟩:=aB (λ(y:aI)(f:aR G G y)=>And.intro (ht.next (aK b0 f)) (c.next f)) (λ(y:aI)(f:aR G G y)=>H.TS hb (aK b0 f)) (And.intro H.mod.r.2.1 (O.mod.r.2.1));generalize hL:(rdA B p).2.2=L at K hC R;have U:p.k=5->L=B.flatMap dO:=λt=>(by rw[<-hL];unfold rdA;simp only[t]);have⟨z1,z2,lr,lg⟩:=H.boxed;have⟨N,Q⟩:=aA (And.intro K (And.intro U X)) (λ(y:aI)(f:aR G G y)=>show RdS k j w p y from⟨(O.next f).row.qD,(l.next f).qD,(l.next f).tW,(l.next f).JF⟩);unfold RdS at Q;have P:=aH hC;have k0:=l.lO;have⟨kd,st,a,b,EA,En,Ec,KA,Kn,Kc,tx⟩:=p;have⟨er,h3,A9,k9,c9⟩:=x;dsimp only[Sp.c,An.v]at *;obtain⟨HK,J⟩:=aA (show(kd=2/\h3=0)\/(kd=3/\h3=0)\/kd=4\/(kd=5/\h3=0/\er=0)from by omega) Z;clear H O l c b0 hb ht C E Y ha W hx K hC hL U hk X Z h1;rcases HK.zz with⟨rfl,rfl⟩|⟨rfl,rfl⟩|rfl|⟨rfl,rfl,rfl⟩
 iterate 3
  .clear z1 z2 lr lg HA HK;go_in;(go_wp2_with fail);rw[<-J.zz];clear J;(go_wp2_with fail);go_region_held3 (λz=>z.cell? (zp k 1)=zp j/\z.cell? (zp w 1)=st/\z.cell? (zp w 2)=a/\z.cell? (zp w 3)=b)
    (first|(exact Q _ s)|(exact Q _ iH.drew)|fail)
    (first|(go_at_call 40;go_call P (by decide) _ iH.drew as e x1 ⟨A1,k1,n1,rfl,M,A⟩;have s:=aK iH.drew A)|(go_at_call 41;refine(P (by decide) _ iH.drew).2.mono ?_;rintro e x1 ⟨rfl,A⟩;have s:=aK iH.drew A;have M:wL x1 zs L:=(by rw[(P.zz (by decide) _ iH).1];exact YB x1)))
   have⟨r,c⟩:=R _ s;have r0:=c.lO;have r1:=c.qD;have r2:=c.tW;have⟨h0,HX⟩:=aA (ap4 _ _ _ _ _ r M ⟨N.1,N.1⟩) s;clear s M r c P R Q A;(go_wp2_with fail);go_call h0 as e x5 ⟨rfl,h⟩;have I:=aH (HE _ (aK HX h));clear h;go_wp2;go_ret;simpa using I.zz
 obtain⟨r,-⟩:=R _ iH;obtain⟨A1,n1,rfl,-⟩:=id HA.1.1;have⟨N9,V⟩:=fR (B.flatMap dO).length;have e5:=N.zz.2.1 rfl;have T:=aH ((ap4 _ _ _ _ _ r HA.2 ⟨N.1,by rw[<-e5];exact N.1⟩).mono (R':=λe w'=>e=true/\sU m F k D o g q B d w (.returned true) w') (by
  rintro e x ⟨rfl,hx⟩;exact⟨by simp[e5],HE _ hx⟩))
 rw[<-V]at z2 T;clear r e5 V HA P R Q HE N HK;go_in;(go_wp2_with fail);rw[<-J.zz];go_call T as e x5 ⟨rfl,h⟩;have I:=aH h;clear h;go_wp2;go_ret;exact I
end Go.Proofs.YtpopikndggffaaaGreatDoor
