/- TOP, part 39. -/
import Derived.Test.YtpopikndggffaaaGreatDoorGt38
namespace Go.Proofs.YtpopikndggffaaaGreatDoor
set_option linter.all false
set_option maxRecDepth 100000
set_option maxHeartbeats 16000000
open Go.RowKit Go.Maps Tryz
def aB7(D:aL)(a:List Int):(D.kJ a).2.bQ=D.bQ:=by unfold aL.kJ;split<;>rfl
def aT0(D:aL)(n:Int)(a:List Int):(D.fail n a).2.bQ=D.bQ:=by
 unfold aL.fail;split
 .rfl
 split<;>rfl
section
variable {w:aI}{base r W q g:Nat}{F:Gh}{h:dV}{D:aL}{G:cS}{I:aZ}{o:iL}{cF aX cap s:Nat}{vL vM:aN}{Bs:List kM}{S:Nat}
def YK(H:jH w base F r W q g h D o cF aX vL vM Bs S false)(P:gW cap aX s D o Bs S)(b:base<=w)(p:Sp)(j:p.k=11)(a:List Int)(C:p.i=a)(k:∀d,aR base w d->Reads d (.slice p.K a p.j) 1 a (rT a))(E:∀n∈a,DI n):Calls prog 11 #[zp r,.agg p.c] w (rW base F r cF aX cap s (λf m e t=>f=(D.kJ a).2/\m=none/\e=Bs/\t=S) w):=by
 refine step_end H P b p (by omega) (by omega) _ _ (λy l=>aB5 (H.next l).pN (aM b l.size) p (by omega) (D.kJ a) (aB7 D a) λz G ⟨u,v,A⟩=>?_) (λ_ x n T f m i=>i.2.2.2.2.trans (aV j)) (λh=>by omega) λx n T f m i=>?_
 .have c:=tQ (GY l b) G;unfold DkN;rw[j,C];exact ac0 VD VE A (aM b c.size) p.K p.j a (λd B=>k d (gX.below c B b)) E
 obtain⟨-,-,-,rfl,rfl⟩:=i;rw[aV j];exact⟨P.kJ a,rfl,rfl,rfl,rfl⟩
def bC4(H:jH w base F r W q g h D o cF aX vL vM Bs S false)(P:gW cap aX s D o Bs S)(c:base<=w)(p:Sp)(v:p.k=12)(m:DI p.a)(a:List Int)(u:p.i=a)(d:a.length<=1000000)(e:∀i,aR base w i->Reads i (.slice p.K a p.j) 1 a (rT a))(x:∀n∈a,DI n):Calls prog 11 #[zp r,.agg p.c] w (rW base F r cF aX cap s (λ_ _ _ _=>True) w):=by
 refine step_end H P c p (by omega) (by omega) _ _ (λy f=>aB5 (H.next f).pN (aM c f.size) p (by omega) (D.fail p.a a) (aT0 D p.a a) λz A ⟨j,k,t⟩=>?_) (λh=>by omega) (λh=>by omega) λC n T B E l=>?_
 .have b:=tQ (GY f c) A;unfold DkN;rw[v,u];exact bP1 t (aM c b.size) p.a _ a (e z b) d x m
 obtain⟨-,-,-,rfl,rfl⟩:=l;rw[aP (by omega)];exact⟨P.fail p.a a,trivial⟩
def bC5(H:jH w base F r W q g h D o cF aX vL vM Bs S false)(P:gW cap aX s D o Bs S)(j:base<=w)(p:Sp)(u:p.k<1\/14<p.k):Calls prog 11 #[zp r,.agg p.c] w (rW base F r cF aX cap s (λ_ _ _ _=>True) w):=by
 match o,H,P with
 |none,H,P=>exact step_end H P j p (by omega) (by omega) _ _ (λy c=>by2 (H.next c).pN p (by omega)) (λh=>by omega) (λ_ b n T a e d=>.inr ⟨rfl,d.1⟩) λb n T a e d=>by obtain⟨-,-,-,rfl,rfl⟩:=d;exact⟨P.shut,trivial⟩
 |some (G,I),H,P=>exact step_end H P j p (by omega) (by omega) _ _ (λy c=>cj4 (H.next c).pN p (by omega) _ (λb n T a f i x B=>by rw[x.1];decide) λz A=>cm1 ((H.next c).pN.next A).1 p u) (λh=>by omega) (λ_ b n T a e ⟨f,i,t,_⟩=>.inl t.1) λb n T a e ⟨f,i,⟨_,_,_,k,l,m⟩,v⟩=>by subst k l m;exact⟨P.same v,trivial⟩
end
section
variable {w:aI}{base r W q g:Nat}{F:Gh}{h:dV}{D:aL}{G:cS}{I:aZ}{o:iL}{cF aX cap s:Nat}{vL vM:aN}{Bs:List kM}{S:Nat}
def cr2(H:jH w base F r W q g h D none cF aX vL vM Bs S false)(P:gW cap aX s D none Bs S)(i:base<=w)(p:Sp)(C:1<=p.k/\p.k<=8):Calls prog 11 #[zp r,.agg p.c] w (λe z=>e=true/\at9 base F r cF aX cap s w z):=tY H i p C _ _ (λy G=>by2 (H.next G).pN p (by omega)) λx a B=>by have⟨u,n,A,k,c⟩:=a;obtain⟨T,K,M,I,v,⟨j,l,m,o,t⟩,R,b,d⟩:=B;subst m o t;obtain⟨J,L,E,-⟩:=Reads.cX d;obtain rfl:k=0:=(eJ E).2.1;obtain rfl:u=61:=j;obtain rfl:n=0:=l;exact(bd9 p A c).mono λe z f=>⟨f.1,tQ b (GY f.2 (aM i b.size)),_,_,Bs,S,false,⟨W,I,g,v,vL,vM,R.next f.2⟩,λ_=>P.shut⟩
def aL5(L:bH):(xE (jY L)=.tuple #[.int .u8 0,(),false]/\¬isT L)\/(∃k,jY L=some (98,k))\/(∃k:Nat,xE (jY L)=.tuple #[.int .u8 116,k,true]/\isT L)\/(∃(c:Int)(k:Nat),xE (jY L)=.tuple #[.int .u8 c,k,true]/\c≠98/\c≠116/\¬isT L):=by
 cases b:jY L with
 |none=>exact .inl ⟨rfl,λ⟨k,f⟩=>by rw[b]at f;cases f⟩
 |some x=>
  have⟨c,k⟩:=x;by_cases d:c=98
  .subst d;exact .inr (.inl ⟨k,rfl⟩)
  by_cases a:c=116
  .subst a;exact .inr (.inr (.inl ⟨k,rfl,⟨k,b⟩⟩))
  refine .inr (.inr (.inr ⟨c.toNat,k,rfl,λg=>d ?_,λg=>a ?_,λ⟨j,e⟩=>a ?_⟩))
  .exact AR.1 (by have:(98:bB).toNat=98:=rfl;omega)
  .exact AR.1 (by have:(116:bB).toNat=116:=rfl;omega)
  rw[b]at e;exact(Prod.mk.inj (cJ e)).1
def bc9(H:jH w base F r W q g h D o cF aX vL vM Bs S false)(P:gW cap aX s D o Bs S)(hb:base<=w)(p:Sp)(hk:p.k=13\/p.k=14)(hst:p.n.size<=1000000)(ha:DI p.a):Calls prog 11 #[zp r,.agg p.c] w (λe z=>e=true/\at9 base F r cF aX cap s w z):=by
 have HD:∀(y:aI)(q':Nat)(h':dV),iY y base W q' h' D o cF aX->aR base w y->Calls prog 17 #[zp W,.agg p.c] y (tV base W q' h' o cF aX (λer n T D' o'=>sF D (lb p.n) D'/\o'=o) y):=by
  intro y q' h' HW hy;have key:∃R:Int×aL,sF D (lb p.n) R.2/\∀z:aI,(∃blk dat,bJ z base h'.d h'.m D blk dat)->DkN base h' p R z:=by
   unfold DkN;rcases hk with hk|hk
   .exact⟨D.aH6 (lb p.n) p.a (lb p.t),bC9 P.eI.1 _ _ _,λz ⟨blk,dat,hd⟩=>by rw[hk];exact bo5 hd p.n p.t (by unfold maxLen;omega) p.a ha⟩
   exact⟨D.cut (lb p.n) p.a,cy6 D _ _,λz ⟨blk,dat,hd⟩=>by rw[hk];exact ck1 hd p.n (by unfold maxLen;omega) p.a ha⟩
  have⟨R,hrel,hR⟩:=key;go_call aB5 HW (aM hb hy.size) p (by omega) R hrel.same.2.1 λz _ h9=>hR z h9 as e z ⟨er,n,A,k,c,T,D',o',h1,⟨-,-,-,rfl,rfl⟩,h3,h4⟩;exact⟨er,n,A,k,c,T,_,_,h1,⟨hrel,aP (by omega)⟩,h3,h4⟩
 refine av6 H p hk _ λy hy=>?_;have HY:=H.next hy;have hby:base<=y:=aM hb hy.size;have hwy:=GY hy hb;have fin:∀(e:eY)(z:aI),((∃bb,e=.returned (.bool bb))/\JA base F r o cF aX cap s y z)->((∃bb,e=.returned (.bool bb))/\at9 base F r cF aX cap s w z):=λ_ _ ⟨h9,h1,D',Bs',S',brk,h2,h3⟩=>⟨h9,tQ hwy h1,D',o,Bs',S',brk,h2,h3⟩;have HDy:=λ(z:aI)(q':Nat)(h':dV)(HW:iY z base W q' h' D o cF aX)(hz:aR base y z)=>HD z q' h' HW (tQ hwy hz);have rest:∀(c k:Int)(ok:Bool),xE (jY (lb p.n))=.tuple #[.int .u8 c,k,ok]->(ok=false\/(ok=true/\(c==98)=false))->(isT (lb p.n)↔(ok=true/\(c==116)=true))->Calls prog 16 #[zp r,.agg p.c] y (λe z=>(∃bb,e=.returned (.bool bb))/\at9 base F r cF aX cap s w z):=λc k ok hpv hok hT=>by
  have no:=λhc=>(bC8 HY hby P p hst c k ok hpv hok hc).mono λe z h9=>fin e z h9;match o,HY,P,HDy,fin,no with
  |some (G,I),HY,P,HDy,fin,no=>exact no (.inl rfl)
  |none,HY,P,HDy,fin,no=>
   cases hdn:D.down with
   |true=>exact no (.inr (.inl ⟨rfl,hdn⟩))
   |false=>
    have yes:=λhm=>(bd2 HY hby P p hst c k ok hpv hok hdn hm HDy).mono λe z h9=>fin e z h9;by_cases hm:lb p.n=fE
    .exact yes (.inl hm)
    by_cases hTT:isT (lb p.n)
    .exact yes (.inr ⟨hm,hTT,hT.1 hTT⟩)
    exact no (.inr (.inr ⟨rfl,hdn,hm,λh8=>by
     cases h7:(c==116)with
     |false=>rfl
     |true=>exact absurd (hT.2 ⟨h8,h7⟩) hTT⟩))
 rcases aL5 (lb p.n)with⟨h1,h2⟩|⟨k,h1⟩|⟨k,h1,h2⟩|⟨c,k,h1,h2,h3,h4⟩
 .exact rest 0 0 false h1 (.inl rfl) ⟨λh9=>absurd h9 h2,λh9=>by cases h9.1⟩
 .exact(bV8 HY hby P p hst k h1 HDy).mono λe z h9=>fin e z h9
 .exact rest 116 k true h1 (.inr ⟨rfl,rfl⟩) ⟨λ_=>⟨rfl,rfl⟩,λ_=>h2⟩
 exact rest c k true h1 (.inr ⟨rfl,by rw[bA];exact h2⟩) ⟨λh9=>absurd h9 h4,λh9=>absurd (by simpa using h9.2) h3⟩
end
variable{d i j k m n:Nat}{w x:aI}{D:aL}{I:aZ}{G:cS}{o:iL}
def bz8(d b c:Nat)(w:aI)(e:eY)(z:aI):Prop:=∃(a r:Nat)(D:aL)(o:iL),e=.returned (.tuple #[.pointer (some ⟨r,0,none⟩),.bool true])/\w.heap.size<=a/\a<=z.heap.size/\aR w.heap.size w z/\o.isSome=true/\UO z a Gh.no r D o d b [] 0 false/\gW c b 1 D o [] 0/\nY c b 0 (aL.uL c) [] 0 0 o D
def bX2(c:n<=1048576)(b:6000<=n)(a:k<18446744073709551616):gW n k 0 (aL.uL n) none [] 0:=⟨c,a,rfl,cV 0,WO,dQ,dQ,WD b⟩
def be6(f:n<=1048576)(b:6000<=n)(a:k<18446744073709551616)(h:nY n k 0 (aL.uL n) [] 0 0 (some (G,I)) D):gW n k 1 D (some (G,I)) [] 0:=by
 have d:QO (aL.uL n)=aL.uL n:=bb2 rfl;rcases(bX2 f b a).open_ (by rw[d];exact h)with⟨-,e,-⟩|⟨-,i,j,l,e,g,-,P⟩
 .cases e
 have c:l=0:=(by simpa using g);subst c;exact P
def cr7{S:dV}(H:iY w k n m S D o i j)(l:k<=w):jH ((w.alloc (.cells #[zs,zs,()] 48)).alloc (.cells #[zp n,zp w,false] 52)) k Gh.no (w+1) n m w S D o i j zs zs [] 0 false:=by
 have p:=Row.new w #[zs,zs,()] 48;have h:=cD w (.cells #[zs,zs,()] 48);have e:=Row.new (w.alloc (.cells #[zs,zs,()] 48)) #[zp n,zp w,false] 52;have g:=cD (w.alloc (.cells #[zs,zs,()] 48)) (.cells #[zp n,zp w,false] 52);have f:(w.alloc (.cells #[zs,zs,()] 48)).heap.size=w+1:=(by simp);rw[f]at e;have d:=tQ h (GY g (by omega));have c:=p.next g;refine⟨e,by omega,(H.next d).1,⟨c,l,.inl (bM _ _ _ _),.inl (bM _ _ _ _),λt r=>by cases r⟩,λs q=>?_,λs b a=>by cases a⟩;rcases q with rfl|rfl|a|a
 .exact H.fresh d e vR.1 (by omega)
 .exact H.fresh d c vR.2.1 dQ
 .cases a
 cases a
def VT(n a b:Nat)(w:aI)(H:n<=65535)(d:a<18446744073709551616):Calls prog 10 #[.agg #[zu a,.float .f64 b,.int .u16 (n:Nat)]] w (bz8 b a (6000+4*n) w):=by have c:((6000+4*n:Nat):Int)=6000+(n:Int)*4:=(by omega);have f:6000+4*n<=1048576:=(by omega);have g:6000<=6000+4*n:=(by omega);have p:=cD w (.cells #[zu a,.float .f64 b,.int .u16 (n:Nat)] 27);have i:(w.alloc (.cells #[zu a,.float .f64 b,.int .u16 (n:Nat)] 27)).heap.size=w+1:=bD _ _;have j:=ba5 (w:=w.alloc (.cells #[zu a,.float .f64 b,.int .u16 (n:Nat)] 27)) (cap:=6000+4*n) (aX:=a) (s:=0) (cF:=b) f g d;rw[c]at j;have m:=aH (And.intro f (And.intro g d));have J:IntKind.i64.wrap ((n:Int)*4)=(n:Int)*4:=(by rw[cQ];omega);have K:IntKind.i64.wrap (6000+(n:Int)*4)=6000+(n:Int)*4:=(by rw[cQ];omega);generalize k:(w.alloc (.cells #[zu a,.float .f64 b,.int .u16 (n:Nat)] 27))=F at j p i;have⟨o,z,E⟩:=aB k p i;generalize l:6000+4*n=r at j m|-;unfold bz8;unfold ae8 at j;clear p i c f g k l;go_in;(go_wp2_with fail);rw[o.zz];go_call j as e x ⟨W,q,h,G,I,A,rfl,t,y,u⟩;have⟨D,B,C,v⟩:=aC (cr7 y u.size) (be6 m.1 m.2.1 m.2.2 t) t u;clear t y u j;go_wp2;go_ret2;refine⟨F,x.heap.size+1,A,some (G,I),rfl,by have:=E.zz;omega,?_,aK z (aK v (aK (cD _ _) (cD _ _))),rfl,⟨W,q,x,h,_,_,D⟩,B,C⟩;have:=v.size;rw[bD,bD];omega
variable{b:kM}
def cw1(o:List dB)(e:dB):pW o e≠[]:=by
 unfold pW;split
 .rename_i h;intro a;rw[a]at h;simp at h
 simp
def ai7:∀(l:List dB)(o:List dB),(l≠[]\/o≠[])->l.foldl pW o≠[]:=λl=>by
 induction l with
 |nil=>intro o h;rcases h with h|h;exact absurd rfl h;exact h
 |cons e l a=>intro o _;exact a _ (.inr (cw1 o e))
def cl9(h:uV b):lH (jG b)=b:=by have c:=YL h.2 h.1 [];have d:jG b=wS b:=(by unfold jG;rw[aV h.2]);obtain⟨-,-,a,-⟩:=aw8 h.2 h.1 [];rw[gM]at c a;unfold lH;rw[aV (by rw[c];rfl),d];exact a
def ci8(h:uV b)(a k:Nat):uY a (k,jG b)≠[]:=by unfold uY;simp only;rw[cl9 h];have e:=h.range;intro f;have c:=gQ List.length f;simp at c;have d:=e.1;rw[c]at d;simp at d
def bu2(L:List dB):(lU L).length<=12+24*L:=by
 unfold lU;split
 .rename_i h;unfold tN at h;simp only[bL]at h;have a:=qG h.2;rw[oK];unfold JY oG;simp only[aO,a];simp;omega
 simp
def aA1(I:aZ)(G:cS)(D:aL)(f:bH):(jS I G D f).2.2.1.bV=G.bV:=by
 unfold jS;split
 .exact vU G D
 split
 .exact vU G D
 split
 .exact vU G D
 exact vU G D
def ak1(G:cS)(D:aL)(p:bH):(iE G D p).2.2.1.bV.length<=G.bV+1:=by
 have a:=vU G D;unfold iE;split
 .exact gI _
 split
 .unfold pM;split
  .exact gI _
  split
  .exact gI _
  simp
 unfold pX;split
 .exact gI _
 split
 .simp only;rw[a];exact gI _
 split
 .simp only;rw[a];exact gI _
 simp only;rw[a];simp
structure Kn(a aX s u c n:Nat)(L:mX)(D:aL)(G:cS)(I:aZ)(b:List kM)(S:Nat):Prop where
 P:gW a aX s D (some (G,I)) b S
 calm:Calm D
 used:dZ D.files<=u
 bV:G.bV.length<=c
 next:I.cZ.next=n
 fP:I.cZ.fP=L
section
variable {cap aX s u c n S S':Nat}{L:mX}{D D':aL}{G:cS}{I:aZ}{o':iL}{Bs Bs':List kM}
def Kn.GV(K:Kn cap aX s u c n L D G I Bs S)(j:s<90):I.mem.length<=8*Bs:=by have i:=K.P.yG;have⟨C,P⟩:=K.P.wX.stP K.P.mU (by omega) K.P.sX;have⟨k,Q,a⟩:=P.ix;have f:=uS (vK a.PQ) λe b=>(a.all e).1 (.inl b);have g:=CU (aX:=aX) (R:=dF C) λr d=>(P.GV.2 r d).2;have h:(dF C).length=Bs:=(by rw[sA,P.same,gK]);omega
def Kn.append(K:Kn cap aX s u c n L D G I Bs S){st:aS}{x:Int}{l:List Ev}(h0:nP (Bs.flatMap dO) st x l=0)(hf:uV (st,(n6 Bs st:Int),l))(hc:c<200)(hu:u+8024<=cap)(hP:gW cap aX (s+1) D' o' Bs' S')(hx:S'=S/\∃er n T,G8 (bS0 D G I aX Bs st x l) er n T D' o'/\Bs'=FU Bs st x l er):Bs'=Bs++[(st,(n6 Bs st:Int),l)]/\S'=S/\∃G' I',o'=some (G',I')/\I'.mem≠[]/\Kn cap aX (s+1) (u+2024) (c+1) n L D' G' I' Bs' S':=by
 obtain⟨rfl,er,n1,T,⟨G1,I1,⟨-,hq⟩,ho⟩,rfl⟩:=hx;have hl:=bg6 hf;have hcost:=aC9 (G:=G) K.calm (jG (st,(n6 Bs st:Int),l));have hsz:=ak1 G D (jG (st,(n6 Bs st:Int),l));have hlaw:=(SU K.P.wX hl).it;have hcap:=K.P.tA;have h1:=K.used;have h2:=K.bV;rcases hq with⟨h9,-⟩|⟨-,h3,-⟩|⟨-,h3,rfl,-,rfl,rfl,rfl⟩
 .exact absurd h0 h9
 .exfalso;rcases hlaw with⟨-,h8⟩|⟨h8,-⟩|⟨h8,-⟩
  .omega
  .exact h3 h8
  exact hcost.err h8
 have hup:=hcost.calm.up;have hb:FU Bs st x l 0=Bs++[(st,(n6 Bs st:Int),l)]:=QC h0 (by decide);rcases ho with⟨h8,-⟩|⟨-,rfl⟩
 .simp only at hup;rw[hup]at h8;cases h8
 exact⟨hb,rfl,_,_,rfl,ai7 _ _ (.inl (ci8 hf _ _)),hP,hcost.calm,by have:=hcost.used;simp only at this;omega,by omega,K.next,K.fP⟩
def Kn.index(K:Kn cap aX s u c n L D G I Bs S)(l:s<90)(q:I.mem≠[])(y:L.flatten.length<40)(M:Bs.length<=3)(P:u+8000<=cap)(z:gW cap aX (s+1) D' o' Bs' S')(C:∃i n T,G8 (bR9 D G I) i n T D' o'/\Bs'=Bs/\S'=tF Bs S 7 i):Bs'=Bs/\S'=Bs/\∃o h,o'=some (o,h)/\bO D'.files fE=some ⟨iS h.cZ,iS h.cZ⟩/\Kn cap aX (s+1) (u+1400) c (n+1) (pY L n) D' o h Bs' S':=by
 obtain⟨i,Q,T,⟨F,H,⟨-,-,f,N,rfl,rfl,rfl,rfl⟩,B⟩,rfl,rfl⟩:=C;have t:=K.GV l;have O:=bu2 I.mem;have A:=K.P.yG;have k:=K.P.wX.aA2 K.P.mU (by omega) l K.P.sX;have b:¬40<=I.cZ.fP.flatten.length:=(by rw[K.fP];omega);have r:=IN (k.ok b q);have d:=aS6 (G:=G) (I:=I) K.calm f;have p:=K.P.tA;have J:=K.used;have x:=K.bV;have e:¬FA D I.mem f:=by unfold FA;omega
 have v:(jS I G D f).1=0:=by
  rcases NN K.P.wX (rG K.P.mU.uW) l K.P.sX f with⟨-,-,j⟩|⟨j,-⟩
  .rcases j with⟨a,-⟩|⟨-,a,-⟩|⟨a,-⟩
   .exact a
   .rcases a with a|a
    .exact absurd a e
    exact absurd a b
   rcases a with⟨-,a⟩|a
   .rcases a with a|a
    .exact absurd a e
    exact absurd a b
   exact absurd a d.err
  exact absurd j d.err
 have⟨w,E⟩:=bN6 K.calm q v;have g:=d.calm.up;have m:tF Bs' S 7 (jS I G D f).1=Bs':=aV ⟨v,by decide⟩;rcases B with⟨a,-⟩|⟨-,rfl⟩
 .simp only at g;rw[g]at a;cases a
 refine⟨rfl,m,_,_,rfl,E,z,d.calm,?_,?_,?_,?_⟩
 .have:=d.used;simp only at this;omega
 .rw[aA1];exact x
 .rw[w,<-K.next]
 rw[w,<-K.next,<-K.fP]
def Kn.merge(K:Kn cap aX s u c n L D G I Bs S)(p:s<90)(m:L.getD 0 []≠[])(z:L.flatten.length<40)(q:∀k∈L.getD 0 [],k<=999999)(O:Bs.length<=3)(R:u+8000<=cap)(A:gW cap aX (s+1) D' o' Bs' S')(E:∃t n T,G8 (cn1 D G I 0) t n T D' o'/\Bs'=Bs/\S'=S):Bs'=Bs/\S'=S/\∃r i,o'=some (r,i)/\bO D'.files fE=some ⟨iS i.cZ,iS i.cZ⟩/\Kn cap aX (s+1) (u+1400) c (n+1) (mZ L 0 n) D' r i Bs' S':=by
 obtain⟨t,U,T,⟨J,M,⟨-,-,f,P,rfl,rfl,rfl,rfl⟩,C⟩,rfl,rfl⟩:=E;have B:=K.P.yG;have l:¬((0:Int)<0\/(5:Int)<=0):=(by omega);have b:I.cZ.fP.getD (0:Int).toNat []≠[]:=(by rw[K.fP];exact m);have w:=K.P.wX.ZL K.P.mU (by omega) p K.P.sX 0 l b;have o:=(K.P.wX.bw3 K.P.mU (by omega) p K.P.sX 0).ok l b;have Q:=bu2 (kI ((I.cZ.fP.getD (0:Int).toNat []).map λn=>(I.fI n).getD []));have x:=IN o.1;have j:=aO8 (I:=I) K.calm 0 f;have v:=K.P.tA;have N:=K.used;have e:¬40<=I.cZ.fP.flatten.length:=(by rw[K.fP];omega);have g:¬FA D (kI ((I.cZ.fP.getD (0:Int).toNat []).map λn=>(I.fI n).getD [])) f:=by unfold FA;omega
 have F:(lK I D 0 f).1=0:=by
  rcases U4 K.P.wX (rG K.P.mU.uW) p K.P.sX 0 f with⟨-,d⟩|⟨-,-,d⟩|⟨-,-,-,-,d⟩
  .exact absurd d l
  .exact absurd d b
  simp only at d;rcases d with⟨a,-⟩|⟨-,a,-⟩|⟨a,-⟩
  .exact a
  .rcases a with a|a
   .exact absurd a g
   exact absurd a e
  rcases a with⟨-,a⟩|a
  .rcases a with a|a
   .exact absurd a g
   exact absurd a e
  exact absurd a j.err
 obtain⟨y,-,H⟩:=bK0 K.calm l b (by rw[K.fP];exact q) F;have h:=j.calm.up;rcases C with⟨a,-⟩|⟨-,rfl⟩
 .simp only at h;rw[h]at a;cases a
 refine⟨rfl,rfl,_,_,rfl,H,A,j.calm,?_,K.bV,?_,?_⟩
 .have:=j.used;simp only at this;omega
 .rw[y,<-K.next]
 rw[y,<-K.next,<-K.fP];rfl
def Kn.cF2(K:Kn cap aX s u c n L D G I Bs S)(i:bO D.files fE=some ⟨iS I.cZ,iS I.cZ⟩){a:List Int}{k:Nat}{e:Int}(h:nY cap aX k (QO (D.kJ a).2) Bs S e o' D'):e=0/\∃l f,o'=some (l,f)/\f.cZ.next=n:=by
 have F:=K.P.yG;have p:D.kJ a=(0,D.crashed a):=(by unfold aL.kJ;rw[K.calm.up,aP (by simp)]);rw[p]at h;have q:QO (0,D.crashed a).2={D.crashed a with down:=false,bQ:=D.bQ+1}:=by unfold QO aL.start aL.crashed;rfl
 rw[q]at h;have x:=K.P.wX.sys.oW;have j:=iW.kJ VW x.sync a;have d:Calm {D.crashed a with down:=false,bQ:=D.bQ+1}:=⟨rfl,rfl,ac5 K.calm.kV a⟩;rcases h.it with⟨o,-⟩|⟨o,l,f,V,w,-⟩
 .exact absurd o (h.calm d)
 refine⟨o,l,f,w,?_⟩;have⟨C,O,J,E,b⟩:=K.P.wX.st;have⟨t,m,r,z⟩:=j.sure NL i dQ;have A:=(x.kJ a).sync _ _ m;have H:t=⟨iS I.cZ,iS I.cZ⟩:=by have⟨P,B⟩:=t;simp only at r z A;subst r;have:B=(iS I.cZ):=(by omega);rw[this]
 rw[H]at m;rw[<-K.next];refine h.next I.cZ l f w b.cZ b.zQ m λV v=>?_;have⟨y,U,N⟩:=b.fI V v;obtain⟨⟨Q,R⟩,T,M⟩:=mM.1 b.cZ;have g:V<=999999:=(by have:=M V v;omega);exact⟨g,y,N.stay g j⟩
end
variable{F:Gh}{B:List kM}
def stA:aS:=⟨#[97]⟩
def stB:aS:=⟨#[98]⟩
def evK:Ev:=(⟨#[116]⟩,ByteArray.empty,4607182418800017408)
def U8:kM:=(stA,0,[evK])
def XA:kM:=(stB,0,[evK])
def ai5:kM:=(stB,1,[evK])
def cC5:okV evK:=⟨by decide,by decide,by decide⟩
def bn6(a:aS)(n:Int)(b:a=stA\/a=stB)(d:n=0\/n=1):uV (a,n,[evK]):=by
 refine⟨⟨?_,by simp only;omega,λe c=>by rw[bP.1 c];exact cC5⟩,?_⟩
 .rcases b with rfl|rfl
  .exact(show stA<=Go.maxLen by decide)
  exact(show stB<=Go.maxLen by decide)
 rcases b with rfl|rfl<;>rcases d with rfl|rfl<;>decide
def KnS(i:Nat)(D:aL)(o:iL)(Bs:List kM)(S:Nat):Prop:=match i with
 |0=>∃G I,o=some (G,I)/\Kn 42000 0 1 0 0 0 [] D G I Bs S/\Bs=[]
 |1=>∃G I,o=some (G,I)/\Kn 42000 0 2 2024 1 0 [] D G I Bs S/\Bs=[U8]
 |2=>∃G I,o=some (G,I)/\Kn 42000 0 3 4048 2 0 [] D G I Bs S/\Bs=[U8,XA]/\I.mem≠[]
 |3=>∃G I,o=some (G,I)/\Kn 42000 0 4 5448 2 1 (pY [] 0) D G I Bs S/\Bs=[U8,XA]
 |4=>∃G I,o=some (G,I)/\Kn 42000 0 5 7472 3 1 (pY [] 0) D G I Bs S/\Bs=[U8,XA,ai5]/\I.mem≠[]
 |5=>∃G I,o=some (G,I)/\Kn 42000 0 6 8872 3 2 (pY (pY [] 0) 1) D G I Bs S/\Bs=[U8,XA,ai5]/\S=3
 |6=>∃G I,o=some (G,I)/\Kn 42000 0 7 10272 3 3 (mZ (pY (pY [] 0) 1) 0 2) D G I Bs S/\Bs=[U8,XA,ai5]/\S=3/\bO D.files fE=some ⟨iS I.cZ,(iS I.cZ).length⟩
 |7=>∃G I,o=some (G,I)/\Kn 42000 0 8 10272 3 3 (mZ (pY (pY [] 0) 1) 0 2) D G I Bs S/\Bs=[U8,XA,ai5]/\S=3/\bO D.files fE=some ⟨iS I.cZ,(iS I.cZ).length⟩
 |8=>∃G I,o=some (G,I)/\Kn 42000 0 9 10272 3 3 (mZ (pY (pY [] 0) 1) 0 2) D G I Bs S/\Bs=[U8,XA,ai5]/\S=3/\bO D.files fE=some ⟨iS I.cZ,(iS I.cZ).length⟩
 |9=>∃D0 G I,Kn 42000 0 9 10272 3 3 (mZ (pY (pY [] 0) 1) 0 2) D0 G I Bs S/\Bs=[U8,XA,ai5]/\S=3/\bO D0.files fE=some ⟨iS I.cZ,(iS I.cZ).length⟩/\D=(D0.kJ []).2/\o=none
 |_=>∃G I,o=some (G,I)/\I.cZ.next=3/\Bs=[U8,XA,ai5]
def bt3(E:Nat):Nat->wN
 |0=>((.slice (some ⟨E,0,none⟩) 1 1,.slice none 0 0),⟨1,stA,-1,0,[evK],[],ByteArray.empty⟩)
 |1=>((.slice (some ⟨E,0,none⟩) 1 1,.slice none 0 0),⟨1,stB,-1,0,[evK],[],ByteArray.empty⟩)
 |2=>((.slice none 0 0,.slice none 0 0),⟨7,ByteArray.empty,0,0,[],[],ByteArray.empty⟩)
 |3=>((.slice (some ⟨E,0,none⟩) 1 1,.slice none 0 0),⟨1,stB,0,0,[evK],[],ByteArray.empty⟩)
 |4=>((.slice none 0 0,.slice none 0 0),⟨7,ByteArray.empty,0,0,[],[],ByteArray.empty⟩)
 |5=>((.slice none 0 0,.slice none 0 0),⟨8,ByteArray.empty,0,0,[],[],ByteArray.empty⟩)
 |6=>((.slice none 0 0,.slice none 0 0),⟨4,stA,0,0,[],[],ByteArray.empty⟩)
 |7=>((.slice none 0 0,.slice none 0 0),⟨2,stB,0,9,[],[],ByteArray.empty⟩)
 |8=>((.slice none 0 0,.slice none 0 0),⟨11,ByteArray.empty,0,0,[],[],ByteArray.empty⟩)
 |9=>((.slice none 0 0,.slice none 0 0),⟨9,ByteArray.empty,0,0,[],[],ByteArray.empty⟩)
 |_=>((.slice none 0 0,.slice none 0 0),⟨5,ByteArray.empty,0,0,[],[],ByteArray.empty⟩)
def Kn.read{C:mX}{g:Nat}(K:Kn n i m j k d C D G I B g)(P:gW n i (m+1) D (some (G,I)) B g):Kn n i (m+1) j k d C D G I B g:=⟨P,K.calm,K.used,K.bV,K.next,K.fP⟩
def bB4(a:3<=n):([U8,XA,ai5]:List kM).take n=[U8,XA,ai5]:=aT a
def KnW(a:Nat)(F:Gh)(r i:Nat)(wr:aI):Prop:=∃D o b S,UO wr a F r D o 0 0 b S false/\gW 42000 0 (i+1) D o b S/\KnS i D o b S
def KnT(a:Nat)(F:Gh)(r i:Nat)(wr:aI)(e:eY)(z:aI):Prop:=e=.returned (.bool true)/\aR a wr z/\KnW a F r (i+1) z
abbrev kp(k:Int)(n:aS)(b:Int):Sp:=⟨k,n,0,b,none,0,0,none,0,0,ByteArray.empty⟩
abbrev kq(n:aS)(a:Int)(E:Nat):Sp:=⟨1,n,a,0,some ⟨E,0,none⟩,1,1,none,0,0,ByteArray.empty⟩
def i0:DI 0:=by unfold DI;omega
def cf5{wr:aI}(N:i<11)(h:KnW n F k i wr)(x:n<=wr)(hE:∀B:aI,(∀Y J,F Y=some J->B.heap[Y]?=J)->Y2 B (.slice (zp m) 1 1) [evK]):Calls prog 11 #[zp k,.agg (cB8 (bt3 m i))] wr (KnT n F k i wr):=by
 obtain⟨D,o,Q,S,⟨W,q,g,h,V,X,R⟩,P,f⟩:=h;match i,N,f,P with
 |0,_,f,P=>
  obtain⟨G,I,rfl,K,rfl⟩:=f;go_call E9 R P (by omega) x (kq stA (-1) m) rfl (show stA.size<=1000000 by decide) (show DI (-1)by unfold DI;omega) [evK] (λB _ E=>hE B E) (by decide) as e z ⟨rfl,a,j,p,c,l,b,d,v⟩;have⟨t,A,r,s,u,C,w⟩:=K.append (by dsimp only[kq];decide) (bn6 _ _ (.inl rfl) (.inl rfl)) (by omega) (by omega) d v;exact⟨rfl,a,j,p,c,l,b,d,r,s,u,w,t⟩
 |1,_,f,P=>
  obtain⟨G,I,rfl,K,rfl⟩:=f;go_call E9 R P (by omega) x (kq stB (-1) m) rfl (show stB.size<=1000000 by decide) (show DI (-1)by unfold DI;omega) [evK] (λB _ E=>hE B E) (by decide) as e z ⟨rfl,a,j,p,c,l,b,d,v⟩;have⟨t,A,r,s,u,C,w⟩:=K.append (by dsimp only[kq];decide) (bn6 _ _ (.inr rfl) (.inl rfl)) (by omega) (by omega) d v;exact⟨rfl,a,j,p,c,l,b,d,r,s,u,w,t,C⟩
 |2,_,f,P=>
  obtain⟨G,I,rfl,K,rfl,y⟩:=f;go_call OX R P (by omega) x (kp 7 ByteArray.empty 0) rfl as e z ⟨rfl,a,j,p,c,l,b,d,v⟩;have⟨t,A,r,s,u,C,w⟩:=K.index (by omega) y (by decide) (by decide) (by omega) d v;exact⟨rfl,a,j,p,c,l,b,d,r,s,u,w,t⟩
 |3,_,f,P=>
  obtain⟨G,I,rfl,K,rfl⟩:=f;go_call E9 R P (by omega) x (kq stB (0) m) rfl (show stB.size<=1000000 by decide) (show DI (0)by unfold DI;omega) [evK] (λB _ E=>hE B E) (by decide) as e z ⟨rfl,a,j,p,c,l,b,d,v⟩;have⟨t,A,r,s,u,C,w⟩:=K.append (by dsimp only[kq];decide) (bn6 _ _ (.inr rfl) (.inr rfl)) (by omega) (by omega) d v;exact⟨rfl,a,j,p,c,l,b,d,r,s,u,w,t,C⟩
 |4,_,f,P=>
  obtain⟨G,I,rfl,K,rfl,y⟩:=f;go_call OX R P (by omega) x (kp 7 ByteArray.empty 0) rfl as e z ⟨rfl,a,j,p,c,l,b,d,v⟩;have⟨t,A,r,s,u,C,w⟩:=K.index (by omega) y (by decide) (by decide) (by omega) d v;exact⟨rfl,a,j,p,c,l,b,d,r,s,u,w,t,A⟩
 |5,_,f,P=>
  obtain⟨G,I,rfl,K,rfl,rfl⟩:=f;go_call YJ R P (by omega) x (kp 8 ByteArray.empty 0) rfl i0 as e z ⟨rfl,a,j,p,c,l,b,d,v⟩;have⟨t,A,r,s,u,C,w⟩:=K.merge (by omega) (by decide) (by decide) (by decide) (by decide) (by omega) d v;exact⟨rfl,a,j,p,c,l,b,d,r,s,u,w,t,A,C⟩
 |6,_,f,P=>
  obtain⟨G,I,rfl,K,rfl,rfl,y⟩:=f;go_call IJ R P (by omega) x (kp 4 stA 0) (show(2:Int)<=4/\(4:Int)<=5 by decide) (show stA.size<=1000000 by decide) i0 i0 as e z ⟨rfl,a,j,p,c,l,b,d,rfl,rfl,rfl,rfl⟩;exact⟨rfl,a,_,_,_,_,b,d,G,I,rfl,K.read d,rfl,rfl,y⟩
 |7,_,f,P=>
  obtain⟨G,I,rfl,K,rfl,rfl,y⟩:=f;go_call IJ R P (by omega) x (kp 2 stB 9) (show(2:Int)<=2/\(2:Int)<=5 by decide) (show stB.size<=1000000 by decide) i0 (show DI 9 by unfold DI;omega) as e z ⟨rfl,a,j,p,c,l,b,d,rfl,rfl,rfl,rfl⟩;exact⟨rfl,a,_,_,_,_,b,d,G,I,rfl,K.read d,rfl,rfl,y⟩
 |8,_,f,P=>
  obtain⟨G,I,rfl,K,rfl,rfl,y⟩:=f;go_call YK R P x (kp 11 ByteArray.empty 0) rfl [] rfl (λB _=>Reads.nil _ _) (λZ H=>by cases H) as e z ⟨rfl,a,j,p,c,l,b,d,rfl,rfl,rfl,rfl⟩;exact⟨rfl,a,_,_,_,_,b,d,D,G,I,K,rfl,rfl,y,rfl,rfl⟩
 |9,_,f,P=>
  obtain⟨T,G,I,K,rfl,rfl,y,rfl,rfl⟩:=f;go_call al7 R P x (kp 9 ByteArray.empty 0) (by omega) rfl as e z ⟨rfl,a,j,p,c,l,b,d,U,v,O⟩;have⟨t,r,s,A,u⟩:=K.cF2 y v;obtain⟨Y,-,L,M,-⟩:=O t;exact⟨rfl,a,j,p,c,l,b,d,r,s,A,u,M.trans (bB4 L)⟩
 |10,_,f,P=>
  obtain⟨G,I,rfl,H,rfl⟩:=f;go_call IJ R P (by omega) x (kp 5 ByteArray.empty 0) (show(2:Int)<=5/\(5:Int)<=5 by decide) (show ByteArray.empty.size<=1000000 by decide) i0 i0 as e z ⟨rfl,a,j,p,c,l,b,d,rfl,rfl,rfl,rfl⟩;exact⟨rfl,a,_,_,_,_,b,d,G,I,rfl,H,rfl⟩
def aQ7(P:gW 42000 0 1 D o [] 0)(h:nY 42000 0 0 (aL.uL 42000) [] 0 0 o D)(f:o.isSome=true):KnS 0 D o [] 0:=by
 have⟨b,a⟩:=h.fresh rfl rfl;subst b;match o,f,P,a with
 |some (G,I),_,P,a=>have⟨c,d,e⟩:=a G I rfl;exact⟨G,I,rfl,⟨P,as6 _,by decide,by rw[c];exact cV 0,d,e⟩,rfl⟩
def XK(E:Nat):List wN:=(List.range 11).map (bt3 E)
def aC4(E:Nat):Array aN:=((XK E).flatMap BD).toArray
def bU0{A:Program}{c:Code}{Q:Exit->Act->aI->Prop}{a:Act}{w':aI}(h:w=w')(H:c.wp A Q a w'):c.wp A Q a w:=by rw[h];exact H
def ghK(E:Nat)(a:aI):Gh:=fun k=>if k=E\/k=E+1 then a.heap[k]? else none
structure SW(a b:aI):Prop where
 low:aR a.heap.size a b
 ev:Row b a.heap.size 44 (evL evK)
 st:Row b (a.heap.size+1) 35 ((XK a.heap.size).flatMap BD)
def bC6(a:aI):SW a ((a.alloc (.cells (KG evK) 44)).alloc (.cells (aC4 a) 35)):=by have d:=cD a (.cells (KG evK) 44);have b:=cD (a.alloc (.cells (KG evK) 44)) (.cells (aC4 a) 35);have e:=(Row.new a (KG evK) 44).next b;have c:=Row.new (a.alloc (.cells (KG evK) 44)) (aC4 a) 35;rw[bD]at c;exact⟨aK d b,e,c⟩
def V8:¬aj2 44/\¬aj2 35:=by decide
def SW.ghost(h:SW w x){m n:Nat}{D:aL}{o:iL}{B:List kM}{k:Nat}(R:UO w m Gh.no n D o 0 0 B k false):UO x m (ghK w x) n D o 0 0 B k false:=by
 have⟨W,q,g,c,d,e,R⟩:=R;refine⟨W,q,g,c,d,e,R.ghost h.low λi f a=>?_⟩;unfold ghK at a;split at a
 .rename_i b;refine⟨a,by omega,?_⟩;rcases b with rfl|rfl
  .exact⟨_,_,h.ev,V8.1⟩
  exact⟨_,_,h.st,V8.2⟩
 cases a
def SW.same(h:SW w x){y:aI}(g:∀k c,ghK w x k=some c->y.heap[k]?=c):Row y w 44 (evL evK)/\Row y (w+1) 35 ((XK w).flatMap BD):=by
 have a:∀k t b,(k=w.heap.size\/k=w.heap.size+1)->Row x k t b->Row y k t b:=λk t b f e=>by obtain⟨C,i,d,-⟩:=id e;refine e.of_block ?_;rw[d];exact g k _ (by unfold ghK;rw[aV f];exact d)
 exact⟨a _ _ _ (.inl rfl) h.ev,a _ _ _ (.inr rfl) h.st⟩
def SW.evs(h:SW w x):∀b:aI,(∀k c,ghK w x k=some c->b.heap[k]?=c)->Y2 b (.slice (zp w) 1 1) [evK]:=λb l=>by obtain⟨d,-⟩:=h.same l;refine⟨⟨_,_,rfl,dQ,by unfold maxLen;omega,rfl,λ_=>⟨w,0,rfl,d.lt,λj i=>?_⟩⟩,λe g=>by rw[bP.1 g];exact cC5⟩;have a:j<3:=(by simpa[evL]using i);have f:=d.cell j (by simpa[evL]using a);rw[jC,f];rfl
def SW.cells{w:aI}(h:SW w x){y:aI}(m:∀k b,ghK w x k=some b->y.heap[k]?=b){k:Nat}(o:k<11){p:wN}(i:p=bt3 w k):y.cell? (zp (w+1) (k*7))=p.2.kind/\y.cell? (zp (w+1) (k*7+1))=p.2.name/\y.cell? (zp (w+1) (k*7+2))=p.2.a/\y.cell? (zp (w+1) (k*7+3))=p.2.b/\y.cell? (zp (w+1) (k*7+4))=p.1.1/\y.cell? (zp (w+1) (k*7+5))=p.1.2/\y.cell? (zp (w+1) (k*7+6))=p.2.text:=by
 obtain⟨-,n⟩:=h.same m;have q:(XK w).length=11:=by simp[XK]
 have a:∀j v,j<7->(BD p)[j]?=some v->y.cell? (zp (w+1) (k*7+j))=some v:=λj v g l=>by have c:=EU BD 7 al8 (XK w) k j (by omega) g;have d:(XK w)[k]'(by omega)=p:=(by simp[XK,i]);rw[d,l]at c;have⟨e,f⟩:=aQ.1 c;rw[n.cell (k*7+j) e,f]
 exact⟨by simpa using a 0 _ (by omega) rfl,a 1 _ (by omega) rfl,a 2 _ (by omega) rfl,a 3 _ (by omega) rfl,a 4 _ (by omega) rfl,a 5 _ (by omega) rfl,a 6 _ (by omega) rfl⟩
def UO.gh{b:Bool}(R:UO w k F n D o i j B m b):∀f a,F f=some a->w.heap[f]?=a:=by have⟨W,q,g,h,d,e,R⟩:=R;exact λf a c=>(R.gh f a c).1
def cQ5(r W g q:Nat)(A:Option Addr)(c:Nat)(w:aI):Prop:=w.cell? ⟨r,0,none⟩=some (.pointer (some ⟨W,0,none⟩))/\w.cell? ⟨r,1,none⟩=some (.pointer (some ⟨g,0,none⟩))/\w.cell? ⟨g,0,none⟩=some (.slice A 3 c)/\
 Calls prog 12 #[.pointer (some ⟨W,0,none⟩)] w (fun e a=>e=.returned (.pointer (some ⟨q,0,none⟩))/\w=a)/\
 Calls prog 13 #[.pointer (some ⟨q,0,none⟩)] w (fun e a=>(∃x y z,e=.returned (.agg #[.int .i64 3,x,y,z]))/\aR w.heap.size w a)
def bM0(h:KnW n F k 11 w):∃W g q A c,cQ5 k W g q A c w:=by obtain⟨D,o,p,S,⟨W,q,g,s,u,v,R⟩,P,G,I,rfl,l,rfl⟩:=h;obtain⟨A,c,rfl,-⟩:=id R.mod.2.2.1.reads;have f:(([U8,XA,ai5]:List kM).flatMap dO).length=3:=(by decide);have d:=R.mod.1.lO;rw[f]at d;have a:=rK R.pN;unfold sE at a;have⟨C,r,t,i,b⟩:=P.wX.st;refine⟨W,g,q,A,c,R.row.lO,R.row.qD,d,a,(YG R.pN.it b.cZ).mono ?_⟩;rintro e x ⟨⟨m,rfl⟩,j⟩;refine⟨⟨I.cZ.check,zu (I.cZ.aX:Nat),m,?_⟩,j⟩;unfold mN;rw[l];rfl
def bB0(w:aI):Calls prog 7 #[] w (λe z=>e=true/\aR w w z):=by
 have U:=aH (VT 9000 0 0 w (by omega) (by omega));go_in;go_wp2_with fail
 go_call U as e s ⟨b,r,D0,o0,rfl,I,a,f,h,H,n,G⟩;have⟨u,X,Z,Y,K,M,L⟩:=aF (bC6 s) (aQ7 n G h) H n f I a;clear I a f h H n G U;(go_wp2_with fail);have⟨J,l⟩:=fR ((s.alloc (.cells (KG evK) 44)).alloc (.cells (aC4 s) 35));refine bU0 (w':=J) (by rw[l];rfl) ?_;rw[<-l]at u;have⟨E,hE⟩:=fR s.heap.size;have⟨V,Q,Z0⟩:=aB (show KnW b (ghK s J) r 0 J from⟨D0,o0,[],0,u.ghost Z,Y,X⟩) (aK K u.low) (aM L u.low.size);clear l X Z Y;go_loopw [5] (λi wr=>∃k:Nat,k<=11/\i=.int .i64 k/\KnW b (ghK s J) r k wr/\aR w w wr/\b<=wr) (λi _=>11-(intOf i).toNat)
 .exact⟨0,by omega,rfl,V,Q,Z0⟩
 obtain⟨k,hk,rfl,C,f,a⟩:=hrel;have⟨N,t,T⟩:=aB C f a;clear C f a V Q Z0;by_cases m:k<11
 .have i1:(k:Int)<11:=(by omega);have d:=cf5 m N T u.evs;obtain⟨D,o,Bs,S,R,-⟩:=id N;have⟨p,O⟩:=fR (bt3 s k);have hc:=u.cells R.gh m O;rw[<-O]at d;obtain⟨⟨pe,pk⟩,⟨kd,nm,pa,pb,pl,kp,tx⟩⟩:=p;unfold cB8 at d;dsimp only at hc d;have⟨c0,c1,c2,c3,c4,c5,c6⟩:=hc;have HD:=aH d;clear d R O;go_wp2_with fail
  go_call HD as e z ⟨rfl,a,F⟩;have⟨KZ,B⟩:=aA F (show aR w w z/\b<=z from⟨⟨a.os.trans t.os,a.tape.trans t.tape,a.output.trans t.output,aM t.size a.size,λj hj=>(a.block j (aW hj M)).trans (t.block j hj)⟩,aM T a.size⟩);clear a F c0 c1 c2 c3 c4 c5 c6;go_wp2;go_roundw
  .exact⟨k+1,by omega,by go_num,KZ,B.1,B.2⟩
  simp[intOf];omega
 obtain rfl:k=11:=(by omega);have⟨W,g,q,A,c,x0,x1,x2,P,hm⟩:=bM0 N;have HM:=aH hm;clear hm m hk;go_wp2_with fail
 go_call P as e w' ⟨rfl,rfl⟩;go_wp2_with fail
 go_call P as e w' ⟨rfl,rfl⟩;go_wp2_with fail
 go_call HM as e z ⟨⟨x,y,v,rfl⟩,a⟩;have HZ:=aH (aK t a);clear a x0 x1 x2 P;have xf:∀(x y v:aN)(w:aI),(Instr.field 57 (.agg #[(3:Int),x,y,v]) 0).run prog w=.ok (3:Int) w:=λ_ _ _ _=>(by kernel_rfl);go_wp2;go_ret;exact⟨rfl,HZ⟩
def aY7(w:aI)(a r c b d k:Nat)(wr:aI):Prop:=aR w.heap.size w wr/\a<=wr.heap.size/\∃D o e S s,UO wr a Gh.no r D o c b e S false/\gW d b s D o e S/\s<=k+1
def cN0(w:aI)(a r c d f k:Nat)(e:eY)(z:aI):Prop:=e=.returned (.bool true)/\∃b,z.cell? ⟨r,2,none⟩=some (.bool b)/\aR w.heap.size w z/\(b=false->aY7 w a r c d f (k+1) z)
section
variable {w:aI}{base r W q g:Nat}{F:Gh}{h:dV}{D:aL}{o:iL}{cF aX cap s:Nat}{vL vM:aN}{Bs:List kM}{S:Nat}
def bX0(H:jH w base F r W q g h D o cF aX vL vM Bs S false)(P:gW cap aX s D o Bs S)(O:s<89)(b:base<=w)(p:Sp)(d:p.n.size<=1000000)(i:DI p.a)(x:DI p.b)(l:List Ev)(M:∀f,aR base w f->Y2 f (.slice p.E p.e p.f) l)(N:l.length<=1000)(a:List Int)(A:p.i=a)(y:a.length<=1000000)(B:∀f,aR base w f->Reads f (.slice p.K a p.j) 1 a (rT a))(C:∀n∈a,DI n):Calls prog 11 #[zp r,.agg p.c] w (λe z=>e=true/\at9 base F r cF aX cap s w z):=by
 have c:s<90:=(by omega);by_cases v:p.k=9
 .exact(al7 H P b p O v).mono λe z h=>rW.t h
 by_cases j:p.k=10
 .exact(bd1 H P b p j).mono λe z h=>rW.t h
 by_cases k:p.k=11
 .exact(YK H P b p k a A B C).mono λe z h=>rW.t h
 by_cases m:p.k=12
 .exact(bC4 H P b p m i a A y B C).mono λe z h=>rW.t h
 by_cases t:p.k=13\/p.k=14
 .exact bc9 H P b p t d i
 by_cases u:p.k<1\/14<p.k
 .exact(bC5 H P b p u).mono λe z h=>rW.t h
 match o,H,P with
 |none,H,P=>exact cr2 H P b p (by omega)
 |some (G,I),H,P=>
  by_cases E:p.k=1
  .exact(E9 H P c b p E d i l (λf v _=>M f v) N).mono λe z h=>rW.t h
  by_cases J:p.k=6
  .exact(bd0 H P c b p J).mono λe z h=>rW.t h
  by_cases K:p.k=7
  .exact(OX H P c b p K).mono λe z h=>rW.t h
  by_cases L:p.k=8
  .exact(YJ H P c b p L i).mono λe z h=>rW.t h
  exact(IJ H P c b p (by omega) d i x).mono λe z h=>rW.t h
end
def bG6{wr:aI}(h:aY7 w k n m i j d wr)(E:w<=k)(hk:d<80){p:wN}(hp:QG w p)(y:UN p){A B:Option Addr}{g q Kn c:Nat}(N:p.1.1=.slice A g q)(Q:p.1.2=.slice B Kn c):Calls prog 11 #[zp n,.agg #[p.2.kind,p.2.name,p.2.a,p.2.b,.slice A g q,.slice B Kn c,p.2.text]] wr (cN0 w k n m i j d):=by
 obtain⟨r,K,D,o,Bs,S,s,⟨W,h4,h0,h,vL,vM,R⟩,P,hs⟩:=h;obtain⟨⟨v1,v2⟩,⟨kd,nm,pa,pb,pl,kp,tx⟩⟩:=p;dsimp only at N Q;subst N;subst Q;obtain⟨J,F,T,-,x,L,M,C⟩:=hp;have⟨s1,s2,s3,s4⟩:=y;dsimp only at J F T x L M C s1 s2 s3 s4;have v:Kn=kp:=by obtain⟨A',c',hv,-⟩:=F;obtain⟨-,b,-⟩:=eJ hv;exact b
 subst v;have a:∀l,aR k wr l->aR w w l:=λl b=>⟨b.os.trans r.os,b.tape.trans r.tape,b.output.trans r.output,aM r.size b.size,λh3 O=>(b.block h3 (aW O E)).trans (r.block h3 O)⟩;go_call bX0 R P (by omega) K ⟨kd,nm,pa,pb,A,g,q,B,kp,c,tx⟩ (by dsimp only;omega) L M pl (λl b=>J.next (a l b)) (by omega) kp rfl (by omega) (λl b=>F.next (a l b)) T as e z ⟨rfl,f,U,o',t,V,u,⟨X,q',Y,Z,G,H,I⟩,hP⟩;exact⟨rfl,u,I.row.tW,a z f,λb=>⟨a z f,aM K f.size,U,o',t,V,s+1,⟨X,q',Y,Z,G,H,by rw[<-b];exact I⟩,hP b,by omega⟩⟩
def aG4(v:aN)(X:List wN)(w:aI)(h:J8 w v X)(hX:X.length<=80)(hS:∀p∈X,UN p)(n a d:Nat)(hn:n<=65535)(q:a<18446744073709551616):Calls prog 8 #[v,.agg #[zu a,.float .f64 d,.int .u16 (n:Nat)],(2:Int)] w (λe z=>e=true/\aR w w z):=by
 obtain⟨A,c,rfl,Q,h0,-⟩:=id h.1;have⟨m,hm⟩:=fR X.length;have N:=cD w (.cells #[zu a,.float .f64 d,.int .u16 (n:Nat)] 27);have⟨W,HM,H,HS,B⟩:=aD (λ(x:aI)=>VT n a d x hn q) hm h hS N;rw[<-hm]at hX Q|-;clear h hm hS N Q h0;generalize R:6000+4*n=F at W;clear R hn q;go_in;go_wp2_with fail
 go_call W _ as e w1 ⟨j,r,D0,o0,rfl,h2,f,P,-,T,S,-⟩;have u:=aK B P;have y:w<=j:=(by have:=B.size;omega);have⟨P0,Z⟩:=aA (show aY7 w j r d a F 0 w1 from⟨u,f,D0,o0,[],0,1,T,S,dQ⟩) y;clear h2 f P T S u y W B;go_wp2_with fail
 go_loopw [9] (λi wr=>∃k:Nat,k<=m/\i=.int .i64 k/\aY7 w j r d a F k wr) (λi _=>m-(intOf i).toNat)
 .exact⟨0,by omega,rfl,P0⟩
 obtain⟨k,hk,rfl,g⟩:=hrel;have PS:=aH g;clear g P0;by_cases h5:k<m
 .have i1:(k:Int)<m:=(by omega);obtain⟨p,V⟩:∃p,X[k]?=some p:=⟨_,aJ (by have:=HM.zz;omega)⟩;obtain⟨b,h6,rfl,O,o⟩:=H.later (by have:=HM.zz;omega);have l:=λ(x:aI)(hx:aR wr wr x)=>o k p V x (aK PS.1 hx);have t:=H.zz.2 p (bC V);have U:=HS p (bC V);obtain⟨EA,Ec,J,-⟩:=id t.ev.1;obtain⟨KA,Kc,K,-⟩:=id t.kp;have s:=aH (λ(x:aI)(hx:aY7 w j r d a F k x)=>bG6 hx Z (by omega) t U J K);obtain⟨⟨pe,pk⟩,⟨L,nm,pa,pb,pl,kp,tx⟩⟩:=p;dsimp only at l J K;subst J;subst K;have⟨N5,G⟩:=fR pl.length;have⟨N6,I⟩:=fR kp.length;dsimp only at s;rw[<-G,<-I]at s;simp only[<-G,<-I]at l;have C8:=aH l;have⟨c0,c1,c2,c3,c4,c5,c6⟩:=l wr iH;clear o l V t U O G I;have M:=PS.zz;rcases(show L=13\/L=14\/(L≠13/\L≠14)from by omega)with rfl|rfl|h9
  iterate 2
   ·(go_wp2_with fail);go_call s _ M as e z ⟨rfl,E,h1,f,g⟩;have⟨C,D⟩:=aA f g;clear f g c0 c1 c2 c3 c4 c5 c6;cases E with
    |true=>go_wp2;go_ret;exact⟨rfl,C⟩
    |false=>
     go_wp2;go_roundw
     .exact⟨k+1,by omega,by go_num,D trivial⟩
     simp[intOf];omega
  have h3:(L==13)=false:=(by simp[h9.1]);have h4:(L==14)=false:=(by simp[h9.2]);clear h9;go_wp2_with fail
  go_call s _ M as e z ⟨rfl,E,h1,f,g⟩;have⟨C,D⟩:=aA f g;clear f g c0 c1 c2 c3 c4 c5 c6;cases E with
  |true=>go_wp2;go_ret;exact⟨rfl,C⟩
  |false=>
   go_wp2;go_roundw
   .exact⟨k+1,by omega,by go_num,D trivial⟩
   simp[intOf];omega
 obtain rfl:k=m:=(by omega);have hb:=PS.zz.1;have Y:=aH hb;clear hb;go_wp2;go_ret;exact⟨rfl,Y⟩
def TopSpoilt_walk(v G:aN)(X:List wN)(a:cO1)(W:aI)(s:J8 W v X)(O:cE0 G a):Calls prog 5 #[v,G] W (λe K=>e=true/\aR W W K):=by
 have⟨d,c,n⟩:=a;obtain⟨rfl,B,A⟩:=O;dsimp only at B A|-;have f:=cD W (.cells #[zu d,.float .f64 c,.int .u16 (n:Nat)] 27);have h:=Row.new W #[zu d,.float .f64 c,.int .u16 (n:Nat)] 27;generalize o:W.alloc (.cells #[zu d,.float .f64 c,.int .u16 (n:Nat)] 27)=m at f h;have E:=aQ4 v X 80 m (s.next f) (by omega);have⟨J,P,C,I,F,H⟩:=aE o s f (λ(y:aI)(r:aR m m y)(u:X.length<=80)(t:∀p∈X,UN p)=>aG4 v X y (s.next (aK f r)) u t n d c A B) (λy:aI=>bB0 y) (λ(y:aI)(r:aR m m y)=>show y.cell? (zp W)=zu d/\y.cell? (zp W 1)=some (.float .f64 c)/\y.cell? (zp W 2)=some (.int .u16 (n:Nat))from⟨(h.next r).lO,(h.next r).qD,(h.next r).tW⟩);clear s f h B A o;go_in;(go_wp2_with fail);rw[J.zz];go_call E as e y ⟨k,b,rfl,q⟩;have⟨j,D⟩:=aA k q;have⟨L,M,N⟩:=H y k;clear k q E;cases b with
 |true=>
  go_wp2_with fail
  go_call F y as e z ⟨rfl,g⟩;have x:=aH (aK C (aK j g));clear g;go_wp2;go_ret;exact⟨rfl,x⟩
 |false=>
  have⟨u,t⟩:=D rfl;have l:=aH (I y j u t);clear u t D;go_wp2_with fail
  go_call l as e z ⟨rfl,g⟩;have w:=aH g;clear g l L M N;go_wp2_with fail
  go_call F z as e Q ⟨rfl,i⟩;have x:=aH (aK C (aK j (aK w i)));clear i;go_wp2;go_ret;exact⟨rfl,x⟩
end Go.Proofs.YtpopikndggffaaaGreatDoor
