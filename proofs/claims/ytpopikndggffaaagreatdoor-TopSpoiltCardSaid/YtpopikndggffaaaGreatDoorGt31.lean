/- TOP, part 31. -/
import Derived.Test.YtpopikndggffaaaGreatDoorGt30
namespace Go.Proofs.YtpopikndggffaaaGreatDoor
set_option linter.all false
set_option maxRecDepth 100000
set_option maxHeartbeats 16000000
open Go.RowKit Go.Maps Tryz
variable{d g i j k m n s:Nat}{w x:aI}{D:aL}{I:aZ}{G:cS}{S:dV}
section
variable {cap aX s S:Nat}{D:aL}{G:cS}{I:aZ}{Bs:List kM}
def jJ.aA2(h:jJ cap aX s D G I (Bs.map jG) S)(z:lG Bs)(q:Bs.length<=1000)(K:s<90)(d:aX<18446744073709551616):aE6 D G I:=by
 have⟨O,P⟩:=h.stP z q d;have k:=rG z.uW;have p:=λf=>NN h k K d f;have v:=MX h;have⟨C,Q,u,m,g⟩:=h.st;have i:=u.log.ok;have⟨w,x,y⟩:=AD i m k aX;obtain⟨⟨R,T⟩,⟨L,M,N⟩,A⟩:=mM.1 g.cZ;have H:=g.next;have t:I.cZ.next∉I.cZ.fP.flatten:=λB=>(by have:=A _ B;omega);refine⟨λj=>?_,by unfold kR;rw[bG];exact⟨L,M,N⟩,t,λn E=>by have:=A n E;omega,by omega,λl F=>?_,by rw[g.zQ];exact d,λf=>?_,⟨by have:=P.ZN.1;omega,?_,λe o=>(P.ZN.2 e o).1⟩⟩
 .have⟨a,b,c⟩:=v;rcases c with⟨-,c⟩|⟨c,-⟩
  .exact⟨c.up,b⟩
  exact absurd c j
 .have:=(ab1 g w x (λr J=>(y r J).1) (aB1 u.log) (by have:=zJ i;have:=i.1;omega) (by omega) l).ok;rw[u.bV];exact this
 .rcases p f with⟨-,j,-⟩|⟨-,-,-,j,-⟩
  .exact j
  exact j
 unfold tN;rw[g.PQ,fQ,dN];exact λe o=>(P.ZN.2 e o).2
def jJ.ZL(h:jJ cap aX s D G I (Bs.map jG) S)(t:lG Bs)(v:Bs.length<=1000)(F:s<90)(j:aX<18446744073709551616)(k:Int)(E:¬(k<0\/5<=k))(g:I.cZ.fP.getD k.toNat []≠[]):(kI ((I.cZ.fP.getD k.toNat []).map λn=>(I.fI n).getD [])).length<=8*Bs:=by
 have d:=rG t.uW;have⟨C,y,x,a,b⟩:=h.st;have⟨l,m,o⟩:=AD x.log.ok a d aX;have w:=b.next;have c:=PN b l m (by omega) (k:=k.toNat) (by omega) g;have f:=c.may;unfold tN at f;simp only[bL]at f;have z:(kI ((I.cZ.fP.getD k.toNat []).map λn=>(I.fI n).getD [])).length<=(fZ aX (dF C)):=uS (vK f.1) λe u=>by have p:=(c.eq e).1 (.inl u);have⟨r,i,q⟩:=oC.1 p;exact oC.2 ⟨r,(fL.1 i).1,q⟩
 have A:=CU (aX:=aX) (R:=dF C) λr i=>(o r i).2;have B:(dF C).length=Bs:=(by rw[sA,a,gK]);omega
def jJ.bw3(h:jJ cap aX s D G I (Bs.map jG) S)(l:lG Bs)(b:Bs.length<=1000)(v:s<90)(a:aX<18446744073709551616)(k:Int):aE1 D I k:=by
 have⟨A,P⟩:=h.stP l b a;have n:=rG l.uW;have g:=h.aA2 l b v a;have q:=P.bc2;have⟨C,B,y,m,c⟩:=h.st;have p:=y.log.ok;have⟨r,t,z⟩:=AD p m n aX;have x:=c.next;have o:=h.ZL l b v a k;refine⟨q,g.val,g.nn,g.sm,g.nx,g.aX,λw i=>?_⟩;have d:=PN c r t (by omega) (k:=k.toNat) (by omega) i;have u:=o w i;refine⟨d.ok,λf=>?_,by omega,d.may⟩;have j:=YA h.up h.tA h.sys c a (gI s) dQ d f;simp only at j;rcases j with⟨-,-,-,-,e,-⟩|⟨-,-,-,-,e,-⟩|⟨-,-,-,e,-⟩
 .exact e
 .exact e
 exact e
end
def aY1(w:aI)(a:Nat)(h:dV)(b:Nat)(D:aL)(G:cS)(I:aZ)(e:eY)(c:aI):Prop:=e=.returned (.int .i64 (gO G D).1)/\FZ w a h b (gO G D).1 (gO G D).2.2 (gO G D).2.1 I c
def aH5(H:oE w n k S D G I m i)(q:n<=w)(j:D.down=false)(d:(gO G D).2.2.bQ=D.bQ):Calls prog 65 #[zp k] w (aY1 w n S m D G I):=by
 have⟨A,C,s⟩:=H.sys.eI;have p:=tG H;have g:=ap2 H.sys.log s q j;obtain⟨B,-,-⟩:=H.cells;have o:=aH H.sys;unfold aY1;obtain⟨⟨E,y,x⟩,t⟩:∃r,r=gO G D:=⟨_,rfl⟩;rw[<-t]at g d|-;unfold LOp at g;simp only at g d|-;clear H s q j t;go_in;go_wp2_with fail
 go_call p as e K ⟨rfl,rfl⟩;go_wp2_with fail
 go_call g as e J ⟨rfl,f,⟨u,l,h,c,a⟩,b⟩;have z:=aH (show FZ w n S m E x y I J from⟨{S with v:=u},rfl,rfl,rfl,rfl,f,λF=>by obtain rfl:=a F;exact(o.yN f (by rw[d];exact h) b c).1,p7.orS (h:=S) (h':={S with v:=u}) rfl (p7.PH b o.log.eI c)⟩);clear g p f h c a b B;go_wp2;go_ret;exact⟨rfl,z⟩
def aH4(H:oE w n k S D G I m i)(h:n<=w)(b:D.down=false)(l:aE6 D G I):Calls prog 66 #[zp k] w (Y0 w n S m D G I):=by
 have q:=tG H;have g:=λ(y:aI)(d:aR w w y)=>aR4 (H.next d).sys (aM h d.size) b l;have L:∀x:dR w,x.it.cell? (zp k)=some (.pointer (some ⟨S.L,0,none⟩)):=λx=>(H.next x.ok).cells.1;have M:∀x:dR w,x.it.cell? (zp k 1)=some (.pointer (some ⟨S.x.X,0,none⟩)):=λx=>(H.next x.ok).cells.2.1;have p:=aH H.sys;have r:=aH (λ(y:aI)(d:aR w w y)(e:eY)(z:aI)(c:Y0 y n S m D G I e z)=>show Y0 w n S m D G I e z from by
  have⟨f,C,E,B,t,u,v,A,F,J,K⟩:=c;exact⟨f,C,E,B,t,u,v,A,F,J,(p.mB d).trans K⟩)
 clear H h b l;go_in;go_wp2_with fail
 go_call q as e N ⟨rfl,rfl⟩;(go_wp2_with fail);refine jF (by kernel_rfl) (by kernel_rfl) (by kernel_rfl) (by kernel_rfl) (by kernel_rfl) ?_;simp only[List.dropLast,List.drop,List.length];repeat go_big_quiet_step (fail)
 refine wpQuiet_nil ?_;rintro _ ⟨⟨P,a⟩,rfl⟩;have j:=g _ a;have s:=aH a;clear g L M a;go_wp2_with fail
 go_call j as e O c;have o:=aH (r _ s _ _ c);obtain⟨f,-,rfl,-⟩:=c;clear j;go_wp2;go_ret;exact o
def aH3(H:oE w n k S D G I m i)(c:n<=w)(a:D.down=false)(r:Int)(d:DI r)(g:aE1 D I r):Calls prog 67 #[zp k,r] w (bz6 w n S m D G I r):=by
 have l:=tG H;have b:=aR3 H.sys c a r d g;obtain⟨-,o,-⟩:=H.cells;clear H c a g d;go_in;go_wp2_with fail
 go_call l as e p ⟨rfl,rfl⟩;go_wp2_with fail
 go_call b as e q h;have j:=aH h;obtain⟨f,-,rfl,-⟩:=h;clear b o;go_wp2;go_ret;exact j
def YG(H:oE w n k S D G I m i)(c:wU I.cZ=true):Calls prog 13 #[zp k] w (λe q=>(∃o,e=.returned (.agg (mN I.cZ o).toArray))/\aR w w q):=by
 have h:=eA w (.cells #[(),(),zu 0,zs] 57);have p:=Row.new w #[(),(),zu 0,zs] 57;have d:=H.next h;have l:=tG d;have g:=CO d.sys.idx c;unfold zL mN at g;obtain⟨-,u,-⟩:=d.cells;have⟨s,t⟩:=aA h p;have K:=bD w (.cells #[(),(),zu 0,zs] 57);unfold mN;clear H d h p c;go_in;go_wp2_with fail
 go_call l as e q ⟨rfl,rfl⟩;go_wp2_with fail
 go_call g as e L ⟨o,rfl,b,a⟩;have⟨r,x,j⟩:=(b.ai3 dQ).slice;subst j;obtain⟨⟨y,z,A,B⟩,C,E,F,J⟩:=gR (t.next a);have f:=aH (aK s a);clear g l b a u;go_wp2;refine bE (v:=.agg #[I.cZ.next,I.cZ.check,zu (I.cZ.aX:Nat),.slice r I.cZ.fP x]) (by simp[results,results13,go_sem,y,z,A,B]) rfl ⟨⟨_,rfl⟩,?_⟩;exact(((f.setCell dQ _).setCell dQ _).setCell dQ _).setCell dQ _
abbrev iL:=Option (cS×aZ)
def KD(w:aI)(base q:Nat)(h:dV)(D:aL)(o:iL)(cF aX:Nat):Prop:=match o with
 |none=>∃blk dat,bJ w base h.d h.m D blk dat
 |some (G,I)=>oE w base q h D G I cF aX
def vB(w:aI)(q:Nat)(h:dV)(o:iL)(k:Nat):Prop:=match o with
 |none=>jQ w h.d h.m k
 |some _=>iG w h k\/k=q
def sE(q:Nat)(o:iL):aN:=match o with|none=>.pointer none|some _=>.pointer (some ⟨q,0,none⟩)
structure iY(w:aI)(a W q:Nat)(h:dV)(D:aL)(o:iL)(b c:Nat):Prop where
 row:Row w W 69 [.pointer (some ⟨h.d,0,none⟩),sE q o,.int .u64 (c:Nat),.float .f64 b]
 it:KD w a q h D o b c
 low:a<=W
 out:¬vB w q h o W
def mS(w:aI)(W q:Nat)(h:dV)(o:iL)(k:Nat):Prop:=vB w q h o k\/k=W
def oH(w:aI)(a W q:Nat)(h:dV)(o:iL)(D':aL)(o':iL)(b c:Nat)(e:aI):Prop:=∃(f:Nat)(d:dV),(d.d=h.d/\d.m=h.m)/\iY e a W f d D' o' b c/\p7 a (mS w W q h o) (mS e W f d o') w e
def tX:¬(69=103\/69=112\/69=5)/\(69:cC)≠3:=by decide
section
variable {w w' w'':aI}{base W q:Nat}{h:dV}{D D':aL}{o o':iL}{cF aX:Nat}
def KD.eI(H:KD w base q h D o cF aX):∃a b,bJ w base h.d h.m D a b:=by
 match o,H with
 |none,H=>exact H
 |some (G,I),H=>exact H.sys.eI
def iY.cells(H:iY w base W q h D o cF aX):w.cell? (zp W)=zp h.d/\w.cell? (zp W 1)=some (sE q o)/\w.cell? (zp W 2)=zu aX/\w.cell? (zp W 3)=some (.float .f64 cF):=⟨H.row.lO,H.row.qD,H.row.tW,H.row.JF⟩
def oE.M8{M:cS}{J:aZ}(H:oE w base q h D G I cF aX)(a:S.L=h.L/\S.x.X=h.x.X)(s:lQ w' base S D' M J cF)(v:p7 base (iG w h) (iG w' S) w w'):oE w' base q S D' M J cF aX/\p7 base (λk=>iG w h k\/k=q) (λk=>iG w' S k\/k=q) w w':=⟨H.CE a s v,v.or λk=>k=q⟩
def iY.CE{q':Nat}{h':dV}(H:iY w base W q h D o cF aX)(b:h'.d=h.d)(c:sE q' o'=sE q o)(s:KD w' base q' h' D' o' cF aX)(v:p7 base (vB w q h o) (vB w' q' h' o') w w'):iY w' base W q' h' D' o' cF aX/\p7 base (mS w W q h o) (mS w' W q' h' o') w w':=⟨⟨by rw[b,c];exact H.row.of_block (v.block W H.row.lt (.inr H.out)),s,H.low,λa=>H.out (v.rJ W H.row.lt a)⟩,v.or λk=>k=W⟩
def KD.next(H:KD w base q h D o cF aX)(a:aR w w w'):KD w' base q h D o cF aX/\p7 base (vB w q h o) (vB w' q h o) w w':=by
 match o,H with
 |none,⟨c,d,b⟩=>exact⟨⟨_,_,b.next a⟩,jQ.next a b.IZ⟩
 |some (G,I),H=>exact H.M8 ⟨rfl,rfl⟩ (H.sys.next a) (H.sys.mB a)
def iY.next(H:iY w base W q h D o cF aX)(a:aR w w w'):iY w' base W q h D o cF aX/\p7 base (mS w W q h o) (mS w' W q h o) w w':=H.CE rfl rfl (H.it.next a).1 (H.it.next a).2
def iY.to(H:iY w base W q h D o cF aX)(a:aR w w w'):oH w base W q h o D o cF aX w':=⟨q,h,⟨rfl,rfl⟩,(H.next a).1,(H.next a).2⟩
def oH.next(H:oH w base W q h o D' o' cF aX w')(a:aR w' w' w''):oH w base W q h o D' o' cF aX w'':=by have⟨c,b,e,s,v⟩:=H;exact⟨c,b,e,(s.next a).1,v.trans (s.next a).2⟩
def oH.trans{a:iL}{n:Nat}(b:S.d=h.d/\S.m=h.m)(v:p7 base (mS w W q h o) (mS w' W n S o') w w')(K:oH w' base W n S o' D a cF aX w''):oH w base W q h o D a cF aX w'':=by have⟨d,c,e,s,f⟩:=K;exact⟨d,c,⟨e.1.trans b.1,e.2.trans b.2⟩,s,v.trans f⟩
end
def tD{o:iL}(H:iY w k n m S D o i j):Calls prog 22 #[zp n] w λe a=>e=false/\w=a:=by obtain⟨b,-⟩:=H.cells;clear H;go_in;go_wp2;go_ret;exact⟨rfl,rfl⟩
def yI{o:iL}(H:iY w k n m S D o i j):Calls prog 28 #[zp n] w λe a=>e=.returned (zp S.d)/\w=a:=by
 have b:=tD H;obtain⟨c,-⟩:=H.cells;clear H;go_in;go_wp2_with fail
 go_call b as e a ⟨rfl,rfl⟩;go_wp2;go_ret;exact⟨rfl,rfl⟩
def rK{o:iL}(H:iY w k n m S D o i j):Calls prog 12 #[zp n] w λe a=>e=.returned (sE m o)/\w=a:=by
 have b:=tD H;obtain⟨-,c,-⟩:=H.cells;generalize sE m o=P at c|-;clear H;go_in;go_wp2_with fail
 go_call b as e a ⟨rfl,rfl⟩;go_wp2;go_ret;exact⟨rfl,rfl⟩
variable{B:List kM}{K:bH->Nat}{H:bH->aN}
structure nY(c a s:Nat)(D:aL)(d:List kM)(S:Nat)(e:Int)(o:iL)(b:aL):Prop where
 tA:b.cap=D.cap
 bt4:b.bQ=D.bQ
 it:(e=61/\o=none/\b.down=true/\kK c a s b.files (d.map jG) S)\/
  (e=0/\∃G I k,o=some (G,I)/\k<=d.length/\S<=k/\jJ c a s b G I ((d.take k).map jG) k)
 calm:Calm D->e≠61
 next:∀m G I,o=some (G,I)->wU m=true->m.aX=a->bO D.files fE=some ⟨iS m,(iS m).length⟩->(∀n∈m.fP.flatten,n<=999999/\∃L,nJ D.files n L)->I.cZ.next=m.next
 fresh:D.files=[]->D.down=false->b=D/\∀G I,o=some (G,I)->G.bV=[]/\I.cZ.next=0/\I.cZ.fP=[]
def LH(a:D.files=[])(d:D.down=false):kB D=(0,some ⟨[],0⟩,D):=by have b:D.gS=(0,D):=(by unfold aL.gS;rw[a];rfl);have c:D.count=(0,true):=(by unfold aL.count aL.names;rw[a];rfl);unfold kB;rw[b];simp only;rw[c,d];rfl
def L5(b:D.files=[])(c:D.down=false)(G:cS)(a:Nat)(h:Nat->List lW):∃m,fY D G a h=(0,some ⟨⟨0,0,a,[]⟩,m,λ_=>none⟩,D):=by have d:pP D=(4,⟨0,0,0,[]⟩):=(by unfold pP;rw[b,c];rfl);have e:lC D G a=(4,none):=(by unfold lC;rw[d];rfl);have f:D.delete fE=(4,D):=(by unfold aL.delete;rw[b,c];rfl);have g:mE D (xP a).cZ=(0,D):=(by unfold mE aL.names;rw[b,c];rfl);unfold fY;rw[e];simp only;rw[f];unfold qQ;simp only;rw[g];exact⟨_,rfl⟩
def bK2{l f:cA}{R:List lW}(d:BV f k n R m)(e:iW VW l f){M:jD}(q:wU M=true)(h:M.aX=k)(a:k<18446744073709551616)(b:bO l fE=some ⟨iS M,iS M⟩):M.check<=m:=by obtain⟨g,j,c,-⟩:=e.sure NL b dQ;have⟨r,i⟩:=RW q (by rw[h];exact a);simp only at c;have o:=(d g j).2 (by rw[c];exact r) (by rw[c,i];exact h);have p:=o.check;rwa[c,i]at p
def bi4(h:(kB D).1≠0):(kB D).2.1=none:=by
 unfold kB at h|-;split
 .rfl
 rename_i a;rw[aP a]at h;split
 .rfl
 rename_i b;rw[aP b]at h;split
 .rfl
 rename_i c;rw[aP c]at h;split
 .rfl
 rename_i d;rw[aP d]at h;exact absurd rfl h
def cb4(K:D.down=false)(r:D.cap=n)(E:n<=1048576)(Z:kK n k m D.files (B.map jG) i)(Y:lG B)(hf:B.length<=1000)(o:k<18446744073709551616):((kB D).1=61/\(kB D).2.1=none/\nY n k m D B i 61 none (kB D).2.2)\/∃j G h5,(kB D).1=0/\(kB D).2.1=some G/\aY5 n k m (kB D).2.2 G j (B.take h5)/\(kB D).2.2.bQ=D.bQ/\((fY (kB D).2.2 G k (iN j)).2.1=none->nY n k m D B i (fY (kB D).2.2 G k (iN j)).1 none (fY (kB D).2.2 G k (iN j)).2.2/\(fY (kB D).2.2 G k (iN j)).1≠0)/\∀I,(fY (kB D).2.2 G k (iN j)).2.1=some I->(fY (kB D).2.2 G k (iN j)).1=0/\nY n k m D B i 0 (some (G,I)) (fY (kB D).2.2 G k (iN j)).2.2:=by
 have⟨w,z,F⟩:=bI1 (aX:=k) (s:=m) K r E Z;rcases F with⟨a,b,c⟩|⟨j,V,a,b,c,d,e,f,g,h,h0⟩
 .refine .inl ⟨a,bi4 (by rw[a];simp),w,z,.inl ⟨rfl,rfl,b,c⟩,λv=>?_,(λh6 G I u=>by cases u),λl p=>by rw[LH l p]at a;simp at a⟩;exact absurd a (Z8 v).2
 have⟨Q,p2⟩:=cb1 g;have H:aY5 n k m (kB D).2.2 ⟨fB j,kF (fB j)⟩ j (B.take j.flatten):=
  ⟨c,w.trans r,E,d,⟨V,e,f⟩,WN Y _,Q,by rw[b8];omega,o⟩
 have J:=bZ4 (aX:=k) (s:=m) c (w.trans r) E d e f;refine .inr ⟨j,_,j.flatten,a,b,H,z,?_⟩;have⟨R,S,O⟩:=J;refine⟨λN=>?_,λI A=>?_⟩
 .rcases O with⟨I,s,q,x⟩|⟨s,q,x,L⟩
  .rw[q]at N;cases N
  rw[s];refine⟨⟨R.trans w,S.trans z,.inl ⟨rfl,rfl,x,?_⟩,λv=>absurd s (ah9 (Z8 v).1 _ _ _),(λh6 G I u=>by cases u),λl p=>?_⟩,by simp⟩
  .exact(L.less h).cG7 g
  have⟨m9,C⟩:=L5 l p ⟨fB j,kF (fB j)⟩ k (iN j);rw[LH l p]at s;simp only at s;rw[C]at s;simp at s
 rcases O with⟨I',s,q,x⟩|⟨s,q,x,L⟩
 .rw[q]at A;cases A;refine⟨s,⟨R.trans w,S.trans z,.inr ⟨rfl,_,_,j.flatten,rfl,p2,h,?_⟩,λ_=>by simp,(λh6 T U u M P t y=>?_),λl p=>?_⟩⟩
  .rw[<-Q];exact x
  .cases u;refine aw5 c o M P t y h0 ?_ q;have X:=bK2 f h0 M P o t;exact aM X (aB1 e.log)
  have⟨m9,C⟩:=L5 l p ⟨fB j,kF (fB j)⟩ k (iN j);have W:=LH l p;rw[W]at q b|-;simp only at q b|-;rw[C]at q|-;cases q;refine⟨rfl,λT U u=>?_⟩;cases u;exact⟨by rw[<-cJ b],rfl,rfl⟩
 rw[q]at A;cases A
def af0(a d m c b g s:Nat)(D:aL)(k:List kM)(S:Nat)(w:aI)(e:eY)(h:aI):Prop:=∃(j:Int)(o:iL)(i:aL)(q:Nat)(f:dV),e=.returned (.tuple #[sE q o,.int .i64 j])/\nY g b s D k S j o i/\(f.d=d/\f.m=m)/\KD h a q f i o c b/\p7 a (jQ w d m) (vB h q f o) w h
def noX:oZ:=⟨0,0,0,.bool true,.bool true,fun _=>0,fun _=>False,fun _=>False⟩
def au6(D:aL):D.gS.2.bQ=D.bQ:=by
 unfold aL.gS;split
 .exact qP _ _
 rfl
def aQ0(h:uJ n m w zs w x)(b:DT w k):p7 n (jQ w k m) (jQ x k m) w x:=(p7.PH h b (lA.refl _ _)).mono (λd c a=>by
 rcases a with a|a|a
 .exact a
 .omega
 simp[Value.ownBlock]at a) (λd c a=>.inl (.inl a))
def bc8(hd:bJ w k n i D K H)(hb:k<=w)(F:D.down=false)(U:D.cap=j)(hc:j<=1048576)(C:kK j d m D.files (B.map jG) g)(A:lG B)(hf:B.length<=1000)(E:d<18446744073709551616)(f:Nat):Calls prog 49 #[zp n,zu d,.float .f64 f] w (af0 k n i f d j m D B g w):=by
 have h:=ce5 hd hb;have⟨HB,P⟩:=aA hb hd.IZ;have hu:=au6 D;unfold af0;rcases cb4 F U hc C A hf E with⟨Q,R,M⟩|⟨C',G,h5,Q,R,M,a4,N,O⟩
 .rw[Q,R]at h;unfold cb5 at h;simp only at h;have A3:=aH M;clear hd hb F C A hf Q R M hu;go_in;go_wp2_with fail
  go_call h as e w1 ⟨L,rfl,Y,-,p⟩;have⟨V1,J⟩:=aA Y (aQ0 p P);clear h Y p;go_wp2;go_ret2;exact⟨61,none,_,0,⟨n,i,0,true,noX⟩,rfl,A3,⟨rfl,rfl⟩,V1,J⟩
 rw[Q,R]at h;rw[hu,<-a4]at h;have⟨D1,T⟩:=fR ((kB D).2.2);rw[<-T]at h M N O;unfold cb5 at h;simp only at h;have⟨A3,A5,A6⟩:=aB M N O;clear hd hb F C A hf Q R M a4 N O hu T;go_in;go_wp2_with fail
 go_call h as e w1 ⟨L,rfl,⟨h3,h4,V⟩,W,p⟩;have⟨hL,v,X,h0⟩:=W G rfl;have x:=aQ0 p P;have J:=aH (show p7 k (jQ w n i) (BH w1 n i L v) w w1 from⟨x.os,x.tape,x.output,x.size,x.block,λh5 C l=>by
  rcases l with l|l|l
  .exact x.rJ h5 C l
  .omega
  have:=h0 h5 l;omega⟩)
 have c:=bZ3 V X (aM HB x.size) A3 f;obtain⟨⟨er,o,D2⟩,hr⟩:∃r,r=fY D1 G d (iN C'):=⟨_,rfl⟩;have q:=A5.zz;have s:=A6.zz;rw[<-hr]at c q s;unfold aD4 at c;simp only at c q s;have⟨A5,A6⟩:=aA q s;clear h V W p hL X h0 x hr q s;cases o with
 |none=>
  go_wp2_with fail
  go_call c as e u ⟨S,-⟩;obtain⟨b,rfl,Z,a⟩:=S trivial;have⟨V2,E2⟩:=aA Z (J.trans a);have⟨N,O⟩:=A5 trivial;have R2:=aH N;clear c S Z a N;go_wp2;go_ret2;exact⟨er,none,D2,0,⟨n,i,0,true,noX⟩,rfl,R2,⟨rfl,rfl⟩,V2,E2⟩
 |some I=>
  have⟨O,a7⟩:=A6 I rfl;subst O;have R2:=aH a7;go_wp2_with fail
  go_call c as e u ⟨-,S⟩;obtain⟨b,y,g1,g2,g3,rfl,t,a⟩:=S I rfl;have b3:=eA u (.cells #[zp L,zp y.x.X,zu d] 73);have r3:=Row.new u #[zp L,zp y.x.X,zu d] 73;have SV:=aH (show oE (u.alloc (.cells #[zp L,zp y.x.X,zu d] 73)) k u y D2 G I f d from
   ⟨t.next b3,by rw[g3];exact r3,aM HB (aM J.size a.size),t.CQ b3 dQ (j7 r3 (by decide))⟩)
  have z:=(J.trans a).trans (t.mB b3);have EV:=aH (show p7 k (jQ w n i) (vB (u.alloc (.cells #[zp L,zp y.x.X,zu d] 73)) u y (some (G,I))) w (u.alloc (.cells #[zp L,zp y.x.X,zu d] 73))from
   ⟨z.os,z.tape,z.output,z.size,z.block,λh5 C l=>by
    rcases l with l|l
    .exact z.rJ h5 C l
    have:=(J.trans a).size;omega⟩)
  have h2:=aH (And.intro g1 g2);clear c S t a b3 r3 z g1 g2 g3 a7;go_wp2;go_ret2;exact⟨0,some (G,I),D2,u,y,rfl,R2,h2,SV,EV⟩
section
variable {w x y:aI}{base W q:Nat}{h:dV}{D D':aL}{o o':iL}{cF aX:Nat}
def KD.far(H:KD x base q h D o cF aX)(j:x.heap.size<=y)(d:∀k,k<x.heap.size->vB x q h o k->y.heap[k]?=x.heap[k]?):KD y base q h D o cF aX/\∀k,k<x.heap.size->y.heap[k]?=x.heap[k]?->vB y q h o k->vB x q h o k:=by
 match o,H,d with
 |none,⟨f,g,i⟩,d=>
  refine⟨⟨f,g,i.far λk c r=>d k c r⟩,λk c e b=>?_⟩;rcases b with b|b|b
  .exact .inl b
  .have⟨C,t,l,m,n⟩:=b;exact .inr (.inl ⟨C,t,l,by rw[<-e];exact m,n⟩)
  refine .inr (.inr ?_);unfold OwnAt at b|-;rw[<-dK (a:=zp h.d 9) (d h.d i.lt.1 (.inr (.inl (oF (i.row.choose_spec.choose_spec.1) (.inl rfl)))))];exact b
 |some (G,I),H,d=>
  have⟨s,p⟩:=H.sys.far j λk c u=>d k c (.inl u);refine⟨oE.far H j d,λk c e b=>?_⟩;rcases b with b|b
  .exact .inl (p k c e b)
  exact .inr b
def iY.aI0(H:iY w base W q h D o cF aX)(j:Nat)(u:aN):KD (w.setCell (zp W j) u) base q h D o cF aX/\¬vB (w.setCell (zp W j) u) q h o W/\p7 base (mS w W q h o) (mS (w.setCell (zp W j) u) W q h o) w (w.setCell (zp W j) u):=by
 have g:=jI w ⟨W,j,none⟩ u;have b:∀k,k≠W->(w.setCell ⟨W,j,none⟩ u).heap[k]?=w.heap[k]?:=λk c=>aU _ _ _ _ c;have⟨d,n⟩:=H.it.far (y:=w.setCell ⟨W,j,none⟩ u) g.size λk t s=>b k λa=>H.out (a▸s);have v:=H.row.set j u;have f:∀k,jQ (w.setCell ⟨W,j,none⟩ u) h.d h.m k->k=W->False:=λk c e=>by subst e;have⟨l,m,r⟩:=d.eI;exact r.nS v tX.1 tX.2 c
 have p:¬vB (w.setCell ⟨W,j,none⟩ u) q h o W:=by
  match o,H,d with
  |none,H,d=>exact λa=>f W a rfl
  |some (G,I),H,d=>
   rintro ((a|a)|a)
   .rcases a with a|a
    .exact f W a rfl
    exact H.out (.inl (.inl (.inr a)))
   .exact H.out (.inl (.inr a))
   exact H.out (.inr a)
 refine⟨d,p,⟨g.os,g.tape,g.output,g.size,λk c i=>?_,λk c a=>?_⟩⟩
 .rcases i with i|i
  .exact b k λa=>by have:=H.low;omega
  exact b k λa=>i (.inr a)
 rcases a with a|a
 .by_cases e:k=W
  .exact .inr e
  exact .inl (n k c (b k e) a)
 exact .inr a
def iY.closed(H:iY w base W q h D o cF aX):iY (w.setCell (zp W 1) (.pointer none)) base W q h D none cF aX/\p7 base (mS w W q h o) (mS (w.setCell (zp W 1) (.pointer none)) W q h none) w (w.setCell (zp W 1) (.pointer none)):=by
 have⟨e,f,b⟩:=H.aI0 1 (.pointer none);have a:∀z k,vB z q h none k->vB z q h o k:=λz k c=>by
  match o with
  |none=>exact c
  |some (G,I)=>exact .inl (.inl (.inl c))
 refine⟨⟨H.row.set 1 (.pointer none),e.eI,H.low,λd=>f (a _ _ d)⟩,⟨b.os,b.tape,b.output,b.size,b.block,λk c d=>b.rJ k c (d.imp (a _ k) id)⟩⟩
def iY.by3(H:iY w base W q h D none cF aX)(e:∃a b,bJ y base h.d h.m D' a b)(d:gX base h.m w y):iY y base W q h D' none cF aX/\p7 base (mS w W q h none) (mS y W q h none) w y:=by have⟨a,b,c⟩:=H.it;exact H.CE (o':=none) rfl rfl e (p7.nA d c.IZ)
def iY.put{n:Nat}(H:iY w base W q h D none cF aX)(B:S.d=h.d/\S.m=h.m)(s:KD x base n S D' o' cF aX)(v:p7 base (jQ w h.d h.m) (vB x n S o') w x):iY (x.setCell (zp W 1) (sE n o')) base W n S D' o' cF aX/\p7 base (mS w W q h none) (mS (x.setCell (zp W 1) (sE n o')) W n S o') w (x.setCell (zp W 1) (sE n o')):=by
 have F:KD x base n S D' o' cF aX/\¬vB x n S o' W/\Row x W 69 [.pointer (some ⟨S.d,0,none⟩),sE q none,.int .u64 aX,.float .f64 cF]:=
  ⟨s,λa=>H.out (v.rJ W H.row.lt a),by rw[B.1];exact H.row.of_block (v.block W H.row.lt (.inr H.out))⟩
 have⟨J,f,K⟩:=F;have j:=jI x ⟨W,1,none⟩ (sE n o');have d:∀k,k≠W->(x.setCell ⟨W,1,none⟩ (sE n o')).heap[k]?=x.heap[k]?:=λk c=>aU _ _ _ _ c;have⟨g,r⟩:=J.far (y:=x.setCell ⟨W,1,none⟩ (sE n o')) j.size λk E C=>d k λa=>f (a▸C);have m:=K.set 1 (sE n o');have b:∀k,jQ (x.setCell ⟨W,1,none⟩ (sE n o')) S.d S.m k->k=W->False:=λk c e=>by subst e;have⟨o,p,A⟩:=g.eI;exact A.nS m tX.1 tX.2 c
 have z:¬vB (x.setCell ⟨W,1,none⟩ (sE n o')) n S o' W:=by
  match o',f,g,b with
  |none,f,g,b=>exact λa=>b W a rfl
  |some (G,I),f,g,b=>
   rintro ((a|a)|a)
   .rcases a with a|a
    .exact b W a rfl
    exact f (.inl (.inl (.inr a)))
   .exact f (.inl (.inr a))
   exact f (.inr a)
 refine⟨⟨m,g,H.low,z⟩,⟨j.os.trans v.os,j.tape.trans v.tape,j.output.trans v.output,aM v.size j.size,λk c i=>?_,λk c a=>?_⟩⟩
 .have l:k≠W:=by
   rcases i with i|i
   .have:=H.low;omega
   exact λa=>i (.inr a)
  exact(d k l).trans (v.block k c (i.imp id λu t=>u (.inl t)))
 rcases a with a|a
 .by_cases e:k=W
  .exact .inr e
  exact .inl (v.rJ k c (r k (aW c v.size) (d k e) a))
 exact .inr a
end
def QO(D:aL):aL:=D.start.2
def aX9(b W q:Nat)(h:dV)(o:iL)(c a d s:Nat)(D:aL)(j:List kM)(S:Nat)(w:aI)(e:eY)(k:aI):Prop:=∃(g:Int)(i:iL)(f:aL),e=.returned (.int .i64 g)/\nY d a s (QO D) j S g i f/\oH w b W q h o f i c a k
def bU4:(QO D).down=false:=by
 unfold QO aL.start;cases a:D.down with
 |true=>rfl
 |false=>simpa using a
def TG(D:aL):(QO D).files=D.files/\(QO D).cap=D.cap:=by unfold QO aL.start;split<;>exact⟨rfl,rfl⟩
def bb2(h:D.down=false):QO D=D:=by unfold QO aL.start;rw[h];rfl
def cn2(c W q:Nat)(h:dV)(D:aL)(a b:Nat)(z:aI):Prop:=z.cell? ⟨W,0,none⟩=some (.pointer (some ⟨h.d,0,none⟩))/\z.cell? ⟨W,2,none⟩=some (.int .u64 (b:Nat))/\z.cell? ⟨W,3,none⟩=some (.float .f64 a)
def Y6{s S:Nat}{h:dV}{o:iL}{Bs:List kM}(H:iY w k n m h D o d j)(hb:k<=w)(N:D.cap=i)(hc:i<=1048576)(h6:D.bQ<1000000000)(hk:kK i j s D.files (Bs.map jG) S)(Y:lG Bs)(hf:Bs.length<=1000)(J:j<18446744073709551616):Calls prog 26 #[zp n] w (aX9 k n m h o d j i s D Bs S w):=by
 obtain⟨c0,c1,-,-⟩:=H.cells;have f1:=H.row.JE;have⟨k1,k2⟩:=H.closed;have⟨Q,V1,HB⟩:=aB k1 k2 hb;have⟨p,hp⟩:=fR (sE m o);rw[<-hp]at c1;have K:=aH (λ(z:aI) (q:iY z k n m h (QO D) none d j) (R:k<=z.heap.size) (y:aI) (hy:aR z.heap.size z y)=>(by
  have⟨W,X,Z⟩:=(q.next hy).1.it;exact bc8 Z (aM R hy.size) bU4 ((TG D).2.trans N) hc (by rw[(TG D).1];exact hk) Y hf J d:Calls prog 49 #[.pointer (some ⟨h.d,0,none⟩),.int .u64 j,.float .f64 d] y (af0 k h.d h.m d j i s (QO D) Bs S y)))
 have K:=aH (λ(z:aI) (q:iY z k n m h (QO D) none d j) (R:k<=z.heap.size) (y:aI) (hy:aR z.heap.size z y)=>show Calls prog 49 #[.pointer (some ⟨h.d,0,none⟩),.int .u64 j,.float .f64 d] y (λe O=>∃(u:Int)(f:iL)(t:aL)(l:Nat)(g:dV)(P:Option Addr),e=.returned (.tuple #[.pointer P,.int .i64 u])/\sE l f=.pointer P/\nY i j s (QO D) Bs S u f t/\(g.d=h.d/\g.m=h.m)/\KD O k l g t f d j/\p7 k (jQ y h.d h.m) (vB O l g f) y O)from(K.out z q R y hy).mono λe O ⟨u,f,t,l,g,h1,h2,h3,h4,h5⟩=>by
  obtain⟨P,hP⟩:∃P,sE l f=.pointer P:=by
   cases f with
   |none=>exact⟨none,rfl⟩
   |some x=>exact⟨_,rfl⟩
  exact⟨u,f,t,l,g,P,by rw[h1,hP],hP,h2,h3,h4,h5⟩)
 have c:=λ(z:aI)(q:iY z k n m h D none d j)=>(by
  have⟨W,X,Z⟩:=q.it;exact BP Z:Calls prog 29 #[.pointer (some ⟨h.d,0,none⟩)] z λe O=>e=.returned (.bool (!D.down))/\z=O)
 have h7:=aH (λ(z:aI)(q:iY z k n m h D none d j)=>(by
  have⟨W,X,Z⟩:=q.it;exact bo4 Z h6:Calls prog 48 #[.pointer (some ⟨h.d,0,none⟩)] z (rI k h.d h.m D.start z)))
 have T:=aH (λ(z:aI) (q:iY z k n m h (QO D) none d j) (ez:p7 k (mS w n m h o) (mS z n m h none) w z) (x:aI) (u:Int) (f:iL) (t:aL) (l:Nat) (g:dV) (hR:nY i j s (QO D) Bs S u f t) (he:g.d=h.d/\g.m=h.m) (hs:KD x k l g t f d j) (hv:p7 k (jQ z.drew h.d h.m) (vB x l g f) z.drew x)=>show aX9 k n m h o d j i s D Bs S w (.returned (.int .i64 u)) (x.setCell ⟨n,1,none⟩ (sE l f))from by
  have G:=(q.next iH.drew).1;have⟨r1,r2⟩:=G.put he hs hv;exact⟨u,f,t,rfl,hR,l,g,he,r1,ez.trans ((q.next iH.drew).2.trans r2)⟩)
 have v:=aH (λ(z:aI) (q:iY z k n m h (QO D) none d j)=>show cn2 k n m h D d j z from⟨q.cells.1,q.cells.2.2.1,q.cells.2.2.2⟩);have V:=aH (λ(z x:aI) (q:iY z k n m h (QO D) none d j) (f:iL) (l:Nat) (g:dV) (hv:p7 k (jQ z.drew h.d h.m) (vB x l g f) z.drew x)=>show Row x n 69 [.pointer (some ⟨h.d,0,none⟩),sE m none,.int .u64 j,.float .f64 d]from by
  have G:=(q.next iH.drew).1;exact G.row.of_block (hv.block n G.row.lt (.inr G.out)))
 have A:=aH (λ(x:aI) (p:aN) (hr:Row x n 69 [.pointer (some ⟨h.d,0,none⟩),p,.int .u64 j,.float .f64 d])=>show cn2 k n m h D d j x from⟨hr.lO,hr.tW,hr.JF⟩);unfold cn2 at v A;clear H hb N hc h6 hk Y hf J k1 k2 hp;cases L:D.down with
 |false=>
  rw[L]at c;have M:=c _ Q.out;have U:=aH (bb2 L);have C:=aH (show iY (w.setCell ⟨n,1,none⟩ (.pointer none)) k n m h (QO D) none d j from by rw[U.out];exact Q.out);obtain⟨d0,d1,-,-⟩:=Q.out.cells;clear c;go_in;go_wp2_with fail
  go_call M as e O ⟨rfl,rfl⟩;have V2:=V1;have HO:=aH (K.out _ C.out (aM HB.out V1.out.size) _ iH.drew);go_wp2_with fail
  go_region_held3 (λz=>z.cell? ⟨n,0,none⟩=some (.pointer (some ⟨h.d,0,none⟩))/\z.cell? ⟨n,2,none⟩=some (.int .u64 j)/\z.cell? ⟨n,3,none⟩=some (.float .f64 d))
   (first|(exact A.out _ _ (a.set 1 _))|(exact A.out _ _ a)|(exact v.out _ (C.out.next iH.drew).1)|(exact v.out _ C.out)|fail)
   (first|(go_at_call 49;go_call HO.out as e x9 ⟨u,f,t,l,g,P9,rfl,E,F,I,b,r⟩;have a:=V.out _ _ C.out _ _ _ r;have u1:=a.qD;have u2:=a.JE;simp only[fA,dA,sE]at u1)|fail)
  have B:=aH (T.out _ C.out V2.out _ u f t l g F I b r);rw[E]at B;clear E F I b r a u1 u2;go_wp2;go_ret;exact B.out
 |true=>
  rw[L]at c;have M:=c _ Q.out;have b:=h7.out _ Q.out;have h9:D.start.1=0:=(by unfold aL.start;rw[L];rfl);unfold rI at b;rw[h9]at b;obtain⟨d0,d1,-,-⟩:=Q.out.cells;clear c h9;go_in;go_wp2_with fail
  go_call M as e O ⟨rfl,rfl⟩;go_wp2_with fail
  go_call b as e w2 ⟨rfl,h8,h0⟩;have⟨k3,v3⟩:=Q.out.by3 h8 h0;have⟨C,V2⟩:=aA (show iY w2 k n m h (QO D) none d j from k3) (V1.out.trans v3);have HO:=aH (K.out _ C.out (aM HB.out V2.out.size) _ iH.drew);clear M b h8 h0 k3 v3 d0 d1;go_wp2_with fail
  go_region_held3 (λz=>z.cell? ⟨n,0,none⟩=some (.pointer (some ⟨h.d,0,none⟩))/\z.cell? ⟨n,2,none⟩=some (.int .u64 j)/\z.cell? ⟨n,3,none⟩=some (.float .f64 d))
   (first|(exact A.out _ _ (a.set 1 _))|(exact A.out _ _ a)|(exact v.out _ (C.out.next iH.drew).1)|(exact v.out _ C.out)|fail)
   (first|(go_at_call 49;go_call HO.out as e x9 ⟨u,f,t,l,g,P9,rfl,E,F,I,b,r⟩;have a:=V.out _ _ C.out _ _ _ r;have u1:=a.qD;have u2:=a.JE;simp only[fA,dA,sE]at u1)|fail)
  have B:=aH (T.out _ C.out V2.out _ u f t l g F I b r);rw[E]at B;clear E F I b r a u1 u2;go_wp2;go_ret;exact B.out
def ag7(n a:Int)(w:aI):Calls prog 59 #[n,a] w λe b=>e=.returned (.agg #[a,n,zs])/\aR w w b:=by go_in;go_wp2;refine bE (v:=.agg #[a,n,zs]) (by simp[results,results59,go_sem]) rfl ⟨rfl,cD _ _⟩
def UZ(A:Option Addr)(n c:Nat)(a:Int)(w:aI):Calls prog 61 #[.slice A n c,a] w λe b=>e=.returned (.agg #[a,(),.slice A n c])/\aR w w b:=by go_in;go_wp2;refine bE (v:=.agg #[a,(),.slice A n c]) (by simp[results,results61,go_sem]) rfl ⟨rfl,cD _ _⟩
def WD(h:6000<=n):kK n m k [] [] 0:=by refine⟨⟨⟨List.Pairwise.nil,(λd f a=>by cases a)⟩,(λd f a=>by cases a),by simpa[mD]using h⟩,[],0,.none λd _ _=>rfl,oT _,λc b=>by cases b⟩
def as6(a:Nat):Calm (aL.uL a):=⟨rfl,rfl,List.Pairwise.nil⟩
def WO:lG []:=⟨(λb a=>by cases a),(λs i t h=>by simp[dJ]at h),List.Pairwise.nil⟩
def ae8(c a b s:Nat)(w:aI)(e:eY)(f:aI):Prop:=∃(W q:Nat)(h:dV)(G:cS)(I:aZ)(d:aL),e=.returned (.tuple #[.pointer (some ⟨W,0,none⟩),.int .i64 0])/\nY b a s (aL.uL b) [] 0 0 (some (G,I)) d/\iY f w.heap.size W q h d (some (G,I)) c a/\aR w.heap.size w f
def cP9(d:bJ x w n m (aL.uL k) K H)(c:aR w w x):iY (x.alloc (.cells #[zp n,.pointer none,zu j,.float .f64 i] 69)) w x 0 ⟨n,m,0,.pointer none,⟨0,0,0,.pointer none,.pointer none,λ_=>0,λ_=>False,λ_=>False⟩⟩ (aL.uL k) none i j:=by have b:=Row.new x #[zp n,.pointer none,zu j,.float .f64 i] 69;have a:=d.next (cD x (.cells #[zp n,.pointer none,zu j,.float .f64 i] 69));exact⟨b,⟨_,_,a⟩,c.size,a.nS b tX.1 tX.2⟩
def cQ0{s:dV}(t:k<=1048576)(f:6000<=k)(a:i<18446744073709551616)(H:iY x w n 0 s (aL.uL k) none j i)(l:aR w w x):Calls prog 26 #[zp n] x λe h=>e=()/\∃(q:Nat)(s:dV)(G:cS)(I:aZ)(b:aL),nY k i m (aL.uL k) [] 0 0 (some (G,I)) b/\iY h w n q s b (some (G,I)) j i/\aR w w h:=by
 go_call Y6 (s:=m) (S:=0) (Bs:=[]) H l.size rfl t (by simp[aL.uL]) (WD f) WO (by simp) a as e h ⟨v,o,b,rfl,c,q,p,y,r,u⟩;have g:QO (aL.uL k)=aL.uL k:=bb2 rfl;rw[g]at c;rcases c.it with⟨d,-⟩|⟨d,G,I,z,rfl,-⟩
 .exact absurd d (c.calm (as6 k))
 subst d;exact⟨rfl,q,p,G,I,b,c,r,u.below l dQ⟩
def ba5{w:aI}{cap aX s cF:Nat}(o:cap<=1048576)(j:6000<=cap)(a:aX<18446744073709551616):Calls prog 15 #[cap,zu aX,.float .f64 cF] w (ae8 cF aX cap s w):=by
 have A:=ck0 w w cap o dQ;have⟨B,C⟩:=aA (λ(x:aI) (d m:Nat) (f:bH->Nat) (g:bH->aN) (k:bJ x w d m (aL.uL cap) f g) (n:aR w w x)=>show iY (x.alloc (.cells #[zp d,.pointer none,zu aX,.float .f64 cF] 69)) w x 0 ⟨d,m,0,.pointer none,⟨0,0,0,.pointer none,.pointer none,λ_=>0,λ_=>False,λ_=>False⟩⟩ (aL.uL cap) none cF aX from cP9 k n) (λ(x:aI) (W:Nat) (h:dV) (H:iY x w W 0 h (aL.uL cap) none cF aX) (n:aR w w x)=>show Calls prog 26 #[zp W] x λe t=>e=()/\∃(q:Nat)(h:dV)(G:cS)(I:aZ)(b:aL),nY cap aX s (aL.uL cap) [] 0 0 (some (G,I)) b/\iY t w W q h b (some (G,I)) cF aX/\aR w w t from cQ0 o j a H n);unfold ae8;clear o j a;go_in;go_wp2_with fail
 go_call A as e O ⟨d,rfl,⟨m,f,g,k⟩,c⟩;have K:=aH (B _ _ _ _ _ k c);have l:=aH (C _ _ _ K (c.alloc c.size _));go_wp2_with fail
 go_call l as e u ⟨rfl,q,h,G,I,b,p,r,i⟩;have R:=aH (show∃(W q:Nat)(h:dV)(G:cS)(I:aZ)(b:aL),(Value.pointer (zp O))=(Value.pointer (zp W))/\nY cap aX s (aL.uL cap) [] 0 0 (some (G,I)) b/\iY u w W q h b (some (G,I)) cF aX/\aR w w u from⟨_,q,h,G,I,b,rfl,p,r,i⟩);clear p r i k;go_wp2;go_ret2;have⟨J,N,M,z,D,y,L,E,F,v⟩:=R.zz;exact⟨J,N,M,z,D,y,by rw[<-L];rfl,E,F,v⟩
def DJ(w:aI)(q:Nat)(h:dV)(k:Nat):Prop:=iG w h k\/k=q
def sM(a q:Nat)(h:dV)(b c:Nat)(w:aI)(er:Int)(D:aL)(G:cS)(I:aZ)(x:aI):Prop:=∃d:dV,(d.d=h.d/\d.m=h.m)/\(∃e f,bJ x a h.d h.m D e f)/\(er≠61->oE x a q d D G I b c)/\p7 a (DJ w q h) (DJ x q d) w x
section
variable {base q W:Nat}{h:dV}{D D':aL}{G G':cS}{I I':aZ}{cF aX:Nat}{w x y z:aI}{er:Int}
def sM.left(H:oE w base q h D G I cF aX)(K:FZ w base h cF er D' G' I' x):sM base q h cF aX w er D' G' I' x:=by have⟨f,b,c,d,e,i,j,a⟩:=K;refine⟨f,⟨b,c⟩,i,λg=>H.CE ⟨d,e⟩ (j g) a,a.or λk=>k=q⟩
def sM.kept(a:oE w base q h D G I cF aX)(b:lL base q h D G I cF aX K H w x):sM base q h cF aX w er D G I x:=⟨h,⟨rfl,rfl⟩,⟨_,_,b.eI⟩,λ_=>b.wX,(a.sys.qI rfl ⟨_,_,b.eI⟩ b.fr).2.or λk=>k=q⟩
def sM.before(H:oE w base q h D G I cF aX)(a:aR w w x)(K:sM base q h cF aX x er D' G' I' y):sM base q h cF aX w er D' G' I' y:=by have⟨b,e,c,d,f⟩:=K;exact⟨b,e,c,d,((H.M8 ⟨rfl,rfl⟩ (H.sys.next a) (H.sys.mB a)).2).trans f⟩
def sM.grown{g:Nat}(e:S.d=h.d/\S.m=h.m)(o:∃j l,bJ x base h.d h.m D' j l)(J:er≠61->oE x base q S D' G' I' cF aX)(i:p7 base (DJ w q h) (DJ x q S) w x)(H:w<=g)(I:¬DJ x q S g)(b:x.grownBy y g):sM base q h cF aX w er D' G' I' y:=by
 have⟨j,l,o⟩:=o;have n:∀k,DJ x q S k->some k≠some g:=λk f c=>(by cases c;exact I f);have u:S.d<x:=by rw[e.1];exact o.lt.1
 have v:DJ x q S S.d:=by refine .inl (.inl (.inl (.inr (.inl ?_))));have⟨A,L,F,K,B⟩:=o.row;rw[e.1];exact oF F (.inl rfl)
 have s:=b.block _ u (n _ v);have m:∀k,k<w.heap.size->DJ y q S k->DJ x q S k:=λk d c=>by
  have z:k<x.heap.size:=aW d i.size;have D:=b.block k z (λp=>by cases p;omega);rcases c with(((c|c|c)|c)|c)|c
  .exact .inl (.inl (.inl (.inl c)))
  .have⟨C,t,E,B,G⟩:=c;exact .inl (.inl (.inl (.inr (.inl ⟨C,t,E,by rw[<-D];exact B,G⟩))))
  .refine .inl (.inl (.inl (.inr (.inr ?_))));unfold OwnAt at c|-;rw[<-dK (a:=zp S.d 9) s];exact c
  .exact .inl (.inl (.inr c))
  .exact .inl (.inr c)
  exact .inr c
 refine⟨S,e,⟨j,l,o.far λk d r=>b.block k d (n k (.inl (.inl (.inl ?_))))⟩,λc=>(J c).far b.size λk d f=>b.block k d (n k f),⟨b.os.trans i.os,b.tape.trans i.tape,b.output.trans i.output,aM i.size b.size,λk f r=>(b.block k (aW f i.size) (λp=>by cases p;omega)).trans (i.block k f r),λk f c=>i.rJ k f (m k f c)⟩⟩;rw[e.1,e.2];exact r
def sM.row{n:Nat}{T:cC}{X:List aN}(K:sM base q h cF aX w er D' G' I' x)(a:Row w n T X)(b:¬DJ w q h n):Row x n T X:=by have⟨d,e,f,g,c⟩:=K;exact a.of_block (c.block n a.lt (.inr b))
end
def vS:¬(63=103\/63=112\/63=5)/\(63:cC)≠3:=by decide
def CD:¬(35=103\/35=112\/35=5)/\(35:cC)≠3:=by decide
abbrev vN:Array aN:=#[.int .i64 0,.int .i64 0,.slice none 0 0]
structure Sp where
 k:Int
 n:aS
 a:Int
 b:Int
 E:Option Addr
 e:Nat
 f:Nat
 K:Option Addr
 i:Nat
 j:Nat
 t:aS
abbrev Sp.c(s:Sp):Array aN:=#[.int .i64 s.k,.string s.n,.int .i64 s.a,.int .i64 s.b,.slice s.E s.e s.f,.slice s.K s.i s.j,.string s.t]
structure An where
 r:Int
 n:Int
 A:Option Addr
 k:Nat
 c:Nat
abbrev An.v(a:An):Array aN:=#[.int .i64 a.r,.int .i64 a.n,.slice a.A a.k a.c]
def bv7{e:Int}(h:e<9\/14<e):(e==9)=false/\(e==10)=false/\(e==11)=false/\(e==12)=false/\(e==13)=false/\(e==14)=false:=by simp;omega
def au7(w:aI)(X Y:Array aN):∃a,a=(w.alloc (.cells X 35)).alloc (.cells Y 63)/\aR w w a/\a.heap.size=w+2/\Row a w 35 X.toList/\Row a (w+1) 63 Y.toList:=by have h:=Row.new (w.alloc (.cells X 35)) Y 63;rw[bD]at h;exact⟨_,rfl,aK (cD w _) (cD _ _),by simp,(Row.new w X _).next (cD _ _),h⟩
structure O0(d:aI)(c W q:Nat)(h:dV)(D:aL)(G:cS)(I:aZ)(a b:Nat)(e:List aN)(x:aI):Prop where
 wX:oE x c q h D G I a b
 pN:Row x W 69 [.pointer (some ⟨h.d,0,none⟩),.pointer (some ⟨q,0,none⟩),.int .u64 (b:Nat),.float .f64 a]
 box:Row x d.heap.size 35 e
 AQ:Row x (d.heap.size+1) 63 vN.toList
 o0:¬DJ x q h W
 o1:¬DJ x q h d.heap.size
 o2:¬DJ x q h (d.heap.size+1)
section
variable {base q W:Nat}{h:dV}{D D':aL}{G G':cS}{I I':aZ}{cF aX:Nat}{w x y z:aI}{er:Int}{xs:List aN}
def O0.next(H:O0 w base W q h D G I cF aX xs x)(b:aR x x y):O0 w base W q h D G I cF aX xs y:=by have⟨s,v⟩:=H.wX.M8 ⟨rfl,rfl⟩ (H.wX.sys.next b) (H.wX.sys.mB b);exact⟨s,H.pN.next b,H.box.next b,H.AQ.next b,λa=>H.o0 (v.rJ _ H.pN.lt a),λa=>H.o1 (v.rJ _ H.box.lt a),λa=>H.o2 (v.rJ _ H.AQ.lt a)⟩
def O0.start(H:iY w base W q h D (some (G,I)) cF aX)(a:Array aN):O0 w base W q h D G I cF aX a.toList ((w.alloc (.cells a 35)).alloc (.cells vN 63)):=by have m:=Row.new w a 35;have c:=Row.new (w.alloc (.cells a 35)) vN 63;rw[bD]at c;have i:=cD w (.cells a 35);have e:=cD (w.alloc (.cells a 35)) (.cells vN 63);have f:=aK i e;have d:oE w base q h D G I cF aX:=H.it;have⟨k,v⟩:=H.next f;have g:=d.old;have⟨j,l,n⟩:=d.sys.eI;have K:=(lL.start d n).next f;have b:=m.next e;exact⟨k.it,k.row,b,c,k.out,K.nS g b dQ CD.1 CD.2,K.nS g c (gI _) vS.1 vS.2⟩
structure bs7(d:aI)(c W q:Nat)(h:dV)(a b:Nat)(e:List aN)(x:aI):Prop where
 pN:Row x W 69 [.pointer (some ⟨h.d,0,none⟩),.pointer (some ⟨q,0,none⟩),.int .u64 (b:Nat),.float .f64 a]
 box:Row x d.heap.size 35 e
 AQ:Row x (d.heap.size+1) 63 vN.toList
def O0.r(H:O0 w base W q h D G I cF aX xs x):bs7 w base W q h cF aX xs x:=⟨H.pN,H.box,H.AQ⟩
def O0.behind(H:O0 w base W q h D G I cF aX xs x)(K:sM base q h cF aX x er D' G' I' y):bs7 w base W q h cF aX xs y:=⟨K.row H.pN H.o0,K.row H.box H.o1,K.row H.AQ H.o2⟩
def bs7.next(H:bs7 w base W q h cF aX xs x)(a:aR x x y):bs7 w base W q h cF aX xs y:=⟨H.pN.next a,H.box.next a,H.AQ.next a⟩
def az5(z:aI)(g:Nat)(u0 u1 u2:aN):z.grownBy (((z.setCell (zp g) u0).setCell (zp g 1) u1).setCell (zp g 2) u2) g:=nD (nD (jI z (zp g) u0) (jI _ (zp g 1) u1)) (jI _ (zp g 2) u2)
def O0.put(i:iY w base W q h D (some (G,I)) cF aX)(b:aR w w x)(H:O0 w base W q h D G I cF aX xs x)(K:sM base q h cF aX x er D' G' I' y)(n:aR y y z)(d f g:aN):sM base q h cF aX w er D' G' I' (((z.setCell (zp (w+1)) d).setCell (zp (w+1) 1) f).setCell (zp (w+1) 2) g):=by have l:=EP n (az5 z (w+1) d f g);have a:oE w base q h D G I cF aX:=i.it;have⟨o,e,k,m,c⟩:=K;exact sM.grown e k m (((a.M8 ⟨rfl,rfl⟩ (a.sys.next b) (a.sys.mB b)).2).trans c) (gI _) (λj=>H.o2 (c.rJ _ H.AQ.lt j)) l
end
end Go.Proofs.YtpopikndggffaaaGreatDoor
