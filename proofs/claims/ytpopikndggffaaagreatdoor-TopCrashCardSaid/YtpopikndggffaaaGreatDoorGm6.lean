/- TOP, part 6. -/
import Derived.Deep.RegionHeld3
import Derived.Laws.StructEq
import Derived.Test.YtpopikndggffaaaGreatDoorGm4
import Derived.Test.YtpopikndggffaaaGreatDoorGm5
namespace Go.Proofs.YtpopikndggffaaaGreatDoor
set_option linter.all false
set_option maxRecDepth 100000
set_option maxHeartbeats 16000000
open Go.RowKit Tryz
variable{b:Bool}{k n:Nat}{s:aT}
def evL(e:Ev):List aN:=[.string e.1,.string e.2.1,.float .f64 e.2.2]
def J1(e:Ev):Array aN:=#[.string e.1,.string e.2.1,.float .f64 e.2.2]
def toList_nil(h:s.size=0):s.toList=[]:=by rw[l3];exact gW (by rw[bN];exact h)
def EX(h:s.size≠0):s.toList≠[]:=by rw[l3];intro e;have:=gQ List.length e;rw[bN]at this;exact h this
def toList_inj{b:aT}:s.toList=b.toList↔s=b:=by
 rw[l3,l3];constructor
 .intro h;rw[<-BZ s,<-BZ b,h]
 rintro rfl;rfl
def cI(w:aI)(o:Obj):aS w.heap.size w (w.alloc o):=(aY _ _).alloc (aO _) o
def U5(w:aI)(o a:Obj):aS w.heap.size w ((w.alloc o).alloc a):=aJ (cI w o) (cI _ a)
def bL1{o:Bool}(h:b=o):Ending.returned (.bool b)=.returned (.bool o):=by rw[h]
def GY(x:Ev)(w:aI)(j:okV x):
 Calls prog 136 #[.agg (J1 x)] w λe k=>e=.returned (.int .i64 (jP x))/\aS w.heap.size w k:=by
  obtain⟨t,d,n⟩:=x;obtain⟨g,h,i⟩:=j;simp only[maxLen]at g h i;unfold J1 jP;dsimp only;have a:=cI w (.cells #[.string t,.string d,.float .f64 n] 44);by_cases z:t.size=0
  .have f:(t.toList==[])=true:=by rw[toList_nil z];rfl
   go_in;go_wp2;go_ret;exact⟨nF (by rfl),a⟩
  have f:(t.toList==[])=false:=(by rw[bI];exact EX z);by_cases l:16<t.size
  .have b:(16:Int)<t.size:=(by omega);go_in;go_wp2;go_ret;exact⟨nF (by rfl),a⟩
  have b:¬(16:Int)<t.size:=(by omega);by_cases m:200<d.size
  iterate 2
   ·(first|(have c:(200:Int)<d.size:=by omega)|(have c:¬(200:Int)<d.size:=by omega));go_in;go_wp2;go_ret;exact⟨nF (by rfl),a⟩
def ag9(x:Ev)(w:aI)(j:okV x):
 Calls prog 103 #[.agg (J1 x)] w λe k=>e=.returned (.int .i64 (jP x))/\aS w.heap.size w k:=by
  obtain⟨t,d,n⟩:=x;obtain⟨g,h,i⟩:=j;simp only[maxLen]at g h i;unfold J1 jP;dsimp only;have a:=cI w (.cells #[.string t,.string d,.float .f64 n] 44);by_cases z:t.size=0
  .have f:(t.size:Int)=0:=(by omega);go_in;go_wp2;go_ret;exact⟨nF (by rfl),a⟩
  have f:¬(t.size:Int)=0:=(by omega);have l:((t.size:Int)==0)=false:=(by rw[bI];exact f);by_cases m:16<t.size
  .have b:(16:Int)<t.size:=(by omega);go_in;go_wp2;go_ret;exact⟨nF (by rfl),a⟩
  have b:¬(16:Int)<t.size:=(by omega);by_cases o:200<d.size
  iterate 2
   ·(first|(have c:(200:Int)<d.size:=by omega)|(have c:¬(200:Int)<d.size:=by omega));go_in;go_wp2;go_ret;exact⟨nF (by rfl),a⟩
def bb9(a:Nat):Nat:=if 9223372036854775808<=a then 18446744073709551615-a else a+9223372036854775808
def bR5(a:n<18446744073709551616)(b:k<18446744073709551616):bb9 n=bb9 k↔n=k:=by unfold bb9;split<;>split<;>omega
def bj6(a:Nat)(w:aI)(f:a<18446744073709551616):
 Calls prog 234 #[.float .f64 a] w λe d=>e=.returned (.int .u64 (bb9 a:Nat))/\aS w.heap.size w d:=by
  unfold bb9;by_cases h:9223372036854775808<=a
  iterate 2
   ·(first|(have c:(9223372036854775808:Int)<=a:=by omega)|(have c:¬(9223372036854775808:Int)<=a:=by omega));(first|rw[aU h]|rw[aQ h]);(first|(have b:IntKind.u64.wrap (18446744073709551615-(a:Int))=((18446744073709551615-a:Nat):Int):=by rw[eR];omega)|(have b:IntKind.u64.wrap ((a:Int)+9223372036854775808)=((a+9223372036854775808:Nat):Int):=by rw[eR];omega));have g:=JE;go_in;go_wp2;go_ret;exact⟨nF (by omega),aY _ _⟩
def bt3(a b:Nat)(w:aI)(j:a<18446744073709551616)(k:b<18446744073709551616):
 Calls prog 164 #[.float .f64 a,.float .f64 b] w λe n=>e=.returned (.bool (decide (a=b)))/\aS w.heap.size w n:=by
  have f:=bR5 j k;have g:=λw=>bj6 a w j;have i:=λw=>bj6 b w k;generalize bb9 a=x at f g;generalize bb9 b=y at f i;have m:decide (a=b)=decide (x=y):=(by rw[decide_eq_decide];exact f.symm);rw[m];by_cases h:x=y
  .subst h;go_in;(go_wp2_with fail);refine(g _).mono ?_;rintro e o ⟨rfl,c⟩;(go_wp2_with fail);refine(i _).mono ?_;rintro e p ⟨rfl,d⟩;go_wp2;go_ret;exact⟨bL1 (by simp),aJ c d⟩
  have l:¬(x:Int)=y:=(by omega);have q:((x:Int)==y)=false:=by rw[bI];exact l
  go_in;(go_wp2_with fail);refine(g _).mono ?_;rintro e o ⟨rfl,c⟩;(go_wp2_with fail);refine(i _).mono ?_;rintro e p ⟨rfl,d⟩;go_wp2;go_ret;exact⟨bL1 (by simp[h]),aJ c d⟩
def bM7(n:Nat):qL n 8=be 8 n:=by unfold qL;rw[aQ (by omega)];rfl
def XQ(n:Nat)(w:aI)(b:n<18446744073709551616):
 Calls prog 138 #[.int .u64 n,.int .i64 8] w λe a=>e=.returned (.string (bs (be 8 n)))/\aS w.heap.size w a:=by have c:=sI n 8 w (by omega) (by omega);rwa[cB,bM7]at c
def ag8(n:Nat)(w:aI)(b:n<18446744073709551616):
 Calls prog 105 #[.int .u64 n,.int .i64 8] w λe a=>e=.returned (.string (bs (be 8 n)))/\aS w.heap.size w a:=by have c:=bj5 n 8 w (by omega) (by omega);rwa[cB,bM7]at c
def at0(w:aI)(e:Ev)(t:cD)(b:aI)(c:aS (w.alloc (.cells (J1 e) t)).heap.size (w.alloc (.cells (J1 e) t)) b):
 b.cell? ⟨w.heap.size,0,none⟩=some (.string e.1)/\b.cell? ⟨w.heap.size,1,none⟩=some (.string e.2.1)/\b.cell? ⟨w.heap.size,2,none⟩=some (.float .f64 e.2.2):=by
  have a:(w.alloc (.cells (J1 e) t)).heap[w.heap.size]?=some (.cells (J1 e) t (0,0)):=heap_alloc_new w _;have h:∀j v,(J1 e)[j]?=some v->b.cell? ⟨w.heap.size,j,none⟩=some v:=λj v h=>by refine(c.cell (p:=⟨w.heap.size,j,none⟩) (eN.1 a).1).trans ?_;unfold World.cell?;rw[a];simpa using h
  exact⟨h 0 _ rfl,h 1 _ rfl,h 2 _ rfl⟩
def bX1(t d:aT)(n:Nat):bs (o8 (lb t))++bs (o8 (lb d))++bs (be 8 n)=bs (JJ (t,d,n)):=by unfold JJ;rw[l4,l4,bV]
def as9(x:Ev)(w:aI)(l:okV x):
 Calls prog 139 #[.agg (J1 x)] w λe s=>e=.returned (.string (bs (mI x)))/\aS w.heap.size w s:=by
  have a:=λw=>GY x w l;have b:=λs h=>at0 w x 44 s h;have m:=cI w (.cells (J1 x) 44);obtain⟨t,d,n⟩:=x;obtain⟨u,v,y⟩:=l;simp only[maxLen]at u v y;simp only[]at b;unfold J1 at a b m|-;dsimp only at a b m|-;by_cases i:jP (t,d,n)=0
  iterate 2
   ·(first|(obtain⟨C,D,E⟩:=yY i;simp only[]at C D E;(have h:mI (t,d,n)=JJ (t,d,n):=by unfold mI;rw[aU i]);rw[i]at a;rw[h,<-bX1];(have j:=λw=>SC t w (by omega));(have k:=λw=>SC d w (by omega));(have q:(o8 (lb t)).length<=1000:=by rw[nS _ (by rw[bN];omega),bN];omega);(have r:(o8 (lb d)).length<=1000:=by rw[nS _ (by rw[bN];omega),bN];omega);generalize o8 (lb t)=G at j q|-;generalize o8 (lb d)=H at k r|-;clear h i)|((have h:mI (t,d,n)=[]:=by unfold mI;rw[aQ i]);rw[h];have p:¬jP (t,d,n)=0:=i;generalize jP (t,d,n)=c at a p));have I:=JE;go_in;(go_wp2_with fail);refine(a _).mono ?_;rintro e F ⟨rfl,g⟩;(first|(have f:=λx:dY F=>b x.it (aJ g x.ok);have z:=λx=>(f x).1;have A:=λx=>(f x).2.1;have B:=λx=>(f x).2.2;clear f b a;go_wp2_with fail;(refine cU (by kernel_rfl) (by kernel_rfl) ?_);(repeat go_big_quiet_step (first|(go_at_call 137;with_reducible exact eP _ (j _))|(go_at_call 137;with_reducible exact eP _ (k _))|(go_at_call 138;exact eP _ (XQ n _ (by omega)))));refine wpQuiet_nil ?_;intro _ l;obtain⟨⟨J,o⟩,rfl⟩:=l)|clear a b);go_wp2;go_ret;first|exact⟨rfl,aJ m (aJ g o)⟩|exact⟨rfl,aJ m g⟩
def bt4(x:Ev)(w:aI)(l:okV x):
 Calls prog 106 #[.agg (J1 x)] w λe s=>e=.returned (.string (bs (mI x)))/\aS w.heap.size w s:=by
  have a:=λw=>ag9 x w l;have b:=λs h=>at0 w x 44 s h;have m:=cI w (.cells (J1 x) 44);obtain⟨t,d,n⟩:=x;obtain⟨u,v,y⟩:=l;simp only[maxLen]at u v y;simp only[]at b;unfold J1 at a b m|-;dsimp only at a b m|-;by_cases i:jP (t,d,n)=0
  iterate 2
   ·(first|(obtain⟨C,D,E⟩:=yY i;simp only[]at C D E;(have h:mI (t,d,n)=JJ (t,d,n):=by unfold mI;rw[aU i]);rw[i]at a;rw[h,<-bX1];(have j:=λw=>X3 t w (by omega));(have k:=λw=>X3 d w (by omega));(have q:(o8 (lb t)).length<=1000:=by rw[nS _ (by rw[bN];omega),bN];omega);(have r:(o8 (lb d)).length<=1000:=by rw[nS _ (by rw[bN];omega),bN];omega);generalize o8 (lb t)=G at j q|-;generalize o8 (lb d)=H at k r|-;clear h i)|((have h:mI (t,d,n)=[]:=by unfold mI;rw[aQ i]);rw[h];have p:¬jP (t,d,n)=0:=i;generalize jP (t,d,n)=c at a p));have I:=JE;go_in;(go_wp2_with fail);refine(a _).mono ?_;rintro e F ⟨rfl,g⟩;(first|(have f:=λx:dY F=>b x.it (aJ g x.ok);have z:=λx=>(f x).1;have A:=λx=>(f x).2.1;have B:=λx=>(f x).2.2;clear f b a;go_wp2_with fail;(refine cU (by kernel_rfl) (by kernel_rfl) ?_);(repeat go_big_quiet_step (first|(go_at_call 104;with_reducible exact eP _ (j _))|(go_at_call 104;with_reducible exact eP _ (k _))|(go_at_call 105;exact eP _ (ag8 n _ (by omega)))));refine wpQuiet_nil ?_;intro _ l;obtain⟨⟨J,o⟩,rfl⟩:=l)|clear a b);go_wp2;go_ret;first|exact⟨rfl,aJ m (aJ g o)⟩|exact⟨rfl,aJ m g⟩
def bL2(x y:Ev)(w:aI)(o:okV x)(r:okV y):
 Calls prog 107 #[.agg (J1 x),.agg (J1 y)] w λe v=>e=.returned (.bool (decide (x=y)))/\aS w.heap.size w v:=by
  obtain⟨t,d,n⟩:=x;obtain⟨h,b,a⟩:=y;obtain⟨p,q,c⟩:=o;obtain⟨s,u,f⟩:=r;simp only[]at c f;unfold J1;dsimp only;have l:=U5 w (.cells #[.string t,.string d,.float .f64 n] 44) (.cells #[.string h,.string b,.float .f64 a] 44);by_cases i:t=h
  .subst i;by_cases j:d=b
   iterate 2
    ·(first|(subst j;have m:=λw=>bt3 n a w c f;(have g:decide ((t,d,n)=(t,d,a))=decide (n=a):=by simp))|((have g:decide ((t,d,n)=(t,b,a))=false:=by simp[j]);(have A:(d.toList==b.toList)=false:=by rw[bI,Ne,toList_inj];exact j)));rw[g];go_in;(try (go_wp2_with fail;refine(m _).mono ?_;rintro e B ⟨rfl,k⟩));go_wp2;go_ret;first|exact⟨rfl,aJ l k⟩|exact⟨rfl,l⟩
  have g:decide ((t,d,n)=(h,b,a))=false:=(by simp[i]);have z:(t.toList==h.toList)=false:=(by rw[bI,Ne,toList_inj];exact i);rw[g];go_in;go_wp2;go_ret;exact⟨rfl,l⟩
abbrev cZ:=Nat×Int×Int
def wN(e:cZ):Prop:=e.1<18446744073709551616/\(-9223372036854775808<=e.2.1/\e.2.1<=9223372036854775807)/\(-9223372036854775808<=e.2.2/\e.2.2<=9223372036854775807)
def iX(e:cZ):Array aN:=#[.int .u64 e.1,.int .i64 e.2.1,.int .i64 e.2.2]
def iA(a b:cZ):Bool:=decide (a.1<b.1\/a.1=b.1/\(a.2.1<b.2.1\/a.2.1=b.2.1/\a.2.2<b.2.2))
def pS(a:cZ)(h:Nat)(v:Int):Bool:=decide (a.1<h\/a.1=h/\a.2.1<v)
def xK(w:aI)(o b:Obj):aS w.heap.size w ((w.alloc o).alloc b):=have a:=(aY w.heap.size w).alloc (aO _) o
 a.alloc a.size _
def ag6{o:Bool}(h:b=o):Ending.returned (.bool b)=.returned (.bool o):=by rw[h]
def wC(a b:cZ)(w:aI)(q:wN a)(r:wN b):
 Calls prog 212 #[.agg (iX a),.agg (iX b)] w λe s=>e=.returned (.bool (iA a b))/\aS w.heap.size w s:=by
  obtain⟨j,n,t⟩:=a;obtain⟨k,o,u⟩:=b;obtain⟨c,d,f⟩:=q;obtain⟨g,h,i⟩:=r;simp only[]at c d f g h i;unfold iX iA;dsimp only;go_in;by_cases l:j=k
  .subst l;by_cases m:n=o
   .subst m;go_wp2;go_ret;exact⟨ag6 (by simp),xK _ _ _⟩
   go_wp2;go_ret;exact⟨ag6 (by simp[m]),xK _ _ _⟩
  have p:¬(j:Int)=k:=(by omega);go_wp2;go_ret;exact⟨ag6 (by simp[l]),xK _ _ _⟩
def ad1(a:cZ)(h:Nat)(v:Int)(w:aI)(j:wN a)(o:h<18446744073709551616)(p:-9223372036854775808<=v/\v<=9223372036854775807):
 Calls prog 260 #[.agg (iX a),.int .u64 h,.int .i64 v] w λe k=>e=.returned (.bool (pS a h v))/\aS w.heap.size w k:=by
  obtain⟨b,l,m⟩:=a;obtain⟨c,d,f⟩:=j;simp only[]at c d f;unfold iX pS;dsimp only;go_in;by_cases n:(b:Int)<h
  .have g:¬(b:Int)=h:=(by omega);go_wp2;go_ret;exact⟨ag6 (by simp;omega),(aY _ _).alloc (aO _) _⟩
  by_cases g:b=h
  .subst g;go_wp2;go_ret;exact⟨ag6 (by simp),(aY _ _).alloc (aO _) _⟩
  have i:¬(b:Int)=h:=(by omega);go_wp2;go_ret;exact⟨ag6 (by simp;omega),(aY _ _).alloc (aO _) _⟩
def bU6:prog.stoodInHeld 152=false:=by kernel_rfl
def aL0(a d:Nat)(b c e f:Int)(w:aI):
 (Op.equalIn 10000 152 (.agg #[.int .u64 a,.int .i64 b,.int .i64 c]) (.agg #[.int .u64 d,.int .i64 e,.int .i64 f])).run prog w=.ok (decide (a=d/\b=e/\c=f)) w:=by
  rw[run_equalIn_agg w 9999 _ _ _ (by simp[Program.fieldsOf,underlying152]) bU6];simp[Program.fieldsOf,underlying152,Op.eqFields,go_sem,underlying23,underlying3];by_cases i:a=d
  .subst i;by_cases h:b=e
   .by_cases j:c=f
    .simp[h,j]
    simp[h,j]
   simp[h]
  have g:¬(a:Int)=d:=(by omega);simp[i,g]
@[simp,go_sem] def cy3(a d:Nat)(b c e f:Int)(w:aI):
 (binOp .eql 152 (.agg #[.int .u64 a,.int .i64 b,.int .i64 c]) (.agg #[.int .u64 d,.int .i64 e,.int .i64 f])).run prog w=.ok (.bool (decide (a=d/\b=e/\c=f))) w:=by rw[run_eql_struct,aL0];rfl
variable{L l:List cZ}{A:Option Addr}
def IX(e:cZ):List aN:=[.int .u64 e.1,.int .i64 e.2.1,.int .i64 e.2.2]
def fX(l:List cZ):List aN:=l.flatMap IX
@[simp,go_sem] def ch1(l:List cZ):(fX l).length=l.length*3:=by
 induction l with
 |nil=>rfl
 |cons e l a=>simp only[fX,eC,aP]at a|-;rw[a];simp[IX];omega
def bC5(l:List cZ)(i k:Nat)(a:i<l.length)(c:k<3):(fX l)[i*3+k]?=(IX l[i])[k]?:=by
 induction l generalizing i with
 |nil=>simp at a
 |cons e l b=>
  unfold fX;rw[eC];cases i with
  |zero=>rw[eY (by simp[IX];omega)];simp
  |succ i=>
   rw[eA (by simp[IX];omega)];have:=b i (by simpa using a);unfold fX at this;simp only[bX];rw[<-this];congr 1;simp[IX];omega
def qD(w:aI)(v:aN)(l:List cZ):Prop:=Reads w v 3 l.length (fX l)/\∀e∈l,wN e
def qD.next{w x:aI}{v:aN}(h:qD w v L)(a:aS w.heap.size w x):qD x v L:=⟨h.1.next a,h.2⟩
def qD.cells{w:aI}{n k:Nat}{l:List cZ}(h:qD w (.slice A n k) l):n=l.length/\n<=k/\k<=maxLen/\(0<l.length->∃b a,A=some ⟨b,a,none⟩/\b<w.heap.size/\
 ∀(i:Nat)(f:i<l.length)(d:aI),aS w.heap.size w d->d.cell? ⟨b,a+i*3,none⟩=some (.int .u64 l[i].1)/\d.cell? ⟨b,a+i*3+1,none⟩=some (.int .i64 l[i].2.1)/\d.cell? ⟨b,a+i*3+2,none⟩=some (.int .i64 l[i].2.2)):=by
  obtain⟨⟨v,x,u,m,o,y,s⟩,t⟩:=h;obtain⟨rfl,rfl,rfl⟩:=eV u;refine⟨rfl,m,o,λj=>?_⟩;obtain⟨b,a,q,e,c⟩:=s j;refine⟨b,a,q,e,λi f d r=>?_⟩;have h:∀z,(g:z<3)->d.cell? ⟨b,a+(i*3+z),none⟩=(IX l[i])[z]?:=λz g=>by rw[r.cell (p:=⟨b,a+(i*3+z),none⟩) e,c (i*3+z) (by simp;omega),<-bC5 l i z f g,aK]
  refine⟨?_,?_,?_⟩
  .simpa[IX]using h 0 (by omega)
  .simpa[IX,fL]using h 1 (by omega)
  simpa[IX,fL]using h 2 (by omega)
variable{o:cZ}{p:cZ->Bool}
section
variable {a b c:cZ}{h:Nat}{v:Int}
def pG:iA a b=true↔(a.1<b.1\/a.1=b.1/\(a.2.1<b.2.1\/a.2.1=b.2.1/\a.2.2<b.2.2)):=by simp[iA]
def pR:pS a h v=true↔(a.1<h\/a.1=h/\a.2.1<v):=by simp[pS]
def uW(d:iA a b=true)(e:iA b c=true):iA a c=true:=by rw[pG]at *;omega
def LZ:iA a a=false:=by rw[<-lH,pG];omega
def SM(c:iA a b=false)(d:iA b a=false):a=b:=by rw[<-lH]at c d;rw[pG]at *;have⟨e,f,g⟩:=a;have⟨h,i,j⟩:=b;simp only[]at c d;have k:e=h:=(by omega);have l:f=i:=(by omega);have m:g=j:=(by omega);rw[k,l,m]
def aP2(c:iA a b=true)(d:pS b h v=true):pS a h v=true:=by rw[pG]at c;rw[pR]at *;omega
end
def fB(l:List cZ):Bool:=decide (l.Pairwise fun a b=>iA a b=true)
def kA(l:List cZ)(h:Nat)(v:Int):Nat:=(l.filter fun e=>pS e h v).length
def inE(h:Nat)(f t:Int)(e:cZ):Bool:=decide (e.1=h/\f<=e.2.1/\e.2.1<=t)
def lR(h:Nat)(t:Int)(e:cZ):Bool:=decide (e.1=h/\e.2.1<=t)
def kF(l:List cZ)(h:Nat)(f t:Int):List cZ:=l.filter (inE h f t)
def jY(l:List cZ)(h:Nat)(t:Int):Option cZ:=(l.filter (lR h t)).getLast?
def sH(l:List cZ)(h:Nat)(v:Int):kA l h v<=l:=iR _ _
def sG(c:fB L=true){n k:Nat}(a:n<k)(b:k<L.length):iA (L[n]'(by omega)) L[k]=true:=
 ca4.1 (of_decide_eq_true c) n k (by omega) b a
def VD(h:∀i,(a:i+1<L.length)->iA L[i] L[i+1]=true):fB L=true:=by
 refine cJ (ca4.2 ?_);intro i j a c b;obtain⟨d,rfl⟩:∃d,j=i+1+d:=⟨j - (i+1),by omega⟩;induction d with
 |zero=>exact h i c
 |succ d e=>exact uW (e (by omega) (by omega)) (h (i+1+d) (by omega))
def aF1{i:Nat}(a:i+1<L.length)(h:iA L[i] L[i+1]=false):fB L=false:=by rw[<-lH];intro b;have:=sG b (show i<i+1 by omega) a;rw[h]at this;cases this
def YR{k m:Nat}(l:k<=m)(n:m<=L)(g:∀i,(a:i<L.length)->i<k->p L[i]=false)(h:∀i,(a:i<L.length)->k<=i->i<m->p L[i]=true)(j:∀i,(a:i<L.length)->m<=i->p L[i]=false):
 L.filter p=(L.drop k).take (m-k):=by
  have e:L=L.take k++((L.drop k).take (m-k)++(L.drop k).drop (m-k)):=by rw[bY,bY]
  have c:(L.take k).filter p=[]:=by rw[gT];intro x b;obtain⟨i,a,rfl⟩:=eS b;simp only[bJ]at a;rw[rG,g i (by omega) (by omega)];simp
  have d:((L.drop k).take (m-k)).filter p=(L.drop k).take (m-k):=by rw[pN];intro x b;obtain⟨i,a,rfl⟩:=eS b;simp only[bJ,fF]at a;rw[rG,oY];exact h (k+i) (by omega) (by omega) (by omega)
  have f:((L.drop k).drop (m-k)).filter p=[]:=by rw[gT];intro x b;obtain⟨i,a,rfl⟩:=eS b;simp only[fF]at a;rw[oY,oY,j _ (by omega) (by omega)];simp
  conv=>lhs;rw[e]
  rw[iN,iN,c,d,f,pD,fU]
def aV5{e:Int}{k:Nat}(d:k<=L)(b:∀i,(a:i<L.length)->i<k->pS L[i] n e=true)(c:∀i,(a:i<L.length)->k<=i->pS L[i] n e=false):kA L n e=k:=by unfold kA;rw[YR (k:=0) (m:=k) (by omega) d (λi _ a=>absurd a (by omega)) (λi a _ n=>b i a n) c];simp;omega
def qO(q:fB L=true)(h:Nat)(v:Int):∀i,(a:i<L.length)->(pS L[i] h v=true↔i<kA L h v):=by
 have e:∃k,k<=L.length/\(∀i,(a:i<L.length)->i<k->pS L[i] h v=true)/\(∀i,(a:i<L.length)->k<=i->pS L[i] h v=false):=by
  have:∀n,n<=L.length->(∀i,(a:i<L.length)->i<n->pS L[i] h v=true)\/∃k,k<=L.length/\(∀i,(a:i<L.length)->i<k->pS L[i] h v=true)/\(∀i,(a:i<L.length)->k<=i->pS L[i] h v=false):=by
   intro n;induction n with
   |zero=>intro _;exact .inl λi _ a=>absurd a (by omega)
   |succ n r=>
    intro s;rcases r (by omega)with b|b
    .rcases d:pS (L[n]'(by omega)) h v with _|_
     .refine .inr ⟨n,by omega,b,λi a j=>?_⟩;rcases nX j with rfl|c
      .exact d
      rw[<-lH];intro p;have:=aP2 (sG q c a) p;rw[d]at this;cases this
     refine .inl λi a g=>?_;rcases nX (Nat.le_of_lt_succ g)with rfl|c
     .exact d
     exact b i a c
    exact .inr b
  rcases this L gC with b|b
  .exact⟨L,gC,b,λi a o=>absurd a (by omega)⟩
  exact b
 have⟨k,o,b,l⟩:=e;intro i a;rw[aV5 o b l];constructor
 .intro m;rcases cR i k with c|f
  .exact c
  rw[l i a f]at m;cases m
 exact b i a
def ah4{L:List cZ}(r:fB L=true){h:Nat}{f t:Int}{m:Nat}(l:kA L h f<=m)(q:m<=L)(s:∀i,(a:i<L.length)->kA L h f<=i->i<m->lR h t L[i]=true)
 (u:(q:m<L)->lR h t L[m]=false):kF L h f t=(L.drop (kA L h f)).take (m-kA L h f):=by
  have g:=qO r h f;refine YR l q (λi a k=>?_) (λi a k j=>?_) (λi a o=>?_)
  .have:=(g i a).2 k;rw[pR]at this;unfold inE;refine cC ?_;omega
  .have b:=s i a k j;have d:¬pS L[i] h f=true:=λp=>absurd ((g i a).1 p) (by omega);rw[pR]at d;unfold lR at b;have:=of_decide_eq_true b;unfold inE;refine cJ ?_;omega
  have c:m<L:=(by omega);have b:=u c;have d:¬pS L[m] h f=true:=λp=>absurd ((g m c).1 p) (by omega);have e:i=m\/iA L[m] L[i]=true:=by
   rcases nX o with rfl|n
   .exact .inl rfl
   exact .inr (sG r n a)
  rw[pR]at d;unfold lR at b;have b:=of_decide_eq_false b;unfold inE;refine cC ?_;rcases e with rfl|e
  .omega
  rw[pG]at e;omega
def getLast_filter(d:n<L)(f:p L[n]=true)(c:∀i,(a:i<L.length)->n<i->p L[i]=false):(L.filter p).getLast?=some L[n]:=by
 have e:L=L.take (n+1)++L.drop (n+1):=by rw[bY]
 have b:(L.drop (n+1)).filter p=[]:=by rw[gT];intro x g;obtain⟨i,a,rfl⟩:=eS g;simp only[fF]at a;rw[oY,c _ (by omega) (by omega)];simp
 conv=>lhs;rw[e]
 rw[iN,b,fU,dQ,aK d,iN];simp[f]
def qP(b:∀i,(a:i<L.length)->p L[i]=false):L.filter p=[]:=by rw[gT];intro x c;obtain⟨i,a,rfl⟩:=eS c;rw[b i a];simp
def RP(g:fB L=true){n:Nat}{e:Int}{k:Nat}(m:kA L n e<=k)(j:(p:k<L)->lR n e L[k]=false):∀i,(f:i<L.length)->k<=i->lR n e L[i]=false:=by
 intro i f d;have a:k<L:=(by omega);have b:=j a;have h:¬pS L[k] n e=true:=λo=>absurd ((qO g n e k a).1 o) (by omega);rcases nX d with rfl|c
 .exact b
 have l:=sG g c f;rw[pR]at h;rw[pG]at l;unfold lR at b|-;have b:=of_decide_eq_false b;refine cC ?_;omega
def bb7(h:fB L=true){n:Nat}{e:Int}{k:Nat}(a:kA L n e<=k+1)(b:k<L)(c:(b:k+1<L)->lR n e L[k+1]=false)(g:lR n e L[k]=true):jY L n e=some L[k]:=by unfold jY;exact getLast_filter b g λi d f=>RP h a c i d (by omega)
def bb6(d:fB L=true){n:Nat}{e:Int}(c:kA L n e=0)(a:(f:0<L.length)->lR n e L[0]=false):jY L n e=none:=by unfold jY;rw[qP (λi b=>RP d (by omega) a i b (bO _))];rfl
def bb8(g:fB L=true){n:Nat}{e:Int}{k:Nat}(b:kA L n e<=k+1)(d:k<L)(j:(d:k+1<L)->lR n e L[k+1]=false)(f:lR n e L[k]=false)(o:k+1=kA L n e):jY L n e=none:=by
 unfold jY;rw[qP (λi m=>?_)];· rfl
 rcases cR k i with a|a
 .exact RP g b j i m (by omega)
 rcases nX a with rfl|c
 .exact f
 have l:=sG g c d;have h:=(qO g n e k d).2 (by omega);rw[pR]at h;rw[pG]at l;unfold lR at f|-;have a:=of_decide_eq_false f;refine cC ?_;omega
def tN(e:cZ)(o:List cZ):Nat:=(o.takeWhile fun x=>iA x e).length
def oV(o:List cZ)(e:cZ):List cZ:=if o[tN e o]?=some e then o else o.take (tN e o)++e::o.drop (tN e o)
def bk4(e:cZ)(o:List cZ):tN e o<=o:=by unfold tN;have:=(cu0 (l:=o) (p:=λx=>iA x e)).length_le;exact this
def bk5(e:n<=L)(c:∀i,(a:i<L.length)->i<n->iA L[i] o=true)(d:(e:n<L)->iA L[n] o=false):tN o L=n:=by
 unfold tN;have b:L=L.take n++L.drop n:=by rw[bY]
 conv=>lhs;rw[b]
 rw[List.takeWhile_append_of_pos (λx f=>by obtain⟨i,a,rfl⟩:=eS f;simp only[bJ]at a;rw[rG];exact c i (by omega) (by omega))];have:(L.drop n).takeWhile (λx=>iA x o)=[]:=by
  rcases cR n L with h|h
  .rw[gO h,IP,d h];rfl
  rw[TE h];rfl
 rw[this];simp;omega
def aY1(i:Nat)(c:i<tN o L):iA (L[i]'(by have:=bk4 o L;omega)) o=true:=by have d:=cu0 (l:=L) (p:=λx=>iA x o);have a:i<(L.takeWhile λx=>iA x o).length:=c;have b:=d.getElem a;rw[<-b];have:=List.all_takeWhile (l:=L) (p:=λx=>iA x o);rw[dL]at this;exact this _ (cY a)
def cd8(h:tN o L<L):iA L[tN o L] o=false:=by
 rw[<-lH];intro a;have:∀(L:List cZ)(h:tN o L<L),iA L[tN o L] o=true->False:=by
  intro L;induction L with
  |nil=>intro h;simp at h
  |cons x L c=>
   intro h a;unfold tN at h a c;rw[IP]at h;by_cases b:iA x o=true
   .simp only[IP,b,eE,cF,bX]at h a;exact c (by omega) a
   simp only[IP,b,dP,jU,bE,bU]at h a
 exact this L h a
def UD(j:fB L=true)(e:cZ):fB (oV L e)=true:=by
 unfold oV;by_cases h:L[tN e L]?=e
 .rw[aU h];exact j
 rw[aQ h];have c:=of_decide_eq_true j;refine cJ ?_;have a:∀y∈L.drop (tN e L),iA e y=true:=by
  intro y d;obtain⟨i,g,rfl⟩:=eS d;simp only[fF]at g;rw[oY];have m:tN e L<L:=(by omega);have o:=cd8 m;have k:iA e L[tN e L]=true:=by
   rcases p:iA e L[tN e L]with _|_
   .exact absurd (by rw[aK m,SM o p]) h
   rfl
  rcases nX (RE (tN e L) i)with l|l
  .have n:L[tN e L+i]=L[tN e L]:=(by congr 1;omega);rw[n];exact k
  exact uW k (sG j l (by omega))
 have b:∀x∈L.take (tN e L),iA x e=true:=by intro x f;obtain⟨i,g,rfl⟩:=eS f;simp only[bJ]at g;rw[rG];exact aY1 i (by omega)
 rw[oP,dD];refine⟨c.sublist (List.take_sublist _ _),⟨a,c.sublist (List.drop_sublist _ _)⟩,?_⟩;intro x f y d;rcases cX.1 d with rfl|d
 .exact b x f
 exact uW (b x f) (a y d)
def aG1{z:cZ}:z∈oV L o↔z=o\/z∈L:=by
 unfold oV;by_cases h:L[tN o L]?=o
 .rw[aU h];have:=bD h;constructor
  .exact .inr
  rintro (rfl|h)
  .exact this
  exact h
 rw[aQ h];have a:z∈L↔z∈L.take (tN o L)\/z∈L.drop (tN o L):=(by rw[<-cE,bY]);rw[a,cE,cX];constructor
 iterate 2
  .rintro (h|h|h)
   .exact .inr (.inl h)
   .exact .inl h
   exact .inr (.inr h)
def aI1(o:List cZ)(e:cZ):(oV o e).length<=o+1:=by
 unfold oV;split
 .omega
 have:=bk4 e o;simp;omega
def DB(l:List cZ):∀{o:List cZ},fB o=true->fB (l.foldl oV o)=true:=by
 induction l with
 |nil=>exact λh=>h
 |cons e l a=>exact λh=>a (UD h e)
def JT(l:List cZ):∀{o:List cZ} {x:cZ},x∈l.foldl oV o↔x∈o\/x∈l:=by
 induction l with
 |nil=>simp
 |cons e l a=>
  intro o x;rw[rA,a,aG1,cX];constructor
  .rintro ((h|h)|h)
   .exact .inr (.inl h)
   .exact .inl h
   exact .inr (.inr h)
  rintro (h|h|h)
  .exact .inl (.inr h)
  .exact .inl (.inl h)
  exact .inr h
def vY(l:List cZ):∀(o:List cZ),(l.foldl oV o).length<=o+l:=by
 induction l with
 |nil=>simp
 |cons e l a=>intro o;have b:=a (oV o e);have c:=aI1 o e;simp only[rA,cF];omega
variable{w:aI}
def qD.later{w:aI}{A:Option Addr}{n c:Nat}{l:List cZ}(h:qD w (.slice A n c) l)(g:0<l.length):∃b a,A=some ⟨b,a,none⟩/\b<w.heap.size/\
 ∀(i:Nat)(e:cZ),l[i]?=some e->∀d:aI,aS w.heap.size w d->d.cell? ⟨b,a+i*3,none⟩=some (.int .u64 e.1)/\d.cell? ⟨b,a+i*3+1,none⟩=some (.int .i64 e.2.1)/\d.cell? ⟨b,a+i*3+2,none⟩=some (.int .i64 e.2.2):=by obtain⟨b,a,m,o,p⟩:=h.cells.2.2.2 g;refine⟨b,a,m,o,λi e q d f=>?_⟩;obtain⟨j,k⟩:=aR.1 q;rw[<-k];exact p i j d f
def qD.ok{v:aN}{l:List cZ}(h:qD w v l){n:Nat}{e:cZ}(a:l[n]?=some e):wN e:=h.2 e (bD a)
def KL(v:aN)(l:List cZ)(w:aI)(h:qD w v l):
 Calls prog 276 #[v] w λe w'=>e=.returned (.bool (fB l))/\aS w.heap.size w w':=by
  obtain⟨⟨A,c,rfl,-,-,-,-⟩,-⟩:=id h;obtain⟨-,T,U,-⟩:=h.cells;unfold maxLen at U;have z:=λ(i:Nat)(e:cZ)(H:l[i]?=some e)=>h.ok H;rcases dX l.length with t|t
  .obtain rfl:=gW t;go_in;(go_wp2_with fail);go_loopw [3] (λi wr=>i=.int .i64 1/\aS w.heap.size w wr) (λi _=>0)
   .exact⟨rfl,aY _ _⟩
   obtain⟨rfl,a⟩:=hrel;go_wp2;go_ret;exact⟨rfl,a⟩
  obtain⟨b,h3,rfl,L,f⟩:=h.later t;obtain⟨n,I⟩:∃n,n=l.length:=⟨_,rfl⟩;rw[<-I]at T t|-;clear h;have B:=aH I;clear I;have⟨s,d⟩:=aA z f;clear z f;go_in;go_wp2_with fail
  go_loopw [3] (λi wr=>∃k:Nat,k<n/\i=.int .i64 ((k:Int)+1)/\(∀j,(E:j+1<l.length)->j<k->iA l[j] l[j+1]=true)/\aS w.heap.size w wr) (λi _=>n+1-(intOf i).toNat)
  .exact⟨0,t,rfl,λj _ E=>absurd E (by omega),aY _ _⟩
  obtain⟨k,hk,rfl,M,a⟩:=hrel;have J:=aH M;clear M;by_cases W:k+1<n
  .obtain⟨o,g⟩:∃o,l[k]?=some o:=⟨_,aK (by have:=B.out;omega)⟩;obtain⟨p,m⟩:∃p,l[k+1]?=some p:=⟨_,aK (by have:=B.out;omega)⟩;have Z:=s.out k o g;have ob:=s.out (k+1) p m;have C:=λx:dY wr=>d.out k o g x.it (aJ a x.ok);have D:=λx:dY wr=>d.out (k+1) p m x.it (aJ a x.ok);have N:=λx=>(C x).1;have O:=λx=>(C x).2.1;have P:=λx=>(C x).2.2;have Q:=λx=>(D x).1;have R:=λx=>(D x).2.1;have S:=λx=>(D x).2.2;have Y:((k:Int)+1)<n:=(by omega);have wk:IntKind.i64.wrap ((k:Int)+1-1)=k:=(by rw[dM];omega);have h4:IntKind.i64.wrap ((k:Int)+1+1)=k+1+1:=(by rw[dM];omega);have tk:((k:Int)+1).toNat=k+1:=(by omega);have⟨q,r⟩:=aA g m;clear C D g m;(go_wp2_with fail);refine cU (by kernel_rfl) (by kernel_rfl) ?_;(repeat go_big_quiet_step (first|(go_at_call 212;exact eP _ (wC o p _ Z ob))));refine wpQuiet_nil ?_;intro _ X;obtain⟨⟨w1,u⟩,rfl⟩:=X;rcases y:iA o p with _|_
   .go_wp2;go_ret;have F:=aR.1 q.out;have G:=aR.1 r.out;exact⟨by rw[aF1 (i:=k) (by have:=B.out;omega) (by rw[F.2,G.2];exact y)];rfl,aJ a u⟩
   go_wp2;go_roundw
   .
    refine⟨k+1,by omega,by go_num,λj E V=>?_,aJ a u⟩;rcases cR j k with K|K
    .exact J.out j E K
    obtain rfl:j=k:=(by omega);have F:=aR.1 q.out;have G:=aR.1 r.out;rw[F.2,G.2];exact y
   simp[intOf];omega
  have Y:¬((k:Int)+1)<n:=(by omega);go_wp2;go_ret;exact⟨by rw[VD (λi H=>J.out i H (by have:=B.out;omega))];rfl,a⟩
def lV(e:cZ):List bB:=if e.2.1<0\/e.2.2<0 then[]else be 8 e.1++be 8 e.2.1.toNat++be 8 e.2.2.toNat
def aX4(n:Nat):qL n 8=be 8 n:=by unfold qL;rw[aQ (by omega)];rfl
def bL0{b:aT}(h:s=b):Ending.returned (.string s)=.returned (.string b):=by rw[h]
def bx2(n:Nat)(w:aI)(b:n<18446744073709551616):
 Calls prog 138 #[.int .u64 n,.int .i64 8] w λe a=>e=.returned (.string (bs (be 8 n)))/\aS w.heap.size w a:=by have c:=sI n 8 w (by omega) (by omega);rwa[cB,aX4]at c
def at5(w:aI)(e:cZ)(t:cD)(b:aI)(c:aS (w.alloc (.cells (iX e) t)).heap.size (w.alloc (.cells (iX e) t)) b):
 b.cell? ⟨w.heap.size,0,none⟩=some (.int .u64 e.1)/\b.cell? ⟨w.heap.size,1,none⟩=some (.int .i64 e.2.1)/\b.cell? ⟨w.heap.size,2,none⟩=some (.int .i64 e.2.2):=by
  have a:(w.alloc (.cells (iX e) t)).heap[w.heap.size]?=some (.cells (iX e) t (0,0)):=heap_alloc_new w _;have h:∀j v,(iX e)[j]?=some v->b.cell? ⟨w.heap.size,j,none⟩=some v:=λj v h=>by refine(c.cell (p:=⟨w.heap.size,j,none⟩) (eN.1 a).1).trans ?_;unfold World.cell?;rw[a];simpa using h
  exact⟨h 0 _ rfl,h 1 _ rfl,h 2 _ rfl⟩
def UJ(e:cZ)(w:aI)(n:wN e):
 Calls prog 145 #[.agg (iX e)] w λd s=>d=.returned (.string (bs (lV e)))/\aS w.heap.size w s:=by
  obtain⟨h,v,p⟩:=e;obtain⟨f,g,i⟩:=n;simp only[]at f g i;unfold iX lV;dsimp only;go_in;have c:=(aY w.heap.size w).alloc (aO _) (.cells #[.int .u64 h,.int .i64 v,.int .i64 p] 152);by_cases q:v<0
  .go_wp2;go_ret;exact⟨bL0 (by simp[q,bs]),c⟩
  by_cases o:p<0
  .go_wp2;go_ret;exact⟨bL0 (by simp[o,bs]),c⟩
  obtain⟨v,rfl⟩:=dA (a:=v) (by omega);obtain⟨p,rfl⟩:=dA (a:=p) (by omega);(go_wp2_with fail);have b:∀x:dY (w.alloc (.cells #[.int .u64 h,.int .i64 v,.int .i64 p] 152)),x.it.cell? ⟨w.heap.size,0,none⟩=some (.int .u64 h)/\x.it.cell? ⟨w.heap.size,1,none⟩=some (.int .i64 v)/\x.it.cell? ⟨w.heap.size,2,none⟩=some (.int .i64 p):=λx=>at5 w (h,(v:Int),(p:Int)) _ x.it x.ok;have k:=λx=>(b x).1;have l:=λx=>(b x).2.1;have m:=λx=>(b x).2.2;clear b;refine cU (by kernel_rfl) (by kernel_rfl) ?_;repeat go_big_quiet_step (first|(go_at_call 138;exact eP _ (bx2 _ _ (by omega))))
  refine wpQuiet_nil ?_;intro _ r;obtain⟨⟨t,j⟩,rfl⟩:=r;go_wp2;go_ret;refine⟨bL0 ?_,?_⟩
  .rw[l4,l4,bV]
  repeat (first|assumption|exact aY _ _|(refine aJ (by assumption) ?_))
def hE(l:List bB):Nat:=num (l.take 8)
def vE(l:List bB):Nat:=num ((l.drop 8).take 8)
def pE(l:List bB):Nat:=num (l.drop 16)
def okG(l:List bB):Bool:=decide (l.length=24/\vE l<9223372036854775808/\pE l<9223372036854775808)
def QH(l:List bB):cZ:=if okG l then(hE l,vE l,pE l)else(0,0,0)
def cu5(l:List bB):vE l<18446744073709551616:=by unfold vE;have h:=DY ((l.drop 8).take 8);refine aW h (aL (gK (by omega) (show _<=8 by simp;omega)) (by decide))
def cv0(l:List bB)(a:l.length=24):pE l<18446744073709551616:=by unfold pE;have h:=DY (l.drop 16);refine aW h (aL (gK (by omega) (show _<=8 by simp;omega)) (by decide))
def cv2(l:List bB):hE l<18446744073709551616:=by unfold hE;have h:=DY (l.take 8);refine aW h (aL (gK (by omega) (show _<=8 by simp;omega)) (by decide))
def cA0(s:aT):qA (lb (s.extract 0 8))=hE (lb s):=by rw[eB,gF];unfold qA hE;simp[kJ]
def cz8(s:aT):qA (lb (s.extract 8 16))=vE (lb s):=by rw[eB,gF];unfold qA vE;simp[kJ]
def cz9(s:aT)(h:s.size=24):qA (lb (s.extract 16 24))=pE (lb s):=by rw[eB,gF];unfold qA pE;rw[kJ,aX (by simp;omega)]
def cb1{A:Program}{c:Code}{Q:Exit->Act->aI->Prop}{a:Act}(i:Act)(W:aI)(f:c.wp A (λe b d=>e=.normal/\b=i/\d=W) a w)(g:Q .normal i W):c.wp A Q a w:=
 Code.wp_mono (λe b d h=>by obtain⟨rfl,rfl,rfl⟩:=h;exact g) f
def ao4{a c:Array aN}{o:Bool}(d:a=c)(e:b=o):Ending.returned (.tuple #[.agg a,.bool b])=.returned (.tuple #[.agg c,.bool o]):=by rw[d,e]
def UK(s:aT)(w:aI)(B:s.size<=maxLen):
 Calls prog 266 #[.string s] w λe n=>e=.returned (.tuple #[.agg (iX (QH (lb s))),.bool (okG (lb s))])/\aS w.heap.size w n:=by
  have q:=(aY w.heap.size w).alloc (aO _) (.cells #[.int .u64 0,.int .i64 0,.int .i64 0] 152);by_cases a:s.size=24
  .have C:=cu5 (lb s);have A:=cv0 (lb s) (by rw[bN];exact a);have u:=cA0 s;have y:=cz8 s;have x:=cz9 s a;unfold QH okG;rw[bN];generalize vE (lb s)=v at *;generalize pE (lb s)=p at *;generalize hE (lb s)=h at *;have o:(s.size=24/\v<9223372036854775808/\p<9223372036854775808)↔(v<9223372036854775808/\p<9223372036854775808):=(by simp[a]);have d:v<9223372036854775808->IntKind.i64.wrap (v:Int)=v:=λh=>(by rw[dM];omega);have f:¬v<9223372036854775808->IntKind.i64.wrap (v:Int)=v-18446744073709551616:=λh=>(by rw[dM];omega);have b:p<9223372036854775808->IntKind.i64.wrap (p:Int)=p:=λh=>(by rw[dM];omega);have c:¬p<9223372036854775808->IntKind.i64.wrap (p:Int)=p-18446744073709551616:=λh=>(by rw[dM];omega);generalize m:IntKind.i64.wrap (v:Int)=t at d f;generalize l:IntKind.i64.wrap (p:Int)=r at b c;simp only[o];go_in;(go_wp2_with fail);apply cb1
   .go_region_held3 (λ_=>True) (trivial) ((go_at_call 169;refine(vR _ _ (by rw[eB];simp[maxLen];omega)).mono ?_;rintro e n ⟨rfl,rfl⟩))
    all_goals exact⟨rfl,rfl,rfl⟩
   (try simp only[m,l]);by_cases g:v<9223372036854775808
   .obtain rfl:=d g;by_cases i:p<9223372036854775808
    .obtain rfl:=b i;go_wp2;refine bG (v:=.tuple #[.agg #[.int .u64 h,.int .i64 v,.int .i64 p],.bool true]) (by simp[results,results266,go_sem]) rfl ⟨ao4 (by simp[iX,g,i]) (by simp[g,i]),(xK _ _ _).drew⟩
    have:=c i;have j:r<0:=(by omega);go_wp2;refine bG (v:=.tuple #[.agg #[.int .u64 0,.int .i64 0,.int .i64 0],.bool false]) (by simp[results,results266,go_sem]) rfl ⟨ao4 rfl rfl,(xK _ _ _).drew⟩
   have:=f g;have j:t<0:=(by omega);go_wp2;refine bG (v:=.tuple #[.agg #[.int .u64 0,.int .i64 0,.int .i64 0],.bool false]) (by simp[results,results266,go_sem]) rfl ⟨ao4 rfl rfl,(xK _ _ _).drew⟩
  have z:¬(s.size:Int)=24:=(by omega);have k:okG (lb s)=false:=(by unfold okG;rw[bN];simp[a]);unfold QH;rw[k];go_in;go_wp2;refine bG (v:=.tuple #[.agg #[.int .u64 0,.int .i64 0,.int .i64 0],.bool false]) (by simp[results,results266,go_sem]) rfl ⟨ao4 rfl rfl,q⟩
end Go.Proofs.YtpopikndggffaaaGreatDoor
