/- TOP, part 6. -/
import Derived.Deep.RegionHeld3
import Derived.Test.YtpopikndggffaaaGreatDoorGt4
import Derived.Test.YtpopikndggffaaaGreatDoorGt5
namespace Go.Proofs.YtpopikndggffaaaGreatDoor
set_option linter.all false
set_option maxRecDepth 100000
set_option maxHeartbeats 16000000
open Go.RowKit Tryz
variable{b o:Bool}{s:aS}
def evL(e:Ev):List aN:=[.string e.1,.string e.2.1,.float .f64 e.2.2]
def KG(e:Ev):Array aN:=#[.string e.1,.string e.2.1,.float .f64 e.2.2]
def toList_nil(h:s.size=0):s.toList=[]:=by rw[jL];exact gF (by rw[bI];exact h)
def GD(h:s.size≠0):s.toList≠[]:=by rw[jL];intro e;have:=gQ List.length e;rw[bI]at this;exact h this
def toList_inj{b:aS}:s.toList=b.toList↔s=b:=by
 rw[jL,jL];constructor
 .intro h;rw[<-BG s,<-BG b,h]
 rintro rfl;rfl
def cD(w:aI)(o:Obj):aR w w (w.alloc o):=iH.alloc dQ o
def VO(w:aI)(o a:Obj):aR w w ((w.alloc o).alloc a):=aK (cD w o) (cD _ a)
def bX6(h:b=o):Ending.returned b=o:=by rw[h]
def IY(x:Ev)(w:aI)(j:okV x):Calls prog 136 #[.agg (KG x)] w λe k=>e=(kA x)/\aR w w k:=by
 have⟨t,d,n⟩:=x;have⟨g,h,i⟩:=j;simp only[maxLen]at g h i;unfold KG kA;dsimp only;have a:=cD w (.cells #[.string t,.string d,.float .f64 n] 44);by_cases z:t.size=0
 .have f:(t.toList==[])=true:=by rw[toList_nil z];rfl
  go_in;go_wp2;go_ret;exact⟨mJ (by rfl),a⟩
 have f:(t.toList==[])=false:=(by rw[bA];exact GD z);by_cases l:16<t.size
 .have b:(16:Int)<t.size:=by omega
  go_in;go_wp2;go_ret;exact⟨mJ (by rfl),a⟩
 have b:¬(16:Int)<t.size:=(by omega);by_cases m:200<d.size
 iterate 2
  ·(first|(have c:(200:Int)<d.size:=by omega)|(have c:¬(200:Int)<d.size:=by omega));go_in;go_wp2;go_ret;exact⟨mJ (by rfl),a⟩
def am7(x:Ev)(w:aI)(j:okV x):Calls prog 103 #[.agg (KG x)] w λe k=>e=(kA x)/\aR w w k:=by
 have⟨t,d,n⟩:=x;have⟨g,h,i⟩:=j;simp only[maxLen]at g h i;unfold KG kA;dsimp only;have a:=cD w (.cells #[.string t,.string d,.float .f64 n] 44);by_cases z:t.size=0
 .have f:(t.size:Int)=0:=by omega
  go_in;go_wp2;go_ret;exact⟨mJ (by rfl),a⟩
 have f:¬(t.size:Int)=0:=(by omega);have l:((t.size:Int)==0)=false:=(by rw[bA];exact f);by_cases m:16<t.size
 .have b:(16:Int)<t.size:=by omega
  go_in;go_wp2;go_ret;exact⟨mJ (by rfl),a⟩
 have b:¬(16:Int)<t.size:=(by omega);by_cases o:200<d.size
 iterate 2
  ·(first|(have c:(200:Int)<d.size:=by omega)|(have c:¬(200:Int)<d.size:=by omega));go_in;go_wp2;go_ret;exact⟨mJ (by rfl),a⟩
def bl3(a:Nat):Nat:=if 9223372036854775808<=a then 18446744073709551615-a else a+9223372036854775808
def cf6{n k:Nat}(a:n<18446744073709551616)(b:k<18446744073709551616):bl3 n=bl3 k↔n=k:=by unfold bl3;split<;>split<;>omega
def bt8(a:Nat)(w:aI)(f:a<18446744073709551616):Calls prog 234 #[.float .f64 a] w λe d=>e=.returned (zu (bl3 a:Nat))/\aR w w d:=by
 unfold bl3;by_cases h:9223372036854775808<=a
 iterate 2
  ·(first|(have c:(9223372036854775808:Int)<=a:=by omega)|(have c:¬(9223372036854775808:Int)<=a:=by omega));(first|rw[aV h]|rw[aP h]);(first|(have b:IntKind.u64.wrap (18446744073709551615-(a:Int))=((18446744073709551615-a:Nat):Int):=by rw[eE];omega)|(have b:IntKind.u64.wrap ((a:Int)+9223372036854775808)=((a+9223372036854775808:Nat):Int):=by rw[eE];omega));have g:=KU;go_in;go_wp2;go_ret;exact⟨mJ (by omega),iH⟩
def bE5(a b:Nat)(w:aI)(j:a<18446744073709551616)(k:b<18446744073709551616):Calls prog 164 #[.float .f64 a,.float .f64 b] w λe n=>e=(decide (a=b))/\aR w w n:=by
 have f:=cf6 j k;have g:=λw=>bt8 a w j;have i:=λw=>bt8 b w k;generalize bl3 a=x at f g;generalize bl3 b=y at f i;have m:decide (a=b)=decide (x=y):=(by rw[decide_eq_decide];exact f.symm);rw[m];by_cases h:x=y
 .subst h;go_in;go_wp2_with fail
  go_call g _ as e o ⟨rfl,c⟩;go_wp2_with fail
  go_call i _ as e p ⟨rfl,d⟩;go_wp2;go_ret;exact⟨bX6 (by simp),aK c d⟩
 have l:¬(x:Int)=y:=(by omega);have q:((x:Int)==y)=false:=by rw[bA];exact l
 go_in;go_wp2_with fail
 go_call g _ as e o ⟨rfl,c⟩;go_wp2_with fail
 go_call i _ as e p ⟨rfl,d⟩;go_wp2;go_ret;exact⟨bX6 (by simp[h]),aK c d⟩
def ca4(n:Nat):qY n 8=be 8 n:=by unfold qY;rw[aP (by omega)];rfl
def Z9(n:Nat)(w:aI)(b:n<18446744073709551616):Calls prog 138 #[zu n,(8:Int)] w λe a=>e=(bs (be 8 n))/\aR w w a:=by have c:=tM n 8 w (by omega) (by omega);rwa[bW,ca4]at c
def am6(n:Nat)(w:aI)(b:n<18446744073709551616):Calls prog 105 #[zu n,(8:Int)] w λe a=>e=(bs (be 8 n))/\aR w w a:=by have c:=XL n 8 w (by omega) (by omega);rwa[bW,ca4]at c
def aA9(w:aI)(e:Ev)(t:cC)(b:aI)(c:aR (w.alloc (.cells (KG e) t)) (w.alloc (.cells (KG e) t)) b):b.cell? (zp w)=e.1/\b.cell? (zp w 1)=e.2.1/\b.cell? (zp w 2)=some (.float .f64 e.2.2):=by
 have a:(w.alloc (.cells (KG e) t)).heap[w.heap.size]?=some (.cells (KG e) t (0,0)):=heap_alloc_new w _;have h:∀j v,(KG e)[j]?=some v->b.cell? (zp w j)=some v:=λj v h=>by refine(c.cell (p:=zp w j) (fG.1 a).1).trans ?_;unfold World.cell?;rw[a];simpa using h
 exact⟨h 0 _ rfl,h 1 _ rfl,h 2 _ rfl⟩
def cl7(t d:aS)(n:Nat):bs (oU (lb t))++bs (oU (lb d))++bs (be 8 n)=bs (LA (t,d,n)):=by unfold LA;rw[jX,jX,bT]
def aA8(x:Ev)(w:aI)(l:okV x):Calls prog 139 #[.agg (KG x)] w λe s=>e=(bs (mW x))/\aR w w s:=by
 have a:=λw=>IY x w l;have b:=λs h=>aA9 w x 44 s h;have m:=cD w (.cells (KG x) 44);have⟨t,d,n⟩:=x;have⟨u,v,y⟩:=l;simp only[maxLen]at u v y;simp only[]at b;unfold KG at a b m|-;dsimp only at a b m|-;by_cases i:kA (t,d,n)=0
 iterate 2
  ·(first|(have⟨C,D,E⟩:=AI i;simp only[]at C D E;(have h:mW (t,d,n)=LA (t,d,n):=by unfold mW;rw[aV i]);rw[i]at a;rw[h,<-cl7];(have j:=λw=>TY t w (by omega));(have k:=λw=>TY d w (by omega));(have q:(oU (lb t)).length<=1000:=by rw[oJ _ (by rw[bI];omega),bI];omega);(have r:(oU (lb d)).length<=1000:=by rw[oJ _ (by rw[bI];omega),bI];omega);generalize oU (lb t)=G at j q|-;generalize oU (lb d)=H at k r|-;clear h i)|((have h:mW (t,d,n)=[]:=by unfold mW;rw[aP i]);rw[h];have p:¬kA (t,d,n)=0:=i;generalize kA (t,d,n)=c at a p));have I:=KU;go_in;(go_wp2_with fail);go_call a _ as e F ⟨rfl,g⟩;(first|(have f:=λx:dR F=>b x.it (aK g x.ok);have z:=λx=>(f x).1;have A:=λx=>(f x).2.1;have B:=λx=>(f x).2.2;clear f b a;go_wp2_with fail;(refine cI (by kernel_rfl) (by kernel_rfl) ?_);(repeat go_big_quiet_step (first|(go_at_call 137;with_reducible exact eL _ (j _))|(go_at_call 137;with_reducible exact eL _ (k _))|(go_at_call 138;exact eL _ (Z9 n _ (by omega)))));refine wpQuiet_nil ?_;intro _ l;obtain⟨⟨J,o⟩,rfl⟩:=l)|clear a b);go_wp2;go_ret;first|exact⟨rfl,aK m (aK g o)⟩|exact⟨rfl,aK m g⟩
def bE6(x:Ev)(w:aI)(l:okV x):Calls prog 106 #[.agg (KG x)] w λe s=>e=(bs (mW x))/\aR w w s:=by
 have a:=λw=>am7 x w l;have b:=λs h=>aA9 w x 44 s h;have m:=cD w (.cells (KG x) 44);have⟨t,d,n⟩:=x;have⟨u,v,y⟩:=l;simp only[maxLen]at u v y;simp only[]at b;unfold KG at a b m|-;dsimp only at a b m|-;by_cases i:kA (t,d,n)=0
 iterate 2
  ·(first|(have⟨C,D,E⟩:=AI i;simp only[]at C D E;(have h:mW (t,d,n)=LA (t,d,n):=by unfold mW;rw[aV i]);rw[i]at a;rw[h,<-cl7];(have j:=λw=>YN t w (by omega));(have k:=λw=>YN d w (by omega));(have q:(oU (lb t)).length<=1000:=by rw[oJ _ (by rw[bI];omega),bI];omega);(have r:(oU (lb d)).length<=1000:=by rw[oJ _ (by rw[bI];omega),bI];omega);generalize oU (lb t)=G at j q|-;generalize oU (lb d)=H at k r|-;clear h i)|((have h:mW (t,d,n)=[]:=by unfold mW;rw[aP i]);rw[h];have p:¬kA (t,d,n)=0:=i;generalize kA (t,d,n)=c at a p));have I:=KU;go_in;(go_wp2_with fail);go_call a _ as e F ⟨rfl,g⟩;(first|(have f:=λx:dR F=>b x.it (aK g x.ok);have z:=λx=>(f x).1;have A:=λx=>(f x).2.1;have B:=λx=>(f x).2.2;clear f b a;go_wp2_with fail;(refine cI (by kernel_rfl) (by kernel_rfl) ?_);(repeat go_big_quiet_step (first|(go_at_call 104;with_reducible exact eL _ (j _))|(go_at_call 104;with_reducible exact eL _ (k _))|(go_at_call 105;exact eL _ (am6 n _ (by omega)))));refine wpQuiet_nil ?_;intro _ l;obtain⟨⟨J,o⟩,rfl⟩:=l)|clear a b);go_wp2;go_ret;first|exact⟨rfl,aK m (aK g o)⟩|exact⟨rfl,aK m g⟩
def bY4(x y:Ev)(w:aI)(o:okV x)(r:okV y):Calls prog 107 #[.agg (KG x),.agg (KG y)] w λe v=>e=(decide (x=y))/\aR w w v:=by
 have⟨t,d,n⟩:=x;have⟨h,b,a⟩:=y;have⟨p,q,c⟩:=o;have⟨s,u,f⟩:=r;simp only[]at c f;unfold KG;dsimp only;have l:=VO w (.cells #[t,d,.float .f64 n] 44) (.cells #[h,b,.float .f64 a] 44);by_cases i:t=h
 .subst i;by_cases j:d=b
  iterate 2
   ·(first|(subst j;have m:=λw=>bE5 n a w c f;(have g:decide ((t,d,n)=(t,d,a))=decide (n=a):=by simp))|((have g:decide ((t,d,n)=(t,b,a))=false:=by simp[j]);(have A:(d.toList==b.toList)=false:=by rw[bA,Ne,toList_inj];exact j)));rw[g];go_in;(try (go_wp2_with fail;go_call m _ as e B ⟨rfl,k⟩));go_wp2;go_ret;first|exact⟨rfl,aK l k⟩|exact⟨rfl,l⟩
 have g:decide ((t,d,n)=(h,b,a))=false:=(by simp[i]);have z:(t.toList==h.toList)=false:=(by rw[bA,Ne,toList_inj];exact i);rw[g];go_in;go_wp2;go_ret;exact⟨rfl,l⟩
abbrev dB:=Nat×Int×Int
def wC(e:dB):Prop:=e.1<18446744073709551616/\(-9223372036854775808<=e.2.1/\e.2.1<=9223372036854775807)/\(-9223372036854775808<=e.2.2/\e.2.2<=9223372036854775807)
def iT(e:dB):Array aN:=#[.int .u64 e.1,.int .i64 e.2.1,.int .i64 e.2.2]
def iB(a b:dB):Bool:=decide (a.1<b.1\/a.1=b.1/\(a.2.1<b.2.1\/a.2.1=b.2.1/\a.2.2<b.2.2))
def qS(a:dB)(h:Nat)(v:Int):Bool:=decide (a.1<h\/a.1=h/\a.2.1<v)
def pC(w:aI)(o b:Obj):aR w w ((w.alloc o).alloc b):=have a:=(bR w w).alloc dQ o
 a.alloc a.size _
def KV(h:b=o):Ending.returned b=o:=by rw[h]
def xO(a b:dB)(w:aI)(q:wC a)(r:wC b):Calls prog 212 #[.agg (iT a),.agg (iT b)] w λe s=>e=(iB a b)/\aR w w s:=by
 have⟨j,n,t⟩:=a;have⟨k,o,u⟩:=b;have⟨c,d,f⟩:=q;have⟨g,h,i⟩:=r;simp only[]at c d f g h i;unfold iT iB;dsimp only;go_in;by_cases l:j=k
 .subst l;by_cases m:n=o
  .subst m;go_wp2;go_ret;exact⟨KV (by simp),pC _ _ _⟩
  go_wp2;go_ret;exact⟨KV (by simp[m]),pC _ _ _⟩
 have p:¬(j:Int)=k:=(by omega);go_wp2;go_ret;exact⟨KV (by simp[l]),pC _ _ _⟩
def aj0(a:dB)(h:Nat)(v:Int)(w:aI)(j:wC a)(o:h<18446744073709551616)(p:-9223372036854775808<=v/\v<=9223372036854775807):Calls prog 260 #[.agg (iT a),zu h,v] w λe k=>e=(qS a h v)/\aR w w k:=by
 have⟨b,l,m⟩:=a;have⟨c,d,f⟩:=j;simp only[]at c d f;unfold iT qS;dsimp only;go_in;by_cases n:(b:Int)<h
 .have g:¬(b:Int)=h:=(by omega);go_wp2;go_ret;exact⟨KV (by simp;omega),iH.alloc dQ _⟩
 by_cases g:b=h
 .subst g;go_wp2;go_ret;exact⟨KV (by simp),iH.alloc dQ _⟩
 have i:¬(b:Int)=h:=(by omega);go_wp2;go_ret;exact⟨KV (by simp;omega),iH.alloc dQ _⟩
def bY8(a b:dB)(w:aI)(s:wC a)(t:wC b):Calls prog 187 #[.agg (iT a),.agg (iT b)] w λe u=>e=(iB a b)/\aR w w u:=by
 have⟨c,l,v⟩:=a;have⟨d,m,x⟩:=b;have⟨f,g,h⟩:=s;have⟨i,j,k⟩:=t;simp only[]at f g h i j k;unfold iT iB;dsimp only;go_in;by_cases y:(c:Int)<d
 .have p:¬(c:Int)=d:=(by omega);go_wp2;go_ret;exact⟨KV (by simp;omega),pC _ _ _⟩
 by_cases q:c=d
 .subst q;by_cases n:l<m
  .go_wp2;go_ret;exact⟨KV (by simp[n]),pC _ _ _⟩
  by_cases o:l=m
  .subst o;go_wp2;go_ret;exact⟨KV (by simp),pC _ _ _⟩
  go_wp2;go_ret;exact⟨KV (by simp[n,o]),pC _ _ _⟩
 have r:¬(c:Int)=d:=(by omega);go_wp2;go_ret;exact⟨KV (by simp;omega),pC _ _ _⟩
def lJ(e:dB):List bB:=if e.2.1<0\/e.2.2<0 then[]else be 8 e.1++be 8 e.2.1.toNat++be 8 e.2.2.toNat
def YW(n:Nat):qY n 8=be 8 n:=by unfold qY;rw[aP (by omega)];rfl
def am4{b:aS}(h:s=b):Ending.returned s=b:=by rw[h]
def bI5(n:Nat)(w:aI)(b:n<18446744073709551616):Calls prog 138 #[zu n,(8:Int)] w λe a=>e=(bs (be 8 n))/\aR w w a:=by have c:=tM n 8 w (by omega) (by omega);rwa[bW,YW]at c
def bY5(n:Nat)(w:aI)(b:n<18446744073709551616):Calls prog 105 #[zu n,(8:Int)] w λe a=>e=(bs (be 8 n))/\aR w w a:=by have c:=XL n 8 w (by omega) (by omega);rwa[bW,YW]at c
def XR(w:aI)(e:dB)(t:cC)(b:aI)(c:aR (w.alloc (.cells (iT e) t)) (w.alloc (.cells (iT e) t)) b):b.cell? (zp w)=zu e.1/\b.cell? (zp w 1)=e.2.1/\b.cell? (zp w 2)=e.2.2:=by
 have a:(w.alloc (.cells (iT e) t)).heap[w.heap.size]?=some (.cells (iT e) t (0,0)):=heap_alloc_new w _;have h:∀j v,(iT e)[j]?=some v->b.cell? ⟨w.heap.size,j,none⟩=some v:=λj v h=>by refine(c.cell (p:=⟨w.heap.size,j,none⟩) (fG.1 a).1).trans ?_;unfold World.cell?;rw[a];simpa using h
 exact⟨h 0 _ rfl,h 1 _ rfl,h 2 _ rfl⟩
def W7(e:dB)(w:aI)(n:wC e):Calls prog 145 #[.agg (iT e)] w λd s=>d=.returned (.string (bs (lJ e)))/\aR w w s:=by
 have⟨h,v,p⟩:=e;have⟨f,g,i⟩:=n;simp only[]at f g i;unfold iT lJ;dsimp only;go_in;have c:=(bR w w).alloc dQ (.cells #[zu h,v,p] 152);by_cases q:v<0
 .go_wp2;go_ret;exact⟨am4 (by simp[q,bs]),c⟩
 by_cases o:p<0
 .go_wp2;go_ret;exact⟨am4 (by simp[o,bs]),c⟩
 obtain⟨v,rfl⟩:=cR (a:=v) (by omega);obtain⟨p,rfl⟩:=cR (a:=p) (by omega);(go_wp2_with fail);have b:∀x:dR (w.alloc (.cells #[zu h,v,p] 152)),x.it.cell? (zp w)=zu h/\x.it.cell? (zp w 1)=v/\x.it.cell? (zp w 2)=some p:=λx=>XR w (h,(v:Int),(p:Int)) _ x.it x.ok;have k:=λx=>(b x).1;have l:=λx=>(b x).2.1;have m:=λx=>(b x).2.2;clear b;refine cI (by kernel_rfl) (by kernel_rfl) ?_;repeat go_big_quiet_step (first|(go_at_call 138;exact eL _ (bI5 _ _ (by omega))))
 refine wpQuiet_nil ?_;intro _ r;obtain⟨⟨t,j⟩,rfl⟩:=r;go_wp2;go_ret;refine⟨am4 ?_,?_⟩
 .rw[jX,jX,bT]
 repeat (first|assumption|exact bR _ _|(refine aK (by assumption) ?_))
def bf4(e:dB)(w:aI)(n:wC e):Calls prog 129 #[.agg (iT e)] w λd s=>d=.returned (.string (bs (lJ e)))/\aR w w s:=by
 have⟨h,v,p⟩:=e;have⟨f,g,i⟩:=n;simp only[]at f g i;unfold iT lJ;dsimp only;go_in;have c:=(bR w w).alloc dQ (.cells #[zu h,v,p] 152);by_cases q:v<0
 .go_wp2;go_ret;exact⟨am4 (by simp[q,bs]),c⟩
 by_cases o:p<0
 .go_wp2;go_ret;exact⟨am4 (by simp[o,bs]),c⟩
 obtain⟨v,rfl⟩:=cR (a:=v) (by omega);obtain⟨p,rfl⟩:=cR (a:=p) (by omega);(go_wp2_with fail);have b:∀x:dR (w.alloc (.cells #[zu h,v,p] 152)),x.it.cell? (zp w)=zu h/\x.it.cell? (zp w 1)=v/\x.it.cell? (zp w 2)=some p:=λx=>XR w (h,(v:Int),(p:Int)) _ x.it x.ok;have k:=λx=>(b x).1;have l:=λx=>(b x).2.1;have m:=λx=>(b x).2.2;clear b;refine cI (by kernel_rfl) (by kernel_rfl) ?_;repeat go_big_quiet_step (first|(go_at_call 105;exact eL _ (bY5 _ _ (by omega))))
 refine wpQuiet_nil ?_;intro _ r;obtain⟨⟨t,j⟩,rfl⟩:=r;go_wp2;go_ret;refine⟨am4 ?_,?_⟩
 .rw[jX,jX,bT]
 repeat (first|assumption|exact bR _ _|(refine aK (by assumption) ?_))
def hE(l:List bB):Nat:=num (l.take 8)
def vE(l:List bB):Nat:=num ((l.drop 8).take 8)
def pE(l:List bB):Nat:=num (l.drop 16)
def okG(l:List bB):Bool:=decide (l.length=24/\vE l<9223372036854775808/\pE l<9223372036854775808)
def IX(l:List bB):dB:=if okG l then(hE l,vE l,pE l)else(0,0,0)
def cB4(l:List bB):vE l<18446744073709551616:=by unfold vE;have h:=AU ((l.drop 8).take 8);refine aW h (aM (gD (by omega) (show _<=8 by simp;omega)) (by decide))
def cC4(l:List bB)(a:l.length=24):pE l<18446744073709551616:=by unfold pE;have h:=AU (l.drop 16);refine aW h (aM (gD (by omega) (show _<=8 by simp;omega)) (by decide))
def cL7(l:List bB):hE l<18446744073709551616:=by unfold hE;have h:=AU (l.take 8);refine aW h (aM (gD (by omega) (show _<=8 by simp;omega)) (by decide))
def cM2(s:aS):pF (lb (s.extract 0 8))=hE (lb s):=by rw[dY,gP];unfold pF hE;simp[l5]
def cM0(s:aS):pF (lb (s.extract 8 16))=vE (lb s):=by rw[dY,gP];unfold pF vE;simp[l5]
def cM1(s:aS)(h:s.size=24):pF (lb (s.extract 16 24))=pE (lb s):=by rw[dY,gP];unfold pF pE;rw[l5,aT (by simp;omega)]
def bs9{A:Program}{c:Code}{Q:Exit->Act->aI->Prop}{a:Act}{w:aI}(i:Act)(W:aI)(f:c.wp A (λe b d=>e=.normal/\b=i/\d=W) a w)(g:Q .normal i W):c.wp A Q a w:=Code.wp_mono (λe b d h=>by obtain⟨rfl,rfl,rfl⟩:=h;exact g) f
def KX{a c:Array aN}(d:a=c)(e:b=o):Ending.returned (.tuple #[.agg a,b])=.returned (.tuple #[.agg c,o]):=by rw[d,e]
def W8(s:aS)(w:aI)(B:s<=maxLen):Calls prog 266 #[s] w λe n=>e=.returned (.tuple #[.agg (iT (IX (lb s))),okG (lb s)])/\aR w w n:=by
 have q:=(bR w w).alloc dQ (.cells #[zu 0,(),()] 152);by_cases a:s.size=24
 .have C:=cB4 (lb s);have A:=cC4 (lb s) (by rw[bI];exact a);have u:=cM2 s;have y:=cM0 s;have x:=cM1 s a;unfold IX okG;rw[bI];generalize vE (lb s)=v at *;generalize pE (lb s)=p at *;generalize hE (lb s)=h at *;have o:(s.size=24/\v<9223372036854775808/\p<9223372036854775808)↔(v<9223372036854775808/\p<9223372036854775808):=(by simp[a]);have d:v<9223372036854775808->IntKind.i64.wrap (v:Int)=v:=λh=>(by rw[cQ];omega);have f:¬v<9223372036854775808->IntKind.i64.wrap (v:Int)=v-18446744073709551616:=λh=>(by rw[cQ];omega);have b:p<9223372036854775808->IntKind.i64.wrap (p:Int)=p:=λh=>(by rw[cQ];omega);have c:¬p<9223372036854775808->IntKind.i64.wrap (p:Int)=p-18446744073709551616:=λh=>(by rw[cQ];omega);generalize m:IntKind.i64.wrap (v:Int)=t at d f;generalize l:IntKind.i64.wrap (p:Int)=r at b c;simp only[o];go_in;(go_wp2_with fail);apply bs9
  .go_region_held3 (λ_=>True) (trivial) ((go_at_call 169;go_call xG _ _ (by rw[dY];simp[maxLen];omega) as e n ⟨rfl,rfl⟩))
   all_goals exact⟨rfl,rfl,rfl⟩
  try simp only[m,l]
  by_cases g:v<9223372036854775808
  .obtain rfl:=d g;by_cases i:p<9223372036854775808
   .obtain rfl:=b i;go_wp2;refine bE (v:=.tuple #[.agg #[zu h,v,p],true]) (by simp[results,results266,go_sem]) rfl ⟨KX (by simp[iT,g,i]) (by simp[g,i]),(pC _ _ _).drew⟩
   have:=c i;have j:r<0:=(by omega);go_wp2;refine bE (v:=.tuple #[.agg #[zu 0,(),()],false]) (by simp[results,results266,go_sem]) rfl ⟨KX rfl rfl,(pC _ _ _).drew⟩
  have:=f g;have j:t<0:=(by omega);go_wp2;refine bE (v:=.tuple #[.agg #[zu 0,(),()],false]) (by simp[results,results266,go_sem]) rfl ⟨KX rfl rfl,(pC _ _ _).drew⟩
 have z:¬(s.size:Int)=24:=(by omega);have k:okG (lb s)=false:=(by unfold okG;rw[bI];simp[a]);unfold IX;rw[k];go_in;go_wp2;refine bE (v:=.tuple #[.agg #[zu 0,(),()],false]) (by simp[results,results266,go_sem]) rfl ⟨KX rfl rfl,q⟩
end Go.Proofs.YtpopikndggffaaaGreatDoor
