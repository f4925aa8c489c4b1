/- TOP, part 10. -/
import Derived.Test.YtpopikndggffaaaGreatDoorGm6
import Derived.Test.YtpopikndggffaaaGreatDoorGm7
namespace Go.Proofs.YtpopikndggffaaaGreatDoor
set_option linter.all false
set_option maxRecDepth 100000
set_option maxHeartbeats 16000000
open Go.RowKit Tryz
variable{P:List (List cZ)}{L:List cZ}{e o z:cZ}
def IJ(o:Option cZ)(l:List cZ):Option cZ:=
 match l.head?,o with
 |none,o=>o
 |some e,none=>some e
 |some e,some b=>if iA e b then some e else some b
def xL(a:List (List cZ)):Option cZ:=a.foldl IJ none
def xH(e:cZ)(l:List cZ):List cZ:=l.dropWhile fun x=>decide (x=e)
def XL(a:List cZ)(e:cZ):List cZ:=if a.getLast?=some e then a else a++[e]
def p8(a:List (List cZ)):Nat:=(a.map List.length).sum
def goM:Nat->List (List cZ)->List cZ->List cZ
 |0,_,out=>out
 |n+1,ls,out=>match xL ls with
  |none=>out
  |some e=>goM n (ls.map (xH e)) (XL out e)
def AM(b:List (List cZ))(a:List cZ):List cZ:=goM (p8 b) b a
def jV(a:List (List cZ)):List cZ:=AM a []
def VT(e:cZ)(l:List cZ):(xH e l).length<=l.length:=(VQ _).length_le
def aT4(e:cZ)(a:List (List cZ)):p8 (a.map (xH e))<=p8 a:=by
 induction a with
 |nil=>exact aO _
 |cons l a b=>have:=VT e l;unfold p8 at b|-;simp only[dN,kL]at b|-;omega
def bx0(h:L.head?=some o):(xH o L).length<L.length:=by
 cases L with
 |nil=>cases h
 |cons x L=>simp at h;subst h;have:=VT x L;unfold xH at this|-;rw[LA (by simp)];simp;omega
def CN(a:L∈P)(h:L.head?=some o):p8 (P.map (xH o))<p8 P:=by
 induction P with
 |nil=>cases a
 |cons x P b=>
  have d:=VT o x;have c:=aT4 o P;unfold p8 at b c|-;simp only[dN,kL]at b c|-;rcases cX.1 a with rfl|a
  .have:=bx0 h;omega
  have:=b a;omega
def aJ8(d:List (List cZ)):∀o e,d.foldl IJ o=some e->o=some e\/∃l∈d,l.head?=some e:=by
 induction d with
 |nil=>intro o e h;exact .inl h
 |cons l d i=>
  intro o e h;rw[rA]at h;rcases i _ _ h with c|⟨x,g,c⟩
  .unfold IJ at c;split at c
   .exact .inl c
   .rename_i a f;exact .inr ⟨l,by simp,by rw[f,c]⟩
   rename_i a b f;split at c
   .exact .inr ⟨l,by simp,by rw[f,c]⟩
   exact .inl c
  exact .inr ⟨x,by simp[g],c⟩
def BJ(h:xL P=some o):∃l∈P,l.head?=some o:=by
 rcases aJ8 P none o h with h|h
 .cases h
 exact h
def bd6(b:List (List cZ)):∀o,b.foldl IJ o=none->o=none/\∀l∈b,l=[]:=by
 induction b with
 |nil=>intro o h;exact⟨h,by simp⟩
 |cons l b f=>
  intro o h;rw[rA]at h;obtain⟨a,d⟩:=f _ h;unfold IJ at a;split at a
  .rename_i e;exact⟨a,λx c=>by rcases cX.1 c with rfl|c;exact List.head?_eq_none_iff.1 e;exact d x c⟩
  .cases a
  split at a<;>cases a
def U9(h:xL P=none):∀l∈P,l=[]:=(bd6 P none h).2
def aJ7(p:List (List cZ)):∀o e,p.foldl IJ o=some e->(∀b,o=some b->iA b e=false)/\∀l∈p,∀x,l.head?=some x->iA x e=false:=by
 induction p with
 |nil=>intro o e h;exact⟨λb f=>by simp only[List.foldl_nil]at h;rw[h]at f;cases f;exact LZ,by simp⟩
 |cons l p t=>
  intro o e h;rw[rA]at h;obtain⟨i,s⟩:=t _ _ h;have n:(∀b,o=some b->iA b e=false)/\∀x,l.head?=some x->iA x e=false:=by
   unfold IJ at i;split at i
   .rename_i k;exact⟨λb f=>i b f,λx d=>by rw[k]at d;cases d⟩
   .rename_i a k;exact⟨λb f=>(by cases f),λx d=>by rw[k]at d;cases d;exact i _ rfl⟩
   rename_i a b k;split at i
   .rename_i g;have q:=i _ rfl;refine⟨λc j=>?_,λx d=>by rw[k]at d;cases d;exact q⟩;cases j;rw[<-lH];intro r;rw[uW g r]at q;cases q
   rename_i g;have f:=i _ rfl;refine⟨λc j=>by cases j;exact f,λx d=>?_⟩;rw[k]at d;cases d;rw[<-lH];intro m;rw[lH]at g;rcases j:iA b a with _|_
   .have:=SM g j;subst this;rw[m]at f;cases f
   have:=uW j m;rw[this]at f;cases f
  exact⟨n.1,λx d=>(cX.1 d).elim (λe=>by rw[e];exact n.2) (λd=>s x d)⟩
def aq7(h:xL P=some o):∀l∈P,∀x,l.head?=some x->iA x o=false:=(aJ7 P none o h).2
def bT1:∀(n m:Nat) (b:List (List cZ)) (a:List cZ),p8 b<=n->p8 b<=m->goM n b a=goM m b a:=by
 intro n;induction n with
 |zero=>
  intro m b a f g;cases m with
  |zero=>rfl
  |succ m=>
   rw[goM,goM];rcases h:xL b with _|e
   .rfl
   obtain⟨l,d,c⟩:=BJ h;have:=CN d c;omega
 |succ n i=>
  intro m b a f g;rw[goM];rcases h:xL b with _|e
  .cases m with
   |zero=>rfl
   |succ m=>rw[goM,h]
  obtain⟨l,d,c⟩:=BJ h;have:=CN d c;cases m with
  |zero=>omega
  |succ m=>rw[goM,h];exact i m _ _ (by omega) (by omega)
def GR{out:List cZ}(h:xL P=none):AM P out=out:=by
 unfold AM;cases p8 P with
 |zero=>rfl
 |succ n=>rw[goM,h]
def PZ{out:List cZ}{e:cZ}(h:xL P=some e):AM P out=AM (P.map (xH e)) (XL out e)/\p8 (P.map (xH e))<p8 P:=by obtain⟨l,b,a⟩:=BJ h;have d:=CN b a;refine⟨?_,d⟩;unfold AM;obtain⟨n,c⟩:∃n,p8 P=n+1:=⟨p8 P - 1,by omega⟩;rw[c,goM,h];exact bT1 _ _ _ _ (by omega) (aO _)
def az6:fB (o::L)=true↔(∀x∈L,iA o x=true)/\fB L=true:=by unfold fB;rw[decide_eq_true_iff,dD,decide_eq_true_iff]
def aE8(l:fB L=true)(i:∀x,L.head?=some x->iA x o=false):
 fB (xH o L)=true/\(∀x∈xH o L,iA o x=true)/\(∀x,x∈L->x=o\/x∈xH o L)/\(∀x,x∈xH o L->x∈L):=by
  cases L with
  |nil=>exact⟨rfl,by simp[xH],by simp,by simp[xH]⟩
  |cons a L=>
   obtain⟨f,m⟩:=az6.1 l;have n:=i a rfl;by_cases d:a=o
   .subst d;have j:∀x∈L,x≠a:=λx c k=>by subst k;have:=f _ c;rw[LZ]at this;cases this
    have g:xH a (a::L)=L:=by
     unfold xH;rw[LA (by simp)];cases L with
     |nil=>rfl
     |cons b L=>rw[LB (by simpa using j b (by simp))]
    rw[g];exact⟨m,f,λx c=>by rcases cX.1 c with h|h;exact .inl h;exact .inr h,λx c=>iG _ c⟩
   have g:xH o (a::L)=a::L:=by unfold xH;rw[LB (by simpa using d)]
   have e:iA o a=true:=by
    rcases h:iA o a with _|_
    .exact absurd (SM n h) d
    rfl
   rw[g];exact⟨l,λx c=>by rcases cX.1 c with rfl|h;exact e;exact uW e (f x h),λx c=>.inr c,λx c=>c⟩
def az5(c:fB L=true)(h:∀x∈L,iA x o=true):fB (L++[o])=true:=by unfold fB at c|-;rw[decide_eq_true_iff]at c|-;rw[oP];exact⟨c,by simp,λa d b e=>by rw[bT.1 e];exact h a d⟩
def Y1:∀(n:Nat) (g:List (List cZ)) (b:List cZ),p8 g<=n->(∀l∈g,fB l=true)->fB b=true->(∀x∈b,∀l∈g,∀y∈l,iA x y=true)->
 fB (AM g b)=true/\∀x,x∈AM g b↔x∈b\/∃l∈g,x∈l:=by
  intro n;induction n with
  |zero=>
   intro g b B u p i;have t:xL g=none:=by
    rcases h:xL g with _|e
    .rfl
    obtain⟨l,c,A⟩:=BJ h;have:=CN c A;omega
   rw[GR t];exact⟨p,λx=>⟨.inl,λh=>by
    rcases h with h|⟨l,c,a⟩
    .exact h
    rw[U9 t l c]at a;cases a⟩⟩
  |succ n C=>
   intro g b B u p i;rcases h:xL g with _|e
   .rw[GR h];exact⟨p,λx=>⟨.inl,λa=>by
     rcases a with a|⟨l,c,a⟩
     .exact a
     rw[U9 h l c]at a;cases a⟩⟩
   obtain⟨w,D⟩:=PZ (out:=b) h;obtain⟨q,m,r⟩:=BJ h;have k:e∈q:=List.mem_of_head? r;have o:XL b e=b++[e]:=by unfold XL;rw[aQ];intro z;have:=i e (FV z) q m e k;rw[LZ]at this;cases this
   have f:=λl c=>aE8 (u l c) (aq7 h l c);rw[w,o];have s:=C (g.map (xH e)) (b++[e]) (by omega) ?_ ?_ ?_
   .refine⟨s.1,λx=>?_⟩;rw[s.2 x];constructor
    .rintro (a|⟨l,c,a⟩)
     .rcases cE.1 a with a|a
      .exact .inl a
      rw[bT.1 a];exact .inr ⟨q,m,k⟩
     obtain⟨j,d,rfl⟩:=dR.1 c;exact .inr ⟨j,d,(f j d).2.2.2 x a⟩
    rintro (a|⟨l,c,a⟩)
    .exact .inl (rF _ a)
    rcases(f l c).2.2.1 x a with rfl|a
    .exact .inl (by simp)
    exact .inr ⟨_,dR.2 ⟨l,c,rfl⟩,a⟩
   .intro l c;obtain⟨j,d,rfl⟩:=dR.1 c;exact(f j d).1
   .exact az5 p λx a=>i x a q m e k
   intro x a l c y v;obtain⟨j,d,rfl⟩:=dR.1 c;rcases cE.1 a with a|a
   .exact i x a j d y ((f j d).2.2.2 y v)
   rw[bT.1 a];exact(f j d).2.1 y v
def MM(c:∀l∈P,fB l=true):fB (jV P)=true/\∀x,x∈jV P↔∃l∈P,x∈l:=by obtain⟨a,b⟩:=Y1 _ P [] (aO _) c rfl (by simp);exact⟨a,λx=>by unfold jV;rw[b x];simp⟩
variable{M:List Nat}{i k m n:Nat}{w:aI}{T:cD}
def CW(b:List (List cZ))(c:List Nat):List (List cZ):=List.zipWith (fun l a=>l.drop a) b c
def YB(a:P[k]?=some L)(b:M[k]?=some n):(CW P M)[k]?=some (L.drop n):=by unfold CW;rw[cu1,a,b]
def YA(h:M.length=P.length):(CW P M).length=P.length:=by unfold CW;rw[cy4,h,ct1]
def bz6(a:List (List cZ)):CW a (List.replicate a.length 0)=a:=by
 unfold CW;induction a with
 |nil=>rfl
 |cons l a b=>rw[cF,List.replicate_succ,List.zipWith_cons_cons,b];simp
def oM(a:List (List cZ))(b:List Nat)(k:Nat):Option cZ:=((CW a b).take k).foldl IJ none
def VU(a:P[k]?=some L)(b:M[k]?=some n):oM P M (k+1)=IJ (oM P M k) (L.drop n):=by unfold oM;rw[dQ,YB a b,lP];rfl
def cq0(h:M.length=P.length):oM P M P.length=xL (CW P M):=by unfold oM xL;rw[aX (by rw[YA h];exact aO _)]
def OW(c:List (List cZ))(d:List Nat)(k:Nat)(i:Int):Prop:=
 (i=-1/\oM c d k=none)\/∃(b:Nat)(l:List cZ)(a:Nat)(e:cZ),b<k/\i=(b:Int)/\c[b]?=some l/\d[b]?=some a/\l[a]?=some e/\oM c d k=some e
def bE6(a:List (List cZ))(b:List Nat):OW a b 0 (-1):=.inl ⟨rfl,rfl⟩
def bE7{e:Int}(h:OW P M k e)(i:P[k]?=some L)(j:M[k]?=some n)(l:L.length<=n):OW P M (k+1) e:=by
 have m:L.drop n=[]:=kB l;have a:oM P M (k+1)=oM P M k:=(by rw[VU i j,m];rfl);rcases h with⟨rfl,h⟩|⟨b,o,c,q,p,rfl,d,f,g,h⟩
 .exact .inl ⟨rfl,a.trans h⟩
 exact .inr ⟨b,o,c,q,by omega,rfl,d,f,g,a.trans h⟩
def bg3(h:oM P M k=none)(a:P[k]?=some L)(b:M[k]?=some n)(c:L[n]?=some o):OW P M (k+1) k:=by
 have d:oM P M (k+1)=some o:=by rw[VU a b,h];unfold IJ;rw[bG3,c]
 exact .inr ⟨k,L,n,o,by omega,rfl,a,b,c,d⟩
def bE9(h:oM P M k=some z)(a:P[k]?=some L)(b:M[k]?=some n)(c:L[n]?=some o)(d:iA o z=true):OW P M (k+1) k:=by
 have e:oM P M (k+1)=some o:=by rw[VU a b,h];unfold IJ;rw[bG3,c];simp[d]
 exact .inr ⟨k,L,n,o,by omega,rfl,a,b,c,e⟩
def bE8{O:List cZ}(h:oM P M k=some z)(l:m<k)(a:P[m]?=some O)(b:M[m]?=some i)(c:O[i]?=some z)(d:P[k]?=some L)(e:M[k]?=some n)(f:L[n]?=some o)(g:iA o z=false):OW P M (k+1) m:=by
 have j:oM P M (k+1)=some z:=by rw[VU d e,h];unfold IJ;rw[bG3,f];simp[g]
 exact .inr ⟨m,O,i,z,by omega,rfl,a,b,c,j⟩
def wX(e:cZ)(l:List cZ)(a:Nat):Nat:=l.length-(xH e (l.drop a)).length
def ah8(e:cZ){L:List cZ}{n:Nat}(f:n<=L.length):L.drop (wX e L n)=xH e (L.drop n)/\wX e L n<=L.length/\n<=wX e L n:=by have d:xH e (L.drop n) <:+ L:=(VQ _).trans (List.drop_suffix n L);have b:=VT e (L.drop n);rw[fF]at b;unfold wX;obtain⟨p,a⟩:=d;have c:=gQ List.length a;rw[aP]at c;refine⟨?_,by omega,by omega⟩;generalize xH e (L.drop n)=q at *;have:L.length-q.length=p.length:=(by omega);rw[this,<-a,nK rfl]
def bv5(h:L[n]?=some o):wX o L (n+1)=wX o L n:=by
 have a:=(aR.1 h).1;have b:L.drop n=o::L.drop (n+1):=by rw[gO a];rw[(aR.1 h).2]
 unfold wX xH;rw[b,LA (by simp)]
def bv4(h:L[n]?=some z)(c:z≠o):wX o L n=n:=by
 have a:=(aR.1 h).1;have b:L.drop n=z::L.drop (n+1):=by rw[gO a];rw[(aR.1 h).2]
 unfold wX xH;rw[b,LB (by simp[c]),<-b,fF];omega
def bN6(h:L.length<=n)(a:n<=L.length):wX o L n=n:=by unfold wX xH;rw[kB h];simp;omega
def IG(e:cZ)(a:List (List cZ))(b:List Nat):List Nat:=List.zipWith (wX e) a b
def XV{e:cZ}(a:P[k]?=some L)(b:M[k]?=some n):(IG e P M)[k]?=some (wX e L n):=by unfold IG;rw[cu1,a,b]
def vT(h:M.length=P.length):(IG o P M).length=P.length:=by unfold IG;rw[cy4,h,ct1]
def av5(b:List (List cZ))(c:List Nat):Prop:=c.length=b.length/\∀(k:Nat)(l:List cZ)(a:Nat),b[k]?=some l->c[k]?=some a->a<=l.length
def bz7{e:cZ}(h:av5 P M):CW P (IG e P M)=(CW P M).map (xH e)/\av5 P (IG e P M):=by
 refine⟨?_,vT h.1,λk l a c d=>?_⟩
 .apply p7;intro k;rcases cR k P.length with b|b
  .have c:P[k]?=some P[k]:=aK b;have d:M[k]?=some (M[k]'(by rw[h.1];exact b)):=aK (by rw[h.1];exact b);rw[YB c (XV c d),oZ,YB c d,(ah8 e (h.2 k _ _ c d)).1];rfl
  rw[jS (by rw[YA (vT h.1)];exact b),jS (by rw[gR,YA h.1];exact b)]
 have b:=(aR.1 c).1;have f:M[k]?=some (M[k]'(by rw[h.1];exact b)):=aK (by rw[h.1];exact b);have:=XV (e:=e) c f;rw[d,vD]at this;rw[this];exact(ah8 e (h.2 k _ _ c f)).2.1
def NZ(e:cZ)(b:List (List cZ))(a:List Nat)(k:Nat):List Nat:=(IG e b a).take k++a.drop k
def cf4(h:M.length=P.length)(k:Nat)(a:k<=P.length):(NZ o P M k).length=P.length:=by unfold NZ;rw[aP,bJ,vT h,fF];omega
def cf5{e:cZ}(h:M.length=P.length)(k:Nat)(a:k<P.length):(NZ e P M k)[k]?=M[k]?:=by unfold NZ;rw[eA (by rw[bJ];omega),bJ,vT h,fQ (by omega),aw6];simp
def bl7{e:cZ}(h:M.length=P.length)(b:P[k]?=some L)(c:M[k]?=some n):(NZ e P M k).set k (wX e L n)=NZ e P M (k+1):=by have f:=(aR.1 b).1;have a:=(aR.1 c).1;have d:((IG e P M).take k).length=k:=(by rw[bJ,vT h];omega);unfold NZ;rw[jR _ _ (by omega),d,gM,dQ,XV b c,gO a,nY,bV];rfl
def bP2(e:cZ)(b:List (List cZ))(a:List Nat):NZ e b a 0=a:=by unfold NZ;simp
def cf6{e:cZ}(h:M.length=P.length):NZ e P M P.length=IG e P M:=by unfold NZ;rw[aX (by rw[vT h];exact aO _),kB (by omega),fU]
def co1(w:aI)(v:aN)(b:List (List cZ)):Prop:=∃a:List aN,a.length=b.length/\Reads w v 1 a.length a/\∀(k:Nat)(x:aN)(l:List cZ),a[k]?=some x->b[k]?=some l->qD w x l
def asC(b:List Nat):List aN:=b.map fun a=>.int .i64 (a:Nat)
@[simp,go_sem] def cq7(a:List Nat):(asC a).length=a.length:=by simp[asC]
def bo2(b:List Nat)(k a:Nat):(asC b).set k (.int .i64 a)=asC (b.set k a):=by unfold asC;rw[ct3]
def ck7(h:M[k]?=some n):(asC M)[k]?=some (.int .i64 n):=by unfold asC;rw[oZ,h];rfl
def NI(h:Row w n T (asC M)){k a:Nat}(d:M[k]?=some a):w.cell? ⟨n,k,none⟩=some (.int .i64 a)/\w.frozen? ⟨n,k,none⟩=false:=by have b:=(aR.1 d).1;have e:=h.cell k (by simpa using b);have c:=ck7 d;rw[aK (by simpa using b),vD]at c;exact⟨by rw[e,c],h.frozen k (by simpa using b)⟩
def aO9(w:aI)(g n:Nat):List Nat:=(List.range n).map fun k=>match w.cell? ⟨g,k,none⟩with
 |some (.int _ i)=>i.toNat
 |_=>0
def ZK(h:Row w n T (asC M)):aO9 w n M.length=M:=by apply wU (by simp[aO9]);intro k b a;have:=(NI h (aK a)).1;simp[aO9,this]
def ch7:(prog.info? 3).map (λi=>(i.zero,i.size,i.bytes))=some (some (.int .i64 0),1,8):=by kernel_rfl
def by8(w:aI)(n:Nat)(d:n<=1000000):
 ∃a,(Instr.makeSlice 33 (.int .i64 n) (.int .i64 n)).run prog w=.ok (.slice (some ⟨w.heap.size,0,none⟩) n n) a/\Row a w.heap.size 3 (asC (List.replicate n 0))/\aS w.heap.size w a/\w.heap.size<a.heap.size:=by
  have h:=Row.new w (madeCells #[.int .i64 0] n) 3;refine⟨_,run_make_row' 33 3 (.int .i64 0) 8 underlying33 ch7 rfl .i64 .i64 n (by omega) (by omega) w,?_,(aY _ _).alloc (aO _) _,h.lt⟩;have e:(madeCells #[Value.int .i64 0] n).toList=asC (List.replicate n 0):=by
   apply wU
   .simp[madeCells,asC]
   intro i b c;simp[madeCells,asC,bo8]
  rwa[e]at h
variable{Q:List bB}
def pZ(e:cZ):Bool:=decide (0<=e.2.1/\0<=e.2.2)
def NQ(h:pZ o=true):lV o=be 8 o.1++be 8 o.2.1.toNat++be 8 o.2.2.toNat:=by have:=of_decide_eq_true h;unfold lV;rw[aQ (by omega)]
def bu8(h:pZ o=false):lV o=[]:=by have:=of_decide_eq_false h;unfold lV;rw[aU (by omega)]
def rL(h:pZ o=true):(lV o).length=24:=by rw[NQ h];simp
def QG(i:wN o)(b:pZ o=true):okG (lV o)=true/\QH (lV o)=o:=by
 obtain⟨h,v,p⟩:=o;obtain⟨f,k,l⟩:=i;have q:=of_decide_eq_true b;simp only[]at f k l q;have a:=NQ b;simp only[]at a;have j:(be 8 h++be 8 v.toNat).length=16:=by simp
 have g:hE (lV (h,v,p))=h:=by unfold hE;rw[a,bV,tY (by simp),JP];exact qB f
 have c:vE (lV (h,v,p))=v.toNat:=by unfold vE;rw[a,bV,nK (by simp),tY (by simp),JP];exact qB (by omega)
 have d:pE (lV (h,v,p))=p.toNat:=by unfold pE;rw[a,nK j,JP];exact qB (by omega)
 have e:okG (lV (h,v,p))=true:=by unfold okG;rw[rL b,c,d];simp;omega
 refine⟨e,?_⟩;unfold QH;rw[e,aU rfl,g,c,d];have m:((v.toNat:Nat):Int)=v:=(by omega);have n:((p.toNat:Nat):Int)=p:=(by omega);rw[m,n]
def aC3(h:okG Q=true):lV (QH Q)=Q/\pZ (QH Q)=true/\wN (QH Q):=by have f:=of_decide_eq_true h;obtain⟨l,m,n⟩:=f;have g:=cv2 Q;have a:pZ (hE Q,(vE Q:Int),(pE Q:Int))=true:=cJ (by simp only[];omega);unfold QH;rw[h,aU rfl];refine⟨?_,a,⟨g,by simp only[];omega,by simp only[];omega⟩⟩;rw[NQ a];simp only[cB];have i:(Q.take 8).length=8:=(by simp;omega);have j:((Q.drop 8).take 8).length=8:=(by simp;omega);have k:(Q.drop 16).length=8:=(by simp;omega);have b:be 8 (hE Q)=Q.take 8:=(by unfold hE;conv=>rhs;rw[<-OM (Q.take 8),i]);have c:be 8 (vE Q)=(Q.drop 8).take 8:=(by unfold vE;conv=>rhs;rw[<-OM ((Q.drop 8).take 8),j]);have d:be 8 (pE Q)=Q.drop 16:=(by unfold pE;conv=>rhs;rw[<-OM (Q.drop 16),k]);rw[b,c,d];have e:Q.drop 16=(Q.drop 8).drop 8:=(by rw[n6]);rw[e,bV,bY,bY]
def bJ8(n:Int):Int:=if n<0\/89478484<n then 0 else 12+24*n
def atT(n:Int):Int:=if n<0\/89478484<n then 0 else 8+24*n
def ay6(n:Int)(w:aI)(d:-9223372036854775808<=n/\n<=9223372036854775807):
 Calls prog 291 #[.int .i64 n] w λe c=>e=.returned (.int .i64 (bJ8 n))/\w=c:=by
  unfold bJ8;go_in;by_cases a:n<0
  .go_wp2;go_ret;exact⟨by simp[a],rfl⟩
  by_cases b:89478484<n
  .go_wp2;go_ret;exact⟨by simp[b],rfl⟩
  have f:IntKind.i64.wrap (n*24)=n*24:=(by rw[dM];omega);have g:IntKind.i64.wrap (8+n*24)=8+n*24:=(by rw[dM];omega);have h:IntKind.i64.wrap (8+n*24+4)=8+n*24+4:=(by rw[dM];omega);go_wp2;go_ret;exact⟨nF (by first|omega|(simp[a,b];omega)),rfl⟩
def br0(n:Int)(w:aI)(f:-9223372036854775808<=n/\n<=9223372036854775807):
 Calls prog 265 #[.int .i64 n] w λe d=>e=.returned (.int .i64 (atT n))/\w=d:=by
  have a:=λw=>ay6 n w f;unfold atT;unfold bJ8 at a;go_in;by_cases c:n<0
  .clear a;go_wp2;go_ret;exact⟨by simp[c],rfl⟩
  by_cases b:89478484<n
  iterate 2
   ·(first|((have h:IntKind.i64.wrap (n*24)=n*24:=by rw[dM];omega);(have i:IntKind.i64.wrap (8+n*24)=8+n*24:=by rw[dM];omega);(rw[aQ (by omega)]at a);(have g:¬(12+24*n=0):=by omega))|rw[aU (Or.inr b)]at a);(go_wp2_with fail);refine(a _).mono ?_;rintro e d ⟨rfl,rfl⟩;clear a;go_wp2;go_ret;first|(exact⟨nF (by first|omega|(simp[c,b];omega)),rfl⟩)|(exact⟨by simp[b],rfl⟩)
def rB(n:Nat):List bB:=[112,116,97,98]++be 4 n
def pY(l:List cZ):List bB:=l.flatMap lV
def NN(l:List cZ):List bB:=rB l.length++pY l
def vU(l:List cZ):Bool:=fB l&&l.all pZ
def mF(l:List cZ):List bB:=if vU l then kY (NN l)else[]
def bC3(l:List cZ):Int:=if vU l then 0 else 2
def sY(h:L.all pZ=true):(pY L).length=L.length*24:=by
 induction L with
 |nil=>rfl
 |cons e L a=>simp only[an1,bL]at h;have:=a h.2;unfold pY at this|-;rw[eC,aP,rL h.1,this,cF];omega
def bg1(h:L[n]?=some o):pY (L.take (n+1))=pY (L.take n)++lV o:=by unfold pY;rw[dQ,h,dU];simp
def ae2(h:L[n]?=some o):(L.take (n+1)).all pZ=((L.take n).all pZ&&pZ o):=by rw[dQ,h,IC];simp
def aW0{s b:aT}{e a:Int}(h:s=b)(c:e=a)(k:IntKind):Ending.returned (.tuple #[.string s,.int k e])=.returned (.tuple #[.string b,.int k a]):=by rw[h,c]
def zZ(r:List bB)(i:Nat):List bB:=(r.drop (24*i)).take 24
def iC(r:List bB)(m:Nat):List cZ:=(List.range m).map fun i=>QH (zZ r i)
def qX(r:List bB)(m:Nat):Bool:=(List.range m).all fun i=>okG (zZ r i)
def mT(s:List bB):Nat:=(s.length-12)/24
def pJ(s:List bB):Bool:=
 decide (12<=s.length)&&decide ((s.length-12)%24=0)&&qX (s.drop 8) (mT s)&&vU (iC (s.drop 8) (mT s))&&(mF (iC (s.drop 8) (mT s))==s)
def uE(s:List bB):List cZ:=if pJ s then iC (s.drop 8) (mT s)else[]
def PG(s:List bB):Int:=if pJ s then 0 else 90
def NH(s:List bB):Bool:=
 kP s&&decide (8<=(s.take (s.length-4)).length)&&((s.take (s.length-4)).take 4==[112,116,97,98]) &&
 decide (((s.take (s.length-4)).drop 8).length=num (((s.take (s.length-4)).drop 4).take 4)*24)&&qX ((s.take (s.length-4)).drop 8) (num (((s.take (s.length-4)).drop 4).take 4)) &&
 fB (iC ((s.take (s.length-4)).drop 8) (num (((s.take (s.length-4)).drop 4).take 4)))
def qI(r:List bB)(m:Nat):(iC r m).length=m:=by simp[iC]
def AJ(r:List bB)(m:Nat):iC r (m+1)=iC r m++[QH (zZ r m)]:=by unfold iC;rw[r8,iJ];rfl
def AI(r:List bB)(m:Nat):qX r (m+1)=(qX r m&&okG (zZ r m)):=by unfold qX;rw[r8,IC];simp
def GM:∀{m:Nat},qX Q m=true->pY (iC Q m)=Q.take (24*m)/\(iC Q m).all pZ=true/\∀e∈iC Q m,wN e:=by
 intro m;induction m with
 |zero=>intro _;simp[iC,pY]
 |succ m f=>
  intro h;rw[AI,bL]at h;obtain⟨a,b,c⟩:=f h.1;obtain⟨g,i,j⟩:=aC3 h.2;rw[AJ];refine⟨?_,by rw[IC,b];simp[i],λe d=>?_⟩
  .unfold pY at a|-;rw[dU,a];simp only[eC,List.flatMap_nil,fU,g];unfold zZ;rw[show 24*(m+1)=24*m+24 from by omega,an0]
  rcases cE.1 d with h|h
  .exact c e h
  rw[bT.1 h];exact j
def ap4{s:List bB}(h:24*n+24<=Q.length):zZ (Q++s) n=zZ Q n:=by unfold zZ;rw[bp1 (by omega),gD (by simp;omega)]
def JL{r z:List bB}:∀{m:Nat},24*m<=r.length->iC (r++z) m=iC r m/\qX (r++z) m=qX r m:=by
 intro m;induction m with
 |zero=>intro _;exact⟨rfl,rfl⟩
 |succ m c=>intro h;obtain⟨a,b⟩:=c (by omega);rw[AJ,AJ,AI,AI,a,b,ap4 (by omega)];exact⟨rfl,rfl⟩
def az9{s:List bB}(I:s.length<=1000000000):NH s=pJ s/\(NH s=true->iC ((s.take (s.length-4)).drop 8) (num (((s.take (s.length-4)).drop 4).take 4))=iC (s.drop 8) (mT s)):=by
 have q:NH s=true->pJ s=true/\iC ((s.take (s.length-4)).drop 8) (num (((s.take (s.length-4)).drop 4).take 4))=iC (s.drop 8) (mT s):=by
  intro h;unfold NH at h;simp only[bL,bH,gG]at h;obtain⟨⟨⟨⟨⟨v,G⟩,w⟩,o⟩,l⟩,O⟩:=h;unfold kP at v;simp only[bL,bH,gG]at v;obtain⟨N,n⟩:=v;have D:s=s.take (s.length-4)++s.drop (s.length-4):=(bY _ _).symm;have e:(s.take (s.length-4)).length=s.length-4:=(by simp);generalize s.take (s.length-4)=t at *;generalize s.drop (s.length-4)=z at *;have E:z.length=4:=(by rw[<-n];rfl);have C:((t.drop 4).take 4).length=4:=by simp;omega
  have A:be 4 (num ((t.drop 4).take 4))=(t.drop 4).take 4:=by have:=OM ((t.drop 4).take 4);rwa[C]at this
  generalize V:num ((t.drop 4).take 4)=m at *;have Q:(t.drop 8).length=t.length-8:=(by simp);have R:s.length=t.length+4:=(by rw[D,aP,E]);have b:mT s=m:=(by unfold mT;omega);have a:s.drop 8=t.drop 8++z:=(by rw[D,bp1 G]);obtain⟨u,x⟩:=JL (r:=t.drop 8) (z:=z) (m:=m) (by omega);obtain⟨L,F,T⟩:=GM l;have i:pY (iC (t.drop 8) m)=t.drop 8:=by rw[L];exact aX (by omega)
  have c:NN (iC (t.drop 8) m)=t:=by unfold NN rB;rw[qI,A,i,<-w];rw[show t.drop 8=(t.drop 4).drop 4 from by rw[n6],bV,bY,bY]
  have f:vU (iC (t.drop 8) m)=true:=(by unfold vU;rw[O,F];rfl);refine⟨?_,by rw[b,a,u]⟩;unfold pJ;rw[b,a,u,x,l,f];have d:mF (iC (t.drop 8) m)=s:=by unfold mF;rw[f,aU rfl,c];unfold kY;rw[n];exact D.symm
  rw[d];simp;omega
 refine⟨?_,λh=>(q h).2⟩;rw[j8];refine⟨λh=>(q h).1,λh=>?_⟩;unfold pJ at h;simp only[bL,bH,gG]at h;obtain⟨⟨⟨⟨v,G⟩,w⟩,o⟩,l⟩:=h;have H:=qI (s.drop 8) (mT s);obtain⟨L,F,T⟩:=GM w;have b:24*mT s=s.length-12:=(by unfold mT;omega);have J:mT s<=100000000:=(by omega);have k:fB (iC (s.drop 8) (mT s))=true:=(by unfold vU at o;rw[bL]at o;exact o.1);have d:mF (iC (s.drop 8) (mT s))=kY (NN (iC (s.drop 8) (mT s))):=(by unfold mF;rw[o,aU rfl]);rw[d]at l;have g:=sY F;rw[H]at g;have c:NN (iC (s.drop 8) (mT s))=rB (mT s)++pY (iC (s.drop 8) (mT s)):=(by unfold NN;rw[H]);generalize U:pY (iC (s.drop 8) (mT s))=B at *;have j:(rB (mT s)).length=8:=(by simp[rB]);have e:(rB (mT s)++B).length=s.length-4:=by rw[aP,j,g];omega
 have K:s.take (s.length-4)=rB (mT s)++B:=by
  conv=>lhs;arg 2;rw[<-l]
  unfold kY;rw[c,<-e,lZ]
 have S:s.drop (s.length-4)=VI (ab0 (rB (mT s)++B)):=by
  conv=>lhs;arg 2;rw[<-l]
  unfold kY;rw[c,<-e,mB]
 have P:(rB (mT s)++B).drop 8=B:=by rw[<-j,mB]
 have y:((rB (mT s)++B).drop 4).take 4=be 4 (mT s):=by unfold rB;rw[bV,nK (by rfl),tY (by simp)]
 have p:num (be 4 (mT s))=mT s:=by rw[JP];exact qB (by omega)
 have a:s.drop 8=B++s.drop (s.length-4):=by
  conv=>lhs;rw[<-bY (s.length-4) s]
  rw[K,bV,<-j,mB]
 obtain⟨u,x⟩:=JL (r:=B) (z:=s.drop (s.length - 4)) (m:=mT s) (by omega);rw[<-a]at u x;unfold NH kP;rw[K,P,y,p,<-x,<-u,w,k,S,g,e];have M:(rB (mT s)++B).take 4=[112,116,97,98]:=(by unfold rB;rw[bV,tY (by rfl)]);rw[M];simp;omega
abbrev oF:=List (List Nat)
def nM(l:oF):Bool:=decide (l.length<=5/\l.flatten.length<=40/\l.flatten.Nodup)
def iF(l:oF):oF:=(l.reverse.dropWhile List.isEmpty).reverse
def pC(l:oF)(n:Nat):oF:=match iF l with
 |[]=>[[n]]
 |a::r=>(a++[n])::r
def mJ(l:oF)(k n:Nat):oF:=
 if((iF l).set k []).length<=min (k+1) 4 then(iF l).set k []++[[n]]
 else((iF l).set k []).set (min (k+1) 4) (((iF l).set k []).getD (min (k+1) 4) []++[n])
structure iY where
 next:Nat
 check:Nat
 aZ:Nat
 fC:oF
def zH(m:iY):Bool:=decide (m.next<=1000000/\m.check<=2147483647)&&(nM m.fC&&m.fC.flatten.all fun n=>decide (n<m.next))
def sX(l:List Nat):bK:=UInt8.ofNat l.length::l.flatMap (be 4)
def VG(m:iY):bK:=[105,109,97,112]++be 4 m.next++be 4 m.check++be 8 m.aZ++[UInt8.ofNat (iF m.fC).length]++(iF m.fC).flatMap sX
def iV(m:iY):bK:=kY (VG m)
abbrev Rdr:=bK×Bool
def oA(n:Nat)(r:Rdr):Nat×Rdr:=if r.1.length<n then(0,([],false))else(num (r.1.take n),(r.1.drop n,r.2))
def GS:Nat->Rdr->List Nat->List Nat×Rdr
 |0,r,a=>(a,r)
 |i+1,r,a=>if r.2=false then(a,r)else GS i (oA 4 r).2 (a++[(oA 4 r).1])
def yR:Nat->Rdr->oF->oF×Rdr
 |0,r,a=>(a,r)
 |k+1,r,a=>if r.2=false then(a,r)else yR k (GS (oA 1 r).1 (oA 1 r).2 []).2 (a++[(GS (oA 1 r).1 (oA 1 r).2 []).1])
def tD(t:bK):iY×Rdr:=
 let a:=oA 4 (t.drop 4,true)
 let b:=oA 4 a.2
 let c:=oA 8 b.2
 let d:=oA 1 c.2
 let e:=yR d.1 d.2 []
 (⟨a.1,b.1,c.1,e.1⟩,e.2)
def GW(t:bK):Bool:=decide (4<=t.length/\t.take 4=[105,109,97,112])
def uI(s:bK):Bool:=kP s&&GW (kV s)&&(tD (kV s)).2.2&&decide ((tD (kV s)).2.1=[])&&zH (tD (kV s)).1&&decide (iV (tD (kV s)).1=s)
def getM(s:bK):iY:=if uI s then(tD (kV s)).1 else⟨0,0,0,[]⟩
def SR(s:bK):Int:=if uI s then 0 else 90
def aM.lay(D:aM)(n s:bK):Int×aM:=kE (D.create n) fun D=>kE (D.append n s) fun D=>D.sync n
def nL(D:aM)(n:Nat)(l:List cZ)(f:bK):Int×aM:=
 if D.down then(61,D)else if D.free-(mF l).length-f.length<6000 then(60,D)
 else kE (D.lay (vI n) f) fun D=>D.lay (nR n) (mF l)
def oN(D:aM)(n:Nat):Int×aM:=
 if(D.delete (nR n)).1=61 then D.delete (nR n)
 else if((D.delete (nR n)).2.delete (vI n)).1=61 then(D.delete (nR n)).2.delete (vI n)
 else(0,((D.delete (nR n)).2.delete (vI n)).2)
def kG(D:aM)(n:Nat):Int×Option (List cZ):=
 if D.down then(61,none)else match bR D.files (nR n)with
  |none=>(90,none)
  |some f=>if pJ f.data then(0,some (uE f.data))else(90,none)
def oX(D:aM):Int×iY:=
 if D.down then(61,⟨0,0,0,[]⟩)else match bR D.files fZ with
  |none=>(4,⟨0,0,0,[]⟩)
  |some f=>(SR f.data,getM f.data)
def pV(D:aM)(m:iY):Int×aM:=
 if D.down then(61,D)else kE D.gE fun D=>if D.free-(iV m).length<6000 then(60,D)else D.FP fZ (iV m)
def lE(m:iY)(n:bK):Bool:=decide (n=dG)||match mG n with
 |some (c,k)=>(decide (c=116)||decide (c=98))&&!m.fC.flatten.contains k
 |none=>false
def aM.VK(D:aM):List bK->Int×aM
 |[]=>(0,D)
 |n::l=>kE (D.delete n) fun D=>D.VK l
def lF(D:aM)(m:iY):Int×aM:=if D.down then(61,D)else D.VK (D.names.filter (lE m))
structure bA where
 cV:iY
 mem:List cZ
 fA:Nat->Option (List cZ)
def jA(t:Nat->Option (List cZ))(n:Nat)(l:Option (List cZ)):Nat->Option (List cZ):=fun k=>if k=n then l else t k
def p9(D:aM):List Nat->(Nat->Option (List cZ))->Int×(Nat->Option (List cZ))
 |[],t=>(0,t)
 |n::l,t=>if(kG D n).1≠0 then((kG D n).1,t)else p9 D l (jA t n (kG D n).2)
def vQ(D:aM)(m:iY):Int×Option bA:=
 if D.down then(61,none)
 else if(p9 D m.fC.flatten fun _=>none).1≠0 then((p9 D m.fC.flatten fun _=>none).1,none)
 else(0,some ⟨m,[],(p9 D m.fC.flatten fun _=>none).2⟩)
def nD(I:bA)(D:aM)(m:iY)(n:Nat)(l:List cZ)(f:bK):Int×bA×aM:=
 let r:=kE (nL D n l f) fun D=>pV D m
 if r.1≠0 then(r.1,I,(oN r.2 n).2)
 else if(kG r.2 n).1≠0 then((kG r.2 n).1,I,r.2)
 else(0,{I with cV:=m,fA:=jA I.fA n (kG r.2 n).2},r.2)
def jI(I:bA)(G:cT)(D:aM)(f:bK):Int×bA×cT×aM:=
 if(fY G D).1≠0 then((fY G D).1,I,(fY G D).2.1,(fY G D).2.2)
 else if I.mem=[]then(0,I,(fY G D).2.1,(fY G D).2.2)
 else if 40<=I.cV.fC.flatten.length then(60,I,(fY G D).2.1,(fY G D).2.2)
 else
  let r:=nD I (fY G D).2.2 ⟨I.cV.next+1,jJ G.bW,I.cV.aZ,pC I.cV.fC I.cV.next⟩ I.cV.next I.mem f
  (r.1,if r.1=0 then {r.2.1 with mem:=[]} else r.2.1,(fY G D).2.1,r.2.2)
def kS(I:bA)(D:aM):List Nat->Int×bA×aM
 |[]=>(0,I,D)
 |n::l=>if(oN D n).1≠0 then((oN D n).1,{I with fA:=jA I.fA n none},(oN D n).2)else kS {I with fA:=jA I.fA n none} (oN D n).2 l
def l6(I:bA)(D:aM)(k:Int)(f:bK):Int×bA×aM:=
 if k<0\/5<=k then(2,I,D)
 else if I.cV.fC.getD k.toNat []=[]then(4,I,D)
 else
  let a:=I.cV.fC.getD k.toNat []
  let r:=nD I D ⟨I.cV.next+1,I.cV.check,I.cV.aZ,mJ I.cV.fC k.toNat I.cV.next⟩ I.cV.next (jV (a.map fun n=>(I.fA n).getD [])) f
  if r.1≠0 then r else kS r.2.1 r.2.2 a
def DT(I:bA)(h:Nat)(f t:Int):List cZ:=jV (kF I.mem h (max f 0) (min t 1073741824)::I.cV.fC.flatten.map fun n=>kF ((I.fA n).getD []) h (max f 0) (min t 1073741824))
def wZ(I:bA)(h:Nat)(t:Int):Int:=(I.cV.fC.flatten.map fun n=>(I.fA n).getD []).foldl (fun o l=>match jY l h (min t 1073741824)with|some e=>max o e.2.1|none=>o) (match jY I.mem h (min t 1073741824)with|some e=>e.2.1|none=>-1)
abbrev lI:=Nat×bK
def tV(a:Nat)(r:lI):List cZ:=(List.range (kW r.2).2.2.length).map fun i:Nat=>(lJ a (lb (kW r.2).1),(kW r.2).2.1+(i:Int),(r.1:Int))
def fJ(aZ:Nat)(R:List lI):List cZ:=R.flatMap (tV aZ)
def KD:Option lI->Int×bK×Nat×Nat
 |none=>(4,[],0,0)
 |some r=>(0,r.2,r.1,r.1+r.2.length+12)
def LG(G:cT)(D:aM):Nat->List lI->Prop
 |pos,[]=>CU G D (pos:Nat)=KD none
 |pos,r::rs=>CU G D (pos:Nat)=KD (some r)/\pos<=r.1/\LG G D (r.1+r.2.length+12) rs
def kQ(D:aM)(G:cT)(a:Nat):Int×Option bA:=
 if(oX D).1≠0 then((oX D).1,none)
 else if(oX D).2.aZ≠a\/jJ G.bW<(oX D).2.check then(90,none)
 else vQ D (oX D).2
def pQ(D:aM)(I:bA)(a:Nat)(b:Nat->List lI):Int×Option bA×aM:=
 if(lF D I.cV).1≠0 then((lF D I.cV).1,none,(lF D I.cV).2)
 else(0,some {I with mem:=(fJ a (b I.cV.check)).foldl oV I.mem},(lF D I.cV).2)
def wE(a:Nat):bA:=⟨⟨0,0,a,[]⟩,[],fun _=>none⟩
def fD(D:aM)(G:cT)(aZ:Nat)(rs:Nat->List lI):Int×Option bA×aM:=
 if(kQ D G aZ).1=61 then(61,none,D)
 else match (kQ D G aZ).1,(kQ D G aZ).2 with
 |0,some I=>pQ D I aZ rs
 |_,_=>if(D.delete fZ).1=61 then(61,none,(D.delete fZ).2)else pQ (D.delete fZ).2 (wE aZ) aZ rs
variable{C:List (List bK)}{a d:List bK}{D:aM}
def pW(n:Nat)(ps:List bK):List lI:=(List.range ps.length).map fun i=>(n*4096+iO (eM (n:Int)) ps i,ps.getD i [])
def dB(C:List (List bK)):List lI:=(C.mapIdx pW).flatten
def lS(C:List (List bK))(a:List bK):dB (C++[a])=dB C++pW C.length a:=by unfold dB;rw[List.mapIdx_concat,iU];simp
@[simp] def cg8(n:Nat)(a:List bK):(pW n a).length=a.length:=by simp[pW]
def bd3(a:List bK)(i j:Nat)(h:j<i):(a.take i).getD j []=a.getD j []:=by rw[b8,b8,iH h]
def bv3(a:bK)(b:List bK)(i j:Nat)(h:j<=i):iO a (b.take i) j=iO a b j:=by unfold iO;rw[kJ,fQ h]
def aW6(n:Nat)(a:List bK)(i:Nat)(h:i<=a.length):pW n (a.take i)=(pW n a).take i:=by unfold pW;rw[<-uC,List.take_range,bJ];apply IQ;intro j b;have b:=gB.1 b;rw[bv3 _ _ _ _ (by omega),bd3 _ _ _ (by omega)]
def X5(n:Nat)(b:List bK)(p:bK):pW n (b++[p])=pW n b++[(n*4096+(dV n b).length,p)]:=by
 unfold pW;rw[aP,uL,r8,iJ];congr 1
 .apply IQ;intro j a;have a:=gB.1 a;rw[S9 _ _ _ _ (by omega),b8,b8,eY a]
 simp only[dN,wS];rw[S9 _ _ _ _ (aO _),BH];simp[dV]
def bt8(n:Nat)(a:List bK):(pW n a).map (·.2)=a:=by
 unfold pW;rw[C7];apply wU
 .simp
 intro i b c;simp at b|-;rw[aK c];rfl
def BF{g:Type}{P:List g->Prop}(h0:P [])(h1:∀l a,P l->P (l++[a])):∀l,P l:=λl=>by
 have:∀n (l:List g),l.length=n->P l:=by
  intro n;induction n with
  |zero=>intro l b;rw[fE.1 b];exact h0
  |succ n f=>intro l b;have c:l≠[]:=(by rintro rfl;simp at b);rw[<-fR c];exact h1 _ _ (f _ (by simp[b]))
 exact this _ l rfl
def sS(C:List (List bK)):(dB C).map (·.2)=C.flatten:=by
 induction C using BF with
 |h0=>rfl
 |h1 C b a=>rw[lS,iJ,a,bt8];simp
def qY(C:List (List bK)):(dB C).length=C.flatten.length:=by rw[<-sS,gR]
def qM(C:List (List bK))(a:List bK):eL (C++[a])=eL C++[(dV C.length a).length]:=by unfold eL;rw[List.mapIdx_concat]
@[simp] def ac4(C:List (List bK)):(eL C).length=C.length:=by simp[eL]
def bC7(l:List Nat)(k:Nat):jJ (l++[k])=l.length*4096+k:=by simp[jJ]
def xO(C:List (List bK))(a:List bK):jJ (eL (C++[a]))=C.length*4096+(dV C.length a).length:=by rw[qM,bC7,ac4]
def OJ{n:Nat}(h:n<=199)(a:List bK):12<=(dV n a).length:=by have:=PS (eM (n:Int)) a a.length;rwa[BH,jO h]at this
def yE(h:J2 C):jJ (eL C)<=C.length*4096:=by
 induction C using BF with
 |h0=>exact aO _
 |h1 C b a=>rw[xO];have:=h.2.2 C.length (by simp);rw[eX (aO _)]at this;simp at this|-;omega
def J2.front{c:List bK}(h:J2 (C++[c])):J2 C:=by refine⟨by have:=h.1;simp at this;omega,λp b=>h.2.1 p (by simp[b]),λn a=>?_⟩;have:=h.2.2 n (by simp;omega);rwa[jK a]at this
def J2.last{C:List (List bK)}(h:J2 (C++[a])):(dV C.length a).length<=4096/\(∀p∈a,p.length<=2000)/\C.length<=199:=by refine⟨?_,h.2.1 a (by simp),by have:=h.1;simp at this;omega⟩;have:=h.2.2 C.length (by simp);rw[eX (aO _)]at this;simpa using this
def BV(n:Nat)(a:List bK)(i:Nat):(dV n (a.take i)).length=iO (eM (n:Int)) a i:=rfl
def al8(n:Nat)(a:List bK)(i:Nat):(dV n a).take (iO (eM (n:Int)) a i)=dV n (a.take i):=by
 have e:dV n a=dV n (a.take i)++((a.drop i).map jT).flatten:=by unfold dV rT;rw[bV,<-iU,<-iJ,bY]
 rw[e,<-BV,lZ]
def J2.cut(h:J2 (C++[d]))(i:Nat):J2 (C++[d.take i]):=by
 refine⟨by have:=h.1;simp at this|-;omega,λq a p c=>?_,λn f=>?_⟩
 .rcases cE.1 a with a|a
  .exact h.2.1 q (by simp[a]) p c
  rw[bT]at a;subst a;exact h.last.2.1 p (mL c)
 rcases cR n C.length with b|b
 .rw[jK b];exact h.front.2.2 n b
 have e:n=C.length:=(by simp at f;omega);subst e;rw[eX (aO _)];simp only[gM,bE];rw[BV];exact aL (AH _ _ _) h.last.1
def IM(C a:List (List bK))(S P:Nat):Prop:=∃r,dB a=(dB C).take r/\S<=r/\r<=(dB C).length/\∀i (h:i<(dB C).length),r<=i->P<=((dB C)[i]).1
def IM.refl(P:Nat)(h:n<=C.flatten.length):IM C C n P:=⟨(dB C).length,by simp,by rw[qY];exact h,aO _,λi a b=>by omega⟩
def cb3(H:bK)(a:List bK)(c:Nat)(h:H.length<=c):∃i,i<=a.length/\iO H a i<=c/\(i<a.length->c<iO H a (i+1)):=by
 have:∀k,∃i,i<=min k a.length/\iO H a i<=c/\(i<min k a.length->c<iO H a (i+1)):=by
  intro k;induction k with
  |zero=>exact⟨0,bO _,by rw[ah6];exact h,λh=>by omega⟩
  |succ k l=>
   obtain⟨i,e,b,d⟩:=l;by_cases j:i<min k a.length
   .exact⟨i,by omega,b,λ_=>d j⟩
   by_cases f:iO H a (i+1)<=c/\i<a.length
   .exact⟨i+1,by omega,f.1,λh=>by omega⟩
   exact⟨i,by omega,b,λh=>by
    by_cases g:iO H a (i+1)<=c
    .exact absurd ⟨g,by omega⟩ f
    omega⟩
 obtain⟨i,e,b,d⟩:=this a.length;rw[ct1]at e d;exact⟨i,e,b,d⟩
def bc7(h:n<=199):(eM (n:Int) != [])=true:=by have:=jO h;rw[mW];intro e;rw[e]at this;cases this
def ZA(g:n<=199)(b:List (List bB))(c:Nat)(j:c<=(dV n b).length):
 cOk ((dV n b).take c) (n:Int)=true/\US ((dV n b).take c) (n:Int)=decide (12<=c):=by
  have d:=jO g;have f:=bc7 g;unfold cOk US dV at *;rw[f,fI,fI];generalize eM (n:Int)=H at *;have a:((rT H b).take c).length=c:=(by simp;omega);unfold rT at *;by_cases h:12<=c
  .have e:pre ((H++(b.map jT).flatten).take c) H=true:=by unfold pre;rw[a,d,cJ h,fI,kJ,fQ h,<-d,lZ];simp
   rw[e,cJ h];simp
  have e:pre ((H++(b.map jT).flatten).take c) H=false:=by unfold pre;rw[a,d,cC h];rfl
  have i:pre H ((H++(b.map jT).flatten).take c)=true:=by unfold pre;rw[a,d,cJ (by omega),fI,gD (by omega)];simp
  rw[e,i,cC h];simp
def bm0(c:n<=199){f:fM}{a:List bK}{k:Nat}(q:∀p∈a,p.length<=2000)(o:bR D.files (gZ n)=some f)(m:k<=(dV n a).length)(b:f.data=(dV n a).take k):
 (k<12->D.load n=((f.data,0),0))/\(12<=k->∃i,i<=a.length/\iO (eM (n:Int)) a i<=k/\(i<a.length->k<iO (eM (n:Int)) a (i+1))/\D.load n=((f.data,iO (eM (n:Int)) a i),0)):=by
  obtain⟨d,e⟩:=ZA c a k m;rw[<-b]at d e;unfold aM.load;rw[o];simp only[d,eE];unfold ad8;rw[e];constructor
  .intro h;rw[cC (by omega)];rfl
  intro h;obtain⟨i,g,j,l⟩:=cb3 (eM (n:Int)) a k (by rw[jO c];exact h);refine⟨i,g,j,l,?_⟩;rw[cJ h,aU rfl];have:=(al1 (eM (n:Int)) a k i g q j l m).2;rw[jO c]at this;unfold dV at b;rw[b,show(12:Int)=((12:Nat):Int)from rfl,this]
def bz3{n:Nat}(c:n<=199){f:fM}{a:List bK}(j:∀p∈a,p.length<=2000)(g:bR D.files (gZ n)=some f)(b:f.data=dV n a):D.load n=((dV n a,(dV n a).length),0):=by
 obtain⟨i,k,l,d,e⟩:=(bm0 c j g (aO _) (by rw[b,eQ])).2 (OJ c a);rw[e,b];have:i=a.length:=by
  rcases cR i a.length with h|h
  .have:=d h;have:=AH (eM (n:Int)) a (i+1);unfold dV at *;omega
  omega
 subst this;rw[BH];rfl
def aX0(C:List (List bK))(b:J2 C)(l:∀n (h:n<C.length),∃f,bR D.files (gZ n)=some f/\f.data=dV n C[n])(o:C.length<=199):∀k n,n+k=C.length->mP D (C.length+1) (k+1) n ((eL C).take n)=uV D C.length (D.load C.length).1.1 (D.load C.length).1.2 (eL C)\/(D.load C.length).2≠0:=by
 intro k;induction k with
 |zero=>
  intro n i;have:n=C.length:=(by omega);subst this;by_cases h:(D.load C.length).2=0
  .left;rw[mP,aQ (by simpa using h),aU rfl,aX (by simp)]
  exact .inr h
 |succ k m=>
  intro n i;have a:n<C.length:=(by omega);obtain⟨f,g,d⟩:=l n a;have j:=bz3 (by omega) (b.2.1 _ (cY a)) g d;rw[mP,j,aQ (by simp),aQ (by omega)];have c:=OJ (n:=n) (by omega) C[n];rw[aQ (by simp only;omega)];have:=m (n+1) (by omega);have e:(eL C).take (n+1)=(eL C).take n++[(dV n C[n]).length]:=by rw[jC (by simpa using a)];simp[eL]
  rwa[e]at this
variable{f l:bZ}
def LV(n:Nat)(h:n<=999999):dG≠gZ n:=λe=>by have:=sV h;rw[<-e,AX]at this;cases this
def cf1(n:Nat)(h:n<=999999):fZ≠gZ n:=λe=>by have:=sV h;rw[<-e,LO]at this;cases this
def vS:dG≠fZ:=by decide
def CT{n:Nat}(b:n<=999999)(c:k<=999999)(h:gZ n=gZ k):n=k:=by have a:=sV b;rw[h,sV c]at a;cases a;rfl
def CY:¬isC dG:=λ⟨k,h⟩=>by rw[AX]at h;cases h
def aF2(n:bK):Prop:=¬isC n/\n≠dG
def bT5(h:Sys n k D.files)(a:bR D.files dG=none):dT D.files+6000<=n:=by rw[bp9 a];exact h.room
structure InO(b N:Nat)(c:bZ)(C:List (List bK))(S P:Nat)(l:bZ):Prop where
 sys:Sys b N l
 stay:iQ aF2 c l
 log:∃a,xX l a S P/\J2 a/\IM C a S P
def InO.jW{n k:Nat}(h:InO n k f C m i l)(a:List Int):InO n k f C m i (eI l a):=by obtain⟨b,c,d,e⟩:=h.log;exact⟨h.sys.jW a,h.stay.trans (iQ.jW _ h.sys.oI.sync a),b,c.stay (iQ.jW _ h.sys.oI.sync a),d,e⟩
def InO.next{cap n:Nat}{f:bZ}{a:List (List bK)}{k P:Nat}{Z:bZ}(h:InO cap n f C k P l)(d:Sys cap n Z)(b:iQ aF2 l Z)(c:xX Z a k P)(e:IM C a k P):InO cap n f C k P Z:=
 ⟨d,h.stay.trans b,a,c,c.ok,e⟩
def PI{q:bK->Prop}(a:¬q dG)(l:bZ)(f:fM):iQ q l (eH l dG f):=iQ.put a f
def PQ(l:bZ)(n:bK)(f g:fM):eH (eH l n f) n g=eH l n g:=by
 induction l with
 |nil=>simp[eH]
 |cons p l c=>
  obtain⟨m,h⟩:=p;by_cases a:m=n
  .subst a;simp[eH]
  by_cases b:n<m
  .simp[eH,a,b]
  simp[eH,a,b,c]
def DK(l:bZ)(b s:bK):bZ:=eH (jX (jX (eH l dG ⟨s,s.length⟩) b) dG) b ⟨s,s.length⟩
def tC{x s:bK}(c:dG≠x)(n:bK):bR (DK l x s) n=if x=n then some ⟨s,s.length⟩else if dG=n then none else bR l n:=by
 unfold DK;rw[fK,iB,iB,fK];split
 .rfl
 rename_i a;split
 .rfl
 rename_i b;rfl
def bh2(h:C3 l)(b s:bK):C3 (DK l b s):=(((h.put dG (aO _)).del b).del dG).put b (aO _)
def bh3(h:C3 l){x s:bK}(c:dG≠x)(q:bR l dG=none):lM qS (DK l x s)+((bR l x).map λg=>g.data.length).getD 0=lM qS l+s.length:=by unfold DK;have i:=h.put dG (f:=⟨s,s.length⟩) (aO _);have j:=i.del x;have p:=j.del dG;have d:=CK h.kO qS dG ⟨s,s.length⟩;have a:=CL i.kO qS x;have e:=CL j.kO qS dG;have b:=CK p.kO qS x ⟨s,s.length⟩;have n:qS dG=true:=(by decide);have o:qS x=false:=cC (λh=>c h.symm);have k:bR (eH l dG ⟨s,s.length⟩) x=bR l x:=(by rw[fK,aQ c]);have m:bR (jX (jX (eH l dG ⟨s,s.length⟩) x) dG) x=none:=(by rw[iB,aQ c,iB,aU rfl]);rw[n]at d e;rw[o]at a b;rw[k]at a;rw[m]at b;simp at d a e b;omega
def am8(h:Sys n k l){x s:bK}(b:dG≠x)(d:bR l dG=none)(e:aZ3 k x)(i:lM qS l+s.length+6000<=n+((bR l x).map λg=>g.data.length).getD 0):Sys n k (DK l x s):=
 ⟨bh2 h.oI x s,λj f a=>by
  rw[tC b]at a;split at a
  .rename_i c;rw[<-c];exact e
  split at a
  .cases a
  exact h.names j f a,by have:=bh3 h.oI (s:=s) b d;omega⟩
def am6(u:D.down=false)(e:D.cap=n)(B:Sys n k D.files)(O:k<=98)(A:bR D.files dG=none)(b s:bK)(P:jH b=true)(t:dG≠b)(g:dT D.files+s.length<=n)(I:bZ->Prop)(o:∀l i,I l->I (eI l i))
 (M:I D.files) (a:∀f,f.sync<=f.data.length->I (eH D.files dG f)) (N:I (DK D.files b s)) :
 Good D (D.FP b s) (λG=>G.files=DK D.files b s) I:=by
  unfold aM.FP;have Q:=B.oI;refine((OG u aZ6 A (B.yV O)).MH o M (a _ (aO _))).then λp v c _ j=>?_;have J:bR p.files dG=some ⟨[],0⟩:=by rw[j,fK,aU rfl]
  have R:dT p.files=dT D.files:=by rw[j];have:=kZ Q.kO dG ⟨[],0⟩;rw[A]at this;simp at this;exact this
  have C:eH p.files dG ⟨[]++s,0⟩=eH D.files dG ⟨s,0⟩:=(by rw[j,PQ];rfl);refine((I5 v J s (by rw[R,c,e];exact g)).MH o (by rw[j];exact a _ (aO _)) (by rw[C];exact a _ (bO _))).then λq w y _ m=>?_;rw[C]at m;have K:bR q.files dG=some ⟨s,0⟩:=(by rw[m,fK,aU rfl]);have E:eH q.files dG ⟨s,s.length⟩=eH D.files dG ⟨s,s.length⟩:=(by rw[m,PQ]);refine((PH w K).MH o (by rw[m];exact a _ (bO _)) (by show I (eH q.files dG ⟨s,s.length⟩);rw[E];exact a _ (aO _))).then λr x z _ d=>?_;have d:r.files=eH D.files dG ⟨s,s.length⟩:=d.trans E;have L:bR r.files dG=some ⟨s,s.length⟩:=(by rw[d,fK,aU rfl]);have F:eH (jX (jX r.files b) dG) b ⟨s,s.length⟩=DK D.files b s:=(by rw[d];rfl);refine((aW3 x L P t).MH o (by rw[d];exact a _ (aO _)) (by rw[F];exact N)).mono (λS _ _ _ H=>H.trans F) (λ_ h=>h)
def cq9(l:bZ)(C:List (List bK)):Prop:=cw4 l C C.flatten.length (jJ (eL C))
def LR(b:J2 C)(g:zG l C)(m:EJ l)(i:NoC l C.length){n k:Nat}(e:n<=C.flatten.length)(d:k<=jJ (eL C))(o:C=[]->n=0/\k=0):xX l C n k:=by
 induction C using BF with
 |h0=>obtain⟨rfl,rfl⟩:=o rfl;exact .none i
 |h1 C c _=>
  refine .some C c n k b (λp h=>?_) ?_ (by simpa using i)
  .have:=g p (by simp;omega);rwa[jK h]at this
  obtain⟨f,h1,a,j⟩:=g C.length (by simp);rw[eX (aO _)]at a;simp only[gM,bE]at a;have:=m _ _ h1;refine⟨f,(dV C.length c).length,h1,aO _,by rw[eQ];exact a,by rw[<-a];exact this,.inr ⟨c.length,aO _,?_,?_,?_⟩⟩
  .rw[xO]at d;rw[BH];exact d
  .rw[BH];rwa[a]at j
  simp only[iU,aP,gP,bi0,fU]at e;exact e
def SO(a:J2 C)(b:zG l C)(g:EJ l)(e:NoC l C.length):cq9 l C:=
 ⟨LR a b g e (aO _) (aO _) (λh=>by subst h;exact⟨rfl,rfl⟩),λn h=>by obtain⟨f,c,d,_⟩:=b n h;exact⟨f,c,d⟩⟩
variable{s:bK}
def XG:∀{d i:Nat},iO s a i<=iO s a (i+d)
 |0,i=>aO _
 |d+1,i=>aL (XG (d:=d)) (ah7 s a (i+d))
def GL{H:bK}{ps:List bK}{i j:Nat}(h:i<=j):iO H ps i<=iO H ps j:=by obtain⟨d,rfl⟩:=Nat.exists_eq_add_of_le h;exact XG
def bL4(n:Nat)(a:List bK)(r:lI)(h:r∈pW n a):n*4096<=r.1:=by unfold pW at h;obtain⟨i,_,rfl⟩:=dR.1 h;simp only;omega
def bB9(C:List (List bK))(a:List bK):(C++[a]).flatten.length=C.flatten+a:=by simp only[iU,aP,gP,bi0,fU]
def aT1{ps:List bK}(a:J2 C)(d:n<=C.flatten)(f:k<=jJ (eL C)):IM (C++[ps]) C n k:=by
 refine⟨dB C,by rw[lS,lZ],by rw[qY];exact d,by rw[lS];simp,λi b c=>?_⟩;have:=bL4 C ps ((dB (C++[ps]))[i]) (by
  have e:(dB (C++[ps]))[i]=(pW C ps)[i-(dB C).length]'(by rw[lS]at b;simp at b|-;omega):=by simp only[lS];rw[eX c]
  rw[e];exact cY _)
 have:=yE a;omega
def bq4(d:n<=a)(c:k<=C.flatten+n)(g:m<=C*4096+iO (eM (C:Nat)) a n):IM (C++[a]) (C++[a.take n]) k m:=by
 refine⟨(dB C)+n,?_,by rw[qY];exact c,by rw[lS];simp;omega,λj b f=>?_⟩
 .rw[lS,lS,aW6 _ _ _ d,RF,aX (l:=dB C) (by omega),show(dB C).length+n-(dB C)=n from by omega]
 have e:(dB (C++[a]))[j]=(pW C a)[j-(dB C).length]'(by rw[lS]at b;simp at b|-;omega):=by simp only[lS];rw[eX (by omega)]
 rw[e];simp only[pW,sN,List.getElem_range];have:=GL (H:=eM (C:Nat)) (ps:=a) (i:=n) (j:=j-(dB C)) (by omega);omega
def XC{q:List bK}(p:C.length<=199)(j:zG l C){Z:bZ}(k:∀n,n<C.length->bR Z (gZ n)=bR l (gZ n)){f:fM}(m:bR Z (gZ C)=f)(i:f.data=dV C q)(o:f.data<=f.sync):zG Z (C++[q]):=λn h=>by
 rcases cR n C with a|a
 .have⟨g,b,c,d⟩:=j n a;rw[jK a];exact⟨g,(k n a).trans b,c,d⟩
 have e:n=C.length:=by simp at h;omega
 subst e;rw[eX gC];simp only[gM,bE];exact⟨f,m,i,o⟩
structure cl7(b N:Nat)(c:bZ)(C:List (List bK))(S P:Nat)(a:List (List bK))(l:bZ):Prop where
 sys:Sys b N l
 stay:iQ aF2 c l
 ok:J2 a
 full:zG l a
 no:NoC l a.length
 bI5:IM C a S P
 le:S<=a.flatten.length/\P<=jJ (eL a)
 new:bR l dG=none
def bS0(h:isC s):¬aF2 s:=λa=>a.1 h
def by5(P:D.down=false)(U:D.cap=n)(hN:k<=98)(F:bR D.files dG=none){l:bZ}{C:List (List bK)}{b:List bK}{m i:Nat}(t:InO n k l (C++[b]) m i D.files)
 (S:J2 (C++[b])) (u:zG D.files C) (Z:an2 D.files C b m i) (no:NoC D.files (C+1)) :
 (D.load C).2=0/\Good D ((uV D C (D.load C).1.1 (D.load C).1.2 (eL C)).1,(uV D C (D.load C).1.1 (D.load C).1.2 (eL C)).2.2) (λD'=>∃C',(uV D C (D.load C).1.1 (D.load C).1.2 (eL C)).2.1=eL C'/\cl7 n k l (C++[b]) m i C' D'.files) (InO n k l (C++[b]) m i):=by
  have⟨f,c,V,hc,hd,hj,E⟩:=Z;have⟨hk,h8,Q⟩:=S.last;have K:∀ho y,InO n k l (C++[b]) m i ho->InO n k l (C++[b]) m i (eI ho y):=λho y h=>h.jW y;have G:=t.sys;have hb:f.data=c:=(by rw[hd,bJ];omega);have M:∀hp,hp<C.length->gZ C≠gZ hp:=λhp h e=>(by have:=CT (by omega) (by omega) e;omega);have X:∀hp,C.length+1<=hp->hp<=999999->gZ C≠gZ hp:=λhp h v e=>(by have:=CT (by omega) v e;omega);have d:dG≠gZ C:=LV _ (by omega);have hq:¬aF2 (gZ C):=bS0 (CX (by omega));have⟨la,h7⟩:=bm0 Q h8 V hc hd;by_cases h0:c<12
  .rw[la h0];refine⟨rfl,?_⟩;unfold uV;rw[aU rfl];have B:i<=jJ (eL C)/\m<=C.flatten:=by
    rcases E with h|⟨hm,I,v,h3,z⟩
    .exact h
    have:=PS (eM (C:Nat)) b hm;rw[jO Q]at this;omega
   have a:zG (jX D.files (gZ C)) C:=λhp h=>by have⟨g,I,v,h3⟩:=u hp h;exact⟨g,by rw[iB,aQ (M hp h)];exact I,v,h3⟩
   have p:NoC (jX D.files (gZ C)) C:=λhp I v=>by
    rw[iB];split
    .rfl
    rename_i h9;refine no hp ?_ v;rcases cR C hp with h|h
    .exact h
    exact absurd (by rw[show hp=C.length from by omega]) h9
   have O:=aT1 (ps:=b) S.front B.2 B.1;have N:=G.del (gZ C);have W:xX (jX D.files (gZ C)) C m i:=LR S.front a N.oI.sync p B.2 B.1 (λh=>by subst h;have I:=B.1;have v:=B.2;simp[eL,jJ]at I v;exact⟨v,I⟩);refine((I1 P V).MH K t (t.next N (iQ.del hq) W O)).mono (λD' _ _ _ e=>?_) (λ_ h=>h);refine⟨C,rfl,?_⟩;rw[e];exact⟨N,t.stay.trans (iQ.del hq),S.front,a,p,O,⟨B.2,B.1⟩,by rw[iB,aQ (λh=>d h.symm)];exact F⟩
  have⟨hm,hi,I,v,h3⟩:=h7 (by omega);rw[h3];refine⟨rfl,?_⟩;have T:=PS (eM (C:Nat)) b hm;rw[jO Q]at T;have J:m<=C.flatten+hm/\i<=C*4096+iO (eM (C:Nat)) b hm:=by
   rcases E with h|⟨j,g1,g2,g3,g4⟩
   .have:=yE S.front;omega
   have h6:j<=hm:=by
    rcases cR hm j with h|h
    .have:=v (by omega);have:=GL (H:=eM (C:Nat)) (ps:=b) (i:=hm+1) (j:=j) (by omega);omega
    exact h
   have:=GL (H:=eM (C:Nat)) (ps:=b) h6;omega
  have O:=bq4 hi J.1 J.2;have A:=S.cut hm;have r:m<=(C++[b.take hm]).flatten.length/\i<=jJ (eL (C++[b.take hm])):=by refine⟨by rw[bB9,bJ];omega,?_⟩;rw[xO,BV];exact J.2
  have hz:C++[b.take hm]=[]->m=0/\i=0:=λh=>by simp at h
  have p:∀l',(∀hp,gZ C≠gZ hp->hp<=999999->bR l' (gZ hp)=bR D.files (gZ hp))->NoC l' (C++[b.take hm]).length:=λl' hg hp z R=>by have z:C.length+1<=hp:=(by simpa using z);rw[hg hp (X hp z R) R];exact no hp z R
  have Y:eL C++[iO (eM (C:Nat)) b hm]=eL (C++[b.take hm]):=(by rw[qM,BV]);unfold uV;rw[aQ (by simp only;omega)];by_cases L:iO (eM (C:Nat)) b hm<f.data
  .rw[aU L];have w:f.data.take (iO (eM (C:Nat)) b hm)=dV C (b.take hm):=(by rw[hd,kJ,fQ (by omega),al8]);simp only;rw[w];have ha:(dV C (b.take hm)).length<f.data:=by rw[BV];exact L
   have o:∀hp,gZ C≠gZ hp->hp<=999999->bR (DK D.files (gZ C) (dV C (b.take hm))) (gZ hp)=bR D.files (gZ hp):=(λhp z R=>by rw[tC d,aQ z,aQ (LV hp R)]);have a:zG (DK D.files (gZ C) (dV C (b.take hm))) (C++[b.take hm]):=XC (by omega) u (λhp h=>o hp (M hp h) (by omega)) (by rw[tC d,aU rfl]) rfl gC;have q:=am8 G (s:=dV C (b.take hm)) d F (.inr (.inr (.inl ⟨C,by omega,rfl⟩))) (by rw[V];have:=G.room;simp;omega);have W:=LR A a q.oI.sync (p _ o) r.1 r.2 hz;have x:iQ aF2 D.files (DK D.files (gZ C) (dV C (b.take hm))):=λhp F=>by left;rw[tC d,aQ (λh=>hq (by rw[h];exact F)),aQ (λh=>F.2 h.symm)]
   have hh:=bT5 G F;refine(am6 P U G hN F _ _ (yQ (by omega)) d (by omega) (InO n k l (C++[b]) m i) K t (λg hg=>?_) (t.next q x W O)).mono (λD' _ _ _ e=>?_) (λ_ h=>h)
   .have⟨C1,k1,k2,k3⟩:=t.log;exact t.next (G.bM6 hg) (PI (λh=>h.2 rfl) _ _) (k1.stay (PI CY _ _)) k3
   refine⟨_,Y,?_⟩;rw[e];exact⟨q,t.stay.trans x,A,a,p _ o,O,r,(tC d dG).trans (by rw[aQ (λh=>d h.symm),aU rfl])⟩
  rw[aQ L];have he:iO (eM (C:Nat)) b hm=c:=(by omega);have w:f.data=dV C (b.take hm):=(by rw[hd,<-he,al8]);have o:∀hp,gZ C≠gZ hp->hp<=999999->bR (eH D.files (gZ C) ⟨f.data,f.data⟩) (gZ hp)=bR D.files (gZ hp):=λhp z R=>(by rw[fK,aQ z]);have a:zG (eH D.files (gZ C) ⟨f.data,f.data⟩) (C++[b.take hm]):=XC (by omega) u (λhp h=>o hp (M hp h) (by omega)) (f:=⟨f.data,f.data⟩) (by rw[fK,aU rfl]) w gC;have q:=G.put (n:=gZ C) (.inr (.inr (.inl ⟨C,by omega,rfl⟩))) (f:=⟨f.data,f.data⟩) gC (by rw[V];have:=G.room;simp;omega);have W:=LR A a q.oI.sync (p _ o) r.1 r.2 hz;have x:iQ aF2 D.files (eH D.files (gZ C) ⟨f.data,f.data⟩):=iQ.put hq _;refine((PH P V).MH K t (t.next q x W O)).mono (λD' _ _ _ e=>?_) (λ_ h=>h);refine⟨_,Y,?_⟩;rw[e];exact⟨q,t.stay.trans x,A,a,p _ o,O,r,by rw[fK,aQ (λh=>d h.symm)];exact F⟩
def WJ(a:D.down=false)(m:Sys n k D.files)(I:bZ->Prop)(j:∀l b,I l->I (eI l b))(g:I D.files)(i:I (jX D.files dG)):Good D D.gE (λc=>bR c.files dG=none/\(c.files=D.files\/c.files=jX D.files dG)) I:=by
 unfold aM.gE;cases d:bR D.files dG with
 |none=>exact Good.ok a ⟨d,.inl rfl⟩
 |some f=>exact((I1 a d).MH j g i).mono (λc _ _ _ e=>⟨by rw[e,iB,aU rfl],.inr e⟩) (λ_ h=>h)
def bw5(I:D.down=false)(F:D.cap=n)(X:k<=98)(S:Sys n k D.files){C:List (List bK)}{m i:Nat}(w:xX D.files C m i):
 Good D ((jF D).1,(jF D).2.2) (λW=>∃A,(jF D).2.1=some ⟨eL A,jJ (eL A)⟩/\cl7 n k D.files C m i A W.files) (InO n k D.files C m i):=by
  have P:InO n k D.files C m i D.files:=⟨S,iQ.refl _ _,C,w,w.ok,IM.refl i w.le⟩;have Q:∀l p,InO n k D.files C m i l->InO n k D.files C m i (eI l p):=λl p h=>h.jW p;have G:InO n k D.files C m i (jX D.files dG):=P.next (S.del _) (iQ.del λh=>h.2 rfl) (w.stay (iQ.del CY)) (IM.refl i w.le);have Z:=WJ I S _ Q P G;unfold jF;rw[I,aQ (by simp)];rcases Z with⟨M,J,e,r,t,R⟩|⟨M,L,e,r,H⟩
  .have z:xX D.gE.2.files C m i/\InO n k D.files C m i D.gE.2.files:=by
    rcases R with h|h<;>rw[h]
    .exact⟨w,P⟩
    exact⟨w.stay (iQ.del CY),G⟩
   rw[aQ (by simpa using M)];generalize D.gE.2=E at *;have⟨x,o⟩:=z;have s:E.count=(C.length,true):=by
    have B:=x.ok.1;cases x with
    |none h=>exact aM3 o.sys.oI.kO 0 (by omega) (λh0 h=>by omega) h
    |some u V m i K g q T=>
     refine aM3 o.sys.oI.kO _ B (λh0 h=>?_) (by simpa using T);rcases cR h0 u.length with U|U
     .have⟨f,v,_⟩:=g h0 U;exact⟨f,v⟩
     have:h0=u.length:=(by simp at h;omega);subst this;have⟨f,c,v,_⟩:=q;exact⟨f,v⟩
   rw[s];simp only[ax1,dP];cases x with
   |none h=>simp only[jU,mP,ne_eq,not_true_eq_false,dP];refine .inl ⟨rfl,J,e,r,[],rfl,?_⟩;exact⟨o.sys,o.stay,⟨by simp,by simp,by simp⟩,λh0 h=>by simp at h,h,IM.refl 0 (by simp),⟨by simp,by simp⟩,t⟩
   |some u V m i K g q T=>
    have⟨y,Y⟩:=by5 J (e.trans F) X t o K g q T;have O:=K.last.2.2;have j:=aX0 u K.front (λh0 h=>by have⟨f,v,N,_⟩:=g h0 h;exact⟨f,v,N⟩) O u.length 0 (by omega);rcases j with j|j
    .simp only[C6]at j;rw[show(u++[V]).length=u.length+1 from by simp,j];rcases Y with⟨a,b,c,d,A,v,N⟩|⟨a,b,c,d,h⟩
     .rw[aQ (by simpa using a)];exact .inl ⟨rfl,b,c.trans e,d.trans r,A,by simp only;rw[v],N⟩
     rw[aU (by simp only at a;omega)];exact .inr ⟨a,b,c.trans e,d.trans r,h⟩
    exact absurd y j
  rw[aU (by omega)];exact .inr ⟨M,L,e,r,H⟩
structure vF(l:bZ)(G:cT)(C:List (List bK))(S P:Nat):Prop where
 log:xX l C S P
 whole:∀n (h:n<C.length),∃f,bR l (gZ n)=some f/\f.data=dV n C[n]
 bW:G.bW=eL C
 new:bR l dG=none
def aF3(n:bK):Prop:=¬isC n
structure InL(a N:Nat)(c:bZ)(b:List (List bK)->Prop)(S P:Nat)(l:bZ):Prop where
 sys:Sys a N l
 stay:iQ aF3 c l
 log:∃C,xX l C S P/\b C
def InL.jW{n k:Nat}{b:List (List bK)->Prop}(h:InL n k l b i m f)(a:List Int):InL n k l b i m (eI f a):=by have⟨C,c,d⟩:=h.log;exact⟨h.sys.jW a,h.stay.trans (iQ.jW _ h.sys.oI.sync a),C,c.stay (iQ.jW _ h.sys.oI.sync a),d⟩
def cl7.open{a:List (List bK)}(h:cl7 n k l C m i a f):vF f ⟨eL a,jJ (eL a)⟩ a a.flatten (jJ (eL a)):=
 ⟨(SO h.ok h.full h.sys.oI.sync h.no).log,(SO h.ok h.full h.sys.oI.sync h.no).whole,rfl,h.new⟩
def RU(F:D.down=false)(T:D.cap=n){G:cT}{C:List (List bK)}{m i:Nat}(B:Sys n k D.files)(U:vF D.files G C m i){Ok:List (List bK)->Prop}(v:Ok C):
 Good D ((fY G D).1,(fY G D).2.2) (λu=>(fY G D).2.1.bW=G.bW/\Sys n k u.files/\iQ aF3 D.files u.files/\vF u.files (fY G D).2.1 C C.flatten (jJ (eL C))/\dT u.files=dT D.files/\zG u.files C) (InL n k D.files Ok m i):=by
  have X:InL n k D.files Ok m i D.files:=⟨B,iQ.refl _ _,C,U.log,v⟩;have L:∀l p,InL n k D.files Ok m i l->InL n k D.files Ok m i (eI l p):=λl p h=>h.jW p;have⟨y,V,o,s⟩:=U;unfold fY;cases y with
  |none h=>rw[aU (by rw[o];rfl)];exact Good.ok F ⟨rfl,B,iQ.refl _ _,⟨.none h,V,o,s⟩,rfl,λhb h=>by simp at h⟩
  |some g I m i H r t W=>
   have⟨Z,h0,R⟩:=H.last;have x:G.bW.length=g+1:=(by rw[o];simp);rw[aQ (by rw[o,qM];simp),x,show g+1-1=g.length from rfl];have⟨f,N,M⟩:=V g (by simp);rw[eX gC]at M;simp only[gM,bE]at M;have Q:∀hb,hb<g.length->gZ g≠gZ hb:=λhb h e=>(by have:=CT (by omega) (by omega) e;omega);have O:∀hb,hb<g.length->bR (eH D.files (gZ g) ⟨f.data,f.data⟩) (gZ hb)=bR D.files (gZ hb):=λhb h=>(by rw[fK,aQ (Q hb h)]);have j:zG (eH D.files (gZ g) ⟨f.data,f.data⟩) (g++[I]):=XC R r O (f:=⟨f.data,f.data⟩) (by rw[fK,aU rfl]) M gC;have q:=B.put (n:=gZ g) (.inr (.inr (.inl ⟨g,by omega,rfl⟩))) (f:=⟨f.data,f.data⟩) gC (by rw[N];have:=B.room;simp;omega);have z:NoC (eH D.files (gZ g) ⟨f.data,f.data⟩) (g++[I]).length:=λhb J K=>by have J:g.length+1<=hb:=(by simpa using J);rw[fK,aQ (λe=>by have:=CT (by omega) K e;omega)];exact W hb J K
   have E:iQ aF3 D.files (eH D.files (gZ g) ⟨f.data,f.data⟩):=iQ.put (λh=>h (CX (by omega))) _;have P:=(xX.some g I m i H r t W).le;have w:i<=jJ (eL (g++[I])):=by
    have⟨f',c,J,K,h3,h4,S⟩:=t;rw[xO];have:=yE H.front;rcases S with S|⟨ha,h6,h7,h8,h9⟩
    .omega
    have:=AH (eM (g:Nat)) I ha;unfold dV;omega
   have Y:=LR H j q.oI.sync z P w (λh=>by simp at h);have A:=SO H j q.oI.sync z;refine((PH F N).MH L X ⟨q,E,_,Y,v⟩).imp (λ⟨a,b,c,d,e⟩=>⟨a,b,c,d,?_⟩) id;simp only at a e;rw[aU a];simp only;rw[e];refine⟨by first|rfl|trivial,q,E,⟨A.log,A.whole,o,?_⟩,?_,j⟩
   .rw[fK,aQ (λe=>LV _ (by omega) e.symm)];exact s
   have:=kZ B.oI.kO (gZ g) ⟨f.data,f.data⟩;rw[N]at this;simp at this;exact this
def ag5{D:aM}{k:Nat}(h:yK D k=true):dT D.files+k+6000<=D.cap:=by unfold yK aM.free at h;simp only[bH]at h;omega
def bj3{D:aM}{k:Nat}(h:¬yK D k=true):D.cap<dT D.files+k+6000:=by unfold yK aM.free at h;simp only[bH]at h;omega
def aa2(b N:Nat)(D:aM)(G:cT)(C:List (List bK))(S P:Nat)(p:bK)(r:Int×Nat×cT×aM):Prop:=
 (r=(60,0,G,D)/\(200<=C.length\/D.cap<dT D.files+p.length+24+6000))\/
 (r.1=0/\r.2.2.2.down=false/\r.2.2.2.cap=D.cap/\r.2.2.2.bP=D.bP/\Sys b N r.2.2.2.files/\iQ aF3 D.files r.2.2.2.files/\dT r.2.2.2.files<=dT D.files+p.length+24/\∃a d c,vF r.2.2.2.files r.2.2.1 a d c/\dB a=dB C++[(r.2.1,p)]/\S<=d/\P<=c/\c<=r.2.1)\/
 (r.1=61/\r.2.1=0/\r.2.2.2.down=true/\r.2.2.2.cap=D.cap/\r.2.2.2.bP=D.bP/\InL b N D.files (fun a=>a=C\/∃k,dB a=dB C++[(k,p)]/\P<=k) S P r.2.2.2.files)
def ce4(h:J2 (C++[d]))(i:s.length<=2000)(f:(dV C d).length+s+12<=4096):J2 (C++[d++[s]]):=by
 refine⟨by have:=h.1;simp at this|-;omega,λq a x b=>?_,λn g=>?_⟩
 .rcases cE.1 a with a|a
  .exact h.2.1 q (by simp[a]) x b
  rw[bT]at a;subst a;rcases cE.1 b with b|b
  .exact h.last.2.1 x b
  rw[bT.1 b];exact i
 rcases cR n C with c|c
 .rw[jK c];exact h.front.2.2 n c
 have e:n=C:=(by simp at g;omega);subst e;rw[eX gC];simp only[gM,bE];unfold dV at f|-;rw[LL,aP,mU];omega
def cp7(h:J2 C)(g:C.length<200)(f:s.length<=2000):J2 (C++[[s]]):=by
 refine⟨by simp;omega,λq a x d=>?_,λn c=>?_⟩
 .rcases cE.1 a with a|a
  .exact h.2.1 q a x d
  rw[bT]at a;subst a;rw[bT.1 d];exact f
 rcases cR n C with b|b
 .rw[jK b];exact h.2.2 n b
 have e:n=C:=(by simp at c;omega);subst e;rw[eX gC];simp only[gM,bE];unfold dV;rw[show[s]=[]++[s]from rfl,LL,aA4,aP,mU,jO (by omega)];omega
def T5(p:bK):dV n [p]=eM (n:Int)++jT p:=by unfold dV rT;simp
def aC9(a:bK)(b:List bK)(p:bK){n:Nat}(h:n<=b):iO a (b++[p]) n=iO a b n:=S9 a b p n h
def bg4(h0:D.down=false)(h6:D.cap=n){G:cT}{C:List (List bK)}{j:List bK}{m i:Nat}(V:Sys n k D.files)(O:vF D.files G (C++[j]) m i)(ok:J2 (C++[j]))(y:zG D.files C)(S:an2 D.files C j m i)(no:NoC D.files (C+1)){s:bK}(hp:s.length<=2000)(L:(dV C j).length+s+12<=4096):
 aa2 n k D G (C++[j]) m i s (oU G D C (jT s)):=by
  unfold oU;by_cases w:yK D (jT s)=true;case neg=>rw[aU (by simpa using w)];exact .inl ⟨rfl,.inr (by have:=bj3 w;have:=mU s;omega)⟩
  rw[aQ (by simpa using w)];have Z:=ag5 w;have⟨ha,hb,hc⟩:=ok.last;have⟨f,F,B⟩:=O.whole C (by simp);rw[eX gC]at B;simp only[gM,bE]at B;have h8:=mU s;have Y:G.bW.getD C 0=(dV C j):=(by rw[O.bW,qM,b8,eA (by simp)];simp);have N:∀hi,hi<C.length->gZ C≠gZ hi:=λhi h e=>(by have:=CT (by omega) (by omega) e;omega);have T:=ce4 ok hp L;have o:dV C (j++[s])=dV C j++jT s:=LL _ _ _;have⟨f',c,h1,h2,h3,h4,J⟩:=S;rw[F]at h1;cases h1;have X:f.data.length=(dV C j):=(by rw[B]);have h7:f.sync<=f.data:=V.oI.sync _ _ F;have K:(i<=jJ (eL C)/\m<=C.flatten)\/∃he,he<=(j++[s]).length/\i<=C*4096+iO (eM (C:Nat)) (j++[s]) he/\iO (eM (C:Nat)) (j++[s]) he<=f.sync/\m<=C.flatten+he:=by
   rcases J with J|⟨he,v,u,U,g4⟩
   .exact .inl J
   exact .inr ⟨he,by simp;omega,by rw[aC9 _ _ _ v];exact u,by rw[aC9 _ _ _ v];exact U,g4⟩
  have p:i<=C*4096+(dV C j):=by
   have:=yE ok.front;rcases J with J|⟨he,v,u,U,g4⟩
   .omega
   have:=AH (eM (C:Nat)) j he;unfold dV;omega
  have t:dB (C++[j++[s]])=dB (C++[j])++[(C*4096+(dV C j).length,s)]:=by rw[lS,lS,X5,bV]
  have A:xX D.files (C++[j++[s]]) m i:=.some C (j++[s]) m i T y ⟨f,dV C j,F,by rw[o,aP];omega,by rw[o,lZ];exact B,by omega,K⟩ no;have z:∀hi,gZ C≠gZ hi->bR (eH D.files (gZ C) ⟨f.data++jT s,f.sync⟩) (gZ hi)=bR D.files (gZ hi):=λhi h=>by rw[fK,aQ h]
  have q:xX (eH D.files (gZ C) ⟨f.data++jT s,f.sync⟩) (C++[j++[s]]) m i:=by
   refine .some C (j++[s]) m i T (λhi h=>?_) ⟨⟨f.data++jT s,f.sync⟩,dV C (j++[s]),by rw[fK,aU rfl],gC,by rw[eQ,o,B],by rw[o,aP,<-X];simp only;omega,K⟩ (λhi v u=>?_)
   .have⟨g,v,u,U⟩:=y hi h;exact⟨g,by rw[z hi (N hi h)];exact v,u,U⟩
   rw[z hi (λe=>by have:=CT (by omega) u e;omega)];exact no hi v u
  have P:=V.put (n:=gZ C) (.inr (.inr (.inl ⟨C,by omega,rfl⟩))) (f:=⟨f.data++jT s,f.sync⟩) (by simp;omega) (by
   rw[F];have:=B9 qS D.files;simp only[aP,tX,nW];omega)
  have Q:iQ aF3 D.files (eH D.files (gZ C) ⟨f.data++jT s,f.sync⟩):=iQ.put (λh=>h (CX (by omega))) _;have M:=(I5 h0 F (jT s) (by omega)).MH (I:=InL n k D.files (λC'=>C'=C++[j]\/∃hh,dB C'=dB (C++[j])++[(hh,s)]/\i<=hh) m i) (λl R h=>h.jW R) ⟨V,iQ.refl _ _,_,A,.inr ⟨_,t,p⟩⟩ ⟨P,Q,_,q,.inr ⟨_,t,p⟩⟩;generalize D.append (gZ C) (jT s)=r at M|-;have⟨e,E⟩:=r;rcases M with⟨a,b,H,d,x⟩|⟨a,b,H,d,x⟩
  .simp only at a b H d x;subst a;rw[aQ (by simp)];refine .inr (.inl ⟨rfl,b,H,d,by simp only;rw[x];exact P,by simp only;rw[x];exact Q,?_,C++[j++[s]],m,i,?_,?_,gC,gC,?_⟩)
   .simp only;rw[x];have:=kZ V.oI.kO (gZ C) ⟨f.data++jT s,f.sync⟩;rw[F]at this;simp at this;omega
   .simp only;rw[x];refine⟨q,λhi h=>?_,?_,?_⟩
    .rcases cR hi C with W|W
     .have⟨g,v,u⟩:=O.whole hi (by simp;omega);rw[jK W]at u|-;exact⟨g,by rw[z hi (N hi W)];exact v,u⟩
     have e:hi=C.length:=(by simp at h;omega);subst e;rw[eX gC];simp only[gM,bE];exact⟨_,by rw[fK,aU rfl],by rw[o,B]⟩
    .show G.bW.set C (G.bW.getD C 0+(jT s))=_;rw[Y,O.bW,qM,qM,o,aP,jR _ _ (by simp)];simp
    rw[fK,aQ (λe=>LV _ (by omega) e.symm)];exact O.new
   .simp only;rw[Y];exact t
   simp only;rw[Y];exact p
  simp only at a b H d x;subst a;rw[aU (by simp)];exact .inr (.inr ⟨rfl,rfl,b,H,d,x⟩)
def bF0(hu:D.down=false)(X:D.cap=n)(hN:k<=98){G:cT}{C:List (List bK)}{m i:Nat}(hs:Sys n k D.files)(ho:vF D.files G C m i){s:bK}(hp:s.length<=2000):
 aa2 n k D G C m i s (pB G D C (jT s)):=by
  have he:=mU s;unfold pB;by_cases N:200<=C.length\/yK D (12+(jT s))=false
  .rw[aU N];exact .inl ⟨rfl,N.imp id λT=>by have:=bj3 (D:=D) (k:=12+(jT s)) (by rw[T];simp);omega⟩
  rw[aQ N];have hr:=ag5 (D:=D) (k:=12+(jT s)) (by
   cases h:yK D (12+(jT s))
   .exact absurd (.inr h) N
   rfl)
  have L:C.length<200:=by
   rcases cR C 200 with h|h
   .exact h
   exact absurd (.inl h) N
  have ok:=ho.log.ok;have P:=RU hu X hs ho (Ok:=λo=>o=C\/∃hz,dB o=dB C++[(hz,s)]/\i<=hz) (.inl rfl);have A:=ho.log.le;have t:i<=jJ (eL C):=by
   have hb:=ho.log;cases hb with
   |none h=>exact bO _
   |some C0 ps m i ok hx hh no=>
    have⟨f',c,h1,h2,h3,h4,h5⟩:=hh;rw[xO];have:=yE ok.front;rcases h5 with h5|⟨hy,h6,h7,h8,T⟩
    .omega
    have:=AH (eM (C0:Nat)) ps hy;unfold dV;omega
  have hj:=yE ok;have B:dB (C++[[s]])=dB C++[(C.length*4096+12,s)]:=by
   rw[lS,show[s]=[]++[s]from rfl,X5];congr 1;show[]++[(C*4096+(dV C []).length,s)]=_;rw[show(dV C []).length=12 from by unfold dV;rw[aA4,jO (by omega)]];rfl
  generalize hq:fY G D=q at P|-;have⟨e1,G1,j⟩:=q;simp only at P|-;rcases P with⟨a,hi,w,R,hg,v,F,y,ht,p⟩|⟨a,b,J,d,z⟩
  .simp only at a hi w R hg v F y ht p;subst a;rw[aQ (by simp)];have hv:=cp7 ok L hp;have O:bR j.files (gZ C)=none:=by
    have:=y.log;cases this with
    |none h=>exact h 0 gC (by omega)
    |some C0 ps _ _ _ _ _ no=>simpa using no (C0+1) gC (by simp at L;omega)
   have M:NoC j.files C:=by
    have:=y.log;cases this with
    |none h=>exact h
    |some C0 ps _ _ _ _ _ no=>simpa using no
   have hn:∀x0,x0<C.length->gZ C≠gZ x0:=λx0 h e=>(by have:=CT (by omega) (by omega) e;omega);have ha:∀f x0,gZ C≠gZ x0->bR (eH j.files (gZ C) f) (gZ x0)=bR j.files (gZ x0):=(λf x0 h=>by rw[fK,aQ h]);have x:∀f,zG (eH j.files (gZ C) f) C:=λf x0 h=>by have⟨g,g1,K,g3⟩:=p x0 h;exact⟨g,by rw[ha f x0 (hn x0 h)];exact g1,K,g3⟩
   have hf:∀f,NoC (eH j.files (gZ C) f) (C+1):=λf x0 g1 K=>by rw[ha f x0 (λe=>by have:=CT (by omega) K e;omega)];exact M x0 (by omega) K
   have u:∀c,c<=(dV C [s]).length->∀S' P',S'<=C.flatten.length->P'<=jJ (eL C)->xX (eH j.files (gZ C) ⟨(dV C [s]).take c,0⟩) (C++[[s]]) S' P':=λc N S' P' hS hP=>.some C [s] S' P' hv (x _) ⟨_,c,by rw[fK,aU rfl],N,rfl,bO _,.inl ⟨hP,hS⟩⟩ (hf _);have Q:∀d:bK,dT j.files+d+6000<=n->Sys n k (eH j.files (gZ C) ⟨d,0⟩):=λd hd=>v.put (.inr (.inr (.inl ⟨C,by omega,rfl⟩))) (bO _) (by have:=B9 qS j.files;simp only;omega);have H:∀f,iQ aF3 D.files (eH j.files (gZ C) f):=λf=>F.trans (iQ.put (λh=>h (CX (by omega))) _);have Y:(dV C [s]).length=s+24:=(by rw[T5,aP,he,jO (by omega)];omega);have hm:=y.log.stay (iQ.refl _ _);have hl:InL n k D.files (λo=>o=C\/∃hz,dB o=dB C++[(hz,s)]/\i<=hz) m i j.files:=by
    refine⟨v,F,C,?_,.inl rfl⟩;exact LR ok p v.oI.sync M A t (λh=>by subst h;have h1:=A;have h2:=t;simp[eL,jJ]at h1 h2;exact⟨h1,h2⟩)
   have Z:∀l I,InL n k D.files (λo=>o=C\/∃hz,dB o=dB C++[(hz,s)]/\i<=hz) m i l->InL n k D.files (λo=>o=C\/∃hz,dB o=dB C++[(hz,s)]/\i<=hz) m i (eI l I):=λl I h=>h.jW I;have W:InL n k D.files (λo=>o=C\/∃hz,dB o=dB C++[(hz,s)]/\i<=hz) m i (eH j.files (gZ C) ⟨[],0⟩):=⟨Q [] (by simp;omega),H _,_,by have:=u 0 (bO _) m i A t;simpa using this,.inr ⟨_,B,by omega⟩⟩;have hk:InL n k D.files (λo=>o=C\/∃hz,dB o=dB C++[(hz,s)]/\i<=hz) m i (eH j.files (gZ C) ⟨dV C [s],0⟩):=⟨Q _ (by omega),H _,_,by have:=u _ gC m i A t;rw[eQ]at this;exact this,.inr ⟨_,B,by omega⟩⟩;have h0:Good j (EG j C (jT s)) (λD'=>D'.files=eH j.files (gZ C) ⟨dV C [s],0⟩) (InL n k D.files (λo=>o=C\/∃hz,dB o=dB C++[(hz,s)]/\i<=hz) m i):=by
    unfold EG;refine((OG hi (yQ (by omega)) O (v.yV hN)).MH Z hl W).then λU hw V _ S=>?_;have S:U.files=eH j.files (gZ C) ⟨[],0⟩:=S;have K:bR U.files (gZ C)=some ⟨[],0⟩:=(by rw[S,fK,aU rfl]);have s2:eH U.files (gZ C) ⟨[]++(eM (C:Nat)++jT s),0⟩=eH j.files (gZ C) ⟨dV C [s],0⟩:=by rw[S,PQ,T5];rfl
    have u2:dT U.files=dT j.files:=by rw[S];have:=kZ v.oI.kO (gZ C) ⟨[],0⟩;rw[O]at this;simp at this;exact this
    refine((I5 hw K (eM (C:Nat)++jT s) (by rw[u2,<-T5,Y,V,w];omega)).MH Z (by rw[S];exact W) (by show InL _ _ _ _ _ _ (eH U.files (gZ C) ⟨[]++(eM (C:Nat)++jT s),0⟩);rw[s2];exact hk)).mono (λD3 _ _ _ e3=>e3.trans s2) (λ_ h=>h)
   generalize EG j C (jT s)=r at h0|-;have⟨e,E⟩:=r;rcases h0 with⟨a,b,J,d,z⟩|⟨a,b,J,d,z⟩
   .simp only at a b J d z;subst a;rw[aQ (by simp)];refine .inr (.inl ⟨rfl,b,J.trans w,d.trans R,by simp only;rw[z];exact Q _ (by omega),by simp only;rw[z];exact H _,?_,C++[[s]],C.flatten,jJ (eL C),?_,B,A,t,by simp only;omega⟩)
    .simp only;rw[z];have:=kZ v.oI.kO (gZ C) ⟨dV C [s],0⟩;rw[O]at this;simp at this;omega
    simp only;rw[z];refine⟨by have:=u _ gC _ _ gC gC;rw[eQ]at this;exact this,λx0 h=>?_,?_,?_⟩
    .rcases cR x0 C with T|T
     .have⟨g,g1,K,_⟩:=x ⟨dV C [s],0⟩ x0 T;rw[jK T];exact⟨g,g1,K⟩
     have e:x0=C.length:=(by simp at h;omega);subst e;rw[eX gC];simp only[gM,bE];exact⟨_,by rw[fK,aU rfl],rfl⟩
    .rw[y.bW,qM,Y,he,show s+24=12+(s.length+12)from by omega]
    rw[fK,aQ (λe=>LV _ (by omega) e.symm)];exact y.new
   simp only at a b J d z;subst a;rw[aU (by simp)];exact .inr (.inr ⟨rfl,rfl,b,J.trans w,d.trans R,z⟩)
  simp only at a b J d z;subst a;rw[aU (by simp)];exact .inr (.inr ⟨rfl,rfl,b,J,d,z⟩)
def bg9(f:D.down=false)(a:D.cap=n)(r:k<=98){G:cT}{C:List (List bK)}{m i:Nat}(q:Sys n k D.files)(c:vF D.files G C m i){s:bK}(p:s.length<=2000):
 aa2 n k D G C m i s (gU G D s):=by
  unfold gU;rw[aQ (by omega)];have b:G.bW.length=C:=(by rw[c.bW];simp);by_cases h:G.bW≠[]/\xB (G.bW.getD (G.bW-1) 0) s=true
  .rw[aU h];have⟨o,j⟩:=h;have e:=c.log;cases e with
   |none _=>rw[c.bW]at o;exact absurd rfl o
   |some l x m i w d g v=>have u:G.bW.length-1=l:=(by rw[b];simp);rw[u]at j|-;have t:G.bW.getD l 0=(dV l x):=(by rw[c.bW,qM,b8,eA (by simp)];simp);rw[t]at j;unfold xB at j;simp only[bH]at j;exact bg4 f a q c w d g v p (by omega)
  rw[aQ h,b];exact bF0 f a r q c p
variable{G:cT}
def bW7(b:n<=199)(a:List bK)(d:∀p∈a,p.length<=2000):cAt (dV n a) (n:Int)=(List.range a).map (iO (eM (n:Int)) a):=by have c:=(ZA b a (dV n a) gC).2;rw[eQ,cJ (OJ b a)]at c;unfold cAt;rw[aU c];have:=(al1 (eM (n:Int)) a (dV n a) a gC d (by rw[BH];exact aO _) (λh=>by omega) gC).1;rw[jO b]at this;unfold dV at this|-;rw[eQ]at this;rw[show(12:Int)=((12:Nat):Int)from rfl,this];unfold rowAt;rw[<-uC,List.take_range,fQ (by omega)]
def cn2{n:Nat}(a:List bK)(i:Nat)(h:i<a)(b:a[i].length<=2000):gA (dV n a) ((iO (eM (n:Int)) a i:Nat):Int)=a[i]/\gN (dV n a) ((iO (eM (n:Int)) a i:Nat):Int)=iO (eM (n:Int)) a i+a[i].length+12/\SQ (dV n a) ((iO (eM (n:Int)) a i:Nat):Int)=true:=by unfold dV;rw[GH (eM (n:Int)) a i h];unfold iO;exact⟨bn0 _ _ _ b,ci5 _ _ _ b,QI _ _ _ b⟩
def uR(n:Nat):List (List bK)->List lI
 |[]=>[]
 |ps::C=>pW n ps++uR (n+1) C
def bL5(C:List (List bK)):∀n,uR n C=(C.mapIdx λi a=>pW (n+i) a).flatten:=by
 induction C with
 |nil=>intro n;rfl
 |cons a C b=>
  intro n;rw[uR,b,bh9,gP];simp only[wQ];congr 3;funext i q;rw[fL,Nat.add_comm 1 i]
def VS(C:List (List bK)):dB C=uR 0 C:=by rw[bL5];unfold dB;simp
def KV(l:bZ)(C:List (List bK)):Prop:=∀n (h:n<C.length),∃f,bR l (gZ n)=some f/\f.data=dV n C[n]
def bx5(w:KV D.files C)(c:J2 C)(h:G.bW=eL C)(a:Int):∀k n,n+k=C.length->E4 G D a k n=KD ((uR n (C.drop n)).find? λr=>decide (a<=(r.1:Int))):=by
 intro k;induction k with
 |zero=>intro n v;rw[E4,kB (by omega)];rfl
 |succ k x=>
  intro n v;have b:n<C:=(by omega);have j:=c.1;have⟨f,t,s⟩:=w n b;have l:=c.2.1 _ (cY b);have u:G.bW.getD n 0=(dV n C[n]):=(by rw[h,b8,aK (by simpa using b)];simp[eL]);rw[E4,t];simp only;rw[u,s,eQ,bW7 (by omega) _ l,List.find?_map,<-gH b,uR,aQ8];have e:(pW n C[n]).find? (λr=>decide (a<=(r.1:Int)))=((List.range C[n].length).find? λi=>decide (a<=((n*4096+iO (eM (n:Int)) C[n] i:Nat):Int))).map λi=>(n*4096+iO (eM (n:Int)) C[n] i,C[n].getD i []):=by unfold pW;rw[List.find?_map];rfl
  rw[e];have m:((λp:Nat=>decide (a<=((n*4096+p:Nat):Int))) ∘ iO (eM (n:Int)) C[n])=λi=>decide (a<=((n*4096+iO (eM (n:Int)) C[n] i:Nat):Int)):=rfl;rw[m];cases d:(List.range C[n].length).find? (λi=>decide (a<=((n*4096+iO (eM (n:Int)) C[n] i:Nat):Int)))with
  |none=>simp only[bG1,Option.none_or];exact x (n+1) (by omega)
  |some i=>have g:i<C[n].length:=gB.1 (ca6 d);have⟨o,q,y⟩:=cn2 (n:=n) C[n] i g (l _ (cY g));simp only[tX,Option.some_or,KD];rw[o,q,b8,aK g];simp[fL]
def aB3(c:(dV n a).length<=4096){r:lI}(h:r∈pW n a):n*4096<=r.1/\r.1+r.2+12<=(n+1)*4096:=by unfold pW at h;obtain⟨i,b,rfl⟩:=dR.1 h;have b:=gB.1 b;have e:=uT (eM (n:Int)) a i b;have f:=AH (eM (n:Int)) a (i+1);have d:a.getD i []=a[i]:=(by rw[b8,aK b];rfl);unfold dV at c;simp only;rw[d];omega
def aj9{d:Type}(q:d->Bool)(a b:List d)(h:∀x∈a,q x=false):(a++b).find? q=b.find? q:=by rw[aQ8,L8.2 (λx c=>by rw[h x c];simp)];rfl
def aB4(C:List (List bK)):∀(n m:Nat),m<=C->uR n C=uR n (C.take m)++uR (n+m) (C.drop m):=by
 induction C with
 |nil=>intro n m a;simp[uR]
 |cons c C b=>
  intro n m a;cases m with
  |zero=>simp[uR]
  |succ m=>rw[xY,ae4,uR,uR,b (n+1) m (by simpa using a),bV,show n+1+m=n+(m+1)from by omega]
def X6(C:List (List bK)):∀(n:Nat),(∀i (h:i<C.length),(dV (n+i) C[i]).length<=4096)->∀r∈uR n C,n*4096<=r.1/\r.1+r.2+12<=(n+C)*4096:=by
 induction C with
 |nil=>intro n _ r a;cases a
 |cons e C d=>
  intro n c r a;rw[uR]at a;rcases cE.1 a with a|a
  .have b:=c 0 (by simp);simp only[wQ,bE]at b;have:=aB3 b a;simp only[cF];omega
  have:=d (n+1) (λi h=>by have:=c (i+1) (by simpa using h);rw[show n+(i+1)=n+1+i from by omega]at this;simpa using this) r a;simp only[cF];omega
def bO9(o:KV D.files C)(d:J2 C)(e:G.bW=eL C)(b:Int):CU G D b=KD ((dB C).find? λr=>decide (b<=(r.1:Int))):=by
 unfold CU;have c:G.bW.length=C:=by rw[e];simp
 have l:(λr:lI=>decide (b<=(r.1:Int)))=λr:lI=>decide (max b 0<=(r.1:Int)):=by
  funext r;rw[j8,bH,bH];omega
 rw[l,c,VS];obtain⟨p,k⟩:∃p:Nat,max b 0=(p:Int):=⟨(max b 0).toNat,by omega⟩;rw[k];have j:((p:Int)/4096).toNat=p/4096:=(by omega);rw[j];have a:∀m,m<=C.length->m*4096<=p->∀r∈uR 0 (C.take m),decide ((p:Int)<=(r.1:Int))=false:=λm g f r n=>by
  have:=X6 (C.take m) 0 (λi h=>by simp at h;have:=d.2.2 i (by omega);simpa using this) r n;simp only[bJ,jB]at this;rw[cN];rw[fQ g]at this;omega
 by_cases h:p/4096<=C
 .rw[bx5 o d e (p:Int) (C-p/4096) (p/4096) (by omega),aB4 C 0 (p/4096) h,aj9 _ _ _ (a _ h (by omega)),jB]
 rw[show C.length-p/4096=0 from by omega,E4];have:=a C gC (by omega);rw[eQ]at this;rw[L8.2 (λx q=>by rw[this x q];simp)];rfl
def zT(R:List lI):Prop:=R.Pairwise fun a b=>a.1+a.2.length+12<=b.1
def ao7(n:Nat)(a:List bK):zT (pW n a):=by unfold zT pW;rw[lO];refine List.pairwise_lt_range.imp_of_mem fun {i j} b g d=>?_;have b:=gB.1 b;have e:=uT (eM (n:Int)) a i b;have f:=GL (H:=eM (n:Int)) (ps:=a) (i:=i+1) (j:=j) (by omega);have c:a.getD i []=a[i]:=(by rw[b8,aK b];rfl);simp only;rw[c];omega
def ao8(C:List (List bK)):∀(n:Nat),(∀i (h:i<C.length),(dV (n+i) C[i]).length<=4096)->zT (uR n C):=by
 induction C with
 |nil=>intro n _;exact List.Pairwise.nil
 |cons k C j=>intro n e;have c:∀i (h:i<C.length),(dV (n+1+i) C[i]).length<=4096:=λi h=>(by have:=e (i+1) (by simpa using h);rw[show n+(i+1)=n+1+i from by omega]at this;simpa using this);rw[uR];refine oP.2 ⟨ao7 n k,j (n+1) c,λa f b g=>?_⟩;have d:=e 0 (by simp);simp only[wQ,bE]at d;have l:=aB3 d f;have m:=X6 C (n+1) c b g;omega
def qV(h:J2 C):zT (dB C):=by rw[VS];exact ao8 C 0 (λi a=>by have:=h.2.2 i a;simpa using this)
def FB(h:J2 C){r:lI}(a:r∈dB C):r.1+r.2+12<=C*4096:=by rw[VS]at a;have:=X6 C 0 (λi b=>by have:=h.2.2 i b;simpa using this) r a;simpa using this.2
def bt9(E:KV l C)(c:J2 C){r:lI}(w:r∈dB C):∃f,r.1/4096<C/\bR l (gZ (r.1/4096))=some f/\f.data=(eL C).getD (r.1/4096) 0/\12<=r.1%4096/\recAt f.data (r.1%4096)=true/\gA f.data ((r.1%4096:Nat):Int)=r.2/\f.data.length<=4096:=by
 have t:∀(d:List (List bK)) (n:Nat),(∀i (h:i<d.length),n+i<C.length/\C[n+i]?=some d[i])->r∈uR n d->∃m,m<C.length/\∃j,C[m]?=some j/\r∈pW m j:=by
  intro d;induction d with
  |nil=>intro n _ h;cases h
  |cons j d F=>
   intro n s h;rw[uR]at h;rcases cE.1 h with h|h
   .exact⟨n,(s 0 (by simp)).1,j,(s 0 (by simp)).2,h⟩
   exact F (n+1) (λi b=>by have:=s (i+1) (by simpa using b);rw[show n+(i+1)=n+1+i from by omega]at this;simpa using this) h
 rw[VS]at w;have⟨m,g,j,k,o⟩:=t C 0 (λi h=>⟨by omega,by simp[h]⟩) w;have e:C[m]=j:=(by rw[aK g]at k;exact cS k);subst e;have⟨f,B,p⟩:=E m g;have a:=c.2.2 m g;have u:=c.1;unfold pW at o;obtain⟨i,b,rfl⟩:=dR.1 o;have b:=gB.1 b;have H:=uT (eM (m:Int)) C[m] i b;have I:=AH (eM (m:Int)) C[m] (i+1);have A:C[m].getD i []=C[m][i]:=(by rw[b8,aK b];rfl);have v:=PS (eM (m:Int)) C[m] i;rw[jO (by omega)]at v;have D:iO (eM (m:Int)) C[m] i<4096:=(by unfold dV at a;omega);simp only;have x:(m*4096+iO (eM (m:Int)) C[m] i)/4096=m:=(by omega);have y:(m*4096+iO (eM (m:Int)) C[m] i)%4096=iO (eM (m:Int)) C[m] i:=(by omega);rw[x,y,A];have⟨z,G,q⟩:=cn2 (n:=m) C[m] i b (c.2.1 _ (cY g) _ (cY b));refine⟨f,g,B,?_,v,?_,?_,by rw[p];exact a⟩
 .rw[p,b8,aK (by simpa using g)];simp[eL]
 .rw[p];unfold SQ at q;rw[bL,cB]at q;exact q.2
 rw[p];exact z
def ai3(h:KV D.files C)(a:J2 C)(c:G.bW=eL C){R P:List lI}(f:dB C=R++P){n:Nat}(d:∀r∈R,r.1<n)(e:∀r∈P,n<=r.1):CU G D n=KD P.head?:=by
 rw[bO9 h a c,f,aj9 _ _ _ (λr g=>by rw[cN];have:=d r g;omega)];cases P with
 |nil=>rfl
 |cons b P=>rw[TD (by simpa using e b (by simp))];rfl
def bB5(b:J2 C){P R:List lI}{r:lI}(g:dB C=P++r::R):(∀x∈P++[r],x.1<r.1+r.2+12)/\∀x∈R,r.1+r.2+12<=x.1:=by
 have c:=qV b;unfold zT at c;rw[g]at c;have⟨h,d,e⟩:=oP.1 c;have⟨f,i⟩:=dD.1 d;refine⟨λx a=>?_,f⟩;rcases cE.1 a with a|a
 .have:=e x a r (by simp);omega
 rw[bT.1 a];omega
def PE(h:k<256^n)(t:bK)(b:Bool):oA n (be n k++t,b)=(k,(t,b)):=by unfold oA;rw[aQ (by simp)];have d:(be n k).length=n:=(by simp);simp only;have a:(be n k++t).take n=be n k:=(by rw[gD (by omega),aX (by omega)]);have c:(be n k++t).drop n=t:=nK d;rw[a,c,JP,qB h]
def af5(h:n<256)(t:bK)(b:Bool):oA 1 (UInt8.ofNat n::t,b)=(n,(t,b)):=by unfold oA;rw[aQ (by simp)];simp[num];omega
def bP5(l:List Nat)(t:bK):∀(a:List Nat),(∀n∈l,n<4294967296)->GS l.length (l.flatMap (be 4)++t,true) a=(a++l,(t,true)):=by
 induction l with
 |nil=>intro a _;simp[GS]
 |cons n l c=>intro a h;rw[cF,GS,aQ (by simp),eC,bV,PE (h n (by simp))];simp only;rw[c _ (λm b=>h m (by simp[b]))];simp
def by9(L:oF)(t:bK):∀(a:oF),(∀l∈L,l.length<256/\∀n∈l,n<4294967296)->yR L.length (L.flatMap sX++t,true) a=(a++L,(t,true)):=by
 induction L with
 |nil=>intro a _;simp[yR]
 |cons l L g=>intro a h;obtain⟨c,d⟩:=h l (by simp);rw[cF,yR,aQ (by simp),eC,bV];show yR L.length (GS (oA 1 (UInt8.ofNat l.length::l.flatMap (be 4)++(L.flatMap sX++t),true)).1 _ []).2 _=_;rw[show UInt8.ofNat l.length::l.flatMap (be 4)++(L.flatMap sX++t)=UInt8.ofNat l.length::(l.flatMap (be 4)++(L.flatMap sX++t))from rfl];have e:=af5 c (l.flatMap (be 4)++(L.flatMap sX++t)) true;have b:oA 1 (sX l++(L.flatMap sX++t),true)=(l.length,(l.flatMap (be 4)++(L.flatMap sX++t),true)):=e;rw[e,b];simp only;rw[bP5 l _ [] d];simp only;rw[g _ (λm f=>h m (by simp[f]))];simp
def nN(l:oF):(iF l).flatten=l.flatten:=by
 induction l using BF with
 |h0=>rfl
 |h1 l a b=>
  unfold iF at b|-;rw[xZ];show((a::l.reverse).dropWhile List.isEmpty).reverse.flatten=_;rw[nA];by_cases h:a.isEmpty=true
  .rw[aU h,b];have:a=[]:=RG.1 h;subst this;simp
  rw[aQ h];simp
def aT3(l:oF):iF (iF l)=iF l:=by
 unfold iF;rw[List.reverse_reverse];congr 1;have:∀m:oF,(m.dropWhile List.isEmpty).dropWhile List.isEmpty=m.dropWhile List.isEmpty:=by
  intro m;induction m with
  |nil=>rfl
  |cons a m b=>
   rw[nA];by_cases h:a.isEmpty=true
   .rw[aU h,b]
   rw[aQ h,nA,aQ h]
 exact this _
def BC(l:oF):(iF l).length<=l.length:=by unfold iF;rw[yA];have:=(VQ List.isEmpty (l:=l.reverse)).length_le;simpa using this
def CM(m:iY):iY:={m with fC:=iF m.fC}
def lW{M:iY}:zH M=true↔(M.next<=1000000/\M.check<=2147483647)/\(M.fC.length<=5/\M.fC.flatten.length<=40/\M.fC.flatten.Nodup)/\∀n∈M.fC.flatten,n<M.next:=by unfold zH nM;simp only[bL,bH,dL]
def bO2{M:iY}(h:zH M=true):zH (CM M)=true:=by rw[lW]at h|-;obtain⟨a,⟨b,c,d⟩,e⟩:=h;have:=BC M.fC;refine⟨a,⟨by show(iF M.fC).length<=5;omega,?_,?_⟩,?_⟩<;>(show _;simp only[CM,nN];assumption)
def JW{C:oF}(h:M∈C):M.length<=C.flatten.length:=by obtain⟨a,b,rfl⟩:=List.append_of_mem h;simp only[iU,gP,aP];omega
def bu3{M:iY}(h:zH M=true)(m:M.aZ<18446744073709551616):tD (VG M)=(CM M,([],true)):=by
 obtain⟨⟨f,g⟩,⟨i,j,k⟩,d⟩:=lW.1 h;have o:=BC M.fC;have a:=nN M.fC;unfold tD VG CM;have c:([105,109,97,112]++be 4 M.next++be 4 M.check++be 8 M.aZ++[UInt8.ofNat (iF M.fC).length]++(iF M.fC).flatMap sX).drop 4=be 4 M.next++(be 4 M.check++(be 8 M.aZ++(UInt8.ofNat (iF M.fC).length::((iF M.fC).flatMap sX++[])))):=(by simp);rw[c,PE (by omega)];simp only;rw[PE (by omega)];simp only;rw[PE (by omega)];simp only;rw[af5 (by omega)];simp only;rw[by9 (iF M.fC) [] [] (λl b=>⟨by have:=JW b;rw[a]at this;omega,λn e=>by have:n∈M.fC.flatten:=(by rw[<-a];exact wR.2 ⟨l,b,e⟩);have:=d n this;omega⟩)];simp
def bu6(m:iY):iV (CM m)=iV m:=by unfold iV VG CM;simp only[aT3]
def aZ0(l:bK):kP (kY l)=true/\kV (kY l)=l:=by
 have b:=nT l;have e:(kY l).take ((kY l).length-4)=l:=by rw[b,show l.length+4-4=l.length from by omega];unfold kY;rw[lZ]
 have a:kP (kY l)=true:=by unfold kP;rw[e,b,show l.length+4-4=l.length from by omega,cJ (by omega)];unfold kY;rw[mB];simp
 exact⟨a,by unfold kV;rw[a,aU rfl,e]⟩
def QD{M:iY}(h:zH M=true)(g:M.aZ<18446744073709551616):uI (iV M)=true/\getM (iV M)=CM M:=by
 obtain⟨c,d⟩:=aZ0 (VG M);have e:kV (iV M)=VG M:=d;have b:=bu3 h g;have f:GW (VG M)=true:=by unfold GW VG;simp
 have a:uI (iV M)=true:=by unfold uI;rw[e,b,f];simp only;rw[bO2 h,bu6];unfold iV;rw[c];simp
 refine⟨a,?_⟩;unfold getM;rw[a,aU rfl,e,b]
def as2(h:uI s=true):zH (getM s)=true/\iV (getM s)=s:=by have a:=h;unfold uI at a;simp only[bL,bH]at a;unfold getM;rw[h,aU rfl];exact⟨a.1.2,a.2⟩
def XD(n:Nat):qL n 4=be 4 n:=by unfold qL;rw[aQ (by omega)];rfl
def cu9(n:Nat)(w:aI)(b:n<18446744073709551616):
 Calls prog 105 #[.int .u64 n,.int .i64 4] w λe a=>e=.returned (.string (bs (be 4 n)))/\aS w.heap.size w a:=by have c:=bj5 n 4 w (by omega) (by omega);rwa[cB,XD]at c
def bx3(n:Nat)(w:aI)(b:n<18446744073709551616):
 Calls prog 138 #[.int .u64 n,.int .i64 4] w λe a=>e=.returned (.string (bs (be 4 n)))/\aS w.heap.size w a:=by have c:=sI n 4 w (by omega) (by omega);rwa[cB,XD]at c
def cf8(a:o∈L)(b:pZ o=false):vU L=false:=by
 unfold vU;have:L.all pZ=false:=by rw[List.all_eq_false];exact⟨o,a,by simp[b]⟩
 rw[this,bZ3]
def aB7(s:List bB):
 (l5 s=false/\lU s=false)\/(l5 s=true/\l5 (gL s)=false/\lU s=false)\/(l5 s=true/\l5 (gL s)=true/\(yT s).length<8/\lU s=false)\/
 (l5 s=true/\l5 (gL s)=true/\8<=(yT s).length/\jP (MG s)≠0/\lU s=false)\/(l5 s=true/\l5 (gL s)=true/\8<=(yT s).length/\jP (MG s)=0/\lU s=true):=by
  unfold lU bT8;rcases l5 s with _|_
  .exact .inl ⟨rfl,rfl⟩
  rcases l5 (gL s)with _|_
  .exact .inr (.inl ⟨rfl,rfl,rfl⟩)
  by_cases h:8<=(yT s).length
  .rw[cJ h];by_cases a:jP (MG s)=0
   .exact .inr (.inr (.inr (.inr ⟨rfl,rfl,h,a,by rw[a];rfl⟩)))
   exact .inr (.inr (.inr (.inl ⟨rfl,rfl,h,a,by rw[cC a];rfl⟩)))
  exact .inr (.inr (.inl ⟨rfl,rfl,by omega,by rw[cC h];rfl⟩))
def aK7(s:aT)(w:aI)(hs:s.size<=1000000000):
 Calls prog 114 #[.string s] w λe I=>e=.returned (.tuple #[.agg (J1 (yL (lb s))),.string (bs (uQ (lb s))),.bool (lU (lb s))])/\aS w.heap.size w I:=by
  have h2:(gL (lb s)).length<=1000000000:=(by have:=sT (lb s);rw[bN]at this;omega);have h1:(oW (lb s)).length<=1000000000:=(by have:=FC (lb s);rw[bN]at this;omega);have h4:(gL (gL (lb s))).length<=1000000000:=(by have:=sT (gL (lb s));omega);have h3:(oW (gL (lb s))).length<=1000000000:=(by have:=FC (gL (lb s));omega);have H:=λw=>SF s w (by omega);have l:=λw=>SF (bs (gL (lb s))) w (by rw[eK];omega);have y:=λw=>vR ((bs (gL (gL (lb s)))).extract 0 8) w (by simp[maxLen];omega);have X:(bs (gL (gL (lb s)))).extract 0 8=bs ((gL (gL (lb s))).take 8):=(by rw[eB,gF,mA,tG]);have G:=bk7 (lb s) (by rw[bN];simp[Go.maxLen];omega);have i:=λw=>GY (MG (lb s)) w G;have P:=aA0;have k:=aB7 (lb s);have Q:=bx4 (s:=lb s);have u:lU (lb s)=true->yL (lb s)=MG (lb s)/\uQ (lb s)=(yT (lb s)).drop 8:=λh=>(by unfold yL uQ;rw[h];exact⟨rfl,rfl⟩);have x:=cI w (.cells #[.string ⟨#[]⟩,.string ⟨#[]⟩,.float .f64 0] 44);have j:Row (w.alloc (.cells #[.string ⟨#[]⟩,.string ⟨#[]⟩,.float .f64 0] 44)) w.heap.size 44 [.string ⟨#[]⟩,.string ⟨#[]⟩,.float .f64 0]:=Row.new w #[.string ⟨#[]⟩,.string ⟨#[]⟩,.float .f64 0] _;have R:∀(I:aI) v0 v1 v2,aS w.heap.size w I->aS w.heap.size w (((I.setCell ⟨w.heap.size,0,none⟩ v0).setCell ⟨w.heap.size,1,none⟩ v1).setCell ⟨w.heap.size,2,none⟩ v2):=λI v0 v1 v2 h=>((h.setCell (aO _) _).setCell (aO _) _).setCell (aO _) _;unfold MG yT at k u;unfold MG at i;unfold yT at i;simp only[gF]at l y;rw[X,gF]at y;unfold J1 at i;simp only[]at i;generalize hA:oW (lb s)=A at *;generalize hB:gL (lb s)=B at *;generalize hC:oW B=C at *;generalize hD:gL B=D at *;generalize lU (lb s)=o at *;generalize yL (lb s)=r at *;generalize uQ (lb s)=q at *;generalize qA (D.take 8)=N at *;have⟨z,Y,V,K,h0⟩:=aD R X Q u G;clear R X Q u G hA hB hC hD;generalize W:jP (bs A,bs C,N)=ck at *;rcases k with⟨L,rfl⟩|⟨L,E,rfl⟩|⟨L,E,Z,rfl⟩|⟨L,E,Z,c4,rfl⟩|⟨L,E,Z,rfl,rfl⟩
  iterate 5
   ·(first|obtain⟨rfl,rfl⟩:=K.out rfl|obtain⟨rfl,rfl⟩:=V.out rfl);rw[L]at H;(first|(rw[E]at l;(have M:¬(D.length:Int)<8:=by omega);(have O:(8:Int)<=D.length:=by omega);(have h5:(bs D).extract 8 D.length=bs (D.drop 8):=by rw[eB,gF,aX (by simp)]))|(first|(rw[E]at l;(have M:¬(D.length:Int)<8:=by omega);(have O:(8:Int)<=D.length:=by omega))|(first|(rw[E]at l;(have M:(D.length:Int)<8:=by omega);clear y i W P)|(first|rw[E]at l;clear y i W P|clear l y i W P))));go_in;(go_wp2_with fail);refine(H _).mono ?_;rintro e w1 ⟨rfl,f⟩;first|go_wp2_with fail;refine(l _).mono ?_;rintro e J ⟨rfl,d⟩;clear H l;go_wp2_with fail;rw[Y.out];refine(y _).mono ?_;rintro e I ⟨rfl,rfl⟩;have a:=(j.next f).next d|(first|go_wp2_with fail;refine(l _).mono ?_;rintro e J ⟨rfl,d⟩;clear H l;go_wp2_with fail;rw[Y.out];refine(y _).mono ?_;rintro e I ⟨rfl,rfl⟩;have a:=(j.next f).next d|(first|go_wp2_with fail;refine(l _).mono ?_;rintro e J ⟨rfl,d⟩;have a:=(j.next f).next d|(first|go_wp2_with fail;refine(l _).mono ?_;rintro e J ⟨rfl,d⟩;have a:=(j.next f).next d|have a:=j.next f)))
    have m:=a.cell 0 (by simp);have n:=a.cell 1 (by simp);have p:=a.cell 2 (by simp);have S:=a.frozen 0 (by simp);have T:=a.frozen 1 (by simp);have U:=a.frozen 2 (by simp);simp only[bE,bX]at m n p;(first|(have g:=z.out J (.string (bs A)) (.string (bs C)) (.float .f64 N) (aJ x (aJ f d));have c:=((a.set 0 (.string (bs A))).set 1 (.string (bs C))).set 2 (.float .f64 N);simp only[nY,nZ]at c;clear y a f d;go_wp2_with fail;clear m n p S T U;generalize ((J.setCell ⟨w.heap.size,0,none⟩ (.string (bs A))).setCell ⟨w.heap.size,1,none⟩ (.string (bs C))).setCell ⟨w.heap.size,2,none⟩ (.float .f64 N)=w3 at g c|-;refine(i _).mono ?_;rintro e w4 ⟨rfl,t⟩;(have F:=dK g t (by have:=g.size;omega));have b:=c.next t;(have m:=b.cell 0 (by simp));(have n:=b.cell 1 (by simp));(have p:=b.cell 2 (by simp));(have S:=b.frozen 0 (by simp));(have T:=b.frozen 1 (by simp));(have U:=b.frozen 2 (by simp));simp only[bE,bX]at m n p;clear b c j i;clear P;go_wp2_with fail;go_region)|(first|(have g:=z.out J (.string (bs A)) (.string (bs C)) (.float .f64 N) (aJ x (aJ f d));have c:=((a.set 0 (.string (bs A))).set 1 (.string (bs C))).set 2 (.float .f64 N);simp only[nY,nZ]at c;clear y a f d;go_wp2_with fail;clear m n p S T U;generalize ((J.setCell ⟨w.heap.size,0,none⟩ (.string (bs A))).setCell ⟨w.heap.size,1,none⟩ (.string (bs C))).setCell ⟨w.heap.size,2,none⟩ (.float .f64 N)=w3 at g c|-;refine(i _).mono ?_;rintro e w4 ⟨rfl,t⟩;(have F:=dK g t (by have:=g.size;omega));have b:=c.next t;(have m:=b.cell 0 (by simp));(have n:=b.cell 1 (by simp));(have p:=b.cell 2 (by simp));(have S:=b.frozen 0 (by simp));(have T:=b.frozen 1 (by simp));(have U:=b.frozen 2 (by simp));simp only[bE,bX]at m n p;clear b c j i;clear P)|(first|clear a H l|(first|clear a H l|clear a H))));go_wp2;first|(refine bG (v:=.tuple #[.agg #[.string (bs A),.string (bs C),.float .f64 N],.string (bs (D.drop 8)),.bool true]) (by simp[results,results114,go_sem,m,n,p]) rfl ⟨rfl,z.out _ _ _ _ F.drew⟩)|(first|(refine bG (v:=.tuple #[.agg #[.string ⟨#[]⟩,.string ⟨#[]⟩,.float .f64 0],.string ⟨#[]⟩,.bool false]) (by simp[results,results114,go_sem,m,n,p]) rfl ⟨rfl,z.out _ _ _ _ F⟩)|(first|(refine bG (v:=.tuple #[.agg #[.string ⟨#[]⟩,.string ⟨#[]⟩,.float .f64 0],.string ⟨#[]⟩,.bool false]) (by simp[results,results114,go_sem,m,n,p]) rfl ⟨rfl,z.out _ _ _ _ (aJ x (aJ f d))⟩)|(first|(refine bG (v:=.tuple #[.agg #[.string ⟨#[]⟩,.string ⟨#[]⟩,.float .f64 0],.string ⟨#[]⟩,.bool false]) (by simp[results,results114,go_sem,m,n,p]) rfl ⟨rfl,z.out _ _ _ _ (aJ x (aJ f d))⟩)|(refine bG (v:=.tuple #[.agg #[.string ⟨#[]⟩,.string ⟨#[]⟩,.float .f64 0],.string ⟨#[]⟩,.bool false]) (by simp[results,results114,go_sem,m,n,p]) rfl ⟨rfl,z.out _ _ _ _ (aJ x f)⟩))))
end Go.Proofs.YtpopikndggffaaaGreatDoor
