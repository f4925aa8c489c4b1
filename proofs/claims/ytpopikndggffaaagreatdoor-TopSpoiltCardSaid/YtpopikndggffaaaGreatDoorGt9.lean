/- TOP, part 9. -/
import Derived.Laws.StructEq
import Derived.Lib.SliceRun
import Derived.Test.YtpopikndggffaaaGreatDoorGt6
import Derived.Test.YtpopikndggffaaaGreatDoorGt7
namespace Go.Proofs.YtpopikndggffaaaGreatDoor
set_option linter.all false
set_option maxRecDepth 100000
set_option maxHeartbeats 16000000
open Go.RowKit Tryz
def cj1:prog.stoodInHeld 152=false:=by kernel_rfl
def aT7(a d:Nat)(b c e f:Int)(w:aI):(Op.equalIn 10000 152 (.agg #[zu a,b,c]) (.agg #[zu d,e,f])).run prog w=.ok (decide (a=d/\b=e/\c=f)) w:=by
 rw[run_equalIn_agg w 9999 _ _ _ (by simp[Program.fieldsOf,underlying152]) cj1];simp[Program.fieldsOf,underlying152,Op.eqFields,go_sem,underlying23,underlying3];by_cases i:a=d
 .subst i;by_cases h:b=e
  .by_cases j:c=f
   .simp[h,j]
   simp[h,j]
  simp[h]
 have g:¬(a:Int)=d:=(by omega);simp[i,g]
@[simp,go_sem] def cP1(a d:Nat)(b c e f:Int)(w:aI):(binOp .eql 152 (.agg #[zu a,b,c]) (.agg #[zu d,e,f])).run prog w=.ok (decide (a=d/\b=e/\c=f)) w:=by rw[run_eql_struct,aT7];rfl
variable{L:List dB}{A:Option Addr}
def KB(e:dB):List aN:=[.int .u64 e.1,.int .i64 e.2.1,.int .i64 e.2.2]
def gV(l:List dB):List aN:=l.flatMap KB
@[simp,go_sem] def cv5(l:List dB):(gV l).length=l*3:=by
 induction l with
 |nil=>rfl
 |cons e l a=>simp only[gV,eN,aO]at a|-;rw[a];simp[KB];omega
def bO3(l:List dB)(i k:Nat)(a:i<l)(c:k<3):(gV l)[i*3+k]?=(KB l[i])[k]?:=by
 induction l generalizing i with
 |nil=>simp at a
 |cons e l b=>
  unfold gV;rw[eN];cases i with
  |zero=>rw[fO (by simp[KB];omega)];simp
  |succ i=>
   rw[eF (by simp[KB];omega)];have:=b i (by simpa using a);unfold gV at this;simp only[fA];rw[<-this];congr 1;simp[KB];omega
def pJ(w:aI)(v:aN)(l:List dB):Prop:=Reads w v 3 l.length (gV l)/\∀e∈l,wC e
def pJ.next{w x:aI}{v:aN}(h:pJ w v L)(a:aR w w x):pJ x v L:=⟨h.1.next a,h.2⟩
def pJ.cells{w:aI}{n k:Nat}{l:List dB}(h:pJ w (.slice A n k) l):n=l/\n<=k/\k<=maxLen/\(0<l.length->∃b a,A=zp b a/\b<w.heap.size/\∀(i:Nat)(f:i<l)(d:aI),aR w w d->d.cell? (zp b (a+i*3))=some (.int .u64 l[i].1)/\d.cell? (zp b (a+i*3+1))=some (.int .i64 l[i].2.1)/\d.cell? (zp b (a+i*3+2))=some (.int .i64 l[i].2.2)):=by
 obtain⟨⟨v,x,u,m,o,y,s⟩,t⟩:=h;obtain⟨rfl,rfl,rfl⟩:=eJ u;refine⟨rfl,m,o,λj=>?_⟩;have⟨b,a,q,e,c⟩:=s j;refine⟨b,a,q,e,λi f d r=>?_⟩;have h:∀z,(g:z<3)->d.cell? (zp b (a+(i*3+z)))=(KB l[i])[z]?:=λz g=>by rw[r.cell (p:=zp b (a+(i*3+z))) e,c (i*3+z) (by simp;omega),<-bO3 l i z f g,aJ]
 refine⟨?_,?_,?_⟩
 .simpa[KB]using h 0 (by omega)
 .simpa[KB,gC]using h 1 (by omega)
 simpa[KB,gC]using h 2 (by omega)
variable{e:Int}{i k m n:Nat}{o:dB}{p:dB->Bool}
section
variable {a b c:dB}{h:Nat}{v:Int}
def qC:iB a b=true↔(a.1<b.1\/a.1=b.1/\(a.2.1<b.2.1\/a.2.1=b.2.1/\a.2.2<b.2.2)):=by simp[iB]
def qR:qS a h v=true↔(a.1<h\/a.1=h/\a.2.1<v):=by simp[qS]
def wH(d:iB a b=true)(e:iB b c=true):iB a c=true:=by rw[qC]at *;omega
def NI:iB a a=false:=by rw[<-kL,qC];omega
def U6(c:iB a b=false)(d:iB b a=false):a=b:=by rw[<-kL]at c d;rw[qC]at *;have⟨e,f,g⟩:=a;have⟨h,i,j⟩:=b;simp only[]at c d;have k:e=h:=(by omega);have l:f=i:=(by omega);have m:g=j:=(by omega);rw[k,l,m]
def aX4(c:iB a b=true)(d:qS b h v=true):qS a h v=true:=by rw[qC]at c;rw[qR]at *;omega
end
def fD(l:List dB):Bool:=decide (l.Pairwise fun a b=>iB a b=true)
def kQ(l:List dB)(h:Nat)(v:Int):Nat:=(l.filter fun e=>qS e h v).length
def inE(h:Nat)(f t:Int)(e:dB):Bool:=decide (e.1=h/\f<=e.2.1/\e.2.1<=t)
def mI(h:Nat)(t:Int)(e:dB):Bool:=decide (e.1=h/\e.2.1<=t)
def kW(l:List dB)(h:Nat)(f t:Int):List dB:=l.filter (inE h f t)
def kO(l:List dB)(h:Nat)(t:Int):Option dB:=(l.filter (mI h t)).getLast?
def tI(l:List dB)(h:Nat)(v:Int):kQ l h v<=l:=jE _ _
def tH(c:fD L=true){n k:Nat}(a:n<k)(b:k<L.length):iB (L[n]'(by omega)) L[k]=true:=cp0.1 (of_decide_eq_true c) n k (by omega) b a
def JG(h:∀i,(a:i+1<L.length)->iB L[i] L[i+1]=true):fD L=true:=by
 refine bZ (cp0.2 ?_);intro i j a c b;obtain⟨d,rfl⟩:∃d,j=i+1+d:=⟨j - (i+1),by omega⟩;induction d with
 |zero=>exact h i c
 |succ d e=>exact wH (e (by omega) (by omega)) (h (i+1+d) (by omega))
def VN{i:Nat}(a:i+1<L.length)(h:iB L[i] L[i+1]=false):fD L=false:=by rw[<-kL];intro b;have:=tH b (show i<i+1 by omega) a;rw[h]at this;cases this
def ab2{k m:Nat}(l:k<=m)(n:m<=L)(g:∀i,(a:i<L.length)->i<k->p L[i]=false)(h:∀i,(a:i<L.length)->k<=i->i<m->p L[i]=true)(j:∀i,(a:i<L.length)->m<=i->p L[i]=false):L.filter p=(L.drop k).take (m-k):=by
 have e:L=L.take k++((L.drop k).take (m-k)++(L.drop k).drop (m-k)):=by rw[bX,bX]
 have c:(L.take k).filter p=[]:=by rw[iD];intro x b;obtain⟨i,a,rfl⟩:=fH b;simp only[b8]at a;rw[sJ,g i (by omega) (by omega)];simp
 have d:((L.drop k).take (m-k)).filter p=(L.drop k).take (m-k):=by rw[qM];intro x b;obtain⟨i,a,rfl⟩:=fH b;simp only[b8,eK]at a;rw[sJ,pQ];exact h (k+i) (by omega) (by omega) (by omega)
 have f:((L.drop k).drop (m-k)).filter p=[]:=by rw[iD];intro x b;obtain⟨i,a,rfl⟩:=fH b;simp only[eK]at a;rw[pQ,pQ,j _ (by omega) (by omega)];simp
 conv=>lhs;rw[e]
 rw[jA,jA,c,d,f,qA,gM]
def be3{k:Nat}(d:k<=L)(b:∀i,(a:i<L.length)->i<k->qS L[i] n e=true)(c:∀i,(a:i<L.length)->k<=i->qS L[i] n e=false):kQ L n e=k:=by unfold kQ;rw[ab2 (k:=0) (m:=k) (by omega) d (λi _ a=>absurd a (by omega)) (λi a _ n=>b i a n) c];simp;omega
def rO(q:fD L=true)(h:Nat)(v:Int):∀i,(a:i<L.length)->(qS L[i] h v=true↔i<kQ L h v):=by
 have e:∃k,k<=L.length/\(∀i,(a:i<L.length)->i<k->qS L[i] h v=true)/\(∀i,(a:i<L.length)->k<=i->qS L[i] h v=false):=by
  have:∀n,n<=L.length->(∀i,(a:i<L.length)->i<n->qS L[i] h v=true)\/∃k,k<=L.length/\(∀i,(a:i<L.length)->i<k->qS L[i] h v=true)/\(∀i,(a:i<L.length)->k<=i->qS L[i] h v=false):=by
   intro n;induction n with
   |zero=>intro _;exact .inl λi _ a=>absurd a (by omega)
   |succ n r=>
    intro s;rcases r (by omega)with b|b
    .rcases d:qS (L[n]'(by omega)) h v with _|_
     .refine .inr ⟨n,by omega,b,λi a j=>?_⟩;rcases oQ j with rfl|c
      .exact d
      rw[<-kL];intro p;have:=aX4 (tH q c a) p;rw[d]at this;cases this
     refine .inl λi a g=>?_;rcases oQ (Nat.le_of_lt_succ g)with rfl|c
     .exact d
     exact b i a c
    exact .inr b
  rcases this L dQ with b|b
  .exact⟨L,dQ,b,λi a o=>absurd a (by omega)⟩
  exact b
 have⟨k,o,b,l⟩:=e;intro i a;rw[be3 o b l];constructor
 .intro m;rcases cK i k with c|f
  .exact c
  rw[l i a f]at m;cases m
 exact b i a
def an2{L:List dB}(r:fD L=true){h:Nat}{f t:Int}{m:Nat}(l:kQ L h f<=m)(q:m<=L)(s:∀i,(a:i<L.length)->kQ L h f<=i->i<m->mI h t L[i]=true) (u:(q:m<L)->mI h t L[m]=false):kW L h f t=(L.drop (kQ L h f)).take (m-kQ L h f):=by
 have g:=rO r h f;refine ab2 l q (λi a k=>?_) (λi a k j=>?_) (λi a o=>?_)
 .have:=(g i a).2 k;rw[qR]at this;unfold inE;refine bN ?_;omega
 .have b:=s i a k j;have d:¬qS L[i] h f=true:=λp=>absurd ((g i a).1 p) (by omega);rw[qR]at d;unfold mI at b;have:=of_decide_eq_true b;unfold inE;refine bZ ?_;omega
 have c:m<L:=(by omega);have b:=u c;have d:¬qS L[m] h f=true:=λp=>absurd ((g m c).1 p) (by omega);have e:i=m\/iB L[m] L[i]=true:=by
  rcases oQ o with rfl|n
  .exact .inl rfl
  exact .inr (tH r n a)
 rw[qR]at d;unfold mI at b;have b:=of_decide_eq_false b;unfold inE;refine bN ?_;rcases e with rfl|e
 .omega
 rw[qC]at e;omega
def getLast_filter(d:n<L)(f:p L[n]=true)(c:∀i,(a:i<L.length)->n<i->p L[i]=false):(L.filter p).getLast?=some L[n]:=by
 have e:L=L.take (n+1)++L.drop (n+1):=by rw[bX]
 have b:(L.drop (n+1)).filter p=[]:=by rw[iD];intro x g;obtain⟨i,a,rfl⟩:=fH g;simp only[eK]at a;rw[pQ,c _ (by omega) (by omega)];simp
 conv=>lhs;rw[e]
 rw[jA,b,gM,dL,aJ d,jA];simp[f]
def rP(b:∀i,(a:i<L.length)->p L[i]=false):L.filter p=[]:=by rw[iD];intro x c;obtain⟨i,a,rfl⟩:=fH c;rw[b i a];simp
def TF(g:fD L=true){n:Nat}{e:Int}{k:Nat}(m:kQ L n e<=k)(j:(p:k<L)->mI n e L[k]=false):∀i,(f:i<L.length)->k<=i->mI n e L[i]=false:=by
 intro i f d;have a:k<L:=(by omega);have b:=j a;have h:¬qS L[k] n e=true:=λo=>absurd ((rO g n e k a).1 o) (by omega);rcases oQ d with rfl|c
 .exact b
 have l:=tH g c f;rw[qR]at h;rw[qC]at l;unfold mI at b|-;have b:=of_decide_eq_false b;refine bN ?_;omega
def bl1(h:fD L=true){n:Nat}{e:Int}{k:Nat}(a:kQ L n e<=k+1)(b:k<L)(c:(b:k+1<L)->mI n e L[k+1]=false)(g:mI n e L[k]=true):kO L n e=some L[k]:=by unfold kO;exact getLast_filter b g λi d f=>TF h a c i d (by omega)
def bl0(d:fD L=true){n:Nat}{e:Int}(c:kQ L n e=0)(a:(f:0<L.length)->mI n e L[0]=false):kO L n e=none:=by unfold kO;rw[rP (λi b=>TF d (by omega) a i b (bK _))];rfl
def bl2(g:fD L=true){n:Nat}{e:Int}{k:Nat}(b:kQ L n e<=k+1)(d:k<L)(j:(d:k+1<L)->mI n e L[k+1]=false)(f:mI n e L[k]=false)(o:k+1=kQ L n e):kO L n e=none:=by
 unfold kO;rw[rP (λi m=>?_)];· rfl
 rcases cK k i with a|a
 .exact TF g b j i m (by omega)
 rcases oQ a with rfl|c
 .exact f
 have l:=tH g c d;have h:=(rO g n e k d).2 (by omega);rw[qR]at h;rw[qC]at l;unfold mI at f|-;have a:=of_decide_eq_false f;refine bN ?_;omega
def uQ(e:dB)(o:List dB):Nat:=(o.takeWhile fun x=>iB x e).length
def pW(o:List dB)(e:dB):List dB:=if o[uQ e o]?=some e then o else o.take (uQ e o)++e::o.drop (uQ e o)
def bu7(e:dB)(o:List dB):uQ e o<=o:=by unfold uQ;have:=(cK2 (l:=o) (p:=λx=>iB x e)).length_le;exact this
def bu8(e:n<=L)(c:∀i,(a:i<L.length)->i<n->iB L[i] o=true)(d:(e:n<L)->iB L[n] o=false):uQ o L=n:=by
 unfold uQ;have b:L=L.take n++L.drop n:=by rw[bX]
 conv=>lhs;rw[b]
 rw[List.takeWhile_append_of_pos (λx f=>by obtain⟨i,a,rfl⟩:=fH f;simp only[b8]at a;rw[sJ];exact c i (by omega) (by omega))];have:(L.drop n).takeWhile (λx=>iB x o)=[]:=by
  rcases cK n L with h|h
  .rw[gZ h,JS,d h];rfl
  rw[UT h];rfl
 rw[this];simp;omega
def bh4(i:Nat)(c:i<uQ o L):iB (L[i]'(by have:=bu7 o L;omega)) o=true:=by have d:=cK2 (l:=L) (p:=λx=>iB x o);have a:i<(L.takeWhile λx=>iB x o).length:=c;have b:=d.getElem a;rw[<-b];have:=List.all_takeWhile (l:=L) (p:=λx=>iB x o);rw[dN]at this;exact this _ (dC a)
def cs5(h:uQ o L<L):iB L[uQ o L] o=false:=by
 rw[<-kL];intro a;have:∀(L:List dB)(h:uQ o L<L),iB L[uQ o L] o=true->False:=by
  intro L;induction L with
  |nil=>intro h;simp at h
  |cons x L c=>
   intro h a;unfold uQ at h a c;rw[JS]at h;by_cases b:iB x o=true
   .simp only[JS,b,eH,cE,fA]at h a;exact c (by omega) a
   simp only[JS,b,dW,kG,dA,bU]at h a
 exact this L h a
def VX(j:fD L=true)(e:dB):fD (pW L e)=true:=by
 unfold pW;by_cases h:L[uQ e L]?=e
 .rw[aV h];exact j
 rw[aP h];have c:=of_decide_eq_true j;refine bZ ?_;have a:∀y∈L.drop (uQ e L),iB e y=true:=by
  intro y d;obtain⟨i,g,rfl⟩:=fH d;simp only[eK]at g;rw[pQ];have m:uQ e L<L:=(by omega);have o:=cs5 m;have k:iB e L[uQ e L]=true:=by
   rcases p:iB e L[uQ e L]with _|_
   .exact absurd (by rw[aJ m,U6 o p]) h
   rfl
  rcases oQ (SZ (uQ e L) i)with l|l
  .have n:L[uQ e L+i]=L[uQ e L]:=(by congr 1;omega);rw[n];exact k
  exact wH k (tH j l (by omega))
 have b:∀x∈L.take (uQ e L),iB x e=true:=by intro x f;obtain⟨i,g,rfl⟩:=fH f;simp only[b8]at g;rw[sJ];exact bh4 i (by omega)
 rw[pH,dG];refine⟨c.sublist (aZ1 _ _),⟨a,c.sublist (List.drop_sublist _ _)⟩,?_⟩;intro x f y d;rcases cY.1 d with rfl|d
 .exact b x f
 exact wH (b x f) (a y d)
def aO9{z:dB}:z∈pW L o↔z=o\/z∈L:=by
 unfold pW;by_cases h:L[uQ o L]?=o
 .rw[aV h];have:=bC h;constructor
  .exact .inr
  rintro (rfl|h)
  .exact this
  exact h
 rw[aP h];have a:z∈L↔z∈L.take (uQ o L)\/z∈L.drop (uQ o L):=(by rw[<-cB,bX]);rw[a,cB,cY];constructor
 iterate 2
  .rintro (h|h|h)
   .exact .inr (.inl h)
   .exact .inl h
   exact .inr (.inr h)
def aQ8(o:List dB)(e:dB):(pW o e).length<=o+1:=by
 unfold pW;split
 .omega
 have:=bu7 e o;simp;omega
def ER(l:List dB):∀{o:List dB},fD o=true->fD (l.foldl pW o)=true:=by
 induction l with
 |nil=>exact λh=>h
 |cons e l a=>exact λh=>a (VX h e)
def LN(l:List dB):∀{o:List dB} {x:dB},x∈l.foldl pW o↔x∈o\/x∈l:=by
 induction l with
 |nil=>simp
 |cons e l a=>
  intro o x;rw[nZ,a,aO9,cY];constructor
  .rintro ((h|h)|h)
   .exact .inr (.inl h)
   .exact .inl h
   exact .inr (.inr h)
  rintro (h|h|h)
  .exact .inl (.inr h)
  .exact .inl (.inl h)
  exact .inr h
def xM(l:List dB):∀(o:List dB),(l.foldl pW o).length<=o+l:=by
 induction l with
 |nil=>simp
 |cons e l a=>intro o;have b:=a (pW o e);have c:=aQ8 o e;simp only[nZ,cE];omega
variable{w:aI}{v:aN}
def pJ.later{w:aI}{A:Option Addr}{n c:Nat}{l:List dB}(h:pJ w (.slice A n c) l)(g:0<l.length):∃b a,A=zp b a/\b<w.heap.size/\∀(i:Nat)(e:dB),l[i]?=e->∀d:aI,aR w w d->d.cell? (zp b (a+i*3))=zu e.1/\d.cell? (zp b (a+i*3+1))=e.2.1/\d.cell? (zp b (a+i*3+2))=e.2.2:=by have⟨b,a,m,o,p⟩:=h.cells.2.2.2 g;refine⟨b,a,m,o,λi e q d f=>?_⟩;have⟨j,k⟩:=aQ.1 q;rw[<-k];exact p i j d f
def pJ.ok{l:List dB}(h:pJ w v l){n:Nat}{e:dB}(a:l[n]?=e):wC e:=h.2 e (bC a)
def MA(v:aN)(l:List dB)(w:aI)(h:pJ w v l):Calls prog 276 #[v] w λe w'=>e=(fD l)/\aR w w w':=by
 obtain⟨⟨A,c,rfl,-,-,-,-⟩,-⟩:=id h;obtain⟨-,T,U,-⟩:=h.cells;unfold maxLen at U;have z:=λ(i:Nat)(e:dB)(H:l[i]?=e)=>h.ok H;rcases dP l with t|t
 .obtain rfl:=gF t;go_in;go_wp2_with fail
  go_loopw [3] (λi wr=>i=.int .i64 1/\aR w w wr) (λi _=>0)
  .exact⟨rfl,iH⟩
  obtain⟨rfl,a⟩:=hrel;go_wp2;go_ret;exact⟨rfl,a⟩
 obtain⟨b,h3,rfl,L,f⟩:=h.later t;have⟨n,I⟩:=fR l.length;rw[<-I]at T t|-;clear h;have B:=aH I;clear I;have⟨s,d⟩:=aA z f;clear z f;go_in;go_wp2_with fail
 go_loopw [3] (λi wr=>∃k:Nat,k<n/\i=.int .i64 ((k:Int)+1)/\(∀j,(E:j+1<l.length)->j<k->iB l[j] l[j+1]=true)/\aR w w wr) (λi _=>n+1-(intOf i).toNat)
 .exact⟨0,t,rfl,λj _ E=>absurd E (by omega),iH⟩
 obtain⟨k,hk,rfl,M,a⟩:=hrel;have J:=aH M;clear M;by_cases W:k+1<n
 .obtain⟨o,g⟩:∃o,l[k]?=some o:=⟨_,aJ (by have:=B.zz;omega)⟩;obtain⟨p,m⟩:∃p,l[k+1]?=some p:=⟨_,aJ (by have:=B.zz;omega)⟩;have Z:=s k o g;have ob:=s (k+1) p m;have C:=λx:dR wr=>d k o g x.it (aK a x.ok);have D:=λx:dR wr=>d (k+1) p m x.it (aK a x.ok);have N:=λx=>(C x).1;have O:=λx=>(C x).2.1;have P:=λx=>(C x).2.2;have Q:=λx=>(D x).1;have R:=λx=>(D x).2.1;have S:=λx=>(D x).2.2;have Y:((k:Int)+1)<n:=(by omega);have wk:IntKind.i64.wrap ((k:Int)+1-1)=k:=(by rw[cQ];omega);have h4:IntKind.i64.wrap ((k:Int)+1+1)=k+1+1:=(by rw[cQ];omega);have tk:((k:Int)+1).toNat=k+1:=(by omega);have⟨q,r⟩:=aA g m;clear C D g m;(go_wp2_with fail);refine cI (by kernel_rfl) (by kernel_rfl) ?_;repeat go_big_quiet_step (first|(go_at_call 212;exact eL _ (xO o p _ Z ob)))
  refine wpQuiet_nil ?_;intro _ X;obtain⟨⟨w1,u⟩,rfl⟩:=X;rcases y:iB o p with _|_
  .go_wp2;go_ret;have F:=aQ.1 q;have G:=aQ.1 r;exact⟨by rw[VN (i:=k) (by have:=B.zz;omega) (by rw[F.2,G.2];exact y)];rfl,aK a u⟩
  go_wp2;go_roundw
  .
   refine⟨k+1,by omega,by go_num,λj E V=>?_,aK a u⟩;rcases cK j k with K|K
   .exact J j E K
   obtain rfl:j=k:=(by omega);have F:=aQ.1 q;have G:=aQ.1 r;rw[F.2,G.2];exact y
  simp[intOf];omega
 have Y:¬((k:Int)+1)<n:=(by omega);go_wp2;go_ret;exact⟨by rw[JG (λi H=>J.zz i H (by have:=B.zz;omega))];rfl,a⟩
def CW(v:aN)(l:List dB)(h:Nat)(g:Int)(w:aI)(x:pJ w v l)(Q:fD l=true)(N:h<18446744073709551616)(R:-9223372036854775808<=g/\g<=9223372036854775807):Calls prog 211 #[v,zu h,g] w λe V=>e=(kQ l h g)/\aR w w V:=by
 obtain⟨⟨A,c,rfl,-,-,-,-⟩,-⟩:=id x;obtain⟨-,K,L,-⟩:=x.cells;unfold maxLen at L;have y:=λ(i:Nat)(e:dB)(u:l[i]?=e)=>x.ok u;have m:=rO Q h g;have C:=tI l h g;generalize kQ l h g=s at *;have f:=λJ=>x.later J;have⟨n,D⟩:=fR l.length;rw[<-D]at K C|-;clear x;have⟨F,z,o,q⟩:=aC D y f m;clear y f m D;go_in;(go_wp2_with fail);go_step3;(go_wp2_with fail);go_step3;go_wp2_with fail
 go_loopw [7,8] (λE u wr=>∃a b:Nat,a<=s/\s<=b/\b<=n/\E=.int .i64 a/\u=.int .i64 b/\aR w w wr) (λE u _=>(intOf u-intOf E).toNat)
 .exact⟨0,n,by omega,by omega,by omega,rfl,rfl,iH⟩
 obtain⟨a,b,ha,hb,M,rfl,rfl,k⟩:=hrel;by_cases O:a<b
 .have⟨d,G⟩:=fR ((b-a)/2);have P:a+d<b:=(by omega);have q1:Int.tdiv ((b:Int)-(a:Int)) 2=(d:Int):=(by rw[nM (by omega)];omega);have W:=aH G;clear G;obtain⟨e,t⟩:∃e,l[a+d]?=some e:=⟨_,aJ (by have:=F.zz;omega)⟩;have T:=z (a+d) e t;obtain⟨I,U,rfl,H,f⟩:=o (by have:=F.zz;omega);have⟨Y,Z,c2⟩:=f (a+d) e t wr k;have i1:¬(b:Int)<=(a:Int):=(by omega);have i2:(a:Int)+(d:Int)<(n:Int):=(by omega);have B:=aQ.1 t;have j:=q (a+d) B.1;rw[B.2]at j;have X:=aH t;clear t f B;go_wp2_with fail
  go_call aj0 e h g _ T N R as e' w1 ⟨rfl,r⟩;rcases p:qS e h g with _|_
  .have:¬a+d<s:=λS=>(by rw[j.2 S]at p;cases p);go_wp2;go_roundw
   .exact⟨a,a+d,by omega,by omega,by omega,rfl,by go_num,cU k r dQ⟩
   simp[intOf];omega
  have:=j.1 p;go_wp2;go_roundw
  .exact⟨a+d+1,b,by omega,by omega,by omega,by go_num,rfl,cU k r dQ⟩
  simp[intOf];omega
 obtain rfl:a=b:=(by omega);obtain rfl:a=s:=(by omega);go_wp2;try rw[eU]
 go_ret;exact⟨rfl,k⟩
variable{X:List aN}{T:cC}
def RU:(prog.info? 152).map (λi=>(i.zero,i.size,i.bytes))=some (some (.agg #[zu 0,(),()]),3,24):=by kernel_rfl
def cj2(e:dB):∀u∈KB e,u.oneCell'=true:=by intro u a;simp only[KB,cY,r8,or_false]at a;rcases a with rfl|rfl|rfl<;>rfl
def C5(l:List dB):∀u∈gV l,u.oneCell'=true:=by intro u b;have⟨e,_,a⟩:=lY.1 b;exact cj2 e u a
def BO(a b:List dB):gV (a++b)=gV a++gV b:=eB
def CV(e:dB)(l:List dB):gV (e::l)=KB e++gV l:=by simp[gV]
def VR(e:dB):(KB e).length=3:=rfl
def bn9(l:List dB)(k:Nat):gV (l.take k)=(gV l).take (k*3):=by
 induction l generalizing k with
 |nil=>simp[gV]
 |cons e l a=>
  cases k with
  |zero=>simp[gV]
  |succ k=>rw[zC,CV,CV,a k,show(k+1)*3=(KB e)+k*3 from by rw[VR];omega,bT5]
def bo0(l:List dB)(k:Nat):gV (l.drop k)=(gV l).drop (k*3):=by
 induction l generalizing k with
 |nil=>simp[gV]
 |cons e l a=>
  cases k with
  |zero=>simp
  |succ k=>rw[ak4,CV,a k,show(k+1)*3=(KB e)+k*3 from by rw[VR];omega,List.drop_length_add_append]
@[go_sem] def cH7(w:aI)(a:Option Addr)(n c:Nat):(binOp .eql 113 (.slice a n c) zs).run prog w=.ok a.isNone w:=Lib.run_eql_slice_nil w _ _ a n c 0 0 underlying113
def eA(w:aI)(o:Obj):aR w w (w.alloc o):=iH.alloc dQ _
def iI{w:aI}{k:Nat}{v:aN}(h:w.ownsRow n T m v i X)(e:k<=n):w.ownsRow k T m v i X:=by
 refine⟨h.1,?_⟩;rcases h.2 with f|⟨g,b,c,rfl,d,a⟩
 .exact .inl f
 exact .inr ⟨g,b,c,rfl,aM e d,a⟩
def SI(w:aI)(e:dB)(a:wC e):pJ (w.alloc (.cells (iT e) 152)) (.slice (zp w) 1 1) [e]:=by refine⟨?_,λx b=>by rw[bP.1 b];exact a⟩;have:=Reads.FH (size:=3) (n:=1) (cap:=1) (Row.new w (iT e) 152) rfl dQ (by unfold maxLen;omega);simpa[iT,gV,KB]using this
def pJ.sliced(h:pJ w (.slice A n k) L)(a c m:Nat)(B:a<=c)(C:c<=L)(D:c<=m)(E:m<=k):pJ w (Go.sliced A a c m 3) ((L.drop a).take (c-a)):=by
 obtain⟨⟨x,y,v,t,u,o,d⟩,i⟩:=h;obtain⟨rfl,rfl,rfl⟩:=eJ v;refine⟨?_,λe q=>i e (List.mem_of_mem_drop (lM q))⟩;have f:((L.drop a).take (c-a))=c-a:=(by simp;omega);rw[f];refine⟨_,m-a,rfl,by omega,by omega,by simp[f],λz=>?_⟩;obtain⟨b,l,rfl,g,p⟩:=d (by omega);refine⟨b,l+a*3,?_,g,λj r=>?_⟩
 .rw[aP (by omega)];simp[Addr.add]
 have s:j<(c-a)*3:=(by simpa[f]using r);have:=p (a*3+j) (by simp;omega);rw[gC,this];congr 1;simp only[bn9,bo0];rw[sJ,pQ]
def zH(v:aN)(l:List dB)(w:aI)(p:pJ w v l)(z:l.length<=1000000000):Calls prog 228 #[v] w λe r=>∃q,e=.returned q/\r.ownsRow w 152 3 q l (gV l)/\aR w w r:=by
 obtain⟨⟨A,c,rfl,x,s,y,t⟩,-⟩:=id p;have⟨i0,i,m,n,o⟩:=info_parts RU;rcases A with _|A
 .have j:l.length=0:=by
   rcases dP l with h|h
   .exact h
   have⟨b,u,h,_⟩:=t h;cases h
  obtain rfl:=gF j;go_in;go_wp2;go_ret;exact⟨_,rfl,bM _ _ _ _,iH⟩
 go_in;have a:(w.alloc (.cells #[] 152)).ownsRow w 152 3 (.slice (zp w) 0 0) 0 []:=aX8 w #[] 0 dQ (by unfold maxLen;omega) rfl;have d:=eA w (.cells #[] 152);have k:=p.1.next d;unfold maxLen at s;go_wp2_with (first
  |(at_builtin;refine iF _ rfl _ _ 113 rfl w 152 i0 _ 3 24 underlying113 i m n o rfl (by decide) (.slice (zp w) 0 0) 0 [] rfl a _ _ _ rfl k (C5 _) (by unfold maxLen;omega) (by omega) d.size ?_;intro B C f g))
 go_ret;refine⟨_,rfl,by simpa using f,d.grown g d.size (dH a)⟩
def aj1(v:aN)(l:List dB)(h:Nat)(f t:Int)(w:aI)(y:pJ w v l)(W:fD l=true)(hn:l.length<=1000000000)(hh:h<18446744073709551616) (hf:-9223372036854775808<=f/\f<=9223372036854775807) (ht:-9223372036854775808<=t/\t<=9223372036854775807) :Calls prog 261 #[v,zu h,f,t] w λe X=>∃C,e=.returned C/\X.ownsRow w 152 3 C (kW l h f t) (gV (kW l h f t))/\aR w w X:=by
 obtain⟨⟨A,c,rfl,-,-,-,-⟩,-⟩:=id y;obtain⟨-,J,Q,-⟩:=y.cells;unfold maxLen at Q;have z:=tI l h f;have B:=λm=>an2 (m:=m) (t:=t) W (h:=h) (f:=f);have⟨n,p⟩:=fR l.length;rw[<-p]at J hn y|-;have⟨D,q,H⟩:=aB y p B;clear B y;rw[<-p]at z;clear p;go_in;go_wp2_with fail
 go_call CW _ l h f _ D W hh hf as e w1 ⟨rfl,K⟩;have⟨s,u⟩:=fR (kQ l h f);rw[<-u]at z|-;have I:=aH u;clear u;go_wp2_with fail
 go_loopw [10] (λi wr=>∃m:Nat,s<=m/\m<=n/\i=.int .i64 m/\(∀i,(S:i<l.length)->s<=i->i<m->mI h t l[i]=true)/\aR w w wr) (λi _=>n-(intOf i).toNat)
 .exact⟨s,by omega,by omega,rfl,λi _ J Q=>absurd J (by omega),K⟩
 obtain⟨m,L,h8,rfl,V,a⟩:=hrel;have N:=aH V;clear V;have x:((U:m<l)->mI h t l[m]=false)->pJ w (Go.sliced A s m c 3) (kW l h f t):=λh3=>by have hx:=H m (by rw[<-I.zz];omega) (by rw[<-q.zz];omega) (by rw[<-I.zz];exact N) h3;rw[hx,<-I.zz];exact pJ.sliced D s m c L (by rw[<-q.zz];omega) (by omega) dQ
 have r:=aH x;clear x;have s1:(s:Int)<=m:=(by omega);have s2:(m:Int)<=c:=(by omega);by_cases h4:m<n
 .have i1:(m:Int)<n:=(by omega);obtain⟨e,E⟩:∃e,l[m]?=some e:=⟨_,aJ (by rw[<-q.zz];omega)⟩;obtain⟨b,h9,rfl,T,k⟩:=pJ.later D (by rw[<-q.zz];omega);obtain⟨Y,Z,-⟩:=k m e E wr a;have O:=aQ.1 E;have M:=D.ok E;have⟨F,x2,x3⟩:=e;have⟨o1,o2,o3⟩:=M;simp only[]at Y Z o1 o2;have G:=aH O;clear E k O;by_cases P:F=h
  .subst P;by_cases g2:x2<=t
   .go_wp2;go_roundw
    .
     refine⟨m+1,by omega,by omega,by go_num,λi S h5 h6=>?_,a⟩;rcases cK i m with R|R
     .exact N i S h5 R
     obtain rfl:i=m:=(by omega);rw[G.zz.2];simp[mI,g2]
    simp[intOf];omega
   have d:=r (λ_=>by rw[G.zz.2];simp[mI];omega);have o:c≠s:=(by omega);(go_wp2_with fail);go_call zH _ (kW l F f t) _ (by have:=d.next a;simpa[Go.sliced,Addr.add_lit,o]using this) (by have:=jE (inE F f t) l;unfold kW;have:=q.zz;omega) as e w2 ⟨C,rfl,g,j⟩;go_wp2;go_ret;exact⟨_,rfl,iI g a.size,aK a j⟩
  have h0:¬(F:Int)=h:=(by omega);have d:=r (λ_=>by rw[G.zz.2];simp[mI,P]);have o:c≠s:=(by omega);go_wp2_with fail
  go_call zH _ (kW l h f t) _ (by have:=d.next a;simpa[Go.sliced,Addr.add_lit,o]using this) (by have:=jE (inE h f t) l;unfold kW;have:=q.zz;omega) as e w2 ⟨C,rfl,g,j⟩;go_wp2;go_ret;exact⟨_,rfl,iI g a.size,aK a j⟩
 have i1:¬(m:Int)<n:=(by omega);have d:=r (λU=>absurd U (by rw[<-q.zz];omega));by_cases o:c=s
 iterate 2
  ·(go_wp2_with fail);go_call zH _ (kW l h f t) _ (by have:=d.next a;simpa[Go.sliced,Addr.add,o]using this) (by have:=jE (inE h f t) l;unfold kW;have:=q.zz;omega) as e w2 ⟨C,rfl,g,j⟩;go_wp2;go_ret;exact⟨_,rfl,iI g a.size,aK a j⟩
def rd1{n k:Nat}(h:Row w n T X)(a:X=k):Reads w (.slice (zp n) 1 1) k 1 X:=Reads.FH h (by rw[a,Nat.one_mul]) dQ (by unfold maxLen;omega)
section
variable {P:Program}{ops:Array Oper}{rest:List Oper}{o:Oper}{a:Act}{Q:Exit->Act->aI->Prop}{s x:Operand}{t e:cC}{base size bytes n m:Nat}{z v v2:aN}{xs news:List aN}
def bq8(q:(P.info? e).map (λi=>(i.zero,i.size,i.bytes))=some (some z,size,bytes))(B:P.underlying t=some (.slice e))(d:w.ownsRow base e size v n xs)(y:Reads w v2 size m news) (g:o.guard=none) (u:o.op=.call {callee:=.builtin .append,args:=#[s,x],argTypes:=#[t,t]}) (A:a.eval s=v) (C:a.eval x=v2) (p:(z.cells==size&&decide (0<size)&&decide (0<bytes)&&news.all Value.oneCell')=true) (b:(n+m)*bytes<=140737488355328) (c:base<=w) (h:∀f l,l.ownsRow base e size f (n+m) (xs++news)->w.grownBy l v.ownBlock->(f.ownBlock=v.ownBlock\/f.ownBlock=some w.heap.size)->wpList P ops Q rest (a.put o.dst f) l):wpList P ops Q (o::rest) a w:=by
 have⟨i,r,D,j,k⟩:=info_parts q;simp only[bL,gH,bG,dN]at p;obtain⟨⟨⟨E,F⟩,G⟩,H⟩:=p;exact rB w g s x t u base e i z size bytes B r D j k E F v n xs A d v2 m news C y H (by
  have:=aM (Nat.le_mul_of_pos_right (n+m) G) b;unfold maxLen;omega) b c h
def MG(l:(P.info? e).map (λi=>(i.zero,i.size,i.bytes))=some (some z,size,bytes))(r:P.underlying t=some (.slice e))(c:w.ownsRow base e size v n xs) (g:o.guard=none) (m:o.op=.call {callee:=.builtin .append,args:=#[s,x],argTypes:=#[t,t]}) (q:a.eval s=v) (u:a.eval x=.slice (zp w) 1 1) (j:(z.cells==size&&decide (0<size)&&decide (0<bytes)&&news.all Value.oneCell'&&news==size)=true) (b:(n+1)*bytes<=140737488355328) (f:base<=w) (h:∀d k,k.ownsRow base e size d (n+1) (xs++news)->(w.alloc (.cells news.toArray T)).grownBy k v.ownBlock->(d.ownBlock=v.ownBlock\/d.ownBlock=some (w.alloc (.cells news.toArray T)).heap.size)->wpList P ops Q rest (a.put o.dst d) k):wpList P ops Q (o::rest) a (w.alloc (.cells news.toArray T)):=by rw[bL,gH]at j;have p:Reads (w.alloc (.cells news.toArray T)) (.slice (zp w) 1 1) size 1 news:=rd1 (Row.new w news.toArray T) j.2;exact bq8 l r (bY c (eA _ _)) p g m q u j.1 b (by rw[bD];omega) h
end
variable{P:List (List dB)}
def JN(o:Option dB)(l:List dB):Option dB:=match l.head?,o with
 |none,o=>o
 |some e,none=>some e
 |some e,some b=>if iB e b then some e else some b
def yO(a:List (List dB)):Option dB:=a.foldl JN none
def yL(e:dB)(l:List dB):List dB:=l.dropWhile fun x=>decide (x=e)
def Z4(a:List dB)(e:dB):List dB:=if a.getLast?=some e then a else a++[e]
def pT(a:List (List dB)):Nat:=(a.map List.length).sum
def goM:Nat->List (List dB)->List dB->List dB
 |0,_,out=>out
 |n+1,ls,out=>match yO ls with
  |none=>out
  |some e=>goM n (ls.map (yL e)) (Z4 out e)
def BL(b:List (List dB))(a:List dB):List dB:=goM (pT b) b a
def kI(a:List (List dB)):List dB:=BL a []
def XN(e:dB)(l:List dB):(yL e l).length<=l:=(XH _).length_le
def bb8(e:dB)(a:List (List dB)):pT (a.map (yL e))<=pT a:=by
 induction a with
 |nil=>exact cV _
 |cons l a b=>have:=XN e l;unfold pT at b|-;simp only[dU,l6]at b|-;omega
def bI3(h:L.head?=o):(yL o L).length<L:=by
 cases L with
 |nil=>cases h
 |cons x L=>simp at h;subst h;have:=XN x L;unfold yL at this|-;rw[MN (by simp)];simp;omega
def DZ(a:L∈P)(h:L.head?=o):pT (P.map (yL o))<pT P:=by
 induction P with
 |nil=>cases a
 |cons x P b=>
  have d:=XN o x;have c:=bb8 o P;unfold pT at b c|-;simp only[dU,l6]at b c|-;rcases cY.1 a with rfl|a
  .have:=bI3 h;omega
  have:=b a;omega
def aS4(d:List (List dB)):∀o e,d.foldl JN o=some e->o=some e\/∃l∈d,l.head?=e:=by
 induction d with
 |nil=>intro o e h;exact .inl h
 |cons l d i=>
  intro o e h;rw[nZ]at h;rcases i _ _ h with c|⟨x,g,c⟩
  .unfold JN at c;split at c
   .exact .inl c
   .rename_i a f;exact .inr ⟨l,by simp,by rw[f,c]⟩
   rename_i a b f;split at c
   .exact .inr ⟨l,by simp,by rw[f,c]⟩
   exact .inl c
  exact .inr ⟨x,by simp[g],c⟩
def CM(h:yO P=o):∃l∈P,l.head?=o:=by
 rcases aS4 P none o h with h|h
 .cases h
 exact h
def bn1(b:List (List dB)):∀o,b.foldl JN o=none->o=none/\∀l∈b,l=[]:=by
 induction b with
 |nil=>intro o h;exact⟨h,by simp⟩
 |cons l b f=>
  intro o h;rw[nZ]at h;have⟨a,d⟩:=f _ h;unfold JN at a;split at a
  .rename_i e;exact⟨a,λx c=>by rcases cY.1 c with rfl|c;exact List.head?_eq_none_iff.1 e;exact d x c⟩
  .cases a
  split at a<;>cases a
def VS(h:yO P=none):∀l∈P,l=[]:=(bn1 P none h).2
def aS3(p:List (List dB)):∀o e,p.foldl JN o=some e->(∀b,o=some b->iB b e=false)/\∀l∈p,∀x,l.head?=some x->iB x e=false:=by
 induction p with
 |nil=>intro o e h;exact⟨λb f=>by simp only[List.foldl_nil]at h;rw[h]at f;cases f;exact NI,by simp⟩
 |cons l p t=>
  intro o e h;rw[nZ]at h;have⟨i,s⟩:=t _ _ h;have n:(∀b,o=some b->iB b e=false)/\∀x,l.head?=some x->iB x e=false:=by
   unfold JN at i;split at i
   .rename_i k;exact⟨λb f=>i b f,λx d=>by rw[k]at d;cases d⟩
   .rename_i a k;exact⟨λb f=>(by cases f),λx d=>by rw[k]at d;cases d;exact i _ rfl⟩
   rename_i a b k;split at i
   .rename_i g;have q:=i _ rfl;refine⟨λc j=>?_,λx d=>by rw[k]at d;cases d;exact q⟩;cases j;rw[<-kL];intro r;rw[wH g r]at q;cases q
   rename_i g;have f:=i _ rfl;refine⟨λc j=>by cases j;exact f,λx d=>?_⟩;rw[k]at d;cases d;rw[<-kL];intro m;rw[kL]at g;rcases j:iB b a with _|_
   .have:=U6 g j;subst this;rw[m]at f;cases f
   have:=wH j m;rw[this]at f;cases f
  exact⟨n.1,λx d=>(cY.1 d).elim (λe=>by rw[e];exact n.2) (λd=>s x d)⟩
def ay1(h:yO P=o):∀l∈P,∀x,l.head?=some x->iB x o=false:=(aS3 P none o h).2
def ch5:∀(n m:Nat) (b:List (List dB)) (a:List dB),pT b<=n->pT b<=m->goM n b a=goM m b a:=by
 intro n;induction n with
 |zero=>
  intro m b a f g;cases m with
  |zero=>rfl
  |succ m=>
   rw[goM,goM];rcases h:yO b with _|e
   .rfl
   have⟨l,d,c⟩:=CM h;have:=DZ d c;omega
 |succ n i=>
  intro m b a f g;rw[goM];rcases h:yO b with _|e
  .cases m with
   |zero=>rfl
   |succ m=>rw[goM,h]
  have⟨l,d,c⟩:=CM h;have:=DZ d c;cases m with
  |zero=>omega
  |succ m=>rw[goM,h];exact i m _ _ (by omega) (by omega)
def IV{out:List dB}(h:yO P=none):BL P out=out:=by
 unfold BL;cases pT P with
 |zero=>rfl
 |succ n=>rw[goM,h]
def RN{out:List dB}{e:dB}(h:yO P=e):BL P out=BL (P.map (yL e)) (Z4 out e)/\pT (P.map (yL e))<pT P:=by have⟨l,b,a⟩:=CM h;have d:=DZ b a;refine⟨?_,d⟩;unfold BL;obtain⟨n,c⟩:∃n,pT P=n+1:=⟨pT P - 1,by omega⟩;rw[c,goM,h];exact ch5 _ _ _ _ (by omega) dQ
def aH8:fD (o::L)=true↔(∀x∈L,iB o x=true)/\fD L=true:=by unfold fD;rw[decide_eq_true_iff,dG,decide_eq_true_iff]
def aN6(l:fD L=true)(i:∀x,L.head?=some x->iB x o=false):fD (yL o L)=true/\(∀x∈yL o L,iB o x=true)/\(∀x,x∈L->x=o\/x∈yL o L)/\(∀x,x∈yL o L->x∈L):=by
 cases L with
 |nil=>exact⟨rfl,by simp[yL],by simp,by simp[yL]⟩
 |cons a L=>
  have⟨f,m⟩:=aH8.1 l;have n:=i a rfl;by_cases d:a=o
  .subst d;have j:∀x∈L,x≠a:=λx c k=>by subst k;have:=f _ c;rw[NI]at this;cases this
   have g:yL a (a::L)=L:=by
    unfold yL;rw[MN (by simp)];cases L with
    |nil=>rfl
    |cons b L=>rw[MO (by simpa using j b (by simp))]
   rw[g];exact⟨m,f,λx c=>by rcases cY.1 c with h|h;exact .inl h;exact .inr h,λx c=>iU _ c⟩
  have g:yL o (a::L)=a::L:=by unfold yL;rw[MO (by simpa using d)]
  have e:iB o a=true:=by
   rcases h:iB o a with _|_
   .exact absurd (U6 n h) d
   rfl
  rw[g];exact⟨l,λx c=>by rcases cY.1 c with rfl|h;exact e;exact wH e (f x h),λx c=>.inr c,λx c=>c⟩
def aH7(c:fD L=true)(h:∀x∈L,iB x o=true):fD (L++[o])=true:=by unfold fD at c|-;rw[decide_eq_true_iff]at c|-;rw[pH];exact⟨c,by simp,λa d b e=>by rw[bP.1 e];exact h a d⟩
def ZM:∀(n:Nat) (g:List (List dB)) (b:List dB),pT g<=n->(∀l∈g,fD l=true)->fD b=true->(∀x∈b,∀l∈g,∀y∈l,iB x y=true)->fD (BL g b)=true/\∀x,x∈BL g b↔x∈b\/∃l∈g,x∈l:=by
 intro n;induction n with
 |zero=>
  intro g b B u p i;have t:yO g=none:=by
   rcases h:yO g with _|e
   .rfl
   have⟨l,c,A⟩:=CM h;have:=DZ c A;omega
  rw[IV t];exact⟨p,λx=>⟨.inl,λh=>by
   rcases h with h|⟨l,c,a⟩
   .exact h
   rw[VS t l c]at a;cases a⟩⟩
 |succ n C=>
  intro g b B u p i;rcases h:yO g with _|e
  .rw[IV h];exact⟨p,λx=>⟨.inl,λa=>by
    rcases a with a|⟨l,c,a⟩
    .exact a
    rw[VS h l c]at a;cases a⟩⟩
  have⟨w,D⟩:=RN (out:=b) h;have⟨q,m,r⟩:=CM h;have k:e∈q:=List.mem_of_head? r;have o:Z4 b e=b++[e]:=by unfold Z4;rw[aP];intro z;have:=i e (IA z) q m e k;rw[NI]at this;cases this
  have f:=λl c=>aN6 (u l c) (ay1 h l c);rw[w,o];have s:=C (g.map (yL e)) (b++[e]) (by omega) ?_ ?_ ?_
  .refine⟨s.1,λx=>?_⟩;rw[s.2 x];constructor
   .rintro (a|⟨l,c,a⟩)
    .rcases cB.1 a with a|a
     .exact .inl a
     rw[bP.1 a];exact .inr ⟨q,m,k⟩
    obtain⟨j,d,rfl⟩:=dS.1 c;exact .inr ⟨j,d,(f j d).2.2.2 x a⟩
   rintro (a|⟨l,c,a⟩)
   .exact .inl (sI _ a)
   rcases(f l c).2.2.1 x a with rfl|a
   .exact .inl (by simp)
   exact .inr ⟨_,dS.2 ⟨l,c,rfl⟩,a⟩
  .intro l c;obtain⟨j,d,rfl⟩:=dS.1 c;exact(f j d).1
  .exact aH7 p λx a=>i x a q m e k
  intro x a l c y v;obtain⟨j,d,rfl⟩:=dS.1 c;rcases cB.1 a with a|a
  .exact i x a j d y ((f j d).2.2.2 y v)
  rw[bP.1 a];exact(f j d).2.1 y v
def OB(c:∀l∈P,fD l=true):fD (kI P)=true/\∀x,x∈kI P↔∃l∈P,x∈l:=by have⟨a,b⟩:=ZM _ P [] dQ c rfl (by simp);exact⟨a,λx=>by unfold kI;rw[b x];simp⟩
def cc2(c:bB)(l:List bB):num (c::l)=c.toNat*256^l.length+num l:=by
 have h:∀(l:List bB)(a:Nat),l.foldl (λn c=>n*256+c.toNat) a=a*256^l.length+num l:=by
  intro l;induction l with
  |nil=>intro a;simp[num]
  |cons d l e=>intro a;have f:=e (a*256+d.toNat);have b:=e d.toNat;simp only[nZ,cE];unfold num at b|-;simp only[nZ,cJ4,jC];rw[f,b];unfold num;rw[nK,cN5,Nat.mul_assoc,oX 256 (256^l.length)];omega
 have:=h l c.toNat;unfold num at this|-;simpa using this
def aN8(l:List bB)(h:l.length=8):(num l<9223372036854775808)↔l[0].toNat<128:=by
 match l,h with
 |c::t,h=>have a:t.length=7:=(by simpa using h);have b:=AU t;rw[cc2,a];rw[a]at b;simp only[dA];omega
def cK8(s:aS)(h:s.size=24):vE (lb s)<9223372036854775808↔s[8].toNat<128:=by unfold vE;rw[aN8 _ (by simp;omega)];simp[lb];rfl
def cL3(s:aS)(h:s.size=24):pE (lb s)<9223372036854775808↔s[16].toNat<128:=by unfold pE;rw[aN8 _ (by simp;omega)];simp[lb];rfl
def bf5(s:aS)(w:aI)(B:s<=maxLen):Calls prog 85 #[s] w λe m=>e=.returned (.tuple #[.agg (iT (IX (lb s))),okG (lb s)])/\aR w w m:=by
 have j:=(bR w w).alloc dQ (.cells #[zu 0,(),()] 152);by_cases a:s.size=24
 .have C:=cB4 (lb s);have A:=cC4 (lb s) (by rw[bI];exact a);have u:=cM2 s;have y:=cM0 s;have x:=cM1 s a;have l:=cK8 s a;have k:=cL3 s a;unfold IX okG;rw[bI];generalize vE (lb s)=v at *;generalize pE (lb s)=p at *;generalize hE (lb s)=h at *;have n:(s.size=24/\v<9223372036854775808/\p<9223372036854775808)↔(v<9223372036854775808/\p<9223372036854775808):=(by simp[a]);simp only[n];by_cases d:v<9223372036854775808
  .have q:=l.1 d;have o:((127:Int)<(s[8].toNat:Int))=False:=(by simp;omega);by_cases f:p<9223372036854775808
   .have i:=k.1 f;have g:((127:Int)<(s[16].toNat:Int))=False:=(by simp;omega);have c:decide (v<9223372036854775808/\p<9223372036854775808)=true:=(by simp[d,f]);rw[c,aV rfl];go_in;(go_wp2_with fail);have t:IntKind.i64.wrap (v:Int)=v:=(by rw[cQ];omega);have r:IntKind.i64.wrap (p:Int)=p:=(by rw[cQ];omega);apply bs9
    .go_region_held3 (λ_=>True) (trivial) ((go_at_call 128;go_call bt9 _ _ (by rw[dY];simp[maxLen];omega) as e m ⟨rfl,rfl⟩))
     all_goals exact⟨rfl,rfl,rfl⟩
    (try simp only[t,r]);go_wp2;refine bE (v:=.tuple #[.agg #[zu h,v,p],true]) (by simp[results,results85,go_sem]) rfl ⟨KX rfl rfl,(iH.alloc dQ _).drew⟩
   have i:¬s[16].toNat<128:=λh=>f (k.2 h);have g:((127:Int)<(s[16].toNat:Int))=True:=(by simp;omega);have b:decide (v<9223372036854775808/\p<9223372036854775808)=false:=(by simp[f]);rw[b];go_in;go_wp2;refine bE (v:=.tuple #[.agg #[zu 0,(),()],false]) (by simp[results,results85,go_sem]) rfl ⟨KX rfl rfl,j⟩
  have q:¬s[8].toNat<128:=λh=>d (l.2 h);have o:((127:Int)<(s[8].toNat:Int))=True:=(by simp;omega);have b:decide (v<9223372036854775808/\p<9223372036854775808)=false:=(by simp[d]);rw[b];go_in;go_wp2;refine bE (v:=.tuple #[.agg #[zu 0,(),()],false]) (by simp[results,results85,go_sem]) rfl ⟨KX rfl rfl,j⟩
 have z:¬(s.size:Int)=24:=(by omega);have b:okG (lb s)=false:=(by unfold okG;rw[bI];simp[a]);unfold IX;rw[b];go_in;go_wp2;refine bE (v:=.tuple #[.agg #[zu 0,(),()],false]) (by simp[results,results85,go_sem]) rfl ⟨KX rfl rfl,j⟩
def bf6(v:aN)(l:List dB)(w:aI)(h:pJ w v l):Calls prog 130 #[v] w λe w'=>e=(fD l)/\aR w w w':=by
 obtain⟨⟨A,c,rfl,-,-,-,-⟩,-⟩:=id h;obtain⟨-,T,U,-⟩:=h.cells;unfold maxLen at U;have z:=λ(i:Nat)(e:dB)(H:l[i]?=e)=>h.ok H;rcases dP l with t|t
 .obtain rfl:=gF t;go_in;go_wp2_with fail
  go_loopw [3] (λi wr=>i=.int .i64 0/\aR w w wr) (λi _=>0)
  .exact⟨rfl,iH⟩
  obtain⟨rfl,a⟩:=hrel;go_wp2;go_ret;exact⟨rfl,a⟩
 obtain⟨b,h3,rfl,L,f⟩:=h.later t;have⟨n,I⟩:=fR l.length;rw[<-I]at T t|-;clear h;have B:=aH I;clear I;have⟨s,d⟩:=aA z f;clear z f;go_in;go_wp2_with fail
 go_loopw [3] (λi wr=>∃k:Nat,k<n/\i=.int .i64 k/\(∀j,(E:j+1<l.length)->j<k->iB l[j] l[j+1]=true)/\aR w w wr) (λi _=>n-(intOf i).toNat)
 .exact⟨0,t,rfl,λj _ E=>absurd E (by omega),iH⟩
 obtain⟨k,hk,rfl,M,a⟩:=hrel;have J:=aH M;clear M;have h4:IntKind.i64.wrap ((k:Int)+1)=k+1:=(by rw[cQ];omega);by_cases W:k+1<n
 .obtain⟨o,g⟩:∃o,l[k]?=some o:=⟨_,aJ (by have:=B.zz;omega)⟩;obtain⟨p,m⟩:∃p,l[k+1]?=some p:=⟨_,aJ (by have:=B.zz;omega)⟩;have Z:=s k o g;have ob:=s (k+1) p m;have C:=λx:dR wr=>d k o g x.it (aK a x.ok);have D:=λx:dR wr=>d (k+1) p m x.it (aK a x.ok);have N:=λx=>(C x).1;have O:=λx=>(C x).2.1;have P:=λx=>(C x).2.2;have Q:=λx=>(D x).1;have R:=λx=>(D x).2.1;have S:=λx=>(D x).2.2;have Y:((k:Int)+1)<n:=(by omega);have tk:((k:Int)+1).toNat=k+1:=(by omega);have⟨q,r⟩:=aA g m;clear C D g m;(go_wp2_with fail);refine cI (by kernel_rfl) (by kernel_rfl) ?_;repeat go_big_quiet_step (first|(go_at_call 187;exact eL _ (bY8 o p _ Z ob)))
  refine wpQuiet_nil ?_;intro _ X;obtain⟨⟨w1,u⟩,rfl⟩:=X;rcases y:iB o p with _|_
  .go_wp2;go_ret;have F:=aQ.1 q;have G:=aQ.1 r;exact⟨by rw[VN (i:=k) (by have:=B.zz;omega) (by rw[F.2,G.2];exact y)];rfl,aK a u⟩
  go_wp2;go_roundw
  .
   refine⟨k+1,by omega,by go_num,λj E V=>?_,aK a u⟩;rcases cK j k with K|K
   .exact J j E K
   obtain rfl:j=k:=(by omega);have F:=aQ.1 q;have G:=aQ.1 r;rw[F.2,G.2];exact y
  simp[intOf];omega
 have Y:¬((k:Int)+1)<n:=(by omega);go_wp2;go_ret;exact⟨by rw[JG (λi H=>J.zz i H (by have:=B.zz;omega))];rfl,a⟩
variable{Q s:List bB}
def qF(e:dB):Bool:=decide (0<=e.2.1/\0<=e.2.2)
def PE(h:qF o=true):lJ o=be 8 o.1++be 8 o.2.1.toNat++be 8 o.2.2.toNat:=by have:=of_decide_eq_true h;unfold lJ;rw[aP (by omega)]
def an4(h:qF o=false):lJ o=[]:=by have:=of_decide_eq_false h;unfold lJ;rw[aV (by omega)]
def qO(h:qF o=true):(lJ o).length=24:=by rw[PE h];simp
def S7(i:wC o)(b:qF o=true):okG (lJ o)=true/\IX (lJ o)=o:=by
 have⟨h,v,p⟩:=o;have⟨f,k,l⟩:=i;have q:=of_decide_eq_true b;simp only[]at f k l q;have a:=PE b;simp only[]at a;have j:(be 8 h++be 8 v.toNat).length=16:=by simp
 have g:hE (lJ (h,v,p))=h:=by unfold hE;rw[a,bT,uZ (by simp),LK];exact qZ f
 have c:vE (lJ (h,v,p))=v.toNat:=by unfold vE;rw[a,bT,o7 (by simp),uZ (by simp),LK];exact qZ (by omega)
 have d:pE (lJ (h,v,p))=p.toNat:=by unfold pE;rw[a,o7 j,LK];exact qZ (by omega)
 have e:okG (lJ (h,v,p))=true:=by unfold okG;rw[qO b,c,d];simp;omega
 refine⟨e,?_⟩;unfold IX;rw[e,aV rfl,g,c,d];have m:((v.toNat:Nat):Int)=v:=(by omega);have n:((p.toNat:Nat):Int)=p:=(by omega);rw[m,n]
def YT(h:okG Q=true):lJ (IX Q)=Q/\qF (IX Q)=true/\wC (IX Q):=by have f:=of_decide_eq_true h;have⟨l,m,n⟩:=f;have g:=cL7 Q;have a:qF (hE Q,(vE Q:Int),(pE Q:Int))=true:=bZ (by simp only[];omega);unfold IX;rw[h,aV rfl];refine⟨?_,a,⟨g,by simp only[];omega,by simp only[];omega⟩⟩;rw[PE a];simp only[bW];have i:(Q.take 8).length=8:=(by simp;omega);have j:((Q.drop 8).take 8).length=8:=(by simp;omega);have k:(Q.drop 16).length=8:=(by simp;omega);have b:be 8 (hE Q)=Q.take 8:=(by unfold hE;conv=>rhs;rw[<-QB (Q.take 8),i]);have c:be 8 (vE Q)=(Q.drop 8).take 8:=(by unfold vE;conv=>rhs;rw[<-QB ((Q.drop 8).take 8),j]);have d:be 8 (pE Q)=Q.drop 16:=(by unfold pE;conv=>rhs;rw[<-QB (Q.drop 16),k]);rw[b,c,d];have e:Q.drop 16=(Q.drop 8).drop 8:=(by rw[lN]);rw[e,bT,bX,bX]
def bW3(n:Int):Int:=if n<0\/89478484<n then 0 else 12+24*n
def atT(n:Int):Int:=if n<0\/89478484<n then 0 else 8+24*n
def aG7(n:Int)(w:aI)(d:-9223372036854775808<=n/\n<=9223372036854775807):Calls prog 291 #[n] w λe c=>e=(bW3 n)/\w=c:=by
 unfold bW3;go_in;by_cases a:n<0
 .go_wp2;go_ret;exact⟨by simp[a],rfl⟩
 by_cases b:89478484<n
 .go_wp2;go_ret;exact⟨by simp[b],rfl⟩
 have f:IntKind.i64.wrap (n*24)=n*24:=(by rw[cQ];omega);have g:IntKind.i64.wrap (8+n*24)=8+n*24:=(by rw[cQ];omega);have h:IntKind.i64.wrap (8+n*24+4)=8+n*24+4:=(by rw[cQ];omega);go_wp2;go_ret;exact⟨mJ (by first|omega|(simp[a,b];omega)),rfl⟩
def bB5(n:Int)(w:aI)(f:-9223372036854775808<=n/\n<=9223372036854775807):Calls prog 265 #[n] w λe d=>e=(atT n)/\w=d:=by
 have a:=λw=>aG7 n w f;unfold atT;unfold bW3 at a;go_in;by_cases c:n<0
 .clear a;go_wp2;go_ret;exact⟨by simp[c],rfl⟩
 by_cases b:89478484<n
 iterate 2
  ·(first|((have h:IntKind.i64.wrap (n*24)=n*24:=by rw[cQ];omega);(have i:IntKind.i64.wrap (8+n*24)=8+n*24:=by rw[cQ];omega);(rw[aP (by omega)]at a);(have g:¬(12+24*n=0):=by omega))|rw[aV (Or.inr b)]at a);(go_wp2_with fail);go_call a _ as e d ⟨rfl,rfl⟩;clear a;go_wp2;go_ret;first|(exact⟨mJ (by first|omega|(simp[c,b];omega)),rfl⟩)|(exact⟨by simp[b],rfl⟩)
def oG(n:Nat):List bB:=[112,116,97,98]++be 4 n
def nW(l:List dB):List bB:=l.flatMap lJ
def JY(l:List dB):List bB:=oG l.length++nW l
def tN(l:List dB):Bool:=fD l&&l.all qF
def lU(l:List dB):List bB:=if tN l then kU (JY l)else[]
def SH(l:List dB):Int:=if tN l then 0 else 2
def qG(h:L.all qF=true):(nW L).length=L*24:=by
 induction L with
 |nil=>rfl
 |cons e L a=>simp only[au2,bL]at h;have:=a h.2;unfold nW at this|-;rw[eN,aO,qO h.1,this,cE];omega
def ae1(h:L[n]?=o):nW (L.take (n+1))=nW (L.take n)++lJ o:=by unfold nW;rw[dL,h,eB];simp
def OJ(h:L[n]?=o):(L.take (n+1)).all qF=((L.take n).all qF&&qF o):=by rw[dL,h,JC];simp
def TQ{s b:aS}{a:Int}(h:s=b)(c:e=a)(k:IntKind):Ending.returned (.tuple #[s,.int k e])=.returned (.tuple #[b,.int k a]):=by rw[h,c]
def uK(r:List bB)(i:Nat):List bB:=(r.drop (24*i)).take 24
def gG(r:List bB)(m:Nat):List dB:=(List.range m).map fun i=>IX (uK r i)
def nU(r:List bB)(m:Nat):Bool:=(List.range m).all fun i=>okG (uK r i)
def n5(s:List bB):Nat:=(s.length-12)/24
def kT(s:List bB):Bool:=decide (12<=s.length)&&decide ((s.length-12)%24=0)&&nU (s.drop 8) (n5 s)&&tN (gG (s.drop 8) (n5 s))&&(lU (gG (s.drop 8) (n5 s))==s)
def rY(s:List bB):List dB:=if kT s then gG (s.drop 8) (n5 s)else[]
def yK(s:List bB):Int:=if kT s then 0 else 90
def OY(s:List bB):Bool:=kY s&&decide (8<=(s.take (s.length-4)).length)&&((s.take (s.length-4)).take 4==[112,116,97,98]) &&
 decide (((s.take (s.length-4)).drop 8).length=num (((s.take (s.length-4)).drop 4).take 4)*24)&&nU ((s.take (s.length-4)).drop 8) (num (((s.take (s.length-4)).drop 4).take 4)) &&
 fD (gG ((s.take (s.length-4)).drop 8) (num (((s.take (s.length-4)).drop 4).take 4)))
def pD(r:List bB)(m:Nat):(gG r m)=m:=by simp[gG]
def xD(r:List bB)(m:Nat):gG r (m+1)=gG r m++[IX (uK r m)]:=by unfold gG;rw[sD,iC];rfl
def xC(r:List bB)(m:Nat):nU r (m+1)=(nU r m&&okG (uK r m)):=by unfold nU;rw[sD,JC];simp
def CL:∀{m:Nat},nU Q m=true->nW (gG Q m)=Q.take (24*m)/\(gG Q m).all qF=true/\∀e∈gG Q m,wC e:=by
 intro m;induction m with
 |zero=>intro _;simp[gG,nW]
 |succ m f=>
  intro h;rw[xC,bL]at h;have⟨a,b,c⟩:=f h.1;have⟨g,i,j⟩:=YT h.2;rw[xD];refine⟨?_,by rw[JC,b];simp[i],λe d=>?_⟩
  .unfold nW at a|-;rw[eB,a];simp only[eN,List.flatMap_nil,gM,g];unfold uK;rw[show 24*(m+1)=24*m+24 from by omega,au1]
  rcases cB.1 d with h|h
  .exact c e h
  rw[bP.1 h];exact j
def ax0(h:24*n+24<=Q):uK (Q++s) n=uK Q n:=by unfold uK;rw[ID (by omega),gE (by simp;omega)]
def LC{r z:List bB}:∀{m:Nat},24*m<=r->gG (r++z) m=gG r m/\nU (r++z) m=nU r m:=by
 intro m;induction m with
 |zero=>intro _;exact⟨rfl,rfl⟩
 |succ m c=>intro h;have⟨a,b⟩:=c (by omega);rw[xD,xD,xC,xC,a,b,ax0 (by omega)];exact⟨rfl,rfl⟩
def aI1{s:List bB}(I:s.length<=1000000000):OY s=kT s/\(OY s=true->gG ((s.take (s-4)).drop 8) (num (((s.take (s-4)).drop 4).take 4))=gG (s.drop 8) (n5 s)):=by
 have q:OY s=true->kT s=true/\gG ((s.take (s-4)).drop 8) (num (((s.take (s-4)).drop 4).take 4))=gG (s.drop 8) (n5 s):=by
  intro h;unfold OY at h;simp only[bL,bG,gH]at h;obtain⟨⟨⟨⟨⟨v,G⟩,w⟩,o⟩,l⟩,O⟩:=h;unfold kY at v;simp only[bL,bG,gH]at v;have⟨N,n⟩:=v;have D:s=s.take (s-4)++s.drop (s-4):=(bX _ _).symm;have e:(s.take (s-4)).length=s-4:=(by simp);generalize s.take (s-4)=t at *;generalize s.drop (s-4)=z at *;have E:z.length=4:=(by rw[<-n];rfl);have C:((t.drop 4).take 4).length=4:=by simp;omega
  have A:be 4 (num ((t.drop 4).take 4))=(t.drop 4).take 4:=by have:=QB ((t.drop 4).take 4);rwa[C]at this
  generalize V:num ((t.drop 4).take 4)=m at *;have Q:(t.drop 8).length=t-8:=(by simp);have R:s.length=t+4:=(by rw[D,aO,E]);have b:n5 s=m:=(by unfold n5;omega);have a:s.drop 8=t.drop 8++z:=(by rw[D,ID G]);have⟨u,x⟩:=LC (r:=t.drop 8) (z:=z) (m:=m) (by omega);have⟨L,F,T⟩:=CL l;have i:nW (gG (t.drop 8) m)=t.drop 8:=by rw[L];exact aT (by omega)
  have c:JY (gG (t.drop 8) m)=t:=by unfold JY oG;rw[pD,A,i,<-w];rw[show t.drop 8=(t.drop 4).drop 4 from by rw[lN],bT,bX,bX]
  have f:tN (gG (t.drop 8) m)=true:=(by unfold tN;rw[O,F];rfl);refine⟨?_,by rw[b,a,u]⟩;unfold kT;rw[b,a,u,x,l,f];have d:lU (gG (t.drop 8) m)=s:=by unfold lU;rw[f,aV rfl,c];unfold kU;rw[n];exact D.symm
  rw[d];simp;omega
 refine⟨?_,λh=>(q h).2⟩;rw[iX];refine⟨λh=>(q h).1,λh=>?_⟩;unfold kT at h;simp only[bL,bG,gH]at h;obtain⟨⟨⟨⟨v,G⟩,w⟩,o⟩,l⟩:=h;have H:=pD (s.drop 8) (n5 s);have⟨L,F,T⟩:=CL w;have b:24*n5 s=s-12:=(by unfold n5;omega);have J:n5 s<=100000000:=(by omega);have k:fD (gG (s.drop 8) (n5 s))=true:=(by unfold tN at o;rw[bL]at o;exact o.1);have d:lU (gG (s.drop 8) (n5 s))=kU (JY (gG (s.drop 8) (n5 s))):=(by unfold lU;rw[o,aV rfl]);rw[d]at l;have g:=qG F;rw[H]at g;have c:JY (gG (s.drop 8) (n5 s))=oG (n5 s)++nW (gG (s.drop 8) (n5 s)):=(by unfold JY;rw[H]);generalize U:nW (gG (s.drop 8) (n5 s))=B at *;have j:(oG (n5 s)).length=8:=(by simp[oG]);have e:(oG (n5 s)++B).length=s-4:=by rw[aO,j,g];omega
 have K:s.take (s-4)=oG (n5 s)++B:=by
  conv=>lhs;arg 2;rw[<-l]
  unfold kU;rw[c,<-e,mP]
 have S:s.drop (s-4)=U5 (WX (oG (n5 s)++B)):=by
  conv=>lhs;arg 2;rw[<-l]
  unfold kU;rw[c,<-e,mR]
 have P:(oG (n5 s)++B).drop 8=B:=by rw[<-j,mR]
 have y:((oG (n5 s)++B).drop 4).take 4=be 4 (n5 s):=by unfold oG;rw[bT,o7 (by rfl),uZ (by simp)]
 have p:num (be 4 (n5 s))=n5 s:=by rw[LK];exact qZ (by omega)
 have a:s.drop 8=B++s.drop (s-4):=by
  conv=>lhs;rw[<-bX (s-4) s]
  rw[K,bT,<-j,mR]
 have⟨u,x⟩:=LC (r:=B) (z:=s.drop (s-4)) (m:=n5 s) (by omega);rw[<-a]at u x;unfold OY kY;rw[K,P,y,p,<-x,<-u,w,k,S,g,e];have M:(oG (n5 s)++B).take 4=[112,116,97,98]:=(by unfold oG;rw[bT,uZ (by rfl)]);rw[M];simp;omega
abbrev mX:=List (List Nat)
def kR(l:mX):Bool:=decide (l.length<=5/\l.flatten.length<=40/\l.flatten.Nodup)
def iQ(l:mX):mX:=(l.reverse.dropWhile List.isEmpty).reverse
def pY(l:mX)(n:Nat):mX:=match iQ l with
 |[]=>[[n]]
 |a::r=>(a++[n])::r
def mZ(l:mX)(k n:Nat):mX:=if((iQ l).set k []).length<=min (k+1) 4 then(iQ l).set k []++[[n]]
 else((iQ l).set k []).set (min (k+1) 4) (((iQ l).set k []).getD (min (k+1) 4) []++[n])
structure jD where
 next:Nat
 check:Nat
 aX:Nat
 fP:mX
def wU(m:jD):Bool:=decide (m.next<=1000000/\m.check<=2147483647)&&(kR m.fP&&m.fP.flatten.all fun n=>decide (n<m.next))
def uE(l:List Nat):bH:=UInt8.ofNat l.length::l.flatMap (be 4)
def X6(m:jD):bH:=[105,109,97,112]++be 4 m.next++be 4 m.check++be 8 m.aX++[UInt8.ofNat (iQ m.fP).length]++(iQ m.fP).flatMap uE
def iS(m:jD):bH:=kU (X6 m)
abbrev XD:=bH×Bool
def mY(n:Nat)(r:XD):Nat×XD:=if r.1.length<n then(0,([],false))else(num (r.1.take n),(r.1.drop n,r.2))
def DQ:Nat->XD->List Nat->List Nat×XD
 |0,r,a=>(a,r)
 |i+1,r,a=>if r.2=false then(a,r)else DQ i (mY 4 r).2 (a++[(mY 4 r).1])
def wG:Nat->XD->mX->mX×XD
 |0,r,a=>(a,r)
 |k+1,r,a=>if r.2=false then(a,r)else wG k (DQ (mY 1 r).1 (mY 1 r).2 []).2 (a++[(DQ (mY 1 r).1 (mY 1 r).2 []).1])
def sY(t:bH):jD×XD:=let a:=mY 4 (t.drop 4,true)
 let b:=mY 4 a.2
 let c:=mY 8 b.2
 let d:=mY 1 c.2
 let e:=wG d.1 d.2 []
 (⟨a.1,b.1,c.1,e.1⟩,e.2)
def FO(t:bH):Bool:=decide (4<=t.length/\t.take 4=[105,109,97,112])
def sB(s:bH):Bool:=kY s&&FO (kH s)&&(sY (kH s)).2.2&&decide ((sY (kH s)).2.1=[])&&wU (sY (kH s)).1&&decide (iS (sY (kH s)).1=s)
def getM(s:bH):jD:=if sB s then(sY (kH s)).1 else⟨0,0,0,[]⟩
def UC(s:bH):Int:=if sB s then 0 else 90
def aL.lay(D:aL)(n s:bH):Int×aL:=kS (D.create n) fun D=>kS (D.append n s) fun D=>D.sync n
def o8(D:aL)(n:Nat)(l:List dB)(f:bH):Int×aL:=if D.down then(61,D)else if D.free-(lU l).length-f.length<6000 then(60,D)
 else kS (D.lay (wE n) f) fun D=>D.lay (nN n) (lU l)
def pG(D:aL)(n:Nat):Int×aL:=if(D.delete (nN n)).1=61 then D.delete (nN n)
 else if((D.delete (nN n)).2.delete (wE n)).1=61 then(D.delete (nN n)).2.delete (wE n)
 else(0,((D.delete (nN n)).2.delete (wE n)).2)
def kX(D:aL)(n:Nat):Int×Option (List dB):=if D.down then(61,none)else match bO D.files (nN n)with
 |none=>(90,none)
 |some f=>if kT f.data then(0,some (rY f.data))else(90,none)
def pP(D:aL):Int×jD:=if D.down then(61,⟨0,0,0,[]⟩)else match bO D.files fE with
 |none=>(4,⟨0,0,0,[]⟩)
 |some f=>(UC f.data,getM f.data)
def qV(D:aL)(m:jD):Int×aL:=if D.down then(61,D)else kS D.gS fun D=>if D.free-(iS m).length<6000 then(60,D)else D.GZ fE (iS m)
def lV(m:jD)(n:bH):Bool:=decide (n=dI)||match jY n with
 |some (c,k)=>(decide (c=116)||decide (c=98))&&!m.fP.flatten.contains k
 |none=>false
def aL.XB(D:aL):List bH->Int×aL
 |[]=>(0,D)
 |n::l=>kS (D.delete n) fun D=>D.XB l
def mE(D:aL)(m:jD):Int×aL:=if D.down then(61,D)else D.XB (D.names.filter (lV m))
structure aZ where
 cZ:jD
 mem:List dB
 fI:Nat->Option (List dB)
def jM(t:Nat->Option (List dB))(n:Nat)(l:Option (List dB)):Nat->Option (List dB):=fun k=>if k=n then l else t k
def pU(D:aL):List Nat->(Nat->Option (List dB))->Int×(Nat->Option (List dB))
 |[],t=>(0,t)
 |n::l,t=>if(kX D n).1≠0 then((kX D n).1,t)else pU D l (jM t n (kX D n).2)
def xF(D:aL)(m:jD):Int×Option aZ:=if D.down then(61,none)
 else if(pU D m.fP.flatten fun _=>none).1≠0 then((pU D m.fP.flatten fun _=>none).1,none)
 else(0,some ⟨m,[],(pU D m.fP.flatten fun _=>none).2⟩)
def nR(I:aZ)(D:aL)(m:jD)(n:Nat)(l:List dB)(f:bH):Int×aZ×aL:=let r:=kS (o8 D n l f) fun D=>qV D m
 if r.1≠0 then(r.1,I,(pG r.2 n).2)
 else if(kX r.2 n).1≠0 then((kX r.2 n).1,I,r.2)
 else(0,{I with cZ:=m,fI:=jM I.fI n (kX r.2 n).2},r.2)
def jS(I:aZ)(G:cS)(D:aL)(f:bH):Int×aZ×cS×aL:=if(gO G D).1≠0 then((gO G D).1,I,(gO G D).2.1,(gO G D).2.2)
 else if I.mem=[]then(0,I,(gO G D).2.1,(gO G D).2.2)
 else if 40<=I.cZ.fP.flatten.length then(60,I,(gO G D).2.1,(gO G D).2.2)
 else
  let r:=nR I (gO G D).2.2 ⟨I.cZ.next+1,kF G.bV,I.cZ.aX,pY I.cZ.fP I.cZ.next⟩ I.cZ.next I.mem f
  (r.1,if r.1=0 then {r.2.1 with mem:=[]} else r.2.1,(gO G D).2.1,r.2.2)
def lE(I:aZ)(D:aL):List Nat->Int×aZ×aL
 |[]=>(0,I,D)
 |n::l=>if(pG D n).1≠0 then((pG D n).1,{I with fI:=jM I.fI n none},(pG D n).2)else lE {I with fI:=jM I.fI n none} (pG D n).2 l
def lK(I:aZ)(D:aL)(k:Int)(f:bH):Int×aZ×aL:=if k<0\/5<=k then(2,I,D)
 else if I.cZ.fP.getD k.toNat []=[]then(4,I,D)
 else
  let a:=I.cZ.fP.getD k.toNat []
  let r:=nR I D ⟨I.cZ.next+1,I.cZ.check,I.cZ.aX,mZ I.cZ.fP k.toNat I.cZ.next⟩ I.cZ.next (kI (a.map fun n=>(I.fI n).getD [])) f
  if r.1≠0 then r else lE r.2.1 r.2.2 a
def FE(I:aZ)(h:Nat)(f t:Int):List dB:=kI (kW I.mem h (max f 0) (min t 1073741824)::I.cZ.fP.flatten.map fun n=>kW ((I.fI n).getD []) h (max f 0) (min t 1073741824))
def yE(I:aZ)(h:Nat)(t:Int):Int:=(I.cZ.fP.flatten.map fun n=>(I.fI n).getD []).foldl (fun o l=>match kO l h (min t 1073741824)with|some e=>max o e.2.1|none=>o) (match kO I.mem h (min t 1073741824)with|some e=>e.2.1|none=>-1)
def Reads.cL8{w:aI}(h:Reads w v n k X):Reads w.drew v n k X:=h
def bx4(h:uQ o L=n)(a:¬L[n]?=o):pW L o=L.take n++o::L.drop n:=by unfold pW;rw[h,aP a]
def bl7(h:uQ o L=n)(a:L[n]?=o):pW L o=L:=by unfold pW;rw[h,aV a]
def cr5(a:pJ w (.slice (zp n) k m) L)(l:L=k)(j:i<=k)(b:aI)(f:aR w w b):Reads b (.slice (zp n) i m) 3 i (gV (L.take i)):=by
 have g:=a.cells;have h:=(pJ.sliced a 0 i m (bK _) (by omega) (by omega) dQ).1.next f;have e:(List.take (i-0) (List.drop 0 L))=L.take i:=(by simp);rw[e]at h;have c:(L.take i)=i:=(by simp;omega);rw[c]at h;have d:Go.sliced (zp n) 0 i m 3=.slice (zp n) i m:=by unfold Go.sliced;split<;>simp[Addr.add_lit]
 rwa[d]at h
def cr6(a:pJ w (.slice (zp n) k m) L)(l:L=k)(j:i<k)(b:aI)(f:aR w w b):Reads b (.slice (zp n (i*3)) (k-i) (m-i)) 3 (k-i) (gV (L.drop i)):=by
 have g:=a.cells;have h:=(pJ.sliced a i k m (by omega) (by omega) (by omega) dQ).1.next f;have e:(List.take (k-i) (List.drop i L))=L.drop i:=aT (by simp;omega);rw[e]at h;have c:(L.drop i)=k-i:=(by simp;omega);rw[c]at h;have d:Go.sliced (zp n) i k m 3=.slice (zp n (i*3)) (k-i) (m-i):=by unfold Go.sliced;rw[aP (by omega)];simp[Addr.add_lit]
 rwa[d]at h
def bg2(w:aI)(A:Option Addr)(c:Nat)(a:c<=maxLen):Reads w (.slice A 0 c) 3 0 []:=⟨A,c,rfl,bK _,a,rfl,λh=>absurd h (by omega)⟩
abbrev lW:=Nat×bH
def uY(a:Nat)(r:lW):List dB:=(List.range (lH r.2).2.2.length).map fun i:Nat=>(mA a (lb (lH r.2).1),(lH r.2).2.1+(i:Int),(r.1:Int))
def fZ(aX:Nat)(R:List lW):List dB:=R.flatMap (uY aX)
def M1:Option lW->Int×bH×Nat×Nat
 |none=>(4,[],0,0)
 |some r=>(0,r.2,r.1,r.1+r.2.length+12)
def MT(G:cS)(D:aL):Nat->List lW->Prop
 |pos,[]=>EH G D (pos:Nat)=M1 none
 |pos,r::rs=>EH G D (pos:Nat)=M1 (some r)/\pos<=r.1/\MT G D (r.1+r.2.length+12) rs
def lC(D:aL)(G:cS)(a:Nat):Int×Option aZ:=if(pP D).1≠0 then((pP D).1,none)
 else if(pP D).2.aX≠a\/kF G.bV<(pP D).2.check then(90,none)
 else xF D (pP D).2
def qQ(D:aL)(I:aZ)(a:Nat)(b:Nat->List lW):Int×Option aZ×aL:=if(mE D I.cZ).1≠0 then((mE D I.cZ).1,none,(mE D I.cZ).2)
 else(0,some {I with mem:=(fZ a (b I.cZ.check)).foldl pW I.mem},(mE D I.cZ).2)
def xP(a:Nat):aZ:=⟨⟨0,0,a,[]⟩,[],fun _=>none⟩
def fY(D:aL)(G:cS)(aX:Nat)(rs:Nat->List lW):Int×Option aZ×aL:=if(lC D G aX).1=61 then(61,none,D)
 else match (lC D G aX).1,(lC D G aX).2 with
 |0,some I=>qQ D I aX rs
 |_,_=>if(D.delete fE).1=61 then(61,none,(D.delete fE).2)else qQ (D.delete fE).2 (xP aX) aX rs
variable{C:List (List bH)}{D:aL}
def qW(n:Nat)(ps:List bH):List lW:=(List.range ps.length).map fun i=>(n*4096+jB (fC (n:Int)) ps i,ps.getD i [])
def dF(C:List (List bH)):List lW:=(C.mapIdx qW).flatten
def mK(C:List (List bH))(a:List bH):dF (C++[a])=dF C++qW C a:=by unfold dF;rw[List.mapIdx_concat,iO];simp
@[simp] def cv2(n:Nat)(a:List bH):(qW n a).length=a:=by simp[qW]
def bm8(a:List bH)(i j:Nat)(h:j<i):(a.take i).getD j []=a.getD j []:=by rw[aY,aY,iV h]
def bG5(a:bH)(b:List bH)(i j:Nat)(h:j<=i):jB a (b.take i) j=jB a b j:=by unfold jB;rw[l5,fX h]
def bf8(n:Nat)(a:List bH)(i:Nat)(h:i<=a):qW n (a.take i)=(qW n a).take i:=by unfold qW;rw[<-qX,List.take_range,b8];apply JT;intro j b;have b:=gB.1 b;rw[bG5 _ _ _ _ (by omega),bm8 _ _ _ (by omega)]
def YP(n:Nat)(b:List bH)(p:bH):qW n (b++[p])=qW n b++[(n*4096+(eD n b),p)]:=by
 unfold qW;rw[aO,vO,sD,iC];congr 1
 .apply JT;intro j a;have a:=gB.1 a;rw[TW _ _ _ _ (by omega),aY,aY,fO a]
 simp only[dU,xY];rw[TW _ _ _ _ dQ,CK];simp[eD]
def bF1(n:Nat)(a:List bH):(qW n a).map (·.2)=a:=by
 unfold qW;rw[DF];apply xZ
 .simp
 intro i b c;simp at b|-;rw[aJ c];rfl
def CI{e:Type}{P:List e->Prop}(h0:P [])(h1:∀l a,P l->P (l++[a])):∀l,P l:=λl=>by
 have:∀n (l:List e),l.length=n->P l:=by
  intro n;induction n with
  |zero=>intro l b;rw[eG.1 b];exact h0
  |succ n d=>intro l b;have c:l≠[]:=(by rintro rfl;simp at b);rw[<-gL c];exact h1 _ _ (d _ (by simp[b]))
 exact this _ l rfl
def tZ(C:List (List bH)):(dF C).map (·.2)=C.flatten:=by
 induction C using CI with
 |h0=>rfl
 |h1 C b a=>rw[mK,iC,a,bF1];simp
def sA(C:List (List bH)):(dF C).length=C.flatten:=by rw[<-tZ,gK]
def rL(C:List (List bH))(a:List bH):fB (C++[a])=fB C++[(eD C a).length]:=by unfold fB;rw[List.mapIdx_concat]
@[simp] def ai4(C:List (List bH)):(fB C).length=C:=by simp[fB]
def bO5(l:List Nat)(k:Nat):kF (l++[k])=l*4096+k:=by simp[kF]
def yR(C:List (List bH))(a:List bH):kF (fB (C++[a]))=C*4096+(eD C a):=by rw[rL,bO5,ai4]
def Q9{n:Nat}(h:n<=199)(a:List bH):12<=(eD n a).length:=by have:=RH (fC (n:Int)) a a;rwa[CK,jZ h]at this
def zJ(h:KH C):kF (fB C)<=C*4096:=by
 induction C using CI with
 |h0=>exact cV _
 |h1 C b a=>rw[yR];have:=h.2.2 C (by simp);rw[fM dQ]at this;simp at this|-;omega
def KH.front{c:List bH}(h:KH (C++[c])):KH C:=by refine⟨by have:=h.1;simp at this;omega,λp b=>h.2.1 p (by simp[b]),λn a=>?_⟩;have:=h.2.2 n (by simp;omega);rwa[jT a]at this
def KH.last{C:List (List bH)}{a:List bH}(h:KH (C++[a])):(eD C a).length<=4096/\(∀p∈a,p.length<=2000)/\C.length<=199:=by refine⟨?_,h.2.1 a (by simp),by have:=h.1;simp at this;omega⟩;have:=h.2.2 C (by simp);rw[fM dQ]at this;simpa using this
def CX(n:Nat)(a:List bH)(i:Nat):(eD n (a.take i))=jB (fC (n:Int)) a i:=rfl
def as5(n:Nat)(a:List bH)(i:Nat):(eD n a).take (jB (fC (n:Int)) a i)=eD n (a.take i):=by
 have e:eD n a=eD n (a.take i)++((a.drop i).map kE).flatten:=by unfold eD sV;rw[bT,<-iO,<-iC,bX]
 rw[e,<-CX,mP]
def KH.cut{d:List bH}(h:KH (C++[d]))(i:Nat):KH (C++[d.take i]):=by
 refine⟨by have:=h.1;simp at this|-;omega,λq a p c=>?_,λn f=>?_⟩
 .rcases cB.1 a with a|a
  .exact h.2.1 q (by simp[a]) p c
  rw[bP]at a;subst a;exact h.last.2.1 p (lM c)
 rcases cK n C with b|b
 .rw[jT b];exact h.front.2.2 n b
 have e:n=C:=(by simp at f;omega);subst e;rw[fM dQ];simp only[iM,dA];rw[CX];exact aM (BJ _ _ _) h.last.1
def JQ(C a:List (List bH))(S P:Nat):Prop:=∃r,dF a=(dF C).take r/\S<=r/\r<=(dF C).length/\∀i (h:i<(dF C).length),r<=i->P<=((dF C)[i]).1
def JQ.refl(P:Nat)(h:n<=C.flatten):JQ C C n P:=⟨dF C,by simp,by rw[sA];exact h,dQ,λi a b=>by omega⟩
def cp7(H:bH)(a:List bH)(c:Nat)(h:H<=c):∃i,i<=a.length/\jB H a i<=c/\(i<a.length->c<jB H a (i+1)):=by
 have:∀k,∃i,i<=min k a.length/\jB H a i<=c/\(i<min k a.length->c<jB H a (i+1)):=by
  intro k;induction k with
  |zero=>exact⟨0,bK _,by rw[an5];exact h,λh=>by omega⟩
  |succ k l=>
   have⟨i,e,b,d⟩:=l;by_cases j:i<min k a.length
   .exact⟨i,by omega,b,λ_=>d j⟩
   by_cases f:jB H a (i+1)<=c/\i<a.length
   .exact⟨i+1,by omega,f.1,λh=>by omega⟩
   exact⟨i,by omega,b,λh=>by
    by_cases g:jB H a (i+1)<=c
    .exact absurd ⟨g,by omega⟩ f
    omega⟩
 have⟨i,e,b,d⟩:=this a.length;rw[cJ5]at e d;exact⟨i,e,b,d⟩
def bm1(h:n<=199):(fC (n:Int) != [])=true:=by have:=jZ h;rw[sW];intro e;rw[e]at this;cases this
def ad2(g:n<=199)(b:List (List bB))(c:Nat)(j:c<=(eD n b)):cOk ((eD n b).take c) (n:Int)=true/\WL ((eD n b).take c) (n:Int)=decide (12<=c):=by
 have d:=jZ g;have f:=bm1 g;unfold cOk WL eD at *;rw[f,fQ,fQ];generalize fC (n:Int)=H at *;have a:((sV H b).take c)=c:=(by simp;omega);unfold sV at *;by_cases h:12<=c
 .have e:pre ((H++(b.map kE).flatten).take c) H=true:=by unfold pre;rw[a,d,bZ h,fQ,l5,fX h,<-d,mP];simp
  rw[e,bZ h];simp
 have e:pre ((H++(b.map kE).flatten).take c) H=false:=by unfold pre;rw[a,d,bN h];rfl
 have i:pre H ((H++(b.map kE).flatten).take c)=true:=by unfold pre;rw[a,d,bZ (by omega),fQ,gE (by omega)];simp
 rw[e,i,bN h];simp
def bw7(c:n<=199){f:fK}{a:List bH}{k:Nat}(q:∀p∈a,p.length<=2000)(o:bO D.files (iJ n)=f)(m:k<=(eD n a))(b:f.data=(eD n a).take k):(k<12->D.load n=((f.data,0),0))/\(12<=k->∃i,i<=a.length/\jB (fC (n:Int)) a i<=k/\(i<a.length->k<jB (fC (n:Int)) a (i+1))/\D.load n=((f.data,jB (fC (n:Int)) a i),0)):=by
 have⟨d,e⟩:=ad2 c a k m;rw[<-b]at d e;unfold aL.load;rw[o];simp only[d,eH];unfold aj8;rw[e];constructor
 .intro h;rw[bN (by omega)];rfl
 intro h;have⟨i,g,j,l⟩:=cp7 (fC (n:Int)) a k (by rw[jZ c];exact h);refine⟨i,g,j,l,?_⟩;rw[bZ h,aV rfl];have:=(ar6 (fC (n:Int)) a k i g q j l m).2;rw[jZ c]at this;unfold eD at b;rw[b,show(12:Int)=((12:Nat):Int)from rfl,this]
def bL0{n:Nat}(c:n<=199){f:fK}{a:List bH}(j:∀p∈a,p.length<=2000)(g:bO D.files (iJ n)=f)(b:f.data=eD n a):D.load n=((eD n a,(eD n a).length),0):=by
 have⟨i,k,l,d,e⟩:=(bw7 c j g dQ (by rw[b,eX])).2 (Q9 c a);rw[e,b];have:i=a:=by
  rcases cK i a with h|h
  .have:=d h;have:=BJ (fC (n:Int)) a (i+1);unfold eD at *;omega
  omega
 subst this;rw[CK];rfl
def bg4(C:List (List bH))(b:KH C)(l:∀n (h:n<C.length),∃f,bO D.files (iJ n)=some f/\f.data=eD n C[n])(o:C.length<=199):∀k n,n+k=C.length->nF D (C+1) (k+1) n ((fB C).take n)=wF D C (D.load C).1.1 (D.load C).1.2 (fB C)\/(D.load C).2≠0:=by
 intro k;induction k with
 |zero=>
  intro n i;have:n=C.length:=(by omega);subst this;by_cases h:(D.load C.length).2=0
  .left;rw[nF,aP (by simpa using h),aV rfl,aT (by simp)]
  exact .inr h
 |succ k m=>
  intro n i;have a:n<C.length:=(by omega);have⟨f,g,d⟩:=l n a;have j:=bL0 (by omega) (b.2.1 _ (dC a)) g d;rw[nF,j,aP (by simp),aP (by omega)];have c:=Q9 (n:=n) (by omega) C[n];rw[aP (by simp only;omega)];have:=m (n+1) (by omega);have e:(fB C).take (n+1)=(fB C).take n++[(eD n C[n]).length]:=by rw[jO (by simpa using a)];simp[fB]
  rwa[e]at this
variable{f l:cA}
def NF(n:Nat)(h:n<=999999):dI≠iJ n:=λe=>by have:=uC h;rw[<-e,C4]at this;cases this
def ct7(n:Nat)(h:n<=999999):fE≠iJ n:=λe=>by have:=uC h;rw[<-e,NA]at this;cases this
def xH:dI≠fE:=by decide
def EG{n:Nat}(b:n<=999999)(c:k<=999999)(h:iJ n=iJ k):n=k:=by have a:=uC b;rw[h,uC c]at a;cases a;rfl
def EL:¬isC dI:=λ⟨k,h⟩=>by rw[C4]at h;cases h
def aO0(n:bH):Prop:=¬isC n/\n≠dI
def ch8(h:Sys n k D.files)(a:bO D.files dI=none):dZ D.files+6000<=n:=by rw[bA3 a];exact h.room
structure InO(b N:Nat)(c:cA)(C:List (List bH))(S P:Nat)(l:cA):Prop where
 sys:Sys b N l
 stay:iW aO0 c l
 log:∃a,zB l a S P/\KH a/\JQ C a S P
def InO.kJ{n k:Nat}(h:InO n k l C m i f)(a:List Int):InO n k l C m i (eR f a):=by have⟨b,c,d,e⟩:=h.log;exact⟨h.sys.kJ a,h.stay.trans (iW.kJ _ h.sys.oW.sync a),b,c.stay (iW.kJ _ h.sys.oW.sync a),d,e⟩
def InO.next{cap n:Nat}{a:List (List bH)}{k P:Nat}{f Z:cA}(h:InO cap n l C k P f)(d:Sys cap n Z)(b:iW aO0 f Z)(c:zB Z a k P)(e:JQ C a k P):InO cap n l C k P Z:=⟨d,h.stay.trans b,a,c,c.ok,e⟩
def QZ{q:bH->Prop}(a:¬q dI)(l:cA)(f:fK):iW q l (eC l dI f):=iW.put a f
def RF(l:cA)(n:bH)(f g:fK):eC (eC l n f) n g=eC l n g:=by
 induction l with
 |nil=>simp[eC]
 |cons p l c=>
  have⟨m,h⟩:=p;by_cases a:m=n
  .subst a;simp[eC]
  by_cases b:n<m
  .simp[eC,a,b]
  simp[eC,a,b,c]
def F9(l:cA)(b s:bH):cA:=eC (kN (kN (eC l dI ⟨s,s.length⟩) b) dI) b ⟨s,s.length⟩
def uI{x s:bH}(c:dI≠x)(n:bH):bO (F9 l x s) n=if x=n then some ⟨s,s⟩else if dI=n then none else bO l n:=by
 unfold F9;rw[fF,iK,iK,fF];split
 .rfl
 rename_i a;split
 .rfl
 rename_i b;rfl
def br0(h:CZ l)(b s:bH):CZ (F9 l b s):=(((h.put dI dQ).del b).del dI).put b dQ
def br1(h:CZ l){x s:bH}(c:dI≠x)(q:bO l dI=none):mD rS (F9 l x s)+((bO l x).map λg=>g.data.length).getD 0=mD rS l+s:=by unfold F9;have i:=h.put dI (f:=⟨s,s⟩) dQ;have j:=i.del x;have p:=j.del dI;have d:=DV h.kV rS dI ⟨s,s⟩;have a:=DX i.kV rS x;have e:=DX j.kV rS dI;have b:=DV p.kV rS x ⟨s,s⟩;have n:rS dI=true:=(by decide);have o:rS x=false:=bN (λh=>c h.symm);have k:bO (eC l dI ⟨s,s⟩) x=bO l x:=(by rw[fF,aP c]);have m:bO (kN (kN (eC l dI ⟨s,s⟩) x) dI) x=none:=(by rw[iK,aP c,iK,aV rfl]);rw[n]at d e;rw[o]at a b;rw[k]at a;rw[m]at b;simp at d a e b;omega
def at8(h:Sys n k l){x s:bH}(b:dI≠x)(d:bO l dI=none)(e:bi6 k x)(i:mD rS l+s+6000<=n+((bO l x).map λg=>g.data.length).getD 0):Sys n k (F9 l x s):=⟨br0 h.oW x s,λj f a=>by
 rw[uI b]at a;split at a
 .rename_i c;rw[<-c];exact e
 split at a
 .cases a
 exact h.names j f a,by have:=br1 h.oW (s:=s) b d;omega⟩
def at6(u:D.down=false)(e:D.cap=n)(B:Sys n k D.files)(O:k<=98)(A:bO D.files dI=none)(b s:bH)(P:jR b=true)(t:dI≠b)(g:dZ D.files+s<=n)(I:cA->Prop)(o:∀l i,I l->I (eR l i)) (M:I D.files) (a:∀f,f.sync<=f.data->I (eC D.files dI f)) (N:I (F9 D.files b s)) :Good D (D.GZ b s) (λG=>G.files=F9 D.files b s) I:=by
 unfold aL.GZ;have Q:=B.oW;refine((Q6 u bi9 A (B.yG O)).NZ o M (a _ dQ)).then λp v c _ j=>?_;have J:bO p.files dI=some ⟨[],0⟩:=by rw[j,fF,aV rfl]
 have R:dZ p.files=dZ D.files:=by rw[j];have:=lB Q.kV dI ⟨[],0⟩;rw[A]at this;simp at this;exact this
 have C:eC p.files dI ⟨[]++s,0⟩=eC D.files dI ⟨s,0⟩:=(by rw[j,RF];rfl);refine((J7 v J s (by rw[R,c,e];exact g)).NZ o (by rw[j];exact a _ dQ) (by rw[C];exact a _ (bK _))).then λq w y _ m=>?_;rw[C]at m;have K:bO q.files dI=some ⟨s,0⟩:=(by rw[m,fF,aV rfl]);have E:eC q.files dI ⟨s,s⟩=eC D.files dI ⟨s,s⟩:=(by rw[m,RF]);refine((QX w K).NZ o (by rw[m];exact a _ (bK _)) (by show I (eC q.files dI ⟨s,s⟩);rw[E];exact a _ dQ)).then λr x z _ d=>?_;have d:r.files=eC D.files dI ⟨s,s⟩:=d.trans E;have L:bO r.files dI=some ⟨s,s⟩:=(by rw[d,fF,aV rfl]);have F:eC (kN (kN r.files b) dI) b ⟨s,s⟩=F9 D.files b s:=(by rw[d];rfl);refine((bf0 x L P t).NZ o (by rw[d];exact a _ dQ) (by rw[F];exact N)).mono (λS _ _ _ H=>H.trans F) (λ_ h=>h)
def cH2(l:cA)(C:List (List bH)):Prop:=cN2 l C C.flatten.length (kF (fB C))
def ND(b:KH C)(g:AP l C)(m:FW l)(i:NoC l C){n k:Nat}(e:n<=C.flatten)(d:k<=kF (fB C))(o:C=[]->n=0/\k=0):zB l C n k:=by
 induction C using CI with
 |h0=>obtain⟨rfl,rfl⟩:=o rfl;exact .none i
 |h1 C c _=>
  refine .some C c n k b (λp h=>?_) ?_ (by simpa using i)
  .have:=g p (by simp;omega);rwa[jT h]at this
  have⟨f,h1,a,j⟩:=g C (by simp);rw[fM dQ]at a;simp only[iM,dA]at a;have:=m _ _ h1;refine⟨f,eD C c,h1,dQ,by rw[eX];exact a,by rw[<-a];exact this,.inr ⟨c,dQ,?_,?_,?_⟩⟩
  .rw[yR]at d;rw[CK];exact d
  .rw[CK];rwa[a]at j
  simp only[iO,aO,iA,bs0,gM]at e;exact e
def U9(a:KH C)(b:AP l C)(g:FW l)(e:NoC l C):cH2 l C:=⟨ND a b g e dQ dQ (λh=>by subst h;exact⟨rfl,rfl⟩),λn h=>by have⟨f,c,d,_⟩:=b n h;exact⟨f,c,d⟩⟩
end Go.Proofs.YtpopikndggffaaaGreatDoor
