/- TOP, part 20. -/
import Derived.Lib.SmallJoins
import Derived.Test.YtpopikndggffaaaGreatDoorGm16
import Derived.Test.YtpopikndggffaaaGreatDoorGm17
import Derived.Test.YtpopikndggffaaaGreatDoorGm18
namespace Go.Proofs.YtpopikndggffaaaGreatDoor
set_option linter.all false
set_option maxRecDepth 100000
set_option maxHeartbeats 16000000
open Go.RowKit Go.Maps Tryz
variable{w:aI}{v:aN}
def ag0(p:vC):(zY p).length=7:=rfl
def I8.later{w:aI}{A:Option Addr}{n c:Nat}{X:List vC}(h:I8 w (.slice A n c) X)(g:0<X.length):∃b a,A=some ⟨b,a,none⟩/\b<w.heap.size/\
 ∀(i:Nat)(p:vC),X[i]?=some p->∀d:aI,aS w.heap.size w d->d.cell? ⟨b,a+i*7,none⟩=some (.int .i64 p.2.kind)/\d.cell? ⟨b,a+i*7+1,none⟩=some (.string p.2.name)/\d.cell? ⟨b,a+i*7+2,none⟩=some (.int .i64 p.2.a)/\d.cell? ⟨b,a+i*7+3,none⟩=some (.int .i64 p.2.b)/\d.cell? ⟨b,a+i*7+4,none⟩=some p.1.1/\d.cell? ⟨b,a+i*7+5,none⟩=some p.1.2/\d.cell? ⟨b,a+i*7+6,none⟩=some (.string p.2.text):=by obtain⟨b,a,j,f,l⟩:=(Reads.each ag0 h.1).2.2.2 g;refine⟨b,a,j,f,λi e m d k=>?_⟩;have h:=l i e m d k;exact⟨by simpa[zY]using h 0 (by omega),by simpa[zY,fL]using h 1 (by omega),by simpa[zY,fL]using h 2 (by omega),by simpa[zY,fL]using h 3 (by omega),by simpa[zY,fL]using h 4 (by omega),by simpa[zY,fL]using h 5 (by omega),by simpa[zY,fL]using h 6 (by omega)⟩
def cl4{l:List Ev}{st:aT}(e:WE w v l)(h:st.size<=maxLen):aa3 (w.alloc (.cells #[.int .u8 0,.string st,.int .i64 0,.int .i64 0,v] 37)) (.slice (some ⟨w.heap.size,0,none⟩) 1 1) [(v,⟨0,st,0,0,l⟩)]:=by
 have b:=Row.new w #[.int .u8 0,.string st,.int .i64 0,.int .i64 0,v] 37;have d:=cI w (.cells #[.int .u8 0,.string st,.int .i64 0,.int .i64 0,v] 37);refine⟨⟨_,_,rfl,aO _,by unfold maxLen;omega,rfl,λ_=>⟨w.heap.size,0,rfl,b.lt,λj f=>?_⟩⟩,λp g=>?_⟩
 .have a:j<5:=(by simpa[aP5]using f);have c:=b.cell j (by simpa using a);rw[jB];rw[c];rfl
 rw[bT.1 g];exact⟨e.next d,by simp only;omega,h,by simp only;omega,by simp only;omega⟩
def ct5(X:List vC)(a:Nat)(e:eT):Prop:=∃b,e=.returned (.bool b)/\(b=false->X.length<=a/\∀p∈X,TA p)
def aH6(v:aN)(X:List vC)(d:Nat)(w:aI)(h:I8 w v X)(hm:d<=1000):
 Calls prog 6 #[v,.int .i64 d] w λe w'=>aS w.heap.size w w'/\ct5 X d e:=by
  obtain⟨A,c,rfl,R,S,-⟩:=id h.1;obtain⟨n,hn⟩:∃n,n=X.length:=⟨_,rfl⟩;have⟨HN,H⟩:=aA hn h;unfold maxLen at S;have h0:n<=9223372036854775807:=(by omega);rw[<-hn]at R|-;clear h hn;have h4:=aH h0;have h8:(d:Int)<=1000:=(by omega);clear h0 R S;go_in;go_wp2_with fail
  go_loopw [5] (λi wr=>∃k:Nat,k<=n/\i=.int .i64 k/\(∀m p,m<k->X[m]?=some p->TA p)/\aS w.heap.size w wr) (λi _=>n-(intOf i).toNat)
  .exact⟨0,by omega,rfl,λm p hm=>by omega,aY _ _⟩
  obtain⟨k,hk,rfl,B,Q⟩:=hrel;have⟨u,q⟩:=aA B Q;clear B Q;by_cases Y:k<n
  .have i1:(k:Int)<n:=(by omega);obtain⟨p,o⟩:∃p,X[k]?=some p:=⟨_,aK (by have:=HN.out;omega)⟩;obtain⟨b,g,rfl,P,l⟩:=H.out.later (by have:=HN.out;omega);have f:=λ(x:dY wr)=>l k p o x.it (aJ q.out x.ok);have h5:=(H.out.2 p (bD o)).next q.out;obtain⟨⟨pe,pk⟩,⟨kd,nm,pa,pb,pl,kp,tx⟩⟩:=p;dsimp only at f;obtain⟨he,J,-,-,K,-,-,h1⟩:=h5;dsimp only at he J K h1;obtain⟨D,E,rfl,T,U,-⟩:=id he.1;obtain⟨Ak,ck,rfl,V,W,-⟩:=id J;have c1:=λx=>(f x).2.1;have c4:=λx=>(f x).2.2.2.2.1;have c5:=λx=>(f x).2.2.2.2.2.1;have c6:=λx=>(f x).2.2.2.2.2.2;have⟨HE,HP,h3⟩:=aB he o K;obtain⟨s,F⟩:∃s,s=pl.length:=⟨_,rfl⟩;obtain⟨L,G⟩:∃L,L=kp.length:=⟨_,rfl⟩;rw[<-F]at c4;rw[<-G]at c5;have⟨H5,H6⟩:=aA F G;clear l f he o T U V W P K h1 J F G;have M:=aH (λ(y:aI)(hy:aS wr.heap.size wr y)=>show y.cell? ⟨b,g+k*7+1,none⟩=some (.string nm)/\y.cell? ⟨b,g+k*7+4,none⟩=some (.slice D s E)from⟨c1 ⟨y,hy⟩,c4 ⟨y,hy⟩⟩);have j5:∀(x:aI),aS wr.heap.size wr x->x.cell? ⟨b,g+k*7+5,none⟩=some (.slice Ak L ck):=λx hx=>c5 ⟨x,hx⟩;have j6:∀(x:aI),aS wr.heap.size wr x->x.cell? ⟨b,g+k*7+6,none⟩=some (.string tx):=λx hx=>c6 ⟨x,hx⟩;have⟨J5,J6⟩:=aA j5 j6;clear c1 c4 c5 c6 j5 j6;(go_wp2_with fail);have D0:aS wr.heap.size wr wr.drew:=(aY _ _).drew;go_region_held3 (λz=>z.cell? ⟨b,g+k*7+1,none⟩=some (.string nm)/\z.cell? ⟨b,g+k*7+4,none⟩=some (.slice D s E)) (first|(with_reducible exact M.out _ (aY _ _))|(with_reducible exact M.out _ D0)|(with_reducible exact M.out _ (cI _ _))|(with_reducible exact M.out _ (D0.alloc D0.size _))|(with_reducible exact M.out _ (cI _ _).drew)|trace_state) (fail)
   (go_wp2_with fail);have j:=cI wr (.cells #[.int .u8 0,.string nm,.int .i64 0,.int .i64 0,.slice D s E] 37);have I:=HE.out;rw[<-H5.out]at I;have t:=bz8 _ _ 1 _ ((cl4 (st:=nm) (I.next j) h3.out).next (aY _ _).drew) (by omega);rw[bC]at t;have a:=(aJ j (cI (wr.alloc (.cells #[.int .u8 0,.string nm,.int .i64 0,.int .i64 0,.slice D s E] 37)) (.cells #[.int .u8 0,.string nm,.int .i64 0,.int .i64 0,.slice D s E] 37))).drew;have k5:=J5.out _ a;have k6:=J6.out _ a;generalize h7:((wr.alloc (.cells #[.int .u8 0,.string nm,.int .i64 0,.int .i64 0,.slice D s E] 37)).alloc (.cells #[.int .u8 0,.string nm,.int .i64 0,.int .i64 0,.slice D s E] 37)).drew=z2 at t a k5 k6|-;have r:=aH (aJ q.out a);have hw:wrap64 ((k:Int)+1)=(k:Int)+1:=(by have:=h4.out;unfold wrap64;omega);have N:=aH hw;clear hw h7 j a I D0;refine t.mono ?_;rintro e w' ⟨rfl,bb,rfl,O⟩;have h2:=aH O;clear O t;cases bb with
   |true=>go_wp2;go_ret;exact⟨r.out,true,rfl,λh=>by cases h⟩
   |false=>
    by_cases g1:300<tx.size
    .have j1:(300:Int)<tx.size:=(by omega);go_wp2;go_ret;exact⟨r.out,true,rfl,λh=>by cases h⟩
    have j1:¬(300:Int)<tx.size:=(by omega);by_cases g2:60<L
    .have j2:(60:Int)<L:=(by omega);go_wp2;go_ret;exact⟨r.out,true,rfl,λh=>by cases h⟩
    have j2:¬(60:Int)<L:=(by omega);go_wp2;go_roundw
    .
     have hw:=N.out;refine⟨k+1,by omega,by go_num,λm p hm o=>?_,r.out⟩;rcases cR m k with h9|h9
     .exact u.out m p h9 o
     obtain rfl:m=k:=(by omega);rw[HP.out]at o;cases o;obtain⟨-,h6⟩:=h2.out trivial;obtain⟨q1,q2⟩:=h6 _ (bT.2 rfl);exact⟨q1,q2,by simp only;omega,by simp only;rw[<-H6.out];omega⟩
    exact bl9 N.out Y
  obtain rfl:k=n:=by omega
  have C:∀p∈X,TA p:=λp o=>by obtain⟨m,Z,rfl⟩:=eS o;exact u.out m _ (by rw[HN.out];exact Z) (aK Z)
  have HR:=aH C;clear C Y hk;go_wp2;go_ret;refine⟨q.out,_,rfl,λh=>⟨by rw[<-HN.out];simp at h;omega,HR.out⟩⟩
def aN2(a:Int):Bool:=decide (a≠11)&&(decide (a≠12)&&(decide (a≠13)&&decide (a≠14)))
def bI6(c:Int)(n o:aT)(a b:Int)(d h:Option Addr)(g f Kn i:Nat)(w:aI):
 Calls prog 14 #[.agg #[.int .i64 c,.string n,.int .i64 a,.int .i64 b,.slice d g f,.slice h Kn i,.string o]] w λe t=>e=.returned (.bool (aN2 c))/\aS w.heap.size w t:=by
  have q:=Row.new w #[.int .i64 c,.string n,.int .i64 a,.int .i64 b,.slice d g f,.slice h Kn i,.string o] 35;have s:=q.cell 0 (by simp);simp only[bE]at s;have p:=aH (cI w (.cells #[.int .i64 c,.string n,.int .i64 a,.int .i64 b,.slice d g f,.slice h Kn i,.string o] 35));clear q;rcases(show(c=11\/c=12)\/(c=13\/c=14)\/(c≠11/\c≠12/\c≠13/\c≠14)from by omega)with(rfl|rfl)|(rfl|rfl)|⟨j,k,l,m⟩;case inr.inr=>
   have r:aN2 c=true:=(by unfold aN2;simp[j,k,l,m]);rw[r];have u:(c != 11)=true:=mW.2 j;have v:(c != 12)=true:=mW.2 k;have x:(c != 13)=true:=mW.2 l;have y:(c != 14)=true:=mW.2 m;clear r j k l m;go_in;go_wp2;go_ret;exact⟨rfl,p.out⟩
  all_goals
   go_in;go_wp2;go_ret;exact⟨rfl,p.out⟩
def JH(R:List lI)(a:Int):Option bK:=(R.find? fun r=>decide ((r.1:Int)=a)).map (·.2)
def vX(R:List lI)(s:aT)(e:cZ):Option jL:=match JH R e.2.2 with
 |none=>none
 |some p=>if(kW p).1=s/\0<=e.2.1-(kW p).2.1/\e.2.1-(kW p).2.1<(kW p).2.2.length then some (s,e.2.1,(kW p).2.2.getD (e.2.1-(kW p).2.1).toNat ev0)else none
def mX(R:List lI)(I:bA)(a:Nat)(s:aT)(f t:Int):List jL:=(DT I (lJ a (lb s)) f t).filterMap (vX R s)
def zR(R:List lI):List jL:=R.flatMap fun r=>dJ (kW r.2)
variable{B:List kK}{R:List lI}{i j k m n:Nat}{I:bA}{s:bK}{l:bZ}{t:jL}
def yG(s:aT):∀(f:Int)(l:List Ev)(t:jL),t∈eG s f l↔∃i,i<l.length/\t=(s,f+(i:Int),l.getD i ev0):=by
 intro f l;induction l generalizing f with
 |nil=>intro t;simp[eG]
 |cons a l c=>
  intro t;rw[eG,cX,c];constructor
  .rintro (rfl|⟨i,b,rfl⟩)
   .exact⟨0,by simp,by simp⟩
   refine⟨i+1,by simpa using b,?_⟩;rw[cy6,show f+1+(i:Int)=f+((i+1:Nat):Int)from by omega]
  rintro ⟨i,b,rfl⟩;cases i with
  |zero=>left;simp
  |succ i=>right;refine⟨i,by simpa using b,?_⟩;rw[cy6,show f+1+(i:Int)=f+((i+1:Nat):Int)from by omega]
def bh7(c:List kK):Prop:=c.Pairwise fun a b=>a.1=b.1->a.2.1+(a.2.2.length:Int)<=b.2.1
def xV(R:List lI):List kK:=R.map fun r=>kW r.2
def MD(R:List lI):zR R=(xV R).flatMap dJ:=by unfold zR xV;rw[List.flatMap_map]
def aG2:t∈zR R↔∃r∈R,t∈dJ (kW r.2):=by simp[zR,lG]
def an9(b:kK):(dJ b).Pairwise λx y=>x.2.1<y.2.1:=by
 unfold dJ;have:∀(l:List Ev)(f:Int),(eG b.1 f l).Pairwise λx y=>x.2.1<y.2.1:=by
  intro l;induction l with
  |nil=>intro f;exact List.Pairwise.nil
  |cons a l d=>intro f;rw[eG];refine dD.2 ⟨λt c=>?_,d (f+1)⟩;have:=(vO c).2.1;simp only;omega
 exact this _ _
def ab1(h:bh7 B)(s:aT):(dF (B.flatMap dJ) s).Pairwise λx y=>x.2.1<y.2.1:=by
 induction B with
 |nil=>exact List.Pairwise.nil
 |cons b B i=>have⟨j,k⟩:=dD.1 h;rw[eC];unfold dF at i|-;rw[iN];refine oP.2 ⟨(an9 b).filter _,i k,λx m y n=>?_⟩;have⟨e,a⟩:=eW.1 m;have⟨f,d⟩:=eW.1 n;have⟨c,l,g⟩:=lG.1 f;have⟨o,q,r,_⟩:=vO e;have⟨p,t,u,_⟩:=vO g;unfold ofT at a d;rw[bH]at a d;have:=j c l (by rw[<-o,<-p,a,d]);omega
def ay0{T S:List jL}(k:T.Pairwise λx y=>x.2.1<y.2.1)(l:S.Pairwise λx y=>x.2.1<y.2.1)(h:∀x,x∈T↔x∈S):T=S:=by
 induction T generalizing S with
 |nil=>cases S with
  |nil=>rfl
  |cons y S=>exact absurd ((h y).2 (by simp)) (by simp)
 |cons x T m=>cases S with
  |nil=>exact absurd ((h x).1 (by simp)) (by simp)
  |cons y S=>
   have⟨f,i⟩:=dD.1 k;have⟨g,j⟩:=dD.1 l;have e:x=y:=by
    have c:=(h x).1 (by simp);have d:=(h y).2 (by simp);rcases cX.1 c with rfl|c
    .rfl
    rcases cX.1 d with rfl|d
    .rfl
    have:=g _ c;have:=f _ d;omega
   subst e;rw[m i j λz=>?_];have:=h z;simp only[cX]at this;constructor
   .intro a;rcases this.1 (.inr a)with rfl|b
    .exact absurd (f _ a) (by omega)
    exact b
   intro a;rcases this.2 (.inr a)with rfl|b
   .exact absurd (g _ a) (by omega)
   exact b
def ah1(c:zT R){r:lI}(h:r∈R):JH R (r.1:Int)=r.2:=by
 unfold JH;have:R.find? (λx=>decide ((x.1:Int)=(r.1:Int)))=some r:=by
  induction R with
  |nil=>cases h
  |cons x R d=>
   have⟨a,b⟩:=dD.1 c;rcases cX.1 h with rfl|h
   .rw[TD (by simp)]
   have:=a r h;rw[List.find?_cons_of_neg (by simp;omega)];exact d b h
 rw[this];rfl
def NJ{e:Int}(h:JH R e=s):∃r∈R,r.2=s/\(r.1:Int)=e:=by
 unfold JH at h;cases a:R.find? (λr=>decide ((r.1:Int)=e))with
 |none=>rw[a]at h;cases h
 |some r=>rw[a]at h;have b:=ca6 a;have c:=List.find?_some a;exact⟨r,b,cS h,by simpa using c⟩
def ao3(m:zT R)(e:bh7 (xV R)){x y:lI}(g:x∈R)(h:y∈R)(b:x.1<y.1):(kW x.2).1=(kW y.2).1->(kW x.2).2.1+((kW x.2).2.2:Int)<=(kW y.2).2.1:=by
 unfold xV bh7 at e;rw[lO]at e;induction R with
 |nil=>cases g
 |cons r R n=>
  have⟨i,j⟩:=dD.1 m;have⟨k,l⟩:=dD.1 e;rcases cX.1 g with f|c
  .rcases cX.1 h with d|a
   .rw[f,d]at b;omega
   rw[f];exact k y a
  rcases cX.1 h with d|a
  .have:=i x c;rw[d]at b;omega
  exact n j l c a
def KT(h:rH l I k n R m)(K:zT R)(J:bh7 (xV R))(w:aT)(f t:Int):mX R I k w f t=(dF (zR R) w).filter λx=>decide (max f 0<=x.2.1)&&decide (x.2.1<=min t 1073741824):=by
 have⟨C,z⟩:=S7 h (lJ k (lb w)) f t;have v:=ab1 J w;rw[<-MD]at v;refine ay0 ?_ (v.filter _) λx=>?_
 .unfold mX;rw[co4];unfold fB at C;rw[bH]at C;refine C.imp_of_mem fun {a b} M N D x c y j=>?_;have⟨Q,S,T⟩:=(z a).1 M;have⟨U,V,W⟩:=(z b).1 N;rw[pG]at D;unfold vX at c j;cases o:JH R a.2.2 with
  |none=>rw[o]at c;cases c
  |some p=>cases s:JH R b.2.2 with
   |none=>rw[s]at j;cases j
   |some q=>
    rw[o]at c;rw[s]at j;simp only at c j;split at c
    .rename_i A;split at j
     .rename_i L;cases c;cases j;obtain⟨Y,F,rfl,G⟩:=NJ o;obtain⟨Z,u,rfl,d⟩:=NJ s;simp only;rcases Int.lt_trichotomy a.2.1 b.2.1 with E|E|E
      .exact E
      .exfalso;have:=ao3 K J F u (by omega) (A.1.trans L.1.symm);omega
      omega
     cases j
    cases c
 unfold mX dF;rw[aw5,eW,eW,aG2];simp only[bL,bH];constructor
 .rintro ⟨e,O,g⟩;have⟨F,X,G⟩:=(z e).1 O;unfold vX at g;cases c:JH R e.2.2 with
  |none=>rw[c]at g;cases g
  |some p=>
   rw[c]at g;simp only at g;split at g
   .rename_i A;cases g;obtain⟨r,u,rfl,d⟩:=NJ c;refine⟨⟨⟨r,u,?_⟩,by simp[ofT]⟩,G⟩;unfold dJ;rw[yG];refine⟨(e.2.1-(kW r.2).2.1).toNat,by omega,?_⟩;rw[A.1];refine Prod.ext rfl (Prod.ext ?_ rfl);simp only;omega
   cases g
 rintro ⟨⟨⟨r,u,B⟩,d⟩,H⟩;unfold ofT at d;rw[bH]at d;unfold dJ at B;rw[yG]at B;obtain⟨i,P,rfl⟩:=B;simp only at d H;refine⟨(lJ k (lb w),(kW r.2).2.1+(i:Int),(r.1:Int)),(z _).2 ⟨nP.2 ⟨r,u,?_⟩,rfl,H⟩,?_⟩
 .unfold tV;refine dR.2 ⟨i,gB.2 P,?_⟩;rw[d]
 unfold vX;simp only;rw[ah1 K u];simp only;have e:(kW r.2).2.1+(i:Int)-(kW r.2).2.1=(i:Int):=(by omega);rw[e,aU ⟨d,by omega,by omega⟩,d];rfl
def aj2{L:List cZ}(o:fB L=true){h:Nat}{t:Int}:(jY L h t=none->∀e∈L,e.1=h->¬e.2.1<=t)/\(∀x,jY L h t=some x->(x∈L/\x.1=h/\x.2.1<=t)/\∀e∈L,e.1=h->e.2.1<=t->e.2.1<=x.2.1):=by
 unfold jY;have r:(L.filter (lR h t)).Pairwise (λa b=>iA a b=true):=by unfold fB at o;rw[bH]at o;exact o.filter _
 have c:∀e,e∈L.filter (lR h t)↔e∈L/\e.1=h/\e.2.1<=t:=λe=>(by unfold lR;rw[eW,bH]);generalize L.filter (lR h t)=m at r c;constructor
 .intro q e l g j;rw[ca7]at q;have:=(c e).2 ⟨l,g,j⟩;rw[q]at this;cases this
 intro x p;have f:=FV p;refine⟨(c x).1 f,λe l g j=>?_⟩;have n:=(c e).2 ⟨l,g,j⟩;obtain⟨i,rfl⟩:∃i,m=i++[x]:=by
  have d:m≠[]:=(by rintro rfl;cases f);refine⟨m.dropLast,?_⟩;have:=fR d;rw[oE d]at p;rw[<-cS p];exact this.symm
 rcases cE.1 n with k|k
 .have:=(oP.1 r).2.2 e k x (by simp);rw[pG]at this;have:=((c x).1 (by simp)).2.1;omega
 rw[bT.1 k];exact Int.le_refl _
def bA1(h:rH l I k n R m)(hR:∀e∈fJ k R,pZ e=true)(h2:Nat)(u:Int):
 (wZ I h2 u=-1/\∀e∈fJ k R,e.1=h2->¬e.2.1<=min u 1073741824)\/(∃e∈fJ k R,e.1=h2/\e.2.1=wZ I h2 u/\0<=e.2.1/\e.2.1<=min u 1073741824/\∀x∈fJ k R,x.1=h2->x.2.1<=min u 1073741824->x.2.1<=e.2.1):=by
  let Q:List (List cZ)->Int->Prop:=λY o=>(o=-1/\∀L∈Y,∀e∈L,e.1=h2->¬e.2.1<=min u 1073741824)\/(∃L∈Y,∃e∈L,e.1=h2/\e.2.1=o/\e.2.1<=min u 1073741824/\∀M∈Y,∀x∈M,x.1=h2->x.2.1<=min u 1073741824->x.2.1<=o)
  have B:∀(f d:List (List cZ)) (o:Int),Q d o->(∀L∈f,fB L=true)->(∀L∈d,∀e∈L,0<=e.2.1)->(∀L∈f,∀e∈L,0<=e.2.1)->Q (d++f) (f.foldl (λo l=>match jY l h2 (min u 1073741824)with|some e=>max o e.2.1|none=>o) o):=by
   intro f;induction f with
   |nil=>intro d o K _ _ _;simpa using K
   |cons L f ih=>
    intro d o K hs W A;rw[rA,show d++L::f=(d++[L])++f from by simp];have⟨C,Z⟩:=aj2 (hs L (by simp)) (h:=h2) (t:=min u 1073741824);refine ih (d++[L]) _ ?_ (λM j=>hs M (by simp[j])) (λM j=>?_) (λM j=>A M (by simp[j]))
    .cases F:jY L h2 (min u 1073741824)with
     |none=>
      have C:=C F;simp only;rcases K with⟨v,r⟩|⟨M,j,e,a,v,r,G,H⟩
      .refine .inl ⟨v,λN b e a=>?_⟩;rcases cE.1 b with b|b
       .exact r N b e a
       rw[bT.1 b]at a;exact C e a
      refine .inr ⟨M,by simp[j],e,a,v,r,G,λN b x c g s=>?_⟩;rcases cE.1 b with b|b
      .exact H N b x c g s
      rw[bT.1 b]at c;exact absurd s (C x c g)
     |some y=>
      obtain⟨⟨J,O,P⟩,S⟩:=Z y F;have h0:=A L (by simp) y J;simp only;right;rcases K with⟨v,r⟩|⟨M,j,e,a,v,r,G,H⟩
      .refine⟨L,by simp,y,J,O,by omega,P,λN b x c g s=>?_⟩;rcases cE.1 b with b|b
       .exact absurd s (r N b x c g)
       rw[bT.1 b]at c;have:=S x c g s;omega
      have hb:∀N∈d++[L],∀x∈N,x.1=h2->x.2.1<=min u 1073741824->x.2.1<=max o y.2.1:=λN b x c g s=>by
       rcases cE.1 b with b|b
       .have:=H N b x c g s;omega
       rw[bT.1 b]at c;have:=S x c g s;omega
      rcases Int.le_total o y.2.1 with U|U
      .exact⟨L,by simp,y,J,O,by omega,P,hb⟩
      exact⟨M,by simp[j],e,a,v,by omega,G,hb⟩
    rcases cE.1 j with j|j
    .exact W M j
    rw[bT.1 j];exact A L (by simp)
  have q:∀e∈fJ k R,0<=e.2.1:=λe a=>(by have:=hR e a;unfold pZ at this;simp at this;exact this.1);have V:∀e∈I.mem,0<=e.2.1:=λe a=>q e ((h.all e).1 (.inl a));have X:∀L∈(I.cV.fC.flatten.map λh3=>(I.fA h3).getD []),∀e∈L,0<=e.2.1:=λL i e a=>by obtain⟨h3,w,rfl⟩:=dR.1 i;have⟨L,g,_⟩:=h.fA h3 w;rw[g]at a;exact q e ((h.all e).1 (.inr ⟨h3,w,L,g,a⟩))
  have z:Q [I.mem] (match jY I.mem h2 (min u 1073741824)with|some e=>e.2.1|none=>-1):=by
   have⟨C,Z⟩:=aj2 h.Q0 (h:=h2) (t:=min u 1073741824);cases F:jY I.mem h2 (min u 1073741824)with
   |none=>refine .inl ⟨rfl,λL i e a=>?_⟩;rw[bT.1 i]at a;exact C F e a
   |some y=>obtain⟨⟨J,O,P⟩,S⟩:=Z y F;refine .inr ⟨I.mem,by simp,y,J,O,rfl,P,λM j x c=>?_⟩;rw[bT.1 j]at c;exact S x c
  have E:=B (I.cV.fC.flatten.map λh3=>(I.fA h3).getD []) [I.mem] _ z (λL i=>by obtain⟨h3,w,rfl⟩:=dR.1 i;exact h.lists h3 w) (λL i=>by rw[bT.1 i];exact V) X;have p:∀e,(∃L∈[I.mem]++(I.cV.fC.flatten.map λh3=>(I.fA h3).getD []),e∈L)↔e∈fJ k R:=λe=>by
   rw[<-h.all e];constructor
   .rintro ⟨L,i,a⟩;rcases cE.1 i with i|i
    .rw[bT.1 i]at a;exact .inl a
    obtain⟨h3,w,rfl⟩:=dR.1 i;have⟨L,g,_⟩:=h.fA h3 w;rw[g]at a;exact .inr ⟨h3,w,L,g,a⟩
   rintro (T|⟨h3,w,L,g,T⟩)
   .exact⟨I.mem,by simp,T⟩
   exact⟨L,DO _ (dR.2 ⟨h3,w,by rw[g];rfl⟩),T⟩
  have c:wZ I h2 u=(I.cV.fC.flatten.map λh3=>(I.fA h3).getD []).foldl (λo l=>match jY l h2 (min u 1073741824)with|some e=>max o e.2.1|none=>o) (match jY I.mem h2 (min u 1073741824)with|some e=>e.2.1|none=>-1):=rfl;rw[c];rcases E with⟨v,r⟩|⟨L,i,e,a,v,r,G,H⟩
  .refine .inl ⟨v,λe a=>?_⟩;have⟨L,i,a⟩:=(p e).2 a;exact r L i e a
  have D:=(p e).1 ⟨L,i,a⟩;refine .inr ⟨e,D,v,r,q e D,G,λx c g s=>?_⟩;have⟨M,j,c⟩:=(p x).2 c;rw[r];exact H M j x c g s
structure kU(a:List kK):Prop where
 tT:∀b∈a,tS b
 row:∀s,ZY 0 (dF (a.flatMap dJ) s)
 ord:bh7 a
def WQ(h:kU B){s:aT}{t:jL}(b:t∈dF (B.flatMap dJ) s):0<=t.2.1/\t.2.1<((dF (B.flatMap dJ) s).length:Int):=by obtain⟨i,a,rfl⟩:=eS b;have:=h.row s i _ (aK a);rw[this];omega
def aU2(s a:aT)(f:Int)(l:List Ev):dF (eG s f l) a=if s=a then eG s f l else[]:=by
 unfold dF;by_cases h:s=a
 iterate 2
  ·(first|rw[aU h,pN]|rw[aQ h,gT]);intro t b;simp[ofT,(vO b).1,h]
def bg7(h:kU B){s:aT}{l:List Ev}(m:tS (s,((dF (B.flatMap dJ) s).length:Int),l)):kU (B++[(s,((dF (B.flatMap dJ) s).length:Int),l)]):=by
 refine⟨λb d=>?_,λf i t c=>?_,?_⟩
 .rcases cE.1 d with d|d
  .exact h.tT b d
  rw[bT.1 d];exact m
 .have e:dF ((B++[(s,((dF (B.flatMap dJ) s).length:Int),l)]).flatMap dJ) f=dF (B.flatMap dJ) f++dF (eG s ((dF (B.flatMap dJ) s).length:Int) l) f:=by rw[dU];unfold dF;rw[iN];simp[dJ]
  rw[e,aU2]at c;by_cases n:i<(dF (B.flatMap dJ) f).length
  .rw[eY n]at c;exact h.row f i t c
  rw[eA (by omega)]at c;by_cases g:s=f
  .subst g;rw[aU rfl]at c;have:=(bI7 s l _ _ t c).2;rw[this];omega
  rw[aQ g]at c;simp at c
 unfold bh7;refine oP.2 ⟨h.ord,co3 _ _,λa k b d=>?_⟩;rw[bT.1 d];intro g;simp only at g|-;have j:=h.tT a k;obtain⟨_,_,o,_,_⟩:=iM j.2;have c:(a.1,a.2.1+((a.2.2.length-1:Nat):Int),a.2.2.getD (a.2.2.length-1) ev0)∈dF (B.flatMap dJ) s:=by unfold dF;rw[eW];refine⟨lG.2 ⟨a,k,?_⟩,by simp[ofT,g]⟩;unfold dJ;rw[yG];exact⟨a.2.2.length-1,by omega,rfl⟩
 have:=(WQ h c).2;simp only at this;omega
def UU(h:kU B)(k:Nat):kU (B.take k):=by
 refine⟨λb c=>h.tT b (mL c),λs i t a=>?_,h.ord.sublist (List.take_sublist _ _)⟩;have e:dF (B.flatMap dJ) s=dF ((B.take k).flatMap dJ) s++dF ((B.drop k).flatMap dJ) s:=by
  conv=>lhs;rw[<-bY k B]
  rw[dU];unfold dF;rw[iN]
 refine h.row s i t ?_;rw[e,eY (aR.1 a).1];exact a
def ck5(h:kU B){C:List (List bK)}(f:C.flatten=B.map iT):xV (dB C)=B/\zR (dB C)=B.flatMap dJ:=by
 have e:xV (dB C)=B:=by
  have:xV (dB C)=((dB C).map (·.2)).map kW:=(by unfold xV;rw[C7];rfl);rw[this,sS,f,C7];have:∀l:List kK,(∀b∈l,tS b)->l.map (kW ∘ iT)=l:=by
   intro l;induction l with
   |nil=>intro _;rfl
   |cons b l i=>intro d;rw[dN,i (λc g=>d c (by simp[g]))];have a:=d b (by simp);show kW (iT b)::l=_;rw[(as1 a.2 a.1).1]
  exact this B h.tT
 exact⟨e,by rw[MD,e]⟩
def qK{Bs:List kK}(h:∀b∈Bs,tS b):cm0 (Bs.map iT):=λp d=>by
 obtain⟨b,c,rfl⟩:=dR.1 d;have a:=h b c;have:=WX a.2 a.1 [];rw[fU]at this;exact⟨by rw[this];rfl,(aC6 a.2).2⟩
def cb5{R:List lI}{aZ:Nat}{s:aT}{t:jL}(h:t∈dF (zR R) s):∃e∈fJ aZ R,e.1=lJ aZ (lb s)/\e.2.1=t.2.1:=by unfold dF at h;obtain⟨c,a⟩:=eW.1 h;obtain⟨r,f,b⟩:=aG2.1 c;unfold ofT at a;rw[bH]at a;unfold dJ at b;rw[yG]at b;obtain⟨i,d,rfl⟩:=b;simp only at a;refine⟨(lJ aZ (lb s),(kW r.2).2.1+(i:Int),(r.1:Int)),nP.2 ⟨r,f,?_⟩,rfl,rfl⟩;unfold tV;exact dR.2 ⟨i,gB.2 d,by rw[a]⟩
variable{C:List (List bK)}{D:aM}{G:cT}
def LU(c:isI s):aF3 s:=by
 rintro ⟨k,b⟩;obtain⟨d,a⟩:=uG b;rcases a with a|a|a
 .exact ap8 d (a.1▸c)
 .exact absurd a.2 (by decide)
 exact absurd a.2 (by decide)
def rH.cm4{f:bZ}(h:rH l I k n R m)(d:iQ aF3 l f):rH f I k n R m:=by
 have e:iQ isI l f:=d.mono λo b=>LU b;refine⟨h.cV,h.yJ,h.next,h.check,λo b=>?_,h.eqT,h.Q0,h.eqM,λj c a=>?_,h.eD.stay e⟩
 .obtain⟨L,c,a⟩:=h.fA o b;exact⟨L,c,a.stay (yU h o b).2 e⟩
 obtain⟨g,i⟩:=h.free j c a;exact⟨d.no (JQ a) g,d.no (JR a) i⟩
def rH.append{P k:Nat}(h:rH l I m n R P)(a:P<=i)(c:i<=k):rH l {I with mem:=(tV m (k,s)).foldl oV I.mem} m n (R++[(k,s)]) i:=by
 have b:=h.check;have d:(R++[(k,s)]).filter (λr=>decide (r.1<I.cV.check))=R.filter λr=>decide (r.1<I.cV.check):=RV (aL a c) _ b;have f:(R++[(k,s)]).filter (λr=>!decide (r.1<I.cV.check))=(R.filter λr=>!decide (r.1<I.cV.check))++[(k,s)]:=by
  rw[iN];congr 1;rw[j7,aU (by simp;omega)];rfl
 refine⟨h.cV,h.yJ,h.next,aL b a,h.fA,λe=>?_,DB _ h.Q0,λe=>?_,h.free,h.eD.same (RV (aL a c)) a (aO _)⟩
 .simp only;rw[d];exact h.eqT e
 simp only;rw[f,JT,ad0,cE,h.eqM e];simp[fJ]
structure cA4(b a s:Nat)(D:aM)(G:cT)(I:bA)(B:List bK)(S:Nat)(p:bK)(r:Int×Nat×cT×aM):Prop where
 tW:r.2.2.2.cap=D.cap
 bP:r.2.2.2.bP=D.bP
 it:(r=(60,0,G,D)/\(200<=G.bW.length\/D.cap<dT D.files+p.length+24+6000))\/(r.1=0/\r.2.1<1000000/\jQ b a s r.2.2.2 r.2.2.1 {I with mem:=(tV a (r.2.1,p)).foldl oV I.mem} (B++[p]) S)\/(r.1=61/\r.2.1=0/\r.2.2.2.down=true/\lN b a s r.2.2.2.files (B++[p]) S)
def QJ(h:dB C=R):C.flatten=R.map (·.2):=by rw[<-h,sS]
def QZ{B:List bK}(h:jQ n m k D G I B i){s:bK}(L:s.length<=2000):cA4 n m k D G I B i s (gU G D s):=by
 obtain⟨C,P,E,t,p⟩:=h.st;have x:=bg9 h.up h.tW (aO 98) h.sys E L;have z:(dB C).map (·.2)=B:=(by rw[sS,t]);rcases x with⟨x,y⟩|⟨a,b,c,d,e,f,g,w,M,F,q,j,v,H,J⟩|⟨a,b,c,d,e,f⟩
 .rw[x];exact⟨rfl,rfl,.inl ⟨rfl,y.imp (λh=>by rw[E.bW];simpa using h) id⟩⟩
 .have l:=q.log;have o:=l.ok;have u:(gU G D s).2.1<1000000:=by have:=FB (r:=((gU G D s).2.1,s)) o (by rw[j];simp);have:=o.1;simp only at *;omega
  refine⟨c,d,.inr (.inl ⟨a,u,b,c.trans h.tW,e,w,F,?_,?_,?_⟩)⟩
  .exact⟨l.less v,q.whole,q.bW,q.new⟩
  .rw[QJ j,iJ,z];rfl
  rw[j];exact(p.cm4 f).append H J
 refine⟨d,e,.inr (.inr ⟨a,b,c,f.sys,?_⟩)⟩;obtain⟨w,q,j⟩:=f.log;have A:iQ isI D.files (gU G D s).2.2.2.files:=f.stay.mono λO K=>LU K;refine⟨w,P,q,?_,?_⟩
 .rcases j with j|⟨N,j,v⟩
  .rw[j,t];exact List.prefix_append _ _
  rw[QJ j,iJ,z];exact o7 _
 rcases j with j|⟨N,j,v⟩
 .rw[j];exact p.eD.stay A
 rw[j];exact(p.eD.stay A).same (RV v) (aO _) (aO _)
def jQ.less{B:List bK}(h:jQ n k m D G I B i)(d:j<=i):jQ n k m D G I B j:=by obtain⟨C,P,a,b,c⟩:=h.st;exact⟨h.up,h.tW,h.sys,C,P,⟨a.log.less d,a.whole,a.bW,a.new⟩,b,c⟩
def lN.less{B:List bK}(h:lN n k m l B i)(e:j<=i):lN n k m l B j:=by obtain⟨a,C,P,b,c,d⟩:=h;exact⟨a,C,P,b.less e,c,d⟩
def jQ.more{B:List bK}(h:jQ n k m D G I B j)(d:m<=i):jQ n k i D G I B j:=by obtain⟨C,P,c,a,b⟩:=h.st;exact⟨h.up,h.tW,h.sys,C,P,c,a,b.same (aO _) d⟩
def lN.more{B:List bK}(h:lN n k m l B j)(e:m<=i):lN n k i l B j:=by obtain⟨a,C,P,b,c,d⟩:=h;exact⟨a,C,P,b,c,d.same (rR.refl _ _) (aO _) e⟩
def lN.cq5{B a:List bK}(h:lN n k m l B i)(f:B <+: a):lN n k m l a i:=by obtain⟨b,C,P,c,d,e⟩:=h;exact⟨b,C,P,c,d.trans f,e⟩
def LI{B:List bK}(h:jQ n m k D G I B i):(fY G D).2.2.cap=D.cap/\(fY G D).2.2.bP=D.bP/\(((fY G D).1=0/\jQ n m k (fY G D).2.2 (fY G D).2.1 I B B.length)\/((fY G D).1=61/\(fY G D).2.2.down=true/\lN n m k (fY G D).2.2.files B i)):=by
 obtain⟨C,P,v,e,f⟩:=h.st;have s:=RU h.up h.tW h.sys v (Ok:=λl=>l=C) rfl;have p:=at6 v.log;rcases s with⟨a,u,c,t,w,r,g,q,A,j⟩|⟨a,b,x,d,o⟩
 .refine⟨c,t,.inl ⟨a,u,c.trans h.tW,r,C,jJ (eL C),?_,e,?_⟩⟩
  .rw[<-e];exact q
  have:=f.cm4 g;exact this.same p (aO _)
 refine⟨x,d,.inr ⟨a,b,o.sys,?_⟩⟩;obtain⟨l,y,rfl⟩:=o.log;exact⟨l,P,y,by rw[e];exact o7 _,f.eD.stay (o.stay.mono λE z=>LU z)⟩
def uD(h:kU B){s:aT}{t:jL}(c:t∈dF (B.flatMap dJ) s):0<=t.2.1/\t.2.1<1073741824:=by unfold dF at c;have⟨d,_⟩:=eW.1 c;have⟨b,e,a⟩:=lG.1 d;unfold dJ at a;rw[yG]at a;obtain⟨i,j,rfl⟩:=a;have⟨_,_,_,_,f,g,_⟩:=iM (h.tT b e).2;simp only;omega
def ci6(h:rH l I k n R m)(g:zT R){B:List kK}(c:kU B)(b:xV R=B)(d:aT){a e:Int}(o:0<=a)(j:1<=e):mX R I k d a (a+min e 1073741824-1)=AB (dF (B.flatMap dJ) d) a e false:=by have f:zR R=B.flatMap dJ:=(by rw[MD,b]);rw[KT h g (by rw[b];exact c.ord),f];unfold AB;rw[aQ (by simp)];apply CA;intro t i;have:=uD c i;unfold zO;rw[aQ (by simp),j8];simp only[bL,bH];omega
def ck1(h:rH l I k n R m)(g:zT R){B:List kK}(c:kU B)(b:xV R=B)(d:aT){a e:Int}(o:0<=a)(j:1<=e):(mX R I k d (a-e+1) a).reverse=AB (dF (B.flatMap dJ) d) a e true:=by
 have f:zR R=B.flatMap dJ:=(by rw[MD,b]);rw[KT h g (by rw[b];exact c.ord),f];unfold AB;rw[aU rfl];congr 1;apply CA;intro t i;have:=uD c i;unfold zO;rw[aU rfl,j8];simp only[bL,bH];omega
def ci8(b:kU B)(d:aT){e a:Int}(f:1073741824<e):AB (dF (B.flatMap dJ) d) e a false=[]:=by unfold AB;rw[aQ (by simp),gT];intro t c;have:=uD b c;unfold zO;rw[aQ (by simp)];simp only[bL,bH];omega
def RR{a:List (List bK)}(h:IM C a n k):a.flatten <+: C.flatten/\n<=a.flatten:=by have⟨r,b,d,c,f⟩:=h;have e:a.flatten=C.flatten.take r:=(by rw[<-sS,b,uC,sS]);refine⟨by rw[e];exact List.take_prefix _ _,?_⟩;rw[e,bJ];rw[qY]at c;omega
def SG(a:isI s):aF2 s:=⟨LU a,λe=>NW (e▸a)⟩
def bw7{aZ s:Nat}(m:D.down=false)(i:D.cap=n)(x:n<=1048576){B:List bK}{k:Nat}(h:lN n aZ s D.files B k):
 (jF D).2.2.cap=D.cap/\(jF D).2.2.bP=D.bP/\
 (((jF D).1=61/\(jF D).2.2.down=true/\lN n aZ s (jF D).2.2.files B k)\/
  ∃f o,(jF D).1=0/\(jF D).2.1=some ⟨eL f,jJ (eL f)⟩/\(jF D).2.2.down=false/\Sys n 98 (jF D).2.2.files/\vF (jF D).2.2.files ⟨eL f,jJ (eL f)⟩ f f.flatten o/\EN (jF D).2.2.files aZ s (dB f) o/\f.flatten <+: B/\k<=f.flatten/\iQ isI D.files (jF D).2.2.files):=by
   have⟨v,C,P,u,q,j⟩:=h;rcases bw5 m i (aO 98) v u with⟨a,b,c,d,f,r,g⟩|⟨a,b,c,d,e⟩
   .refine⟨c,d,.inr ⟨f,jJ (eL f),a,r,b,g.sys,g.open,?_,(RR g.bI5).1.trans q,(RR g.bI5).2,g.stay.mono λy l=>SG l⟩⟩;exact(j.stay (g.stay.mono λy l=>SG l)).same (WY g.bI5) g.le.2 gC
   refine⟨c,d,.inl ⟨a,b,e.sys,?_⟩⟩;have⟨f,t,w,p⟩:=e.log;exact⟨f,P,t,(RR p).1.trans q,(j.stay (e.stay.mono λy l=>SG l)).same (WY p) gC gC⟩
def iD(C:List (List bK)):Nat->List lI:=fun k=>(dB C).filter fun r=>!decide (r.1<k)
def bL8{aZ s:Nat}(l:D.down=false)(i:D.cap=n)(o:n<=1048576)(p:Sys n 98 D.files){G:cT}{C:List (List bK)}{k:Nat}(m:vF D.files G C C.flatten k)(j:EN D.files aZ s (dB C) k):
 (fD D G aZ (iD C)).2.2.cap=D.cap/\(fD D G aZ (iD C)).2.2.bP=D.bP/\
 ((∃I,(fD D G aZ (iD C)).1=0/\(fD D G aZ (iD C)).2.1=some I/\jQ n aZ s (fD D G aZ (iD C)).2.2 G I C.flatten C.flatten)\/
  ((fD D G aZ (iD C)).1=61/\(fD D G aZ (iD C)).2.1=none/\(fD D G aZ (iD C)).2.2.down=true/\lN n aZ s (fD D G aZ (iD C)).2.2.files C.flatten C.flatten)):=by
   have h:=TX l o p m j;change let r:=fD D G aZ (iD C);_ at h
   simp only at h;rcases h with⟨I,a,b,c,d,e,f,g,q⟩|⟨a,b,c,d,e,f⟩
   .exact⟨d,e,.inl ⟨I,a,b,c,d.trans i,f,C,k,g,rfl,q⟩⟩
   exact⟨d,e,.inr ⟨a,b,c,f.sys,C,k,m.log.stay f.stay,o7 _,f.idx⟩⟩
def kH(a:List kK):List Nat:=a.map fun b=>b.2.2.length
def yB(s:aT)(l:List Ev):∀f:Int,(eG s f l).length=l:=by
 induction l with
 |nil=>intro f;rfl
 |cons e l a=>intro f;simp only[eG,cF];rw[a]
def WO(a:List kK):∀k,IV (kH a) k=((a.take k).flatMap dJ):=by
 intro k;induction k with
 |zero=>rw[af6];simp
 |succ k b=>
  rcases cR k a.length with h|h
  .have c:(kH a)[k]?=some a[k].2.2.length:=(by unfold kH;rw[oZ,aK h];rfl);rw[af7 c,b,jC h,dU,aP];congr 1;show _=([a[k]].flatMap dJ).length;simp[dJ,yB]
  have e:IV (kH a) (k+1)=IV (kH a) k:=by unfold IV kH;rw[aX (by simp;omega),aX (by simp;omega)]
  rw[e,b,aX h,aX (by omega)]
def af4(a:List kK)(k:Nat):(a.flatMap dJ).take ((a.take k).flatMap dJ)=(a.take k).flatMap dJ:=by
 conv=>lhs;arg 2;rw[<-bY k a]
 rw[dU,lZ]
def UG(h:kU B){n k:Nat}(c:n<k)(f:k<=B):((B.take n).flatMap dJ).length<((B.take k).flatMap dJ):=by
 have e:B.take k=B.take n++(B.drop n).take (k-n):=by
  conv=>lhs;rw[<-bY n B]
  rw[RF,bJ,aX (by rw[bJ];omega),show k-min n B=k-n from by omega]
 rw[e,dU,aP];have a:n<B:=by omega
 have b:(B.drop n).take (k-n)=B[n]::((B.drop (n+1)).take (k-n-1)):=by rw[<-gH a,show k-n=(k-n-1)+1 from by omega,xY];simp
 rw[b,eC,aP];have:=(iM (h.tT _ (cY a)).2).2.2.1;have d:(dJ B[n])=B[n].2.2.length:=yB _ _ _;omega
def cr5(h:kU B){n k:Nat}(c:n<=B)(d:k<=n):RJ (B.flatMap dJ) (kH B) k ((B.take n).flatMap dJ) n/\∀j,RJ (B.flatMap dJ) (kH B) k ((B.take n).flatMap dJ) j->j=n:=by
 refine⟨⟨by simpa[kH]using c,d,WO B n,af4 B n⟩,λj e=>?_⟩;have⟨b,_,f,_⟩:=e;rw[WO]at f;have b:j<=B.length:=(by simpa[kH]using b);rcases C5 j n with a|a|a
 .have:=UG h a c;omega
 .exact a
 have:=UG h a b;omega
def bN4{a:List bK}(h:a <+: B.map iT):a=(B.take a).map iT/\a.length<=B:=by have:=co2.1 h;refine⟨by rw[uC];exact this,by have:=h.length_le;simpa using this⟩
def aU1{l:List Nat}{M:Nat}(h:∀x∈l,x<=M):l.sum<=l.length*M:=by
 induction l with
 |nil=>simp
 |cons a l c=>have d:=h a (by simp);have e:=c λx b=>h x (by simp[b]);rw[kL,cF,TB];omega
structure IA(D:aM)(G:cT)(I:bA)(aZ:Nat)(C:List (List bK))(a:List kK):Prop where
 up:D.down=false
 whole:KV D.files C
 ok:J2 C
 bW:G.bW=eL C
 ix:∃s P,rH D.files I aZ s (dB C) P
 mO:kU a
 same:C.flatten=a.map iT
 yV:a.length<=1000
 JD:aZ<18446744073709551616
def jQ.stP{k:Nat}(h:jQ n k m D G I (B.map iT) i)(d:kU B)(e:B.length<=1000)(f:k<18446744073709551616):∃C,IA D G I k C B:=by obtain⟨C,P,c,a,b⟩:=h.st;exact⟨C,h.up,c.whole,c.log.ok,c.bW,⟨m,P,b⟩,d,a,e,f⟩
section
variable {D:aM}{G:cT}{I:bA}{aZ:Nat}{C:List (List bK)}{Bs:List kK}
def IA.told(h:IA D G I aZ C Bs):xV (dB C)=Bs/\zR (dB C)=Bs.flatMap dJ:=ck5 h.mO h.same
def IA.FI(h:IA D G I aZ C Bs):(∀e∈fJ aZ (dB C),wN e/\pZ e=true)/\(∀r∈dB C,r.1<jJ (eL C)/\qN r.2=true):=
 ⟨(yS h.ok h.same (qK h.mO.tT) aZ).1,(yS h.ok h.same (qK h.mO.tT) aZ).2.2⟩
def IA.YV(h:IA D G I aZ C Bs):(fJ aZ (dB C)).length<=8000:=by have b:=BQ (aZ:=aZ) (R:=dB C) λr a=>(h.FI.2 r a).2;have c:(dB C).length=Bs.length:=(by rw[qY,h.same,gR]);have d:=h.yV;omega
def IA.bj7(h:IA D G I aZ C Bs){r:lI}(d:r∈dB C):r.2.length<=2000:=by have a:r.2∈C.flatten:=(by rw[<-sS];exact ae3 d);obtain⟨e,b,c⟩:=wR.1 a;exact h.ok.2.1 e b _ c
def IA.bj8(h:IA D G I aZ C Bs){r:lI}(a:r∈dB C):r.1+r.2.length+12<=1000000:=by have b:=FB h.ok a;have c:=h.ok.1;omega
def IA.Y2(h:IA D G I aZ C Bs):I.mem.length<=8000/\∀e∈I.mem,wN e/\pZ e=true:=by obtain⟨s,P,b⟩:=h.ix;refine⟨aL (tP (uJ b.Q0) λe a=>(b.all e).1 (.inl a)) h.YV,λe a=>h.FI.1 e ((b.all e).1 (.inl a))⟩
def IA.co7(h:IA D G I aZ C Bs){n:Nat}(b:n∈I.cV.fC.flatten):n<=999999/\∃L,I.fA n=some L/\mY D.files n L/\L.length<=8000:=by obtain⟨s,P,c⟩:=h.ix;obtain⟨L,d,f⟩:=c.fA n b;obtain⟨⟨j,k⟩,l,i⟩:=lW.1 c.cV;have a:=f.may;unfold vU at a;simp only[bL]at a;exact⟨by have:=i n b;omega,L,d,f,aL (tP (uJ a.1) λe g=>(c.all e).1 (.inr ⟨n,b,L,d,g⟩)) h.YV⟩
def IA.place(h:IA D G I aZ C Bs){o:cZ}{n:Nat}{a e:Int}(g:o∈DT I n a e):∃r∈dB C,o.2.2=(r.1:Int)/\JH (dB C) o.2.2=some r.2/\wN o/\∃i:Nat,i<(kW r.2).2.2.length/\o.2.1=(kW r.2).2.1+(i:Int):=by obtain⟨s,P,k⟩:=h.ix;obtain⟨l,f⟩:=S7 k n a e;obtain⟨b,-⟩:=(f o).1 g;obtain⟨r,d,c⟩:=nP.1 b;unfold tV at c;obtain⟨i,j,rfl⟩:=dR.1 c;exact⟨r,d,rfl,ah1 (qV h.ok) d,(h.FI.1 _ b).1,i,gB.1 j,rfl⟩
def IA.bA0(h:IA D G I aZ C Bs)(a:aT){e:Int}(M:((dF (Bs.flatMap dJ) a).length:Int)-1<=e):
 (wZ I (lJ aZ (lb a)) e=-1/\(dF (Bs.flatMap dJ) a).length=0)\/
 (0<=wZ I (lJ aZ (lb a)) e/\wZ I (lJ aZ (lb a)) e<=e/\wZ I (lJ aZ (lb a)) e<=1073741824/\
  ((mX (dB C) I aZ a (wZ I (lJ aZ (lb a)) e) (wZ I (lJ aZ (lb a)) e)≠[]/\wZ I (lJ aZ (lb a)) e=((dF (Bs.flatMap dJ) a).length:Int)-1)\/
   (mX (dB C) I aZ a (wZ I (lJ aZ (lb a)) e) (wZ I (lJ aZ (lb a)) e)=[]/\((dF (Bs.flatMap dJ) a).length:Int)-1<=wZ I (lJ aZ (lb a)) e-1))):=by
    obtain⟨s,P,k⟩:=h.ix;obtain⟨A,w⟩:=h.told;have B:=λN y=>(h.FI.1 N y).2;have i:=h.mO;have J:=qV h.ok;have H:bh7 (xV (dB C)):=(by rw[A];exact i.ord);have j:=λv=>KT k J H a v v;have m:=bA1 k B (lJ aZ (lb a)) e;rw[w]at j;have d:0<(dF (Bs.flatMap dJ) a).length->∃N∈fJ aZ (dB C),N.1=lJ aZ (lb a)/\N.2.1=((dF (Bs.flatMap dJ) a).length:Int)-1:=λg=>by
     have c:(dF (Bs.flatMap dJ) a).length-1<(dF (Bs.flatMap dJ) a).length:=(by omega);have l:=i.row a _ _ (aK c);obtain⟨N,q,r,u⟩:=cb5 (R:=dB C) (aZ:=aZ) (s:=a) (t:=(dF (Bs.flatMap dJ) a)[(dF (Bs.flatMap dJ) a).length - 1]) (by rw[w];exact cY c);exact⟨N,q,r,by rw[u,l];omega⟩
    have b:∀t∈dF (Bs.flatMap dJ) a,0<=t.2.1/\t.2.1<1073741824:=λt n=>uD i n;generalize wZ I (lJ aZ (lb a)) e=v at m|-;rcases m with⟨rfl,m⟩|⟨N,y,q,r,u,L,z⟩
    .refine .inl ⟨rfl,?_⟩;rcases dX (dF (Bs.flatMap dJ) a).length with g|g
     .exact g
     obtain⟨x,o,p,K⟩:=d g;have c:(dF (Bs.flatMap dJ) a).length-1<(dF (Bs.flatMap dJ) a).length:=(by omega);have l:=i.row a _ _ (aK c);have:=b _ (cY c);exact absurd (by omega) (m x o p)
    refine .inr ⟨by omega,by omega,by omega,?_⟩;have E:((dF (Bs.flatMap dJ) a).length:Int)-1<=v:=by
     rcases dX (dF (Bs.flatMap dJ) a).length with g|g
     .omega
     obtain⟨x,o,p,K⟩:=d g;have c:(dF (Bs.flatMap dJ) a).length-1<(dF (Bs.flatMap dJ) a).length:=(by omega);have l:=i.row a _ _ (aK c);have:=b _ (cY c);have:=z x o p (by omega);omega
    by_cases F:v<((dF (Bs.flatMap dJ) a).length:Int)
    .refine .inl ⟨?_,by omega⟩;rw[j v];intro f;rw[gT]at f;have c:v.toNat<(dF (Bs.flatMap dJ) a).length:=(by omega);have l:=i.row a _ _ (aK c);have:=f _ (cY c);simp at this;omega
    refine .inr ⟨?_,by omega⟩;rw[j v,gT];intro t n;have:=WQ i n;simp;omega
end
variable{r:Int×aM}
structure Calm(D:aM):Prop where
 up:D.down=false
 tT:D.tB=false
 kO:rZ D.files
structure uA(k:Nat)(D:aM)(r:Int×aM):Prop where
 calm:Calm r.2
 cap:r.2.cap=D.cap
 used:dT r.2.files<=dT D.files+k
 err:r.1≠61
def uA.stay(h:Calm D){e:Int}(a:e≠61)(k:Nat):uA k D (e,D):=⟨h,rfl,RE _ _,a⟩
def uA.mono{a n:Nat}(h:uA a D r)(b:a<=n):uA n D r:=⟨h.calm,h.cap,by have:=h.used;omega,h.err⟩
def Calm.qT(h:Calm D):D.qT=false:=by unfold aM.qT;rw[h.tT];rfl
def yZ(h:Calm D){l:bZ}(a:rZ l){n:Nat}(b:dT l<=dT D.files+n):uA n D (D.change l):=by unfold aM.change;rw[h.qT,aQ (by simp)];exact⟨⟨h.up,h.tT,a⟩,rfl,b,by simp⟩
def DH(h:Calm D)(n:bK):uA 0 D (D.create n):=by
 unfold aM.create;rw[h.up,aQ (by simp)];by_cases a:jH n=false
 .rw[aU a];exact .stay h (by simp) _
 rw[aQ a];by_cases b:(bR D.files n).isSome
 .rw[aU b];exact .stay h (by simp) _
 rw[aQ b];by_cases c:400<=D.files.length
 .rw[aU c];exact .stay h (by simp) _
 rw[aQ c];exact yZ h (uS h.kO _ _) (by have:=kZ h.kO n ⟨[],0⟩;simp at this;omega)
def zC(h:Calm D)(n s:bK):uA s D (D.append n s):=by
 unfold aM.append;rw[h.up,aQ (by simp)];cases b:bR D.files n with
 |none=>exact .stay h (by simp) _
 |some f=>
  simp only;by_cases a:D.cap<dT D.files+s
  .rw[aU a];exact .stay h (by simp) _
  rw[aQ a,h.qT,aQ (by simp)];refine⟨⟨h.up,h.tT,uS h.kO _ _⟩,rfl,?_,by simp⟩;have:=kZ h.kO n ⟨f.data++s,f.sync⟩;rw[b]at this;simp at this;show dT (eH D.files n ⟨f.data++s,f.sync⟩)<=_;omega
def F9(h:Calm D)(n:bK):uA 0 D (D.sync n):=by
 unfold aM.sync;rw[h.up,aQ (by simp)];cases a:bR D.files n with
 |none=>exact .stay h (by simp) _
 |some f=>refine yZ h (uS h.kO _ _) ?_;have:=kZ h.kO n ⟨f.data,f.data⟩;rw[a]at this;simp at this;omega
def qU(h:Calm D)(n:bK):uA 0 D (D.delete n):=by
 unfold aM.delete;rw[h.up,aQ (by simp)];cases a:bR D.files n with
 |none=>exact .stay h (by simp) _
 |some f=>exact yZ h (uZ h.kO _) (by have:=xE h.kO n;omega)
def aA8(h:Calm D)(a b:bK):uA 0 D (D.rename a b):=by
 unfold aM.rename;rw[h.up,aQ (by simp)];cases k:bR D.files a with
 |none=>exact .stay h (by simp) _
 |some f=>
  simp only;by_cases d:jH b=false
  .rw[aU d];exact .stay h (by simp) _
  rw[aQ d];by_cases c:a=b
  .rw[aU c];exact yZ h h.kO gC
  rw[aQ c];have g:=uZ h.kO b;have i:=uZ g a;refine yZ h (uS i _ _) ?_;have l:=xE h.kO b;have j:=xE g a;have m:=kZ i b f;rw[iB,aQ (λe=>c e.symm),k]at j;simp at j;omega
def pO{k:aM->Int×aM}(h:uA n D r)(c:Calm r.2->uA m r.2 (k r.2)):uA (n+m) D (kE r k):=by
 unfold kE;by_cases b:r.1=0
 .rw[aU b];have a:=c h.calm;exact⟨a.calm,a.cap.trans h.cap,by have:=a.used;have:=h.used;omega,a.err⟩
 rw[aQ b];exact h.mono (RE _ _)
def am7(h:Calm D)(n s:bK):uA s D (D.FP n s):=by unfold aM.FP;have:=pO (k:=λD=>kE (D.append dG s) λD=>kE (D.sync dG) λD=>D.rename dG n) (DH h dG) λa=>pO (k:=λD=>kE (D.sync dG) λD=>D.rename dG n) (zC a dG s) λb=>pO (k:=λD=>D.rename dG n) (F9 b dG) λc=>aA8 c dG n;exact this.mono (by omega)
def aH5(h:Calm D)(n s:bK):uA s D (D.lay n s):=by unfold aM.lay;have:=pO (k:=λD=>kE (D.append n s) λD=>D.sync n) (DH h n) λa=>pO (k:=λD=>D.sync n) (zC a n s) λb=>F9 b n;exact this.mono (by omega)
def NA(h:Calm D):uA 0 D D.gE:=by
 unfold aM.gE;split
 .exact qU h _
 exact .stay h (by simp) _
def TJ(h:Calm D)(n:Nat)(l:List cZ)(f:bK):uA (f+(mF l)) D (nL D n l f):=by
 unfold nL;rw[h.up,aQ (by simp)];by_cases a:D.free-(mF l)-f<6000
 .rw[aU a];exact .stay h (by simp) _
 rw[aQ a];exact pO (k:=λD=>D.lay (nR n) (mF l)) (aH5 h _ f) λb=>aH5 b _ _
def aU0(h:Calm D)(m:iY):uA (iV m) D (pV D m):=by
 unfold pV;rw[h.up,aQ (by simp)];refine(pO (NA h) λa=>?_:uA (0+(iV m)) D _).mono (by omega);split
 .exact .stay a (by simp) _
 exact am7 a _ _
def OD(h:Calm D)(n:Nat):uA 0 D (oN D n):=by unfold oN;have a:=qU h (nR n);have b:=qU a.calm (vI n);rw[aQ a.err,aQ b.err];exact⟨b.calm,b.cap.trans a.cap,by have:=a.used;have:=b.used;simp only;omega,by simp⟩
def aL3:∀(l:List Nat) {I:bA} {D:aM},Calm D->uA 0 D ((kS I D l).1,(kS I D l).2.2):=λl=>by
 induction l with
 |nil=>intro I D h;unfold kS;exact .stay h (by simp) _
 |cons n l c=>
  intro I D h;have a:=OD h n;unfold kS;split
  .exact⟨a.calm,a.cap,a.used,a.err⟩
  have b:=c (I:={I with fA:=jA I.fA n none}) a.calm;exact⟨b.calm,b.cap.trans a.cap,by have:=a.used;have:=b.used;simp only at *;omega,b.err⟩
def XO(h:Calm D)(n:Nat):(kG D n).1≠61:=by
 unfold kG;rw[h.up,aQ (by simp)];split
 .simp
 split<;>simp
def NF{G:cT}(h:Calm D):uA 0 D ((fY G D).1,(fY G D).2.2):=by
 unfold fY;split
 .exact .stay h (by simp) _
 have:=F9 h (gZ (G.bW-1));exact⟨this.calm,this.cap,this.used,this.err⟩
def NB{I:bA}(h:Calm D)(m:iY)(n:Nat)(l:List cZ)(f:bK):uA (f+(mF l)+(iV m)) D ((nD I D m n l f).1,(nD I D m n l f).2.2):=by
 have a:=pO (k:=λD=>pV D m) (TJ h n l f) λc=>aU0 c m;unfold nD;simp only;split
 .have b:=OD a.calm n;exact⟨b.calm,b.cap.trans a.cap,by have:=a.used;have:=b.used;simp only at *;omega,a.err⟩
 split
 .exact⟨a.calm,a.cap,a.used,XO a.calm n⟩
 exact⟨a.calm,a.cap,a.used,by simp⟩
def aK0{I:bA}{G:cT}(h:Calm D)(f:bK):uA (f+(mF I.mem)+(iV ⟨I.cV.next+1,jJ G.bW,I.cV.aZ,pC I.cV.fC I.cV.next⟩)) D ((jI I G D f).1,(jI I G D f).2.2.2):=by
 have a:=NF (G:=G) h;unfold jI;split
 .exact a.mono (bO _)
 split
 .exact⟨a.calm,a.cap,by have:=a.used;simp only at *;omega,by simp⟩
 split
 .exact⟨a.calm,a.cap,by have:=a.used;simp only at *;omega,by simp⟩
 have b:=NB (I:=I) a.calm ⟨I.cV.next+1,jJ G.bW,I.cV.aZ,pC I.cV.fC I.cV.next⟩ I.cV.next I.mem f;exact⟨b.calm,b.cap.trans a.cap,by have:=a.used;have:=b.used;simp only at *;omega,b.err⟩
def aG0{I:bA}(h:Calm D)(k:Int)(f:bK):uA (f+(mF (jV ((I.cV.fC.getD k.toNat []).map λn=>(I.fA n).getD [])))+(iV ⟨I.cV.next+1,I.cV.check,I.cV.aZ,mJ I.cV.fC k.toNat I.cV.next⟩)) D ((l6 I D k f).1,(l6 I D k f).2.2):=by
 unfold l6;split
 .exact .stay h (by simp) _
 split
 .exact .stay h (by simp) _
 have a:=NB (I:=I) h ⟨I.cV.next+1,I.cV.check,I.cV.aZ,mJ I.cV.fC k.toNat I.cV.next⟩ I.cV.next (jV ((I.cV.fC.getD k.toNat []).map λn=>(I.fA n).getD [])) f;simp only;split
 .exact a
 have b:=aL3 (I.cV.fC.getD k.toNat []) (I:=(nD I D ⟨I.cV.next+1,I.cV.check,I.cV.aZ,mJ I.cV.fC k.toNat I.cV.next⟩ I.cV.next (jV ((I.cV.fC.getD k.toNat []).map λn=>(I.fA n).getD [])) f).2.1) a.calm;exact⟨b.calm,b.cap.trans a.cap,by have:=a.used;have:=b.used;simp only at *;omega,b.err⟩
def av3{G:cT}(h:Calm D)(p:bK):uA (p+24) D ((gU G D p).1,(gU G D p).2.2.2):=by
 have f:=mU p;unfold gU;split
 .exact .stay h (by simp) _
 split
 .unfold oU;split
  .exact .stay h (by simp) _
  have a:=zC h (gZ (G.bW-1)) (jT p);split
  .exact a.mono (by omega)
  exact⟨a.calm,a.cap,by have:=a.used;simp only at *;omega,by simp⟩
 unfold pB;split
 .exact .stay h (by simp) _
 rename_i c;have a:=NF (G:=G) h;split
 .exact a.mono (bO _)
 have e:(eM (G.bW:Int)++jT p).length=p+24:=by rw[aP,jO (by omega),f];omega
 have b:uA (p+24) (fY G D).2.2 (EG (fY G D).2.2 G.bW (jT p)):=by unfold EG;have:=pO (k:=λD=>D.append (gZ G.bW) (eM (G.bW:Int)++jT p)) (DH a.calm (gZ G.bW)) λd=>zC d (gZ G.bW) (eM (G.bW:Int)++jT p);exact this.mono (by rw[e];omega)
 split
 .exact⟨b.calm,b.cap.trans a.cap,by have:=a.used;have:=b.used;simp only at *;omega,b.err⟩
 exact⟨b.calm,b.cap.trans a.cap,by have:=a.used;have:=b.used;simp only at *;omega,by simp⟩
def bZ2(D:aM)(r:Int×aM):Prop:=∃k,uA k D r
def ba2(h:Calm D)(n:Nat)(s:bK)(e:Nat)(a:List Nat):bZ2 D ((uV D n s e a).1,(uV D n s e a).2.2):=by
 unfold uV;split
 .exact⟨_,qU h _⟩
 split
 .exact⟨_,am7 h _ _⟩
 exact⟨_,F9 h _⟩
def bz4(D:aM)(n:Nat):(D.load n).2≠61:=by
 unfold aM.load;split
 .simp
 split<;>simp
def aX1(h:Calm D)(b:Nat):∀(k n:Nat)(a:List Nat),bZ2 D ((mP D b k n a).1,(mP D b k n a).2.2):=λk=>by
 induction k with
 |zero=>intro n a;unfold mP;exact⟨0,.stay h (by simp) _⟩
 |succ k c=>
  intro n a;unfold mP;split
  .exact⟨0,.stay h (bz4 D n) _⟩
  split
  .exact ba2 h _ _ _ _
  split
  .exact⟨0,.stay h (by simp) _⟩
  exact c _ _
def XP(h:Calm D):Calm (jF D).2.2/\(jF D).1≠61:=by
 have a:=NA h;have⟨k,b⟩:=aX1 a.calm D.gE.2.count.1 D.gE.2.count.1 0 [];unfold jF;rw[h.up,aQ (by simp)];split
 .exact⟨a.calm,a.err⟩
 split
 .exact⟨a.calm,by simp⟩
 split
 .exact⟨b.calm,b.err⟩
 exact⟨b.calm,by simp⟩
def bD5:∀(l:List bK) {D:aM},Calm D->uA 0 D (D.VK l):=λl=>by
 induction l with
 |nil=>intro D h;exact .stay h (by simp) _
 |cons n l b=>
  intro D h;unfold aM.VK;exact(pO (k:=λD=>D.VK l) (qU h n) λa=>b a:uA (0+0) D _)
def aE3(h:Calm D):∀(l:List Nat) (t:Nat->Option (List cZ)),(p9 D l t).1≠61:=λl=>by
 induction l with
 |nil=>intro t;exact(by simp:(0:Int)≠61)
 |cons n l a=>
  intro t;unfold p9;split
  .exact XO h n
  exact a _
def bb1(h:Calm D):(oX D).1≠61:=by
 unfold oX;rw[h.up,aQ (by simp)];cases bR D.files fZ with
 |none=>simp
 |some f=>simp only;unfold SR;split<;>simp
def aG6(h:Calm D)(G:cT)(a:Nat):(kQ D G a).1≠61:=by
 have b:∀m,(vQ D m).1≠61:=λm=>by
  unfold vQ;rw[h.up,aQ (by simp)];split
  .exact aE3 h _ _
  simp
 unfold kQ;split
 .exact bb1 h
 split
 .simp
 exact b _
def UO(h:Calm D)(I:bA)(a:Nat)(c:Nat->List lI):(pQ D I a c).1≠61:=by
 have b:uA 0 D (lF D I.cV):=by unfold lF;rw[h.up,aQ (by simp)];exact bD5 _ h
 unfold pQ;split
 .exact b.err
 simp
def ac0(h:Calm D)(G:cT)(a:Nat)(c:Nat->List lI):(fD D G a c).1≠61:=by
 have b:=qU h fZ;unfold fD;rw[aQ (aG6 h G a)];split
 .exact UO h _ _ _
 rw[aQ b.err];exact UO b.calm _ _ _
def BD{k:aM->Int×aM}(h:(kE r k).1=0):r.1=0/\kE r k=k r.2:=by
 unfold kE at h|-;by_cases a:r.1=0
 .rw[aU a];exact⟨a,rfl⟩
 rw[aQ a]at h;exact absurd h a
def MA(h:Calm D)(l:bZ):(D.change l).2.files=l:=by unfold aM.change;rw[h.qT,aQ (by simp)]
def bD7(h:Calm D){s:bK}(a:(D.create s).1=0):(D.create s).2.files=eH D.files s ⟨[],0⟩:=by
 unfold aM.create at a|-;rw[h.up,aQ (by simp)]at a|-;by_cases b:jH s=false
 .rw[aU b]at a;exact absurd a (by simp)
 rw[aQ b]at a|-;by_cases c:(bR D.files s).isSome
 .rw[aU c]at a;exact absurd a (by simp)
 rw[aQ c]at a|-;by_cases d:400<=D.files.length
 .rw[aU d]at a;exact absurd a (by simp)
 rw[aQ d];exact MA h _
def bF3(h:Calm D){l s:bK}(a:(D.append l s).1=0):∃f,bR D.files l=some f/\(D.append l s).2.files=eH D.files l ⟨f.data++s,f.sync⟩:=by
 unfold aM.append at a|-;rw[h.up,aQ (by simp)]at a|-;cases c:bR D.files l with
 |none=>rw[c]at a;exact absurd a (by simp)
 |some f=>
  rw[c]at a;simp only at a|-;by_cases b:D.cap<dT D.files+s.length
  .rw[aU b]at a;exact absurd a (by simp)
  rw[aQ b,h.qT,aQ (by simp)];exact⟨f,rfl,rfl⟩
def cc3(h:Calm D){s:bK}(a:(D.sync s).1=0):∃f,bR D.files s=some f/\(D.sync s).2.files=eH D.files s ⟨f.data,f.data.length⟩:=by
 unfold aM.sync at a|-;rw[h.up,aQ (by simp)]at a|-;cases b:bR D.files s with
 |none=>rw[b]at a;exact absurd a (by simp)
 |some f=>exact⟨f,rfl,MA h _⟩
def bt2(h:Calm D){s l:bK}(b:s≠l)(a:(D.rename s l).1=0):∃f,bR D.files s=some f/\(D.rename s l).2.files=eH (jX (jX D.files l) s) l f:=by
 unfold aM.rename at a|-;rw[h.up,aQ (by simp)]at a|-;cases d:bR D.files s with
 |none=>rw[d]at a;exact absurd a (by simp)
 |some f=>
  rw[d]at a;simp only at a|-;by_cases c:jH l=false
  .rw[aU c]at a;exact absurd a (by simp)
  rw[aQ c,aQ b];exact⟨f,rfl,MA h _⟩
def Z2(h:Calm D)(n k:bK)(a:n≠k):bR (D.delete n).2.files k=bR D.files k:=by
 unfold aM.delete;rw[h.up,aQ (by simp)];cases b:bR D.files n with
 |none=>rfl
 |some f=>simp only;rw[MA h,iB,aQ a]
def cl1(h:Calm D){l s:bK}(m:dG≠l)(a:(D.FP l s).1=0):bR (D.FP l s).2.files l=some ⟨s,s.length⟩:=by unfold aM.FP at a|-;obtain⟨r,i⟩:=BD a;rw[i]at a|-;have b:=(DH h dG).calm;have n:=bD7 h r;obtain⟨t,j⟩:=BD a;rw[j]at a|-;have c:=(zC b dG s).calm;obtain⟨v,d,o⟩:=bF3 b t;obtain⟨u,k⟩:=BD a;rw[k]at a|-;have g:=(F9 c dG).calm;obtain⟨w,e,p⟩:=cc3 c u;obtain⟨x,f,q⟩:=bt2 g m a;rw[n,fK,aU rfl]at d;cases d;rw[o,fK,aU rfl]at e;cases e;rw[p,fK,aU rfl]at f;cases f;rw[q,fK,aU rfl];rfl
def bJ4(h:Calm D){M:iY}(a:(pV D M).1=0):bR (pV D M).2.files fZ=some ⟨iV M,(iV M).length⟩:=by
 unfold pV at a|-;rw[h.up,aQ (by simp)]at a|-;obtain⟨d,c⟩:=BD a;rw[c]at a|-;by_cases b:D.gE.2.free-(iV M).length<6000
 .rw[aU b]at a;exact absurd a (by simp)
 rw[aQ b]at a|-;exact cl1 (NA h).calm vS a
def ax9{I:bA}(h:Calm D){M:iY}{n:Nat}{L:List cZ}{s:bK}(b:(nD I D M n L s).1=0):(nD I D M n L s).2.1.cV=M/\(nD I D M n L s).2.1.mem=I.mem/\bR (nD I D M n L s).2.2.files fZ=some ⟨iV M,(iV M).length⟩:=by
 have e:=TJ h n L s;unfold nD at b|-;simp only at b|-;split at b
 .rename_i a;exact absurd b a
 rename_i a;have a:(kE (nL D n L s) λD=>pV D M).1=0:=Classical.not_not.1 a;rw[aQ (by rw[a];simp)];split at b
 .rename_i c;exact absurd b c
 rename_i c;rw[aQ c];obtain⟨f,d⟩:=BD a;refine⟨rfl,rfl,?_⟩;rw[d]at a|-;exact bJ4 e.calm a
def bB8(h:Calm D){s:bK}(f:I.mem≠[])(d:(jI I G D s).1=0):(jI I G D s).2.1.cV=⟨I.cV.next+1,jJ G.bW,I.cV.aZ,pC I.cV.fC I.cV.next⟩/\bR (jI I G D s).2.2.2.files fZ=some ⟨iV (jI I G D s).2.1.cV,(iV (jI I G D s).2.1.cV).length⟩:=by
 have i:=NF (G:=G) h;have g:(fY G D).1=0:=by
  by_cases e:(fY G D).1=0
  .exact e
  unfold jI at d;rw[aU e]at d;exact absurd d e
 have j:¬40<=I.cV.fC.flatten.length:=λk=>by unfold jI at d;rw[aQ (by simp[g]),aQ f,aU k]at d;simp at d
 unfold jI at d|-;rw[aQ (by simp[g]),aQ f,aQ j]at d|-;simp only at d|-;obtain⟨a,b,c⟩:=ax9 (I:=I) i.calm d;rw[aU d];simp only;rw[a];exact⟨rfl,c⟩
def bC9(h:Calm D)(n:Nat){s:bK}(c:nR n≠s)(d:vI n≠s):bR (oN D n).2.files s=bR D.files s:=by have a:=qU h (nR n);have b:=qU a.calm (vI n);unfold oN;rw[aQ a.err,aQ b.err];simp only;rw[Z2 a.calm _ _ d,Z2 h _ _ c]
def be5:∀(l:List Nat) {I:bA} {D:aM},Calm D->∀k:bK,(∀n∈l,nR n≠k/\vI n≠k)->bR (kS I D l).2.2.files k=bR D.files k/\(kS I D l).2.1.cV=I.cV/\(kS I D l).2.1.mem=I.mem:=λl=>by
 induction l with
 |nil=>intro I D h k d;exact⟨rfl,rfl,rfl⟩
 |cons n l i=>
  intro I D h k d;have f:=OD h n;obtain⟨j,m⟩:=d n zV;have e:=bC9 h n j m;unfold kS;split
  .exact⟨e,rfl,rfl⟩
  obtain⟨a,b,c⟩:=i (I:={I with fA:=jA I.fA n none}) f.calm k λx g=>d x (iG _ g);exact⟨a.trans e,b,c⟩
def by4(h:Calm D){e:Int}{s:bK}(o:¬(e<0\/5<=e))(k:I.cV.fC.getD e.toNat []≠[])(i:∀n∈I.cV.fC.getD e.toNat [],n<=999999)(j:(l6 I D e s).1=0):(l6 I D e s).2.1.cV=⟨I.cV.next+1,I.cV.check,I.cV.aZ,mJ I.cV.fC e.toNat I.cV.next⟩/\(l6 I D e s).2.1.mem=I.mem/\bR (l6 I D e s).2.2.files fZ=some ⟨iV (l6 I D e s).2.1.cV,(iV (l6 I D e s).2.1.cV).length⟩:=by
 unfold l6 at j|-;rw[aQ o,aQ k]at j|-;simp only at j|-;split at j
 .rename_i f;exact absurd j f
 rename_i f;rw[aQ f];have f:=Classical.not_not.1 f;obtain⟨a,b,c⟩:=ax9 (I:=I) h f;have m:=(NB (I:=I) h ⟨I.cV.next+1,I.cV.check,I.cV.aZ,mJ I.cV.fC e.toNat I.cV.next⟩ I.cV.next (jV ((I.cV.fC.getD e.toNat []).map λn=>(I.fA n).getD [])) s).calm;obtain⟨d,p,g⟩:=be5 (I.cV.fC.getD e.toNat []) (I:=(nD I D ⟨I.cV.next+1,I.cV.check,I.cV.aZ,mJ I.cV.fC e.toNat I.cV.next⟩ I.cV.next (jV ((I.cV.fC.getD e.toNat []).map λn=>(I.fA n).getD [])) s).2.1) m fZ λn l=>⟨zM (i n l),XU (i n l)⟩;rw[d,p,g,a,b];exact⟨rfl,rfl,c⟩
def ba5(c:D.down=false){n:Nat}(d:n<18446744073709551616){M:iY}(w:zH M=true)(q:M.aZ=n)(f:bR l fZ=some ⟨iV M,(iV M).length⟩)(j:∀O∈M.fC.flatten,O<=999999/\∃L,mY l O L)(i:iQ isI l D.files){G:cT}(K:M.check<=jJ G.bW):
 ∃I,kQ D G n=(0,some I)/\I.cV.next=M.next:=by
  obtain⟨g,s,p,-⟩:=i.sure M2 f (aO _);obtain⟨E,F⟩:=QD w (by rw[q];exact d);simp only at p;have v:oX D=(0,CM M):=by unfold oX;rw[c,aQ (by simp),s];simp only;rw[p,F];unfold SR;rw[aU E]
  unfold kQ;rw[v];simp only[ne_eq,not_true_eq_false,dP];have r:¬(¬(CM M).aZ=n\/jJ G.bW<(CM M).check):=by
   rintro (m|m)
   .exact m q
   have:(CM M).check=M.check:=rfl;omega
  rw[aQ r];unfold vQ;rw[c,aQ (by simp)];rcases NU c (CM M).fC.flatten (λ_=>none)with⟨a,b,-⟩|a
  .rw[aQ (by simpa using a)];exact⟨_,rfl,rfl⟩
  exfalso;have e:∀(k:List Nat) (t:Nat->Option (List cZ)),(∀O∈k,(kG D O).1=0)->(p9 D k t).1=0:=λk=>by
   induction k with
   |nil=>intro t _;rfl
   |cons O k C=>intro t h;unfold p9;rw[aQ (by rw[h O zV];simp)];exact C _ λx A=>h x (iG _ A)
  have:=e (CM M).fC.flatten (λ_=>none) λO y=>by
   have o:O∈M.fC.flatten:=by obtain⟨z,B,-⟩:=TQ M.fC;rw[B,iU];exact rF _ y
   obtain⟨m,L,u⟩:=j O o;obtain⟨N,H,J,-⟩:=(u.stay m i).uE;unfold kG;rw[c,aQ (by simp),H];simp only;rw[aU J]
  rw[this]at a;exact absurd a (by decide)
def aM5{a:Nat->List lI}{J:bA}(h:(pQ D I n a).2.1=some J):J.cV=I.cV:=by
 unfold pQ at h;split at h
 .cases h
 cases h;rfl
def ao9(e:D.down=false){n:Nat}(a:n<18446744073709551616){M:iY}(j:zH M=true)(k:M.aZ=n)(b:bR l fZ=some ⟨iV M,(iV M).length⟩)(c:∀p∈M.fC.flatten,p<=999999/\∃L,mY l p L)(d:iQ isI l D.files){G:cT}(i:M.check<=jJ G.bW){m:Nat->List lI}{I:bA}(h:(fD D G n m).2.1=some I):I.cV.next=M.next:=by obtain⟨o,f,g⟩:=ba5 e a j k b c d i;unfold fD at h;rw[f]at h;simp only at h;rw[aQ (by decide)]at h;rw[aM5 h];exact g
variable{b:Bool}{p:List MemPlace}{X:List aN}{a:Nat->Bool}{A:Program}{H:Type}{T:cD}
section
open Go.ChangeShapes Go.WideShapes
def ay1{c:cD×aN->H}{x:DataW H×List MemPlace}(f:A.underlying T=some (.float .f64))(h:DataW.trod c A w n a b k T X=some x):∃g,X=[.float .f64 g]/\g<18446744073709551616:=by
 cases k with
 |zero=>simp[DataW.trod]at h
 |succ g=>unfold DataW.trod at h;rw[f]at h;split at h<;>simp_all;rename_i e;subst e;have d:=h.1;simp only[Lit.wf,bH]at d;omega
def XM{α:Type}{B:cD×aN->H}{U:cD}{v:aN}{y:DataW H×List MemPlace}(ht:A.underlying U=some (.slice T))(c:Nat)(r:0<c)(Y:A.cellsOf T=c)
 (f:α->List aN) (e:∀x,(f x).length=c) (I:α->Prop)
 (hx:∀h3 J y,J.length=c->DataW.trod B A w 0 (λ_=>true) true h3 T J=some y->∃x,I x/\J=f x)
 (hf:DataW.trod B A w 0 (λ_=>true) true n U [v]=some y):∃l:List α,Reads w v c l.length (l.flatMap f)/\∀x∈l,I x:=by
  rcases Deep.open_slice ht hf with⟨k,-⟩|⟨a,p,P,m,h3,D,Pl,k,_,hl,hm,F,-,C⟩
  .simp at k;subst k;exact⟨[],Reads.nil _ _,by simp⟩
  simp at k;subst k;simp only[eE]at F;subst F;have z:∀i,i<p->∃x,I x/\∀j,(E:j<c)->w.cell? ((a.add (i*c)).add j)=(f x)[j]?:=by
   intro i hi;obtain⟨K,Q,X⟩:=C i (by omega);rw[Y]at Q;obtain⟨_,L,s⟩:=World.cells?_some Q;obtain⟨x,N,rfl⟩:=hx h3 K _ L X;refine⟨x,N,λj E=>?_⟩;rw[s j (by omega)]
  have d:∀i:Fin p,∃x,I x/\∀j,(E:j<c)->w.cell? ((a.add (i.1*c)).add j)=(f x)[j]?:=λi=>z i.1 i.2;refine⟨List.ofFn λi=>Classical.choose (d i),?_,?_⟩
  .have q:(List.ofFn λi=>Classical.choose (d i)).length=p:=List.length_ofFn;rw[q];refine⟨some a,_,rfl,hl,hm,by rw[DC f c e,q],λW=>?_⟩;obtain⟨b,o,G⟩:=a;have u:=(Classical.choose_spec (d ⟨0,W⟩)).2 0 r;have t:G=none:=by rw[aK (by rw[e];exact r)]at u;simpa[Addr.add]using World.cell?_spot u
   subst t;refine⟨b,o,rfl,?_,λj E=>?_⟩
   .rcases cR b w.heap.size with h|h
    .exact h
    rw[aK (by rw[e];exact r)]at u;unfold World.cell? at u;simp[Addr.add,CG h]at u
   have M:j<p*c:=(by rwa[DC f c e,q]at E);have R:j/c<p:=cw7 (by rw[pU];exact M);have S:j%c<c:=EL _ r;have Z:j/c*c+j%c=j:=(by rw[pU];exact V9 j c);have V:=(Classical.choose_spec (d ⟨j/c,R⟩)).2 (j%c) S;have g:=DE f c e (List.ofFn λi=>Classical.choose (d i)) (j/c) (j%c) (by rw[q];exact R) S;rw[Z,aK E,List.getElem_ofFn]at g;rw[g,<-V,Addr.add_lit,Addr.add_lit];congr 2;simp only[];omega
  intro x O;obtain⟨i,rfl⟩:=List.mem_ofFn.1 O;exact(Classical.choose_spec (d i)).1
def bE1:prog.cellsOf 44=3:=by kernel_rfl
def ZC:prog.cellsOf 9=1:=by kernel_rfl
def ZD:prog.cellsOf 3=1:=by kernel_rfl
def ZE:prog.cellsOf 24=1:=by kernel_rfl
def bf8:prog.cellsOf 32=1:=by kernel_rfl
def bQ5{d:Type}(l:List d)(h:l.length=3):∃a b c,l=[a,b,c]:=by
 match l,h with
 |[a,b,c],_=>exact⟨a,b,c,rfl⟩
def cb7{d:cD×aN->H}(D:Nat)(c:List aN)(y:DataW H×List MemPlace)(o:c.length=3)(h:DataW.trod d prog w n a b D 44 c=some y):
 ∃e:Ev,okV e/\c=evL e:=by obtain⟨v,x,z,rfl⟩:=bQ5 c o;obtain⟨A,B,C,m,-,-,j,k,l⟩:=Deep.trod_struct3 underlying44 h;simp only[ZC,ZE]at j k l;obtain⟨p,f,-,r⟩:=DataW.trod_string underlying9 j;obtain⟨q,g,-,s⟩:=DataW.trod_string underlying9 k;obtain⟨u,i,t⟩:=ay1 underlying24 l;simp at f g i;subst f g i;exact⟨(p,q,u),⟨r,s,t⟩,rfl⟩
def aM8:prog.cellsOf 35=7:=by kernel_rfl
def aM9:prog.cellsOf 33=1:=by kernel_rfl
def bf6:prog.cellsOf 23=1:=by kernel_rfl
def bf7:prog.cellsOf 25=1:=by kernel_rfl
def bf9:prog.cellsOf 27=3:=by kernel_rfl
def cq6{i:Type}(l:List i)(h:l.length=7):∃a b c d e f g,l=[a,b,c,d,e,f,g]:=by
 match l,h with
 |[a,b,c,d,e,f,g],_=>exact⟨a,b,c,d,e,f,g,rfl⟩
def an6{c:cD×aN->H}{e f g i j l m:Field}{x:DataW H×List MemPlace}(y:A.underlying T=some (.struct #[e,f,g,i,j,l,m]))(h:DataW.trod c A w n a b k T X=some x):
 ∃p q r s t u v C,DataW.trod c A w n a b C e.type ((X.drop e.offset).take (A.cellsOf e.type))=some p/\
  DataW.trod c A w n a b C f.type ((X.drop f.offset).take (A.cellsOf f.type))=some q/\DataW.trod c A w n a b C g.type ((X.drop g.offset).take (A.cellsOf g.type))=some r/\
  DataW.trod c A w n a b C i.type ((X.drop i.offset).take (A.cellsOf i.type))=some s/\DataW.trod c A w n a b C j.type ((X.drop j.offset).take (A.cellsOf j.type))=some t/\
  DataW.trod c A w n a b C l.type ((X.drop l.offset).take (A.cellsOf l.type))=some u/\DataW.trod c A w n a b C m.type ((X.drop m.offset).take (A.cellsOf m.type))=some v:=by
   obtain⟨z,C,_,rfl,B,o,d⟩:=DataW.trod_struct y h;match z,o with
   |[p,q,r,s,t,u,v],_=>exact⟨p,q,r,s,t,u,v,C,by simpa using d 0 e rfl,by simpa using d 1 f rfl,by simpa using d 2 g rfl,by simpa using d 3 i rfl,by simpa using d 4 j rfl,by simpa using d 5 l rfl,by simpa using d 6 m rfl⟩
def bC0(l:List Int):(l.flatMap λz=>[Value.int .i64 z])=xA l:=by
 induction l with
 |nil=>rfl
 |cons a l b=>rw[eC,b];rfl
def aT2 {H:Type} {enc:cD×aN→H} {W:aI} (n:Nat) (cs:List aN) (y:DataW H×List MemPlace) (hl:cs.length=7) (h:DataW.trod enc prog W 0 (fun _=>true) true n 35 cs=some y) :
 ∃p:vC,OS W p∧cs=zY p:=by
 obtain⟨c0,c1,c2,c3,c4,c5,c6,rfl⟩:=cq6 cs hl;obtain⟨y0,y1,y2,y3,y4,y5,y6,m,h0,h1,h2,h3,h4,h5,h6⟩:=an6 underlying35 h;simp only[ZC,ZD,bf8,aM9]at h0 h1 h2 h3 h4 h5 h6;obtain⟨x0,e0,-,w0⟩:=DataW.trod_int underlying3 h0;obtain⟨s1,e1,-,w1⟩:=DataW.trod_string underlying9 h1;obtain⟨x2,e2,-,w2⟩:=DataW.trod_int underlying3 h2;obtain⟨x3,e3,-,w3⟩:=DataW.trod_int underlying3 h3;obtain⟨l,hr,hok⟩:=XM underlying32 3 (by omega) bE1 evL (fun _=>rfl) okV (fun n cs y hl h=>cb7 n cs y hl h) (v:=c4) (by simpa using h4);obtain⟨k,kr,kok⟩:=XM underlying33 1 (by omega) ZD (fun z:Int=>[Value.int .i64 z]) (fun _=>rfl) DQ (fun n cs y hl h=>by
  obtain⟨x,ex,-,wx⟩:=DataW.trod_int underlying3 h;exact⟨x,bounds_i64 wx,ex⟩) (v:=c5) (by simpa using h5)
 obtain⟨s6,e6,-,w6⟩:=DataW.trod_string underlying9 h6;simp at e0 e1 e2 e3 e6;subst e0 e1 e2 e3 e6;rw[bC0]at kr;exact⟨((c4,c5),⟨x0,s1,x2,x3,l,k,s6⟩),⟨⟨hr,hok⟩,kr,kok,bounds_i64 w0,w1,bounds_i64 w2,bounds_i64 w3,w6⟩,rfl⟩
def open_SliceOfscriptStep{b:cD×aN->H}{d:DataW H}(a:Value.okWide prog w .any n 22 v)(h:DataW.Trod b prog w 0 (λ_=>true) true 22 v d p):
 ∃X:List vC,I8 w v X:=
 bw4 underlying22 7 (by omega) aM8 zY (λ_=>rfl) (OS w) (λf c y e h=>aT2 f c y e h) a h
structure cx3 where
 aZ:Nat
 cK:Nat
 room:Nat
def co5(v:aN)(a:cx3):Prop:=v=.agg #[.int .u64 (a.aZ:Nat),.float .f64 a.cK,.int .u16 (a.room:Nat)]/\a.aZ<18446744073709551616/\a.room<=65535
def open_annalistlaw26How{f:cD×aN->H}{d:DataW H}(e:Value.okWide prog w .any n 27 v)(h:DataW.Trod f prog w 0 (λ_=>true) true 27 v d p):
 ∃a,co5 v a:=by
  obtain⟨b,rfl,c,_⟩:∃b,v=.agg b/\b.size=prog.cellsOf 27/\Row.okWide prog w .any n 27 b:=by
   simpa[Value.okWide,underlying27]using e
  rw[bf9]at c;obtain⟨o,t⟩:=h;obtain⟨b⟩:=b;simp only[Value.cells]at t;obtain⟨E,F,G,y⟩:=bQ5 b (by simpa using c);subst y;obtain⟨J,K,L,m,-,-,q,r,s⟩:=Deep.trod_struct3 underlying27 t;simp only[bf6,bf7,ZE]at q r s;obtain⟨g,j,-,z⟩:=DataW.trod_int underlying23 q;obtain⟨B,k,I⟩:=ay1 underlying24 r;obtain⟨i,l,-,A⟩:=DataW.trod_int underlying25 s;simp at j k l;subst j k l;have C:=bounds_u64 z;have D:=bounds_u16 A;refine⟨⟨g.toNat,B,i.toNat⟩,?_,by simp only;omega,by simp only;omega⟩;have u:((g.toNat:Nat):Int)=g:=(by omega);have x:((i.toNat:Nat):Int)=i:=(by omega);simp only[u,x]
end
end Go.Proofs.YtpopikndggffaaaGreatDoor
