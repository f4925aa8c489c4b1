/- TOP, part 8. -/
import Derived.Lib.SliceRun
import Derived.Test.YtpopikndggffaaaGreatDoorGm6
namespace Go.Proofs.YtpopikndggffaaaGreatDoor
set_option linter.all false
set_option maxRecDepth 100000
set_option maxHeartbeats 16000000
open Go.RowKit Tryz
def BS(v:aN)(l:List cZ)(h:Nat)(g:Int)(w:aI)(x:qD w v l)(Q:fB l=true)(N:h<18446744073709551616)(R:-9223372036854775808<=g/\g<=9223372036854775807):
 Calls prog 211 #[v,.int .u64 h,.int .i64 g] w λe V=>e=.returned (.int .i64 (kA l h g))/\aS w.heap.size w V:=by
  obtain⟨⟨A,c,rfl,-,-,-,-⟩,-⟩:=id x;obtain⟨-,K,L,-⟩:=x.cells;unfold maxLen at L;have y:=λ(i:Nat)(e:cZ)(u:l[i]?=some e)=>x.ok u;have m:=qO Q h g;have C:=sH l h g;generalize kA l h g=s at *;have f:=λJ=>x.later J;obtain⟨n,D⟩:∃n,n=l.length:=⟨_,rfl⟩;rw[<-D]at K C|-;clear x;have⟨F,z,o,q⟩:=aC D y f m;clear y f m D;go_in;(go_wp2_with fail);go_step3;(go_wp2_with fail);go_step3;go_wp2_with fail
  go_loopw [7,8] (λE u wr=>∃a b:Nat,a<=s/\s<=b/\b<=n/\E=.int .i64 a/\u=.int .i64 b/\aS w.heap.size w wr) (λE u _=>(intOf u-intOf E).toNat)
  .exact⟨0,n,by omega,by omega,by omega,rfl,rfl,aY _ _⟩
  obtain⟨a,b,ha,hb,M,rfl,rfl,k⟩:=hrel;by_cases O:a<b
  .obtain⟨d,G⟩:∃d,d=(b - a)/2:=⟨_,rfl⟩;have P:a+d<b:=(by omega);have q1:Int.tdiv ((b:Int)-(a:Int)) 2=(d:Int):=(by rw[n7 (by omega)];omega);have W:=aH G;clear G;obtain⟨e,t⟩:∃e,l[a+d]?=some e:=⟨_,aK (by have:=F.out;omega)⟩;have T:=z.out (a+d) e t;obtain⟨I,U,rfl,H,f⟩:=o.out (by have:=F.out;omega);obtain⟨Y,Z,c2⟩:=f (a+d) e t wr k;have i1:¬(b:Int)<=(a:Int):=(by omega);have i2:(a:Int)+(d:Int)<(n:Int):=(by omega);have B:=aR.1 t;have j:=q.out (a+d) B.1;rw[B.2]at j;have X:=aH t;clear t f B;(go_wp2_with fail);refine(ad1 e h g _ T N R).mono ?_;rintro e' w1 ⟨rfl,r⟩;rcases p:pS e h g with _|_
   .have:¬a+d<s:=λS=>(by rw[j.2 S]at p;cases p);go_wp2;go_roundw
    .exact⟨a,a+d,by omega,by omega,by omega,rfl,by go_num,dK k r (aO _)⟩
    simp[intOf];omega
   have:=j.1 p;go_wp2;go_roundw
   .exact⟨a+d+1,b,by omega,by omega,by omega,by go_num,rfl,dK k r (aO _)⟩
   simp[intOf];omega
  obtain rfl:a=b:=(by omega);obtain rfl:a=s:=(by omega);go_wp2;try rw[eJ]
  go_ret;exact⟨rfl,k⟩
variable{L:List cZ}{k n:Nat}{w:aI}
def VX:(prog.info? 152).map (λi=>(i.zero,i.size,i.bytes))=some (some (.agg #[.int .u64 0,.int .i64 0,.int .i64 0]),3,24):=by kernel_rfl
def bU7(e:cZ):∀u∈IX e,u.oneCell'=true:=by intro u a;simp only[IX,cX,qC,or_false]at a;rcases a with rfl|rfl|rfl<;>rfl
def nH(l:List cZ):∀u∈fX l,u.oneCell'=true:=by intro u b;obtain⟨e,_,a⟩:=lG.1 b;exact bU7 e u a
def GZ(a b:List cZ):fX (a++b)=fX a++fX b:=dU
def BR(e:cZ)(l:List cZ):fX (e::l)=IX e++fX l:=by simp[fX]
def U8(e:cZ):(IX e).length=3:=rfl
def be3(l:List cZ)(k:Nat):fX (l.take k)=(fX l).take (k*3):=by
 induction l generalizing k with
 |nil=>simp[fX]
 |cons e l a=>
  cases k with
  |zero=>simp[fX]
  |succ k=>rw[xY,BR,BR,a k,show(k+1)*3=(IX e).length+k*3 from by rw[U8];omega,bH3]
def be4(l:List cZ)(k:Nat):fX (l.drop k)=(fX l).drop (k*3):=by
 induction l generalizing k with
 |nil=>simp[fX]
 |cons e l a=>
  cases k with
  |zero=>simp
  |succ k=>rw[ae4,BR,a k,show(k+1)*3=(IX e).length+k*3 from by rw[U8];omega,List.drop_length_add_append]
@[go_sem] def cr3(w:aI)(a:Option Addr)(n c:Nat):(binOp .eql 113 (.slice a n c) (.slice none 0 0)).run prog w=.ok (.bool a.isNone) w:=
 Lib.run_eql_slice_nil w _ _ a n c 0 0 underlying113
def dO(w:aI)(o:Obj):aS w.heap.size w (w.alloc o):=(aY _ _).alloc (aO _) _
def fO{w:aI}{k m i:Nat}{T:cD}{v:aN}{X:List aN}(h:w.ownsRow n T m v i X)(e:k<=n):w.ownsRow k T m v i X:=by
 refine⟨h.1,?_⟩;rcases h.2 with f|⟨g,b,c,rfl,d,a⟩
 .exact .inl f
 exact .inr ⟨g,b,c,rfl,aL e d,a⟩
def vZ(w:aI)(e:cZ)(a:wN e):qD (w.alloc (.cells (iX e) 152)) (.slice (some ⟨w.heap.size,0,none⟩) 1 1) [e]:=by refine⟨?_,λx b=>by rw[bT.1 b];exact a⟩;have:=Reads.DX (size:=3) (n:=1) (cap:=1) (Row.new w (iX e) 152) rfl (aO _) (by unfold maxLen;omega);simpa[iX,fX,IX]using this
def qD.sliced{A:Option Addr}(h:qD w (.slice A n k) L)(a c m:Nat)(B:a<=c)(C:c<=L.length)(D:c<=m)(E:m<=k):qD w (Go.sliced A a c m 3) ((L.drop a).take (c-a)):=by
 obtain⟨⟨x,y,v,t,u,o,d⟩,i⟩:=h;obtain⟨rfl,rfl,rfl⟩:=eV v;refine⟨?_,λe q=>i e (List.mem_of_mem_drop (mL q))⟩;have f:((L.drop a).take (c-a)).length=c-a:=(by simp;omega);rw[f];refine⟨_,m-a,rfl,by omega,by omega,by simp[f],λz=>?_⟩;obtain⟨b,l,rfl,g,p⟩:=d (by omega);refine⟨b,l+a*3,?_,g,λj r=>?_⟩
 .rw[aQ (by omega)];simp[Addr.add]
 have s:j<(c-a)*3:=(by simpa[f]using r);have:=p (a*3+j) (by simp;omega);rw[fL,this];congr 1;simp only[be3,be4];rw[rG,oY]
def yC(v:aN)(l:List cZ)(w:aI)(p:qD w v l)(z:l.length<=1000000000):
 Calls prog 228 #[v] w λe r=>∃q,e=.returned q/\r.ownsRow w.heap.size 152 3 q l.length (fX l)/\aS w.heap.size w r:=by
  obtain⟨⟨A,c,rfl,x,s,y,t⟩,-⟩:=id p;obtain⟨i0,i,m,n,o⟩:=info_parts VX;rcases A with _|A
  .have j:l.length=0:=by
    rcases dX l.length with h|h
    .exact h
    obtain⟨b,u,h,_⟩:=t h;cases h
   obtain rfl:=gW j;go_in;go_wp2;go_ret;exact⟨_,rfl,bQ _ _ _ _,aY _ _⟩
  go_in;have a:(w.alloc (.cells #[] 152)).ownsRow w.heap.size 152 3 (.slice (some ⟨w.heap.size,0,none⟩) 0 0) 0 []:=aP6 w #[] 0 (aO _) (by unfold maxLen;omega) rfl;have d:=dO w (.cells #[] 152);have k:=p.1.next d;unfold maxLen at s;go_wp2_with (first
   |(at_builtin;refine iZ _ rfl _ _ 113 rfl w.heap.size 152 i0 _ 3 24 underlying113 i m n o rfl (by decide) (.slice (some ⟨w.heap.size,0,none⟩) 0 0) 0 [] rfl a _ _ _ rfl k (nH _) (by unfold maxLen;omega) (by omega) d.size ?_;intro B C f g))
  go_ret;refine⟨_,rfl,by simpa using f,d.grown g d.size (dE a)⟩
def ad2(v:aN)(l:List cZ)(h:Nat)(f t:Int)(w:aI)(y:qD w v l)(W:fB l=true)(hn:l.length<=1000000000)(hh:h<18446744073709551616)
 (hf:-9223372036854775808<=f/\f<=9223372036854775807) (ht:-9223372036854775808<=t/\t<=9223372036854775807) :
 Calls prog 261 #[v,.int .u64 h,.int .i64 f,.int .i64 t] w λe X=>∃C,e=.returned C/\X.ownsRow w.heap.size 152 3 C (kF l h f t).length (fX (kF l h f t))/\aS w.heap.size w X:=by
  obtain⟨⟨A,c,rfl,-,-,-,-⟩,-⟩:=id y;obtain⟨-,J,Q,-⟩:=y.cells;unfold maxLen at Q;have z:=sH l h f;have B:=λm=>ah4 (m:=m) (t:=t) W (h:=h) (f:=f);obtain⟨n,p⟩:∃n,n=l.length:=⟨_,rfl⟩;rw[<-p]at J hn y|-;have⟨D,q,H⟩:=aB y p B;clear B y;rw[<-p]at z;clear p;go_in;(go_wp2_with fail);refine(BS _ l h f _ D.out W hh hf).mono ?_;rintro e w1 ⟨rfl,K⟩;obtain⟨s,u⟩:∃s,s=kA l h f:=⟨_,rfl⟩;rw[<-u]at z|-;have I:=aH u;clear u;go_wp2_with fail
  go_loopw [10] (λi wr=>∃m:Nat,s<=m/\m<=n/\i=.int .i64 m/\(∀i,(S:i<l.length)->s<=i->i<m->lR h t l[i]=true)/\aS w.heap.size w wr) (λi _=>n-(intOf i).toNat)
  .exact⟨s,by omega,by omega,rfl,λi _ J Q=>absurd J (by omega),K⟩
  obtain⟨m,L,h8,rfl,V,a⟩:=hrel;have N:=aH V;clear V;have x:((U:m<l.length)->lR h t l[m]=false)->qD w (Go.sliced A s m c 3) (kF l h f t):=λh3=>by have hx:=H.out m (by rw[<-I.out];omega) (by rw[<-q.out];omega) (by rw[<-I.out];exact N.out) h3;rw[hx,<-I.out];exact qD.sliced D.out s m c L (by rw[<-q.out];omega) (by omega) (aO _)
  have r:=aH x;clear x;have s1:(s:Int)<=m:=(by omega);have s2:(m:Int)<=c:=(by omega);by_cases h4:m<n
  .have i1:(m:Int)<n:=(by omega);obtain⟨e,E⟩:∃e,l[m]?=some e:=⟨_,aK (by rw[<-q.out];omega)⟩;obtain⟨b,h9,rfl,T,k⟩:=qD.later D.out (by rw[<-q.out];omega);obtain⟨Z,c1,-⟩:=k m e E wr a;have O:=aR.1 E;have M:=D.out.ok E;obtain⟨F,x2,x3⟩:=e;obtain⟨o1,o2,o3⟩:=M;simp only[]at Z c1 o1 o2;have G:=aH O;clear E k O;by_cases P:F=h
   .subst P;by_cases g2:x2<=t
    .go_wp2;go_roundw
     .
      refine⟨m+1,by omega,by omega,by go_num,λi S h5 h6=>?_,a⟩;rcases cR i m with R|R
      .exact N.out i S h5 R
      obtain rfl:i=m:=(by omega);rw[G.out.2];simp[lR,g2]
     simp[intOf];omega
    have d:=r.out (λ_=>by rw[G.out.2];simp[lR];omega);have o:c≠s:=(by omega);(go_wp2_with fail);refine(yC _ (kF l F f t) _ (by have:=d.next a;simpa[Go.sliced,Addr.add_lit,o]using this) (by have:=iR (inE F f t) l;unfold kF;have:=q.out;omega)).mono ?_;rintro e Y ⟨C,rfl,g,j⟩;go_wp2;go_ret;exact⟨_,rfl,fO g a.size,aJ a j⟩
   have h0:¬(F:Int)=h:=(by omega);have d:=r.out (λ_=>by rw[G.out.2];simp[lR,P]);have o:c≠s:=(by omega);(go_wp2_with fail);refine(yC _ (kF l h f t) _ (by have:=d.next a;simpa[Go.sliced,Addr.add_lit,o]using this) (by have:=iR (inE h f t) l;unfold kF;have:=q.out;omega)).mono ?_;rintro e Y ⟨C,rfl,g,j⟩;go_wp2;go_ret;exact⟨_,rfl,fO g a.size,aJ a j⟩
  have i1:¬(m:Int)<n:=(by omega);have d:=r.out (λU=>absurd U (by rw[<-q.out];omega));by_cases o:c=s
  iterate 2
   ·(go_wp2_with fail);refine(yC _ (kF l h f t) _ (by have:=d.next a;simpa[Go.sliced,Addr.add,o]using this) (by have:=iR (inE h f t) l;unfold kF;have:=q.out;omega)).mono ?_;rintro e Y ⟨C,rfl,g,j⟩;go_wp2;go_ret;exact⟨_,rfl,fO g a.size,aJ a j⟩
def bC6(o:Option cZ):cZ:=o.getD (0,0,0)
def bA2{e:Int}{o:cZ}(a:jY L n e=o):o∈L:=by unfold jY at a;have:=FV a;exact(eW.1 this).1
def at1(v:aN)(l:List cZ)(h:Nat)(t:Int)(w:aI)(O:qD w v l)(Z:fB l=true)(hh:h<18446744073709551616)
 (ht:-9223372036854775808<=t/\t<=9223372036854775807) :
 Calls prog 216 #[v,zu h,t] w λe w'=>e=.returned (.tuple #[.agg (iX (bC6 (jY l h t))),(jY l h t).isSome])/\aS w w w':=by
  have hz:=dO w (.cells #[zu 0,(),()] 152);obtain⟨⟨A,c,rfl,-,-,-,-⟩,-⟩:=id O;obtain⟨-,h1,h2,-⟩:=O.cells;unfold maxLen at h2;have P:=sH l h t;have hf:=qO Z h t;have⟨n,G⟩:=kX l.length;rw[<-G]at h1 O P|-;have⟨V,J,E⟩:=aB O G Z;clear G;go_in;go_wp2_with fail
  go_call BS _ l h t _ (V.next hz) Z hh ht as e w1 ⟨rfl,N⟩;have hd:=aJ hz N;have hc:=λw' (hb:aS (w.alloc (.cells #[zu 0,(),()] 152)) (w.alloc (.cells #[zu 0,(),()] 152)) w')=>at5 w (0,0,0) _ w' hb;have⟨s,H⟩:=kX (kA l h t);rw[<-H]at P|-;have⟨W,Hc⟩:=aA H hc;clear H O hc Z;go_wp2_with fail
  go_loopw [8] (λi wr=>∃m:Nat,s<=m/\m<=n/\i=.int .i64 m/\(∀i,(hi:i<l.length)->s<=i->i<m->lR h t l[i]=true)/\aS (w.alloc (.cells #[zu 0,(),()] 152)) (w.alloc (.cells #[zu 0,(),()] 152)) wr) (λi _=>n-(intOf i).toNat)
  .exact⟨s,by omega,by omega,rfl,λi _ h1 h2=>absurd h1 (by omega),N⟩
  obtain⟨m,ho,hq,rfl,hp,F⟩:=hrel;have f:=aJ hz F;have R:((hm:m<l)->lR h t l[m]=false)->(m=0/\jY l h t=none)\/∃k r q D,m=k+1/\l[k]?=some (r,q,D)/\((r=h/\q<=t/\jY l h t=some (r,q,D))\/(¬r=h/\jY l h t=none)\/(r=h/\¬q<=t/\jY l h t=none)):=λhx=>by
   rcases dX m with C|C
   .subst C;exact .inl ⟨rfl,bb6 E (by rw[<-W.zz];omega) hx⟩
   obtain⟨k,rfl⟩:∃k,m=k+1:=⟨m - 1,by omega⟩;have u:k<l.length:=(by rw[<-J.zz];omega);refine .inr ⟨k,l[k].1,l[k].2.1,l[k].2.2,rfl,aK u,?_⟩;rcases I:lR h t l[k]with _|_
   .have h3:k+1=s:=by
     rcases cR k s with X|X
     .omega
     rw[hp k u X (by omega)]at I;cases I
    have:=bb8 E (by rw[<-W.zz];omega) u hx I (by rw[<-W.zz];exact h3);have h8:=of_decide_eq_false I;by_cases g:l[k].1=h
    .exact .inr (.inr ⟨g,λg2=>h8 ⟨g,g2⟩,this⟩)
    exact .inr (.inl ⟨g,this⟩)
   have:=bb7 E (by rw[<-W.zz];omega) u hx I;exact .inl ⟨(of_decide_eq_true I).1,(of_decide_eq_true I).2,this⟩
  have Hp:=aH hp;have j:Row wr w 152 [zu 0,(),()]:=(Row.new w #[zu 0,(),()] 152).next F;have x:=j.rY;have y:=j.xD;have z:=j.G8;have f0:=j.TI;have f1:=j.J3;have f2:=j.zf2;have⟨p,ha⟩:=aA R j;clear hp R j;by_cases hn:m<n
  .have i1:(m:Int)<n:=(by omega);obtain⟨e,Y⟩:∃e,l[m]?=some e:=⟨_,aK (by rw[<-J.zz];omega)⟩;obtain⟨b,h9,rfl,hg,d⟩:=qD.later V (by rw[<-J.zz];omega);obtain⟨c0,c1,-⟩:=d m e Y wr f;have e1:=aR.1 Y;have h4:=V.ok Y;have⟨x1,x2,x3⟩:=e;have⟨o1,o2,o3⟩:=h4;simp only[]at c0 c1 o1 o2;have⟨E1,o⟩:=aA e1 d;clear Y d e1;by_cases g1:x1=h
   .subst g1;by_cases g2:x2<=t
    .go_wp2;go_roundw
     .
      refine⟨m+1,by omega,by omega,by go_num,λi hi X h6=>?_,F⟩;rcases cR i m with h7|h7
      .exact Hp i hi X h7
      obtain rfl:i=m:=(by omega);rw[E1.zz.2];simp[lR,g2]
     simp[intOf];omega
    rcases p (λ_=>by rw[E1.zz.2];simp[lR];omega)with⟨C,a⟩|⟨k,r,q,D,rfl,u,⟨B,T,a⟩|⟨q1,a⟩|⟨B,T,a⟩⟩
    .subst C;simp only[ct0,wQ]at c0 c1;have i2:(0:Int)<n:=(by omega);clear i1;clear p;go_wp2;refine bG (v:=.tuple #[.agg #[zu 0,(),()],false]) (by simp[results,results216,go_sem,x,y,z]) rfl ⟨by first|rfl|(rw[a];rfl),((f.setCell gC _).setCell gC _).setCell gC _⟩
    iterate 3
     .have⟨K,L,M⟩:=o k _ u wr f;simp only[]at K L M;have Q:¬((k:Int)+1=0):=(by omega);have wk:IntKind.i64.wrap ((k:Int)+1-1)=k:=(by rw[dM];omega);have k1:(k:Int)<n:=(by omega);clear p u;(first|(first|((have U:decide (t<q)=false:=by simp;omega);subst B)|(have S:¬(r:Int)=x1:=by omega))|((have U:t<q:=by omega);subst B));go_wp2;first|(first|(refine bG (v:=.tuple #[.agg #[zu r,q,D],true]) (by simp[results,results216,go_sem,x,y,z]) rfl ⟨by first|rfl|(rw[a];rfl),((f.setCell gC _).setCell gC _).setCell gC _⟩)|(refine bG (v:=.tuple #[.agg #[zu 0,(),()],false]) (by simp[results,results216,go_sem,x,y,z]) rfl ⟨by first|rfl|(rw[a];rfl),((f.setCell gC _).setCell gC _).setCell gC _⟩))|(refine bG (v:=.tuple #[.agg #[zu 0,(),()],false]) (by simp[results,results216,go_sem,x,y,z]) rfl ⟨by first|rfl|(rw[a];rfl),((f.setCell gC _).setCell gC _).setCell gC _⟩)
   have hj:¬(x1:Int)=h:=(by omega);rcases p (λ_=>by rw[E1.zz.2];simp[lR,g1])with⟨C,a⟩|⟨k,r,q,D,rfl,u,⟨B,T,a⟩|⟨q1,a⟩|⟨B,T,a⟩⟩
   .subst C;simp only[ct0,wQ]at c0 c1;have i2:(0:Int)<n:=(by omega);clear i1;clear p;go_wp2;refine bG (v:=.tuple #[.agg #[zu 0,(),()],false]) (by simp[results,results216,go_sem,x,y,z]) rfl ⟨by first|rfl|(rw[a];rfl),((f.setCell gC _).setCell gC _).setCell gC _⟩
   iterate 3
    .have⟨K,L,M⟩:=o k _ u wr f;simp only[]at K L M;have Q:¬((k:Int)+1=0):=(by omega);have wk:IntKind.i64.wrap ((k:Int)+1-1)=k:=(by rw[dM];omega);have k1:(k:Int)<n:=(by omega);clear p u;(first|(first|((have U:decide (t<q)=false:=by simp;omega);subst B)|(have S:¬(r:Int)=h:=by omega))|((have U:t<q:=by omega);subst B));go_wp2;first|(first|(refine bG (v:=.tuple #[.agg #[zu r,q,D],true]) (by simp[results,results216,go_sem,x,y,z]) rfl ⟨by first|rfl|(rw[a];rfl),((f.setCell gC _).setCell gC _).setCell gC _⟩)|(refine bG (v:=.tuple #[.agg #[zu 0,(),()],false]) (by simp[results,results216,go_sem,x,y,z]) rfl ⟨by first|rfl|(rw[a];rfl),((f.setCell gC _).setCell gC _).setCell gC _⟩))|(refine bG (v:=.tuple #[.agg #[zu 0,(),()],false]) (by simp[results,results216,go_sem,x,y,z]) rfl ⟨by first|rfl|(rw[a];rfl),((f.setCell gC _).setCell gC _).setCell gC _⟩)
  have i1:¬(m:Int)<n:=(by omega);have d:=λC=>qD.later V C;have o:=aH d;clear d;rcases p (λhm=>absurd hm (by rw[<-J.zz];omega))with⟨C,a⟩|⟨k,r,q,D,rfl,u,⟨B,T,a⟩|⟨q1,a⟩|⟨B,T,a⟩⟩
  .subst C;have i2:¬(0:Int)<n:=(by omega);clear i1;clear p;go_wp2;refine bG (v:=.tuple #[.agg #[zu 0,(),()],false]) (by simp[results,results216,go_sem,x,y,z]) rfl ⟨by first|rfl|(rw[a];rfl),((f.setCell gC _).setCell gC _).setCell gC _⟩
  iterate 3
   .obtain⟨b,h9,rfl,-,d⟩:=o (by rw[<-J.zz];omega);have⟨K,L,M⟩:=d k _ u wr f;clear d;simp only[]at K L M;have Q:¬((k:Int)+1=0):=(by omega);have wk:IntKind.i64.wrap ((k:Int)+1-1)=k:=(by rw[dM];omega);have k1:(k:Int)<n:=(by omega);clear p u;(first|(first|((have U:decide (t<q)=false:=by simp;omega);subst B)|(have S:¬(r:Int)=h:=by omega))|((have U:t<q:=by omega);subst B));go_wp2;first|(first|(refine bG (v:=.tuple #[.agg #[zu r,q,D],true]) (by simp[results,results216,go_sem,x,y,z]) rfl ⟨by first|rfl|(rw[a];rfl),((f.setCell gC _).setCell gC _).setCell gC _⟩)|(refine bG (v:=.tuple #[.agg #[zu 0,(),()],false]) (by simp[results,results216,go_sem,x,y,z]) rfl ⟨by first|rfl|(rw[a];rfl),((f.setCell gC _).setCell gC _).setCell gC _⟩))|(refine bG (v:=.tuple #[.agg #[zu 0,(),()],false]) (by simp[results,results216,go_sem,x,y,z]) rfl ⟨by first|rfl|(rw[a];rfl),((f.setCell gC _).setCell gC _).setCell gC _⟩)
end Go.Proofs.YtpopikndggffaaaGreatDoor
