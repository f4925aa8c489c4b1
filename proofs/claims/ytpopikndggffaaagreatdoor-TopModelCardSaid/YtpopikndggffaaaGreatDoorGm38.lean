/- TOP, part 38. -/
import Derived.Test.YtpopikndggffaaaGreatDoorGm37
namespace Go.Proofs.YtpopikndggffaaaGreatDoor
set_option linter.all false
set_option maxRecDepth 100000
set_option maxHeartbeats 16000000
open Go.RowKit Go.Maps Tryz
variable{d i j k m n:Nat}{w x:aI}
def L1(w:aI)(a r c b d k:Nat)(wr:aI):Prop:=
 aS w.heap.size w wr/\a<=wr.heap.size/\∃D o e S s,VM wr a Gh.no r D o c b e S false/\iI d b s D o e S/\s<=k+1
def L1.more{wr:aI}(h:L1 w k n m i j d wr)(a:aS wr.heap.size wr x):L1 w k n m i j (d+1) x:=by obtain⟨c,e,D,o,b,S,s,⟨W,q,g,h,f,l,R⟩,P,p⟩:=h;exact⟨aJ c a,aL e a.size,D,o,b,S,s,⟨W,q,g,h,f,l,R.next a⟩,P,by omega⟩
def L1.next{w:aI}{base n cap k:Nat}{wr:aI}(h:L1 w base n m i cap k wr)(a:aS wr.heap.size wr x):L1 w base n m i cap k x:=by obtain⟨c,d,D,o,b,S,s,⟨W,q,g,h,f,j,R⟩,P,e⟩:=h;exact⟨aJ c a,aL d a.size,D,o,b,S,s,⟨W,q,g,h,f,j,R.next a⟩,P,e⟩
def cw2(w:aI)(a r c d f k:Nat)(e:eT)(z:aI):Prop:=
 e=.returned (.bool true)/\∃b,z.cell? ⟨r,2,none⟩=some (.bool b)/\aS w.heap.size w z/\(b=false->L1 w a r c d f (k+1) z)
def aY2{wr:aI}(h:L1 w k n m i j d wr)(E:w.heap.size<=k)(hk:d<80){p:vC}(N:p.2.kind≠11/\p.2.kind≠12/\p.2.kind≠13/\p.2.kind≠14)(hp:OS w p)(y:TA p){A B:Option Addr}{g q Kn c:Nat}(O:p.1.1=.slice A g q)(T:p.1.2=.slice B Kn c):
 Calls prog 11 #[.pointer (some ⟨n,0,none⟩),.agg #[.int .i64 p.2.kind,.string p.2.name,.int .i64 p.2.a,.int .i64 p.2.b,.slice A g q,.slice B Kn c,.string p.2.text]] wr (cw2 w k n m i j d):=by
  obtain⟨r,K,D,o,Bs,S,s,⟨W,h4,h0,h,vL,vM,R⟩,P,hs⟩:=h;obtain⟨⟨v1,v2⟩,⟨kd,nm,pa,pb,pl,kp,tx⟩⟩:=p;dsimp only at O T N;subst O;subst T;obtain⟨J,F,U,-,x,L,M,C⟩:=hp;obtain⟨s1,s2,s3,s4⟩:=y;dsimp only at J F U x L M C s1 s2 s3 s4;have v:Kn=kp.length:=by obtain⟨A',c',hv,-⟩:=F;obtain⟨-,b,-⟩:=eV hv;exact b
  subst v;have a:∀l,aS k wr l->aS w.heap.size w l:=λl b=>⟨b.os.trans r.os,b.tape.trans r.tape,b.output.trans r.output,aL r.size b.size,λh3 Q=>(b.block h3 (aW Q E)).trans (r.block h3 Q)⟩;refine(bs5 R P (by omega) K ⟨kd,nm,pa,pb,A,g,q,B,kp.length,c,tx⟩ (N) (by dsimp only;omega) L M pl (λl b=>J.next (a l b)) (by omega) kp rfl (by omega) (λl b=>F.next (a l b)) U).mono ?_;rintro e z ⟨rfl,f,V,o',t,X,u,⟨Y,q',Z,h',G,H,I⟩,hP⟩;exact⟨rfl,u,I.row.cell 2 (by simp),a z f,λb=>⟨a z f,aL K f.size,V,o',t,X,s+1,⟨Y,q',Z,h',G,H,by rw[<-b];exact I⟩,hP b,by omega⟩⟩
def ay4(v:aN)(X:List vC)(w:aI)(h:I8 w v X)(hX:X.length<=80)(hS:∀p∈X,TA p)(n a d:Nat)(hn:n<=65535)(u:a<18446744073709551616):
 Calls prog 8 #[v,.agg #[.int .u64 a,.float .f64 d,.int .u16 (n:Nat)],.int .i64 0] w (λe z=>e=.returned (.bool true)/\aS w.heap.size w z):=by
  obtain⟨A,c,rfl,h0,hh,-⟩:=id h.1;obtain⟨m,hm⟩:∃m,m=X.length:=⟨_,rfl⟩;have W:=cI w (.cells #[.int .u64 a,.float .f64 d,.int .u16 (n:Nat)] 27);have⟨HB,HM,H,HS,E⟩:=aD (λ(x:aI)=>UA n a d x hn u) hm h hS W;rw[<-hm]at hX h0|-;clear h hm hS W h0 hh;generalize h1:6000+4*n=I at HB;clear h1 hn u;go_in;(go_wp2_with fail);refine(HB.out _).mono ?_;rintro e w1 ⟨g,r,D0,o0,rfl,hi,o,Z,-,h3,h2,-⟩;have C:=aJ E.out Z;have D:w.heap.size<=g:=(by have:=E.out.size;omega);have⟨P0,ha⟩:=aA (show L1 w g r d a I 0 w1 from⟨C,o,D0,o0,[],0,1,h3,h2,aO _⟩) D;clear hi o Z h3 h2 C D HB E;go_wp2_with fail
  go_loopw [9] (λi wr=>∃k:Nat,k<=m/\i=.int .i64 k/\L1 w g r d a I k wr) (λi _=>m-(intOf i).toNat)
  .exact⟨0,by omega,rfl,P0.out⟩
  obtain⟨k,hk,rfl,t⟩:=hrel;have O:=aH t;clear t P0;by_cases hl:k<m
  .have i1:(k:Int)<m:=(by omega);obtain⟨p,hp⟩:∃p,X[k]?=some p:=⟨_,aK (by have:=HM.out;omega)⟩;obtain⟨b,ho,rfl,Y,s⟩:=H.out.later (by have:=HM.out;omega);have q:=λ(x:aI)(hx:aS wr.heap.size wr x)=>s k p hp x (aJ O.out.1 hx);have B:=H.out.2 p (bD hp);have h4:=HS.out p (bD hp);obtain⟨EA,Ec,M,-⟩:=id B.ev.1;obtain⟨KA,Kc,N,-⟩:=id B.kp;have F:=aH (λ(x:aI)(hx:L1 w g r d a I k x)(hc:p.2.kind≠11/\p.2.kind≠12/\p.2.kind≠13/\p.2.kind≠14)=>aY2 hx ha.out (by omega) hc B h4 M N);obtain⟨⟨pe,pk⟩,⟨j,nm,pa,pb,pl,kp,tx⟩⟩:=p;dsimp only at q M N;subst M;subst N;obtain⟨N5,K⟩:∃N5,N5=pl.length:=⟨_,rfl⟩;obtain⟨N6,L⟩:∃N6,N6=kp.length:=⟨_,rfl⟩;dsimp only at F;rw[<-K,<-L]at F;simp only[<-K,<-L]at q;have C8:=aH q;obtain⟨P,Q,R,S,T,U,V⟩:=q wr (aY _ _);have HC:=aH (λx:aI=>bI6 j nm tx pa pb EA KA N5 Ec N6 Kc x);clear s q hp B h4 Y K L;cases l:aN2 j with
   |true=>
    have h8:j≠11/\j≠12/\j≠13/\j≠14:=(by unfold aN2 at l;simpa using l);have H9:=aH h8;have J:=h8.2.2;clear h8;have hf:(j==13)=false:=(by simp[J.1]);have hg:(j==14)=false:=(by simp[J.2]);clear J;(go_wp2_with fail);refine(HC.out _).mono ?_;rintro e y ⟨rfl,f⟩;rw[l];have hd:=O.out.next f;clear P Q R S T U V;obtain⟨P,Q,R,S,T,U,V⟩:=C8.out y f;clear f;(go_wp2_with fail);refine(F.out _ hd H9.out).mono ?_;rintro e z ⟨rfl,he,hj,o,t⟩;have⟨h6,h7⟩:=aA o t;clear o t P Q R S T U V;cases he with
    |true=>go_wp2;go_ret;exact⟨rfl,h6.out⟩
    |false=>
     go_wp2;go_roundw
     .exact⟨k+1,by omega,by go_num,h7.out trivial⟩
     simp[intOf];omega
   |false=>
    rcases(show j=13\/j=14\/(j≠13/\j≠14)from by omega)with rfl|rfl|J
    iterate 2
     .clear l;(go_wp2_with fail);refine(HC.out _).mono ?_;rintro e y ⟨rfl,f⟩;(try rw[l]);have G:=aH (O.out.more f);clear f P Q R S T U V;go_wp2;go_roundw
      .exact⟨k+1,by omega,by go_num,G.out⟩
      simp[intOf];omega
    have hf:(j==13)=false:=(by simp[J.1]);have hg:(j==14)=false:=(by simp[J.2]);clear J;(go_wp2_with fail);refine(HC.out _).mono ?_;rintro e y ⟨rfl,f⟩;(try rw[l]);have G:=aH (O.out.more f);clear f P Q R S T U V;go_wp2;go_roundw
    .exact⟨k+1,by omega,by go_num,G.out⟩
    simp[intOf];omega
  obtain rfl:k=m:=(by omega);have hb:=O.out.1;have h5:=aH hb;clear hb;go_wp2;go_ret;exact⟨rfl,h5.out⟩
def TopModel_walk(v G:aN)(X:List vC)(a:cx3)(W:aI)(s:I8 W v X)(O:co5 G a):
 Calls prog 3 #[v,G] W (λe K=>e=.returned (.bool true)/\aS W.heap.size W K):=by
  obtain⟨d,c,n⟩:=a;obtain⟨rfl,B,A⟩:=O;dsimp only at B A|-;have f:=cI W (.cells #[.int .u64 d,.float .f64 c,.int .u16 (n:Nat)] 27);have h:=Row.new W #[.int .u64 d,.float .f64 c,.int .u16 (n:Nat)] 27;generalize o:W.alloc (.cells #[.int .u64 d,.float .f64 c,.int .u16 (n:Nat)] 27)=m at f h;have E:=aH6 v X 80 m (s.next f) (by omega);obtain⟨J,P,C,I,F,H⟩:=aE o s f (λ(y:aI)(r:aS m.heap.size m y)(u:X.length<=80)(t:∀p∈X,TA p)=>ay4 v X y (s.next (aJ f r)) u t n d c A B) (λy:aI=>bq6 y) (λ(y:aI)(r:aS m.heap.size m y)=>show y.cell? ⟨W.heap.size,0,none⟩=some (.int .u64 d)/\y.cell? ⟨W.heap.size,1,none⟩=some (.float .f64 c)/\y.cell? ⟨W.heap.size,2,none⟩=some (.int .u16 (n:Nat))from⟨(h.next r).cell 0 (by simp),(h.next r).cell 1 (by simp),(h.next r).cell 2 (by simp)⟩);clear s f h B A o;go_in;(go_wp2_with fail);rw[J.out];refine E.mono ?_;rintro e y ⟨k,b,rfl,q⟩;have⟨j,D⟩:=aA k q;obtain⟨L,M,N⟩:=H.out y k;clear k q E;cases b with
  |true=>(go_wp2_with fail);refine(F.out y).mono ?_;rintro e z ⟨rfl,g⟩;have x:=aH (aJ C.out (aJ j.out g));clear g;go_wp2;go_ret;exact⟨rfl,x.out⟩
  |false=>obtain⟨u,t⟩:=D.out rfl;have l:=aH (I.out y j.out u t);clear u t D;(go_wp2_with fail);refine l.out.mono ?_;rintro e z ⟨rfl,g⟩;have w:=aH g;clear g l L M N;(go_wp2_with fail);refine(F.out z).mono ?_;rintro e Q ⟨rfl,i⟩;have x:=aH (aJ C.out (aJ j.out (aJ w.out i)));clear i;go_wp2;go_ret;exact⟨rfl,x.out⟩
end Go.Proofs.YtpopikndggffaaaGreatDoor
