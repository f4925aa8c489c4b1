/- TOP, part 27. -/
import Derived.Test.YtpopikndggffaaaGreatDoorGm18
import Derived.Test.YtpopikndggffaaaGreatDoorGm23
import Derived.Test.YtpopikndggffaaaGreatDoorGm24
import Derived.Test.YtpopikndggffaaaGreatDoorGm26
namespace Go.Proofs.YtpopikndggffaaaGreatDoor
set_option linter.all false
set_option maxRecDepth 100000
set_option maxHeartbeats 16000000
open Go.RowKit Go.Maps Tryz
variable{i j k m n p:Nat}
def bv9{Q:List bB}{s:List bB}(h:tO Q n=some s):s.length=60:=by
 unfold tO at h;split at h
 .rename_i a;cases h;have:=ai1 a.2;rw[aB8 a.1]at this;omega
 cases h
def cn7(w:aI)(a b c:aN)(t:cD)(e:aI)(f:aS (w.alloc (.cells #[a,b,c] t)).heap.size (w.alloc (.cells #[a,b,c] t)) e):
 e.cell? ⟨w.heap.size,0,none⟩=some a/\e.cell? ⟨w.heap.size,1,none⟩=some b/\e.cell? ⟨w.heap.size,2,none⟩=some c:=by
  have d:(w.alloc (.cells #[a,b,c] t)).heap[w.heap.size]?=some (.cells #[a,b,c] t (0,0)):=heap_alloc_new w _;have h:∀j v,(#[a,b,c]:Array aN)[j]?=some v->e.cell? ⟨w.heap.size,j,none⟩=some v:=λj v h=>by refine(f.cell (p:=⟨w.heap.size,j,none⟩) (eN.1 d).1).trans ?_;unfold World.cell?;rw[d];simpa using h
  exact⟨h 0 _ rfl,h 1 _ rfl,h 2 _ rfl⟩
def bH5(w:aI):(zeroValue 9).run prog w=.ok (.string ⟨#[]⟩) w:=by kernel_rfl
def ai0(v:aN)(L:List bB)(h:Nat)(w:aI)(hf:qE w v L)(hh:h<18446744073709551616):
 Calls prog 263 #[v,.int .u64 h] w λe w'=>e=.returned (.bool (VH L h))/\aS w.heap.size w w':=by
  rcases hf with⟨rfl,Y⟩|⟨B,nn,D,rfl,I,E,c⟩
  .have Hm:=aH (aG3 h Y);have d:=cn7 w (.int .i64 0) (.int .i64 0) (.map none) 283;have O:=(aY w.heap.size w).alloc (aO _) (.cells #[.int .i64 0,.int .i64 0,.map none] 283);clear Y;go_in;(go_wp2_with fail);generalize w.alloc (.cells #[.int .i64 0,.int .i64 0,.map none] 283)=w1 at O d|-;go_loopw [11] (λi wr=>i=.int .i64 0/\aS w.heap.size w wr) (λ_ _=>0)
   .exact⟨rfl,O⟩
   obtain⟨rfl,a⟩:=hrel;go_wp2;go_ret;exact⟨by rw[Hm.out];rfl,a⟩
  have hc:nV L<256:=(by unfold nV;exact(L.getD 3 0).toNat_lt);have o:=I;unfold okF at o;rw[bL,bL]at o;obtain⟨m1,m2,m3,m4,m5⟩:=(JU _ _).1 o.2.1;obtain⟨Z,hZ⟩:∃Z,Z=wW L:=⟨_,rfl⟩;obtain⟨p,hp⟩:∃p,p=nV L:=⟨_,rfl⟩;rw[<-hZ]at m1 m2 m3 c|-;rw[<-hp]at m4 m5 hc|-;have⟨HZ,HP,h6,R,h5⟩:=aD hZ hp I c m3;have d:=λw' V=>cn7 w (.int .i64 p) (.int .i64 Z) (.map (some B)) 283 w' V;have O:=(aY w.heap.size w).alloc (aO _) (.cells #[.int .i64 p,.int .i64 Z,.map (some B)] 283);have l:=E.alloc (.cells #[.int .i64 p,.int .i64 Z,.map (some B)] 283);have z0:(0:Int)<=(Z:Int):=(by omega);have p0:(0:Int)<=(p:Int):=(by omega);have KI:=int_keyed (P:=prog) (k:=3) underlying3;have K:plainElem (H:=Unit) prog 9 (.string ⟨#[]⟩)=some (.lit (.string []),[]):=plainElem_string underlying9 (by unfold maxLen;show(0:Nat)<=_;omega);clear hZ hp o I c m3 E;go_in;(go_wp2_with fail);obtain⟨X,hX⟩:∃X,X=w.heap.size:=⟨_,rfl⟩;rw[<-hX]at d|-;generalize w.alloc (.cells #[.int .i64 p,.int .i64 Z,.map (some B)] 283)=w1 at O d l|-;have⟨HB,HO⟩:=aA d l;clear hX d l;go_loopw [11] (λi wr=>∃k:Nat,k<=p/\i=.int .i64 k/\(∀j,j<k->ae0 L (prN h j (8*Z))=true)/\aS w1.heap.size w1 wr) (λi _=>p-(intOf i).toNat)
  .exact⟨0,bO _,rfl,λj hj=>by omega,aY _ _⟩
  obtain⟨k,hk,rfl,c,a⟩:=hrel;have r:=aH c;clear c;obtain⟨x0,x1,x2⟩:=HB.out wr a;by_cases h8:k<p
  .have j1:(k:Int)<p:=(by omega);have G:0<8*Z:=(by omega);have ep:=ap3 h k (8*Z) G;have W:=aY0 h k G;rw[show((8*Z:Nat):Int)=8*(Z:Int)from by omega]at ep;obtain⟨b,V⟩:∃b,b=prN h k (8*Z):=⟨_,rfl⟩;rw[<-V]at ep W;have cP:=λw=>QV h (k:Int) (8*(Z:Int)) w hh (by omega) (by omega);rw[ep]at cP;have Hb:=aH V;clear V ep;obtain⟨n,hn⟩:∃n,n=b/480:=⟨_,rfl⟩;have e1:(b:Int)/8/60=(n:Int):=(by omega);have ha:n<Z/60:=(by have:=h5.out;omega);have b0:(0:Int)<=(b:Int):=(by omega);obtain⟨m,U⟩:=R.out n ha;have HN:=aH hn;have x:ae0 L b=true->∀j,j<k+1->ae0 L (prN h j (8*Z))=true:=by
    intro h1 j hj;by_cases h7:j=k
    .rw[h7,<-Hb.out];exact h1
    exact r.out j (by omega)
   have s:=aH x;have u:keyOf prog 3 (.int .i64 ((b:Int)/8/60))=some (vV n):=(by rw[e1];exact keyOf_int_mk underlying3 (an3 (by omega) (by omega)));have h4:=aH (HO.out.kept (w':=wr) (row:=none) ⟨a.os,a.tape,a.output,a.size,λk hk _=>a.block k hk⟩ (by simp));have M:=bH5 wr;have b1:b<960001:=(by omega);clear hn x W G e1;rcases q:tO L n with _|P9
   iterate 2
    .rw[q]at m;(first|(have Q:=aH (s.out (bE5 (by rw[<-HN.out];exact q))))|(have A:=U P9 q;have C:=bv9 q;(have f:=bE4 (b:=b) (by rw[<-HN.out];exact q))));clear q U;(try (have⟨S,T,Hl⟩:=aB A f C;clear A f C));(go_wp2_with fail);refine(cP _).mono ?_;rintro e w' ⟨rfl,rfl⟩;go_wp2_with (first
      |(at_lookup;refine wpList_lookup_own_ok _ rfl _ _ 281 rfl 3 9 KI underlying281 (plainElem prog 9) M (.lit (.string [])) [] K B nn D rfl h4.out _ (vV n) rfl u ?_;intro v9 he z;rw[m]))
     first
      |obtain⟨F,rfl,-,-⟩:=plainElem_string_inv underlying9 z
       clear z u M K x0 x1 x2 cP m;refine cU (by kernel_rfl) (by kernel_rfl) ?_;(repeat go_big_quiet_step (fail));refine wpQuiet_nil ?_;intro _ hx;obtain⟨⟨w2,y⟩,rfl⟩:=hx;go_wp2;go_roundw
       .exact⟨k+1,by omega,by go_num,Q.out,aJ a y⟩
       simp[intOf];omega
      |obtain⟨F,rfl,h3,-⟩:=plainElem_string_inv underlying9 z
       have J:lb F=P9:=by have N:=gQ Prod.fst h3;simp only[S.out]at N;injection N with N;injection N with N;exact N.symm
       have s9:F.size=60:=(by rw[<-bN,J];exact Hl.out);have hq:b/8%60<F.size:=(by omega);have h0:(b%480)/8=b/8%60:=(by omega);have h2:(b%480)%8=b%8:=(by omega);have g:=ck2 F (b%480) (by rw[h0];exact hq);simp only[h0,h2]at g;have f:=T.out;rw[<-J,g]at f;have hw:=cl3 F[b/8%60].toNat (b%8) F[b/8%60].toNat_lt (by omega);have c1:(b:Int)/8%60<60:=(by omega);have c2:(0:Int)<=(b:Int)/8%60:=(by omega);have c3:(b:Int)%8<=7:=(by omega);have c4:(0:Int)<=(b:Int)%8:=(by omega);have c5:(0:Int)<=(b:Int)/8:=(by omega);clear z h3 J u M K x0 x1 x2 cP m S Hl g h2 T;rcases t:(F[b/8%60].toNat/2^(b%8)%2==1)with _|_
       iterate 2
        .rw[t]at hw f;first|((have hF:=cf9 (L:=L) (h:=h) (i:=k) h6.out (by rw[<-HP.out];exact h8) (by rw[<-HZ.out,<-Hb.out];exact f));have HF:=aH hF;clear f hF t)|have Q:=aH (s.out f);clear f t
         refine cU (by kernel_rfl) (by kernel_rfl) ?_;(repeat go_big_quiet_step (fail));refine wpQuiet_nil ?_;intro _ hx;obtain⟨⟨w2,y⟩,rfl⟩:=hx;go_wp2;first|(go_ret;(exact⟨by rw[HF.out];rfl,aJ O (aJ a y)⟩))|(go_roundw;(case rel=>exact⟨k+1,by omega,by go_num,Q.out,aJ a y⟩);(case measure=>simp[intOf];omega))
  obtain rfl:k=p:=(by omega);have j1:¬(k:Int)<k:=(by omega);have hT:=bP3 (L:=L) (h:=h) (by rw[<-HP.out,<-HZ.out];exact r.out);have Q:=aH hT;clear hT;go_wp2;go_ret;exact⟨by rw[Q.out];rfl,aJ O a⟩
variable{X:List aN}{L:List cZ}{N R:Nat->Prop}{w x y:aI}{D:aM}{u v z:aN}{s:bK}{K a:bK->Nat}{H:bK->aN}{T:cD}
def JX(n:Nat):lb (lD 116 (n:Int))=nR n:=by rw[KG,gF];rfl
def YC(n:Nat):lb (lD 98 (n:Int))=vI n:=by rw[KG,gF];rfl
def s7(w:aI)(N:Nat->Prop)(f p d n:Nat)(L:List cZ):Prop:=∃(g a b c:aN)(F:bK),
 Row w p 285 [.pointer (some ⟨d,0,none⟩),.int .i64 (n:Nat),.int .i64 (L.length:Nat),g,a,b,c]/\f<=p/\
 w.ownsRow f 328 4 g (pA L L.length).length (XZ (pA L L.length))/\qE w (.agg #[a,b,c]) F/\(∀e∈L,VH F e.1=true)/\N p/\(∀k,g.ownBlock=some k->N k)/\∀q,c=.map (some q)->N q
def qE.eO{w':aI}{a:aN}(h:qE w (.agg #[a,v,u]) s)(f:∀q,u=.map (some q)->w'.heap[q]?=w.heap[q]?):qE w' (.agg #[a,v,u]) s:=by
 rcases h with h|⟨B,n,D,b,c,d,e⟩
 .exact .inl h
 refine .inr ⟨B,n,D,b,c,nO d (f B ?_),e⟩;simp at b;exact b.2.2
def qE.map_lt(h:qE w (.agg #[v,u,z]) s){n:Nat}(b:z=.map (some n)):∃(d:Nat)(M:Dm),w.ownsMap prog 3 (plainElem prog 9) n d M:=by
 rcases h with h|⟨B,d,D,a,-,c,-⟩
 .subst b;simp at h
 subst b;simp at a;rw[a.2.2];exact⟨d,D,c⟩
def s7.eO{w':aI}(h:s7 w N m k n i L)(d:∀q,N q->q<w.heap.size->w'.heap[q]?=w.heap[q]?):s7 w' N m k n i L:=by obtain⟨v,a,b,c,F,e,s,f,g,t,o,p,r⟩:=h;refine⟨v,a,b,c,F,e.of_block (d k o e.lt),s,fG f λx j=>d x (p x j) (jG f x j),g.eO λq l=>d q (r q l) ?_,t,o,p,r⟩;obtain⟨i,D,u⟩:=g.map_lt l;exact u.lt
def s7.next{w:aI}{base p k n:Nat}(h:s7 w N base p k n L)(a:aS w.heap.size w x):s7 x N base p k n L:=
 h.eO λq _ b=>a.block q b
def s7.mono{p n:Nat}(h:s7 w N k p n m L)(d:∀q,q<w.heap.size->N q->R q):s7 w R k p n m L:=by obtain⟨s,a,b,c,F,e,l,f,g,o,t,u,v⟩:=h;refine⟨s,a,b,c,F,e,l,f,g,o,d p e.lt t,λx i=>d x (jG f x i) (u x i),λq j=>d q ?_ (v q j)⟩;obtain⟨m,D,r⟩:=g.map_lt j;exact r.lt
def PA:¬(285=103\/285=112\/285=5)/\¬(328=103\/328=112\/328=5):=by decide
def iL(e:Row w n T X)(f:¬(T=103\/T=112\/T=5)):¬CD w n:=λ⟨C,i,h,a,c⟩=>by
 obtain⟨g,b,d,-⟩:=e;rw[d]at a;cases a;exact f c
def sW{A:Program}{R:aN->Option (Du×List MemPlace)}{D:Du}(h:w.ownsMap A T R k n D):¬CD w k:=λ⟨C,g,e,b,f⟩=>by
 obtain⟨d,a,c,-⟩:=h;rw[c]at b;cases b
def s7.xC{base:Nat}(h:s7 w N base k n i L)(j:bM w base n m D K H)(t:∀q,N q->q≠m)(d:gS base m w x):s7 x N base k n i L:=by obtain⟨u,a,b,c,F,e,p,r,f,s,v,y,o⟩:=h;refine⟨u,a,b,c,F,d.row e PA.1 (j.pX e),p,d.own r PA.2 j.map,f.eO λq l=>?_,s,v,y,o⟩;obtain⟨i,D,g⟩:=f.map_lt l;exact d.block q g.lt (.inr ⟨t q (o q l),sW g⟩)
def s7.cells{w:aI}{base m k n:Nat}(h:s7 w N base m k n L):w.cell? ⟨m,0,none⟩=some (.pointer (some ⟨k,0,none⟩))/\w.cell? ⟨m,1,none⟩=some (.int .i64 n)/\w.cell? ⟨m,2,none⟩=some (.int .i64 (L.length:Nat)):=by obtain⟨e,a,b,c,F,d,-⟩:=h;exact⟨d.cell 0 (by simp),d.cell 1 (by simp),d.cell 2 (by simp)⟩
def LN(h:s7 w N m k n i L):
 Calls prog 218 #[.pointer (some ⟨k,0,none⟩)] w λe a=>e=.returned (.bool false)/\w=a:=by
  obtain⟨b,-⟩:=h.cells;clear h;go_in;go_wp2;go_ret;exact⟨rfl,rfl⟩
def RM(D:aM)(n:bK):bK×Int:=if D.down then([],61)else match bR D.files n with
 |none=>([],4)
 |some f=>(f.data,0)
def aC8(h:bM w k n m D K H)(s:aT)(o:s.size<=maxLen):
 Calls prog 229 #[.pointer (some ⟨n,0,none⟩),.string s] w (MW k n m D K H w (RM D (lb s))):=by
  have b:=uX h s o;unfold MW RM;have j:=aH h;rcases i:D.down with _|_
  .rcases a:bR D.files (lb s)with _|f
   iterate 2
    ·(first|(have e:D.size (lb s)=(0,4):=by unfold aM.size;rw[i,a];rfl)|(have e:D.size (lb s)=(f.data.length,0):=by unfold aM.size;rw[i,a];rfl));rw[e]at b;(try (have d:=(h.data a).2;(have g:=AY h s o 0 (f.data.length:Nat) ⟨by omega,by omega⟩ ⟨by omega,by omega⟩);(have l:D.read (lb s) 0 (f.data.length:Nat)=(f.data,0):=by unfold aM.read;rw[i,a];simp);rw[l]at g;unfold MW at g));simp only[bU,dP];(first|clear h e a|clear h e l a d);go_in;(go_wp2_with fail);refine b.mono ?_;rintro e t ⟨rfl,rfl⟩;(try (go_wp2_with fail;refine g.mono ?_;rintro e u ⟨rfl,p,c⟩;have⟨r,q⟩:=aA p c;clear p c g b));go_wp2;go_ret2;first|exact⟨rfl,j.out,gS.refl _ _ _⟩|exact⟨rfl,r.out,q.out⟩
  have e:D.size (lb s)=(0,61):=(by unfold aM.size;rw[i];rfl);rw[e]at b;simp only[eE];clear h e;go_in;(go_wp2_with fail);refine b.mono ?_;rintro e t ⟨rfl,rfl⟩;go_wp2;go_ret2;exact⟨rfl,j.out,gS.refl _ _ _⟩
def bv1(e:Int)(w:aI)(d:-1000<=e/\e<=1000):
 Calls prog 231 #[.int .i64 e] w λx c=>x=.returned (.int .i64 (if e=1\/e=61 then e else 90))/\w=c:=by
  by_cases a:e=1
  .subst a;rw[aU (.inl rfl)];go_in;go_wp2;go_ret;exact⟨rfl,rfl⟩
  by_cases b:e=61
  iterate 2
   .first|subst b;rw[aU (.inr rfl)]|((rw[aQ (by omega)]);have f:(e==1)=false:=bI.2 a;have g:(e==61)=false:=bI.2 b)
    go_in;go_wp2;go_ret;exact⟨rfl,rfl⟩
def bN2(h:s7 w N m k n i L)(v:L.length<=1000000)(x:Nat)(J:x<18446744073709551616):
 Calls prog 219 #[.pointer (some ⟨k,0,none⟩),.int .u64 x] w λe y=>(∃b,e=.returned (.bool b)/\(b=false->∀e∈L,e.1≠x))/\aS w.heap.size w y:=by
  have q:=LN h;obtain⟨M,a,b,c,F,f,G,H,r,s,-⟩:=h;have l:=ai0 (.agg #[a,b,c]) F x w r J;have o:=f.cell 2 (by simp);have C:=f.cell 4 (by simp);have D:=f.cell 5 (by simp);have E:=f.cell 6 (by simp);simp only[bX,bE]at o C D E;have p:VH F x=false->∀e∈L,e.1≠x:=λh e j I=>by have:=s e j;rw[I,h]at this;cases this
  have A:=aH p;clear p f G H r s;by_cases d:L.length=0
  iterate 2
   .first|have t:L=[]:=fE.1 d;rw[d]at o;have B:=aH t;clear t d v l|(obtain⟨P,u⟩:∃P,P=L.length:=⟨_,rfl⟩;rw[<-u]at o d v;(have K:(0:Int)<(P:Int):=by omega);clear u d)
    go_in;(go_wp2_with fail);refine q.mono ?_;rintro e y ⟨rfl,rfl⟩;(try (go_wp2_with fail;refine l.mono ?_;rintro e O ⟨rfl,g⟩;have z:=aH g;clear g l q));go_wp2;go_ret;first|(exact⟨⟨_,rfl,λ_ e j=>by rw[B.out]at j;cases j⟩,aY _ _⟩)|exact⟨⟨_,rfl,A.out⟩,z.out⟩
def aI2:(prog.info? 23).map (λi=>(i.zero,i.size,i.bytes))=some (some (.int .u64 0),1,8):=by kernel_rfl
def aK2(L:List bB)(p:Int):(QL L p).length<=64+64*(L.length/60):=by
 cases b:Q5 L.length p with
 |false=>rw[aK3 b];simp
 |true=>obtain⟨d,e,f,g,h⟩:=(JU _ _).1 b;obtain⟨q,rfl⟩:=dA (a:=p) (by omega);have c:L.length=60*(L.length/60):=(by omega);rw[ak1 b c,aP,aj4,U1 c _ (aO _)];omega
def aG4(l:List Nat)(n:Int)(g:Nat):(Y4 l n ((g*60*8:Nat):Int)).length<=60*g:=by
 unfold Y4;split
 .simp
 rw[Q7];omega
def aY3{n:Nat}(a:k<=16):64*JM n k<=64+4*n:=by unfold JM;have:n*k<=n*16:=Nat.mul_le_mul_left n a;omega
def ap5{n:Nat}(a:n<=10000)(b:k<=16):JM n k<=501:=by unfold JM;have:n*k<=10000*16:=Nat.mul_le_mul a b;omega
def aw9(w:aI)(n:Nat)(e:eT)(a:aI):Prop:=∃f:bK,f.length<=128+4*n/\e=.returned (.string (bs f))/\aS w.heap.size w a
def bu9(v:aN)(L:List cZ)(r:Nat)(w:aI)(hl:qD w v L)(hn:L.length<=10000):
 Calls prog 271 #[v,.float .f64 r] w (aw9 w L.length):=by
  obtain⟨⟨A,c,rfl,-,-,-,-⟩,-⟩:=id hl;obtain⟨-,ha,hb,-⟩:=hl.cells;unfold maxLen at hb;have o:=λY=>hl.later Y;have M:=hl.2;obtain⟨n,hN⟩:∃n,n=L.length:=⟨_,rfl⟩;rw[<-hN]at ha hn o;have⟨HN,HL,h8⟩:=aB hN o M;have HP:=λw=>ap1 r w;unfold ZT at HP;unfold aw9;simp only[<-hN];clear hl o hN M;go_in;go_wp2_with fail
  go_loopw [5,12] (λhv i wr=>∃(j:Nat)(s:List Nat),j<=n/\i=.int .i64 j/\s.length<=j/\wr.ownsRow w.heap.size 23 1 hv s.length (VC s)/\(∀x∈s,x<18446744073709551616)/\aS w.heap.size w wr) (λ_ i _=>n-(intOf i).toNat)
  .exact⟨0,[],bO _,rfl,aO _,bQ _ _ _ _,by simp,aY _ _⟩
  obtain⟨j,s,hj,rfl,hd,l,H,y⟩:=hrel;obtain⟨A1,c1,rfl,hm,ho,-⟩:=id (Reads.dC l);unfold maxLen at ho;obtain⟨k,W⟩:∃k,k=s.length:=⟨_,rfl⟩;rw[<-W]at hd l hm|-;by_cases x0:j<n
  .have i1:(j:Int)<n:=(by omega);obtain⟨e,he⟩:∃e,L[j]?=some e:=⟨_,aK (by have:=HN.out;omega)⟩;obtain⟨b,x4,rfl,-,hc⟩:=HL.out (by omega);obtain⟨c0,hu,c2⟩:=hc j e he wr y;have oe:=h8.out e (bD he);have k1:=dO wr (.cells (iX e) 152);have r1:=Row.new wr (iX e) 152;obtain⟨t,x2,x3⟩:=e;have hp:=oe.1;simp only at hp;unfold iX at k1 r1;simp only at k1 r1;have y0:∀x:dY (wr.alloc (.cells #[.int .u64 t,.int .i64 x2,.int .i64 x3] 152)),x.it.cell? ⟨wr.heap.size,0,none⟩=some (.int .u64 t):=λx=>(r1.next x.ok).cell 0 (by simp);have⟨h,m,E,J⟩:=aC (cA l k1) (dK y k1 (aO _)) H W;have hr:wr.heap.size<(wr.alloc (.cells #[.int .u64 t,.int .i64 x2,.int .i64 x3] 152)).heap.size:=(by rw[bC];omega);have R1:=aH r1;clear hc he l y k1 oe H W r1;rcases dX k with Y|Y
   .subst Y;(go_wp2_with fail);refine cU (by kernel_rfl) (by kernel_rfl) ?_;(repeat go_big_quiet_step (fail));refine wpQuiet_nil ?_;intro _ I;obtain⟨⟨w2,d⟩,rfl⟩:=I;have e0:=(R1.out.next d).cell 0 (by simp);simp only[bE]at e0;have a:=aH d;clear y0 d;(go_wp2_with (at_builtin;refine R7 aI2 underlying334 (cA h.out a.out) rfl rfl rfl rfl rfl (by omega) (by have:=m.out.size;have:=a.out.size;omega) ?_;intro v4 w4 f C u;have⟨O,N⟩:=aA f (pH (cA (cA h.out a.out) ((aY _ _).alloc (aO _) _)) (aJ m.out (aJ a.out ((aY _ _).alloc (aO _) _))) C (by have:=m.out.size;have:=a.out.size;rw[bC];omega));clear f C u));go_roundw
    .
     refine⟨j+1,s++[t],by omega,by go_num,by simp[<-J.out],?_,?_,N.out⟩
     .have X:VC (s++[t])=VC s++[.int .u64 t]:=(by simp[VC]);rw[X,aP,<-J.out];exact O.out
     intro x I;rcases cE.1 I with P|P
     .exact E.out x P
     simp at P;omega
    simp[intOf];omega
   obtain⟨q,hq⟩:∃q,k=q+1:=⟨k - 1,by omega⟩;subst hq;obtain⟨b1,h4,rfl,-,-,-,B⟩:=(Reads.dC h.out).W1 (by omega);obtain⟨x9,V⟩:∃x,s[q]?=some x:=⟨_,aK (by have:=J.out;omega)⟩;have y1:∀x:dY (wr.alloc (.cells #[.int .u64 t,.int .i64 x2,.int .i64 x3] 152)),x.it.cell? ⟨b1,h4+q,none⟩=some (.int .u64 x9):=λx=>by have:=B x.it x.ok q (by simp;have:=J.out;omega);rw[this];have X:=(aR.1 V).2;simp[VC,X]
   have ht:=E.out x9 (bD V);have i2:((q+1:Nat):Int)-1=(q:Int):=(by omega);have i3:(q:Int)+1-1=(q:Int):=(by omega);have i4:((q:Int)+1==0)=false:=bI.2 (by omega);clear B V Y;by_cases hh:x9=t
   .subst hh;(go_wp2_with fail);refine cU (by kernel_rfl) (by kernel_rfl) ?_;(repeat go_big_quiet_step (fail));refine wpQuiet_nil ?_;intro _ I;obtain⟨⟨w2,d⟩,rfl⟩:=I;have a:=aH d;clear y0 y1 d;go_wp2;go_roundw
    .exact⟨j+1,s,by omega,by go_num,by have:=J.out;omega,by rw[<-J.out];exact cA h.out a.out,E.out,aJ m.out a.out⟩
    simp[intOf];omega
   have i5:¬(x9:Int)=(t:Int):=(by omega);(go_wp2_with fail);refine cU (by kernel_rfl) (by kernel_rfl) ?_;(repeat go_big_quiet_step (fail));refine wpQuiet_nil ?_;intro _ I;obtain⟨⟨w2,d⟩,rfl⟩:=I;have e0:=(R1.out.next d).cell 0 (by simp);simp only[bE]at e0;have a:=aH d;clear y0 y1 d;(go_wp2_with (at_builtin;refine R7 aI2 underlying334 (cA h.out a.out) rfl rfl rfl rfl rfl (by omega) (by have:=m.out.size;have:=a.out.size;omega) ?_;intro v4 w4 f C u;have⟨O,N⟩:=aA f (pH (cA (cA h.out a.out) ((aY _ _).alloc (aO _) _)) (aJ m.out (aJ a.out ((aY _ _).alloc (aO _) _))) C (by have:=m.out.size;have:=a.out.size;rw[bC];omega));clear f C u));go_roundw
   .
    refine⟨j+1,s++[t],by omega,by go_num,by simp[<-J.out];omega,?_,?_,N.out⟩
    .have X:VC (s++[t])=VC s++[.int .u64 t]:=(by simp[VC]);rw[X,aP,<-J.out];exact O.out
    intro x I;rcases cE.1 I with P|P
    .exact E.out x P
    simp at P;omega
   simp[intOf];omega
  obtain rfl:j=n:=(by omega);have i1:¬(j:Int)<j:=(by omega);have K:k<=10000:=(by omega);have⟨HU,m,h7⟩:=aB (show cv9 wr (.slice A1 k c1) s from⟨by have:=Reads.dC l;rw[<-W];exact this,H⟩) y W;clear l H y W;(go_wp2_with fail);refine(HP _).mono ?_;rintro e w' ⟨p,hg,R,rfl,rfl⟩;have U:=aB9 k p wr K hg R;have hi:=ap5 K R;have h3:=aY3 (n:=k) R;generalize JM k p=g at U hi h3;clear HP;(go_wp2_with fail);refine U.mono ?_;rintro e w' ⟨rfl,rfl⟩;clear U;have D:=aN8 (.slice A1 k c1) s (p:Int) ((g*60*8:Nat):Int) wr HU.out (by have:=h7.out;omega) ⟨by omega,by omega⟩ ⟨by omega,by omega⟩;have hf:=aG4 s (p:Int) g;generalize Y4 s (p:Int) ((g*60*8:Nat):Int)=T at D hf;have i6:(g:Int)*60*8=((g*60*8:Nat):Int):=(by omega);have G:=λw=>bv8 (bs T) (p:Int) w (by rw[eK];omega) ⟨by omega,by omega⟩;have h1:=aK2 (lb (bs T)) (p:Int);have h2:(lb (bs T)).length=T.length:=(by rw[gF]);rw[h2]at h1;have Q:(QL (lb (bs T)) (p:Int)).length<=128+4*j:=(by omega);generalize QL (lb (bs T)) (p:Int)=F at G Q;have h6:=aH Q;clear h1 h2 h3 Q;generalize bs T=S at D G;obtain⟨z,hz⟩:∃z:Int,z=((g*60*8:Nat):Int):=⟨_,rfl⟩;rw[<-hz]at D i6;have hw:(0:Int)<=g:=(by omega);have hy:(g:Int)<=501:=(by omega);clear hz;(go_wp2_with fail);refine D.mono ?_;rintro e w2 ⟨rfl,d⟩;have a:=aH d;clear D d;(go_wp2_with fail);refine(G _).mono ?_;rintro e w3 ⟨rfl,Z⟩;have h5:=aH Z;clear G Z;go_wp2;go_ret;exact⟨F,h6.out,rfl,aJ m.out (aJ a.out h5.out)⟩
def rI.from{n k:Nat}{r:Int×aM}{w:aI}{e:eT}(a:gS n m w x)(h:rI n k m r x e y):rI n k m r w e y:=⟨h.1,h.2.1,a.trans h.2.2⟩
def cp4(h:bM w k n m D K H)(L:k<=w.heap.size)(s t:aT)(M:s.size<=maxLen)(Y:t.size<=100000000):
 Calls prog 272 #[.pointer (some ⟨n,0,none⟩),.string s,.string t] w (rI k n m (D.lay (lb s) (lb t)) w):=by
  have i:=DG h s M L;have y:=λ(v:aM)(x:aI)(E:bK->Nat)(F:bK->aN)(N:bM x k n m v E F)(l:k<=x.heap.size)=>yX N s t M Y l;have A:=λ(v:aM)(x:aI)(E:bK->Nat)(F:bK->aN)(N:bM x k n m v E F)(l:k<=x.heap.size)=>FO N s M l;unfold aM.lay kE;obtain⟨⟨S,O⟩,o⟩:∃r,r=D.create (lb s):=⟨_,rfl⟩;rw[<-o]at i|-;unfold rI at i;simp only at i|-;clear h;by_cases G:S=0
  .subst G;rw[aU rfl];have b:=y O;obtain⟨⟨T,P⟩,q⟩:∃r,r=O.append (lb s) (lb t):=⟨_,rfl⟩;rw[<-q]at b|-;unfold rI at b;simp only at b|-;by_cases I:T=0
   iterate 2
    .first|subst I;rw[aU rfl];have j:=A P;generalize P.sync (lb s)=r3 at j ⊢|rw[aQ I];have i2:(T==0)=false:=bI.2 I
     clear o q y A;go_in;(go_wp2_with fail);refine i.mono ?_;rintro e V ⟨rfl,⟨Q,R,c⟩,a⟩;have J:=b V Q R c (aL L a.size);have d:=aH a;clear i b c a;(go_wp2_with fail);refine J.mono ?_;rintro e Z ⟨rfl,⟨W,X,g⟩,f⟩;(try have u:=j Z W X g (aL L (aL d.out.size f.size)));have p:=aH (d.out.trans f);first|clear J j g f;go_wp2_with fail;refine u.mono ?_;rintro e w3 U;have z:=aH (U.from p.out);obtain⟨rfl,-⟩:=U;clear u|have C:=aH g;clear J g f
     go_wp2;go_ret;first|exact z.out|exact⟨rfl,⟨_,_,C.out⟩,p.out⟩
  rw[aQ G];have i1:(S==0)=false:=bI.2 G;clear o y A;go_in;(go_wp2_with fail);refine i.mono ?_;rintro e V ⟨rfl,⟨Q,R,c⟩,a⟩;have⟨d,B⟩:=aA a c;clear i c a;go_wp2;go_ret;exact⟨rfl,⟨_,_,B.out⟩,d.out⟩
def U2(D:aM):Int:=if D.down then 61 else 0
def cd6(h:bM w k n m D K H):
 Calls prog 270 #[.pointer (some ⟨n,0,none⟩)] w λe d=>e=.returned (.int .i64 (U2 D))/\w=d:=by
  have b:=uX h ⟨#[]⟩ (by show 0<=_;unfold maxLen;omega);have a:bR D.files (lb ⟨#[]⟩)=none:=by
   cases g:bR D.files (lb ⟨#[]⟩)with
   |none=>rfl
   |some f=>have:=h.names _ (xN g);exact absurd this (by show¬jH (lb ⟨#[]⟩)=true;decide)
  unfold U2;rcases c:D.down with _|_
  iterate 2
   ·(first|(have e:D.size (lb ⟨#[]⟩)=(0,4):=by unfold aM.size;rw[c,a];rfl)|(have e:D.size (lb ⟨#[]⟩)=(0,61):=by unfold aM.size;rw[c];rfl));rw[e]at b;clear h e a;go_in;(go_wp2_with fail);refine b.mono ?_;rintro e d ⟨rfl,rfl⟩;go_wp2;go_ret;exact⟨rfl,rfl⟩
def bl5{c:bB}(d:n<=999999):((lD c (n:Int)).toList==[])=false:=by rw[bI];intro h;have a:(lD c (n:Int)).toList.length=0:=(by rw[h];rfl);rw[l3,bN]at a;have b:=yQ (c:=c) d;rw[KG]at a;rw[eK]at a;unfold jH at b;rw[bH]at b;exact b.1 (fE.1 a)
def W4(a d m:Nat)(D:aM)(n:Nat)(L:List cZ)(w:aI)(e:eT)(b:aI):Prop:=∃f:bK,f.length<=128+4*L.length/\rI a d m (nL D n L f) w e b
def bN0(h:bM w k n m D K H)(hb:k<=w.heap.size)(hw:Nat)(hn:hw<=999999)(v:aN)(L:List cZ)(r:Nat)(hl:∀w',gS k m w w'->qD w' v L)(hL:L.length<=10000)(hm:vU L=true)(ho:∀e∈L,wN e):
 Calls prog 226 #[.pointer (some ⟨n,0,none⟩),.int .i64 hw,v,.float .f64 r] w (W4 k n m D hw L w):=by
  have HT:=λx:aI=>yP (hw:Int) x ⟨by omega,by omega⟩;have j:=λx:aI=>JS (hw:Int) x ⟨by omega,by omega⟩;obtain⟨⟨A,c,rfl,-,-,-,-⟩,-⟩:=id (hl w (gS.refl _ _ _));have Y:=λ(x:aI)(J:gS k m w x)=>aT9 (.slice A L.length c) L x (hl x J) (by omega);have he:bC3 L=0:=(by unfold bC3;rw[aU hm]);have W:(mF L).length=12+24*L.length:=(PF hm ho (by omega)).2.2.1;rw[he]at Y;have HF:=λ(x:aI)(J:gS k m w x)=>bu9 (.slice A L.length c) L r x (hl x J) hL;unfold aw9 at HF;have HO:=λ(x:aI)(J:bM x k n m D K H)=>cd6 J;have z:=λ(x:aI)(J:bM x k n m D K H)=>SU J;have B:=λ(D':aM) (x:aI) (b':bK->Nat) (d':bK->aN) (J:bM x k n m D' b' d') (hr:k<=x.heap.size) (s t:aT) hs ht=>cp4 J hr s t hs ht;have n1:=bl5 (c:=116) hn;have n2:=bl5 (c:=98) hn;have t1:=jM 116 (hw:Int);have t2:=jM 98 (hw:Int);have l1:=JX hw;have l2:=YC hw;obtain⟨S1,h8⟩:∃S,S=lD 116 (hw:Int):=⟨_,rfl⟩;obtain⟨S2,ha⟩:∃S,S=lD 98 (hw:Int):=⟨_,rfl⟩;rw[<-h8]at HT n1 t1 l1;rw[<-ha]at j n2 t2 l2;obtain⟨P,hP⟩:∃P,P=bs (mF L):=⟨_,rfl⟩;have h7:P.size=12+24*L.length:=(by rw[hP,eK,W]);have hq:lb P=mF L:=(by rw[hP,gF]);rw[<-hP]at Y;have Q:=h.cap;have T:=h.used;unfold W4;have X:=aH h;have hv:P.size<=240012:=(by omega);have h6:(mF L).length=P.size:=(by rw[W,h7]);have h3:=aH hL;clear h hl hm ho he W h8 ha hP h7 hL;rcases Z:D.down with _|_
  .have f:=HO;unfold U2 at f;rw[Z]at f;have q:-1048576<=D.free/\D.free<=1048576:=(by unfold aM.free;omega);obtain⟨fr,V⟩:∃fr,fr=D.free:=⟨_,rfl⟩;rw[<-V]at z q;obtain⟨g1,g2⟩:=q;have⟨N,HD⟩:=aA V Z;clear HO Q T V Z;go_in;(go_wp2_with fail);refine(HT _).mono ?_;rintro e w1 ⟨rfl,l⟩;(go_wp2_with fail);refine(j _).mono ?_;rintro e w2 ⟨rfl,o⟩;have b:=aJ l o;have hp:=Y w2 (gS.cQ b _ _);have i:=aH b;clear HT j Y l o b;(go_wp2_with fail);refine hp.mono ?_;rintro e w3 ⟨rfl,p⟩;have a:=aH (aJ i.out p);have u:=f w3 (X.out.next a.out);have hg:=HF w3 (gS.cQ a.out _ _);clear hp p HF f;(go_wp2_with fail);refine u.mono ?_;rintro e w' ⟨rfl,rfl⟩;clear u;(go_wp2_with fail);refine hg.mono ?_;rintro e w4 ⟨F,hF,rfl,hc⟩;have M:=aH (aJ a.out hc);have R:=z w4 (X.out.next M.out);have U:(bs F).size=F.length:=eK F;have h5:lb (bs F)=F:=gF F;obtain⟨Fq,h4⟩:∃Fq,Fq=bs F:=⟨_,rfl⟩;rw[<-h4]at U h5|-;have hu:Fq.size<=200000:=(by have:=h3.out;omega);clear hg hc z h4;(go_wp2_with fail);refine R.mono ?_;rintro e w5 ⟨rfl,hf⟩;have d:=aH (aJ M.out hf);clear R hf;by_cases y:fr-(P.size:Int)-(Fq.size:Int)<6000
   .have O:=aH (show nL D hw L F=(60,D)from by unfold nL;rw[HD.out,aQ (by simp),aU (by rw[h6,<-N.out,<-U];exact y)]);go_wp2;go_ret;refine⟨F,hF,?_⟩;rw[O.out];exact⟨rfl,⟨_,_,X.out.next d.out⟩,gS.cQ d.out _ _⟩
   have O:=aH (show nL D hw L F=kE (D.lay (vI hw) F) λD=>D.lay (nR hw) (mF L)from by unfold nL;rw[HD.out,aQ (by simp),aQ (by rw[h6,<-N.out,<-U];exact y)]);have g:=B D w5 K H (X.out.next d.out) (aL hb d.out.size) S2 Fq (by unfold maxLen;unfold maxLen at t2;omega) (by omega);rw[l2,h5]at g;obtain⟨⟨e1,D1⟩,hh⟩:∃r,r=D.lay (vI hw) F:=⟨_,rfl⟩;rw[<-hh]at g O;unfold rI at g;simp only at g;by_cases h1:e1=0
   iterate 2
    .first|subst h1;have h2:=B D1;have C:=aH (show nL D hw L F=D1.lay (nR hw) (mF L)from O.out)|((have C:=aH (show nL D hw L F=(e1,D1)from by rw[O.out];unfold kE;rw[aQ h1]));have i1:(e1==0)=false:=bI.2 h1)
     clear hh B O;(go_wp2_with fail);refine g.mono ?_;rintro e w6 ⟨rfl,⟨b6,d6,I⟩,E⟩;(try (have hi:=E.size;(have G:=h2 w6 b6 d6 I (aL hb (aL d.out.size hi)) S1 P (by unfold maxLen;unfold maxLen at t1;omega) (by omega));rw[l1,hq]at G;rw[<-C.out]at G));have h0:=aH ((gS.cQ d.out k m).trans E);first|clear g h2 I E C;go_wp2_with fail;refine G.mono ?_;rintro e w7 h9;have hj:=aH (h9.from h0.out);obtain⟨rfl,-⟩:=h9;clear G|have hk:=aH I;clear g I E
     go_wp2;go_ret;first|exact⟨F,hF,hj.out⟩|refine⟨F,hF,?_⟩;rw[C.out];exact⟨rfl,⟨_,_,hk.out⟩,h0.out⟩
  have f:=HO;unfold U2 at f;rw[Z]at f;have O:=aH (show nL D hw L []=(61,D)from by unfold nL;rw[Z,aU rfl]);clear HO Q T Z B z HF;go_in;(go_wp2_with fail);refine(HT _).mono ?_;rintro e w1 ⟨rfl,l⟩;(go_wp2_with fail);refine(j _).mono ?_;rintro e w2 ⟨rfl,o⟩;have b:=aJ l o;have hp:=Y w2 (gS.cQ b _ _);have i:=aH b;clear HT j Y l o b;(go_wp2_with fail);refine hp.mono ?_;rintro e w3 ⟨rfl,p⟩;have a:=aH (aJ i.out p);have u:=f w3 (X.out.next a.out);clear hp p f;(go_wp2_with fail);refine u.mono ?_;rintro e w' ⟨rfl,rfl⟩;(go_wp2_with fail);refine u.mono ?_;rintro e w' ⟨rfl,rfl⟩;go_wp2;go_ret;refine⟨[],by simp,?_⟩;rw[O.out];exact⟨rfl,⟨_,_,X.out.next a.out⟩,gS.cQ a.out _ _⟩
variable{C:oF}
def VW:lb ⟨#[109,97,112]⟩=fZ:=rfl
def ER:¬(57=103\/57=112\/57=5):=by decide
def aj3(w:aI)(B k:Nat)(p q r s:aN)(h:k≠B):((((w.setCell ⟨B,0,none⟩ p).setCell ⟨B,1,none⟩ q).setCell ⟨B,2,none⟩ r).setCell ⟨B,3,none⟩ s).heap[k]?=w.heap[k]?:=by rw[aV _ _ _ _ h,aV _ _ _ _ h,aV _ _ _ _ h,aV _ _ _ _ h]
def YK(w:aI)(B:Nat)(p q r s:aN):w.grownBy ((((w.setCell ⟨B,0,none⟩ p).setCell ⟨B,1,none⟩ q).setCell ⟨B,2,none⟩ r).setCell ⟨B,3,none⟩ s) (some B):=
 ⟨rfl,rfl,rfl,by simp,λk c a=>aj3 w B k p q r s (λb=>a (by rw[b]))⟩
def zD.aV3(h:zD w n v C)(z:Row w k 57 X)(p q r s:aN):zD ((((w.setCell ⟨k,0,none⟩ p).setCell ⟨k,1,none⟩ q).setCell ⟨k,2,none⟩ r).setCell ⟨k,3,none⟩ s) n v C:=by
 have g:∀{D:Nat} {t:cD} {j:List aN},Row w D t j->t≠57->((((w.setCell ⟨k,0,none⟩ p).setCell ⟨k,1,none⟩ q).setCell ⟨k,2,none⟩ r).setCell ⟨k,3,none⟩ s).heap[D]?=w.heap[D]?:=fun {D t j} d A=>aj3 w k D p q r s λu=>A (dI (u▸d) z);rcases h with h|⟨b,B,c,d,l,m,o,e,a⟩
 .exact .inl h
 exact .inr ⟨b,B,c,d,l,m,o,e.of_block (g e (by decide)),⟨a.len,λD x L i f=>fG (a.own D x L i f) λq y=>g (dZ (a.own D x L i f) y) (by decide),a.apart⟩⟩
def zD.SJ(h:zD w n v C)(d:k<=n):zD w k v C:=by
 rcases h with h|⟨b,o,c,e,f,g,i,j,a⟩
 .exact .inl h
 exact .inr ⟨b,o,c,e,f,g,aL d i,j,⟨a.len,λp x L m l=>fO (a.own p x L m l) d,a.apart⟩⟩
def bM.aV3(h:bM w k n m D K H)(c:Row w i T X)(d:¬(T=103\/T=112\/T=5))(a:T≠3)(p q r s:aN):bM ((((w.setCell ⟨i,0,none⟩ p).setCell ⟨i,1,none⟩ q).setCell ⟨i,2,none⟩ r).setCell ⟨i,3,none⟩ s) k n m D K H:=
 h.grown (YK w i p q r s) λe b=>by
  cases b;exact h.nE c d a
def gS.aV3(h:gS n k w x)(a:w.heap.size<=m)(p q r s:aN):gS n k w ((((x.setCell ⟨m,0,none⟩ p).setCell ⟨m,1,none⟩ q).setCell ⟨m,2,none⟩ r).setCell ⟨m,3,none⟩ s):=
 h.grown (YK x m p q r s) λc b=>by cases b;exact a
def aw4(a d m:Nat)(D:aM)(b:bK->Nat)(c:bK->aN)(w:aI)(e:eT)(f:aI):Prop:=∃g,e=.returned (.tuple #[.agg (mH (oX D).2 g).toArray,.int .i64 (oX D).1])/\zD f w.heap.size g (oX D).2.fC/\bM f a d m D b c/\gS a m w f
def ci0(h:bM w k n m D K H):
 Calls prog 178 #[.pointer (some ⟨n,0,none⟩)] w (aw4 k n m D K H w):=by
  have i:=(aY w.heap.size w).alloc (aO _) (.cells #[.int .i64 0,.int .i64 0,.int .u64 0,.slice none 0 0] 57);have C:=Row.new w #[.int .i64 0,.int .i64 0,.int .u64 0,.slice none 0 0] 57;have b:=h.next i;have d:=uX b ⟨#[109,97,112]⟩ (by decide);rw[VW]at d;obtain⟨⟨p,q,r,s⟩,F,G,I,J⟩:=gY C;unfold aw4 oX;rcases j:D.down with _|_
  .rcases t:bR D.files fZ with _|f
   .have e:D.size fZ=(0,4):=(by unfold aM.size;rw[j,t];rfl);rw[e]at d;have⟨x,u⟩:=aA b i;clear h b i C e t j;go_in;(go_wp2_with fail);refine d.mono ?_;rintro e U ⟨rfl,rfl⟩;go_wp2;refine bG (v:=.tuple #[.agg #[.int .i64 0,.int .i64 0,.int .u64 0,.slice none 0 0],.int .i64 4]) (by simp[results,results178,go_sem,p,q,r,s]) rfl ⟨.slice none 0 0,rfl,?_,x.out,gS.cQ u.out _ _⟩;exact .inl ⟨rfl,_,rfl⟩
   have e:D.size fZ=(f.data.length,0):=(by unfold aM.size;rw[j,t];rfl);rw[e]at d;have R:=(b.data t).2;have z:=AY b ⟨#[109,97,112]⟩ (by decide) 0 (f.data.length:Nat) ⟨by omega,by omega⟩ ⟨by omega,by omega⟩;have Q:D.read fZ 0 (f.data.length:Nat)=(f.data,0):=(by unfold aM.read;rw[j,t];simp);rw[VW,Q]at z;unfold MW at z;have g:=λy:aI=>ac3 (bs f.data) y (by rw[eK];omega);unfold WB at g;rw[gF]at g;simp only[bU,dP];generalize bs f.data=T at z g;generalize SR f.data=E at g|-;generalize getM f.data=M at g|-;have⟨x,u,N⟩:=aB b i C;clear h b i C e Q t j p q r s F G I J;go_in;(go_wp2_with fail);refine d.mono ?_;rintro e U ⟨rfl,rfl⟩;(go_wp2_with fail);refine z.mono ?_;rintro e w2 ⟨rfl,B,l⟩;have⟨O,X,L⟩:=aB (l.row N.out ER (x.out.pX N.out)) B ((gS.cQ u.out k m).trans l);clear z d B l;(go_wp2_with fail);refine(g _).mono ?_;rintro e w3 ⟨v3,rfl,⟨lv,rfl,o⟩,a⟩;obtain⟨⟨q0,q1,q2,q3⟩,f0,f1,f2,f3⟩:=gY (O.out.next a);obtain⟨vs,Z,⟨A,c,rfl,-⟩,-⟩:=id o.E9;have⟨Y,V,W,P⟩:=aC (X.out.next a) (L.out.trans (gS.cQ a _ _)) o (O.out.next a);obtain⟨mn,mc,ms,S⟩:=M;simp only[mH]at *;clear g o a;go_wp2;refine bG (v:=.tuple #[.agg #[.int .i64 mn,.int .i64 mc,.int .u64 ms,.slice A S.length c],.int .i64 E]) (by simp[results,results178,go_sem,q0,q1,q2,q3]) rfl ⟨.slice A S.length c,rfl,?_,?_,?_⟩
   .exact(W.out.aV3 P.out _ _ _ _).SJ (by have:=L.out.size;omega)
   .exact bM.aV3 Y.out P.out ER (by decide) _ _ _ _
   exact gS.aV3 V.out (aO _) _ _ _ _
  have e:D.size fZ=(0,61):=(by unfold aM.size;rw[j];rfl);rw[e]at d;have⟨x,u⟩:=aA b i;clear h b i C e j;go_in;(go_wp2_with fail);refine d.mono ?_;rintro e U ⟨rfl,rfl⟩;go_wp2;refine bG (v:=.tuple #[.agg #[.int .i64 0,.int .i64 0,.int .u64 0,.slice none 0 0],.int .i64 61]) (by simp[results,results178,go_sem,p,q,r,s]) rfl ⟨.slice none 0 0,rfl,?_,x.out,gS.cQ u.out _ _⟩;exact .inl ⟨rfl,_,rfl⟩
def bm8(h:bM w k n m D K H):
 Calls prog 182 #[.pointer (some ⟨n,0,none⟩)] w λe d=>e=.returned (.int .i64 (U2 D))/\w=d:=by
  have b:=uX h ⟨#[]⟩ (by show 0<=_;unfold maxLen;omega);have a:bR D.files (lb ⟨#[]⟩)=none:=by
   cases g:bR D.files (lb ⟨#[]⟩)with
   |none=>rfl
   |some f=>have:=h.names _ (xN g);exact absurd this (by show¬jH (lb ⟨#[]⟩)=true;decide)
  unfold U2;rcases c:D.down with _|_
  iterate 2
   ·(first|(have e:D.size (lb ⟨#[]⟩)=(0,4):=by unfold aM.size;rw[c,a];rfl)|(have e:D.size (lb ⟨#[]⟩)=(0,61):=by unfold aM.size;rw[c];rfl));rw[e]at b;clear h e a;go_in;(go_wp2_with fail);refine b.mono ?_;rintro e d ⟨rfl,rfl⟩;go_wp2;go_ret;exact⟨rfl,rfl⟩
def bm9(D:aM)(n:bK):Int×aM:=if(D.delete n).1=4 then(0,(D.delete n).2)else D.delete n
def ch8(h:bM w k n m D K H)(l:k<=w.heap.size)(s:aT)(o:s.size<=maxLen):
 Calls prog 274 #[.pointer (some ⟨n,0,none⟩),.string s] w (rI k n m (bm9 D (lb s)) w):=by
  have a:=uY h s o l;unfold bm9;obtain⟨⟨c,p⟩,f⟩:∃r,r=D.delete (lb s):=⟨_,rfl⟩;rw[<-f]at a|-;unfold rI at a|-;simp only at a|-;clear h f;by_cases b:c=4
  iterate 2
   .first|subst b;rw[aU rfl]|rw[aQ b];have q:(c==4)=false:=bI.2 b
    go_in;(go_wp2_with fail);refine a.mono ?_;rintro e t ⟨rfl,g,d⟩;have⟨j,i⟩:=aA g d;clear g d a;go_wp2;go_ret;exact⟨rfl,j.out,i.out⟩
variable{e:Int}
def bm1:lb ⟨#[110,101,119]⟩=dG:=rfl
def EZ(D:aM)(k:aM->Int×aM):kE (0,D) k=k D:=aU rfl
def F1(h:e≠0)(D:aM)(k:aM->Int×aM):kE (e,D) k=(e,D):=aQ h
def bd1(a:D.down=false):bm9 D dG=D.gE:=by
 unfold bm9 aM.gE;cases b:bR D.files dG with
 |none=>rw[UN a b];simp
 |some f=>
  have c:(D.delete dG).1≠4:=by unfold aM.delete aM.change;rw[a,aQ (by simp),b];simp only;split<;>simp
  rw[aQ c];simp
def bs2{M:iY}(h:zH M=true):(bs (iV M)).size<=200:=by rw[eK];exact GK h
def ch9(h:bM w k n m D K H)(Q:k<=w.heap.size)(G:aN)(M:iY)(hl:wH w G M.fC)(hs:L0 M)(C:zH M=true):
 Calls prog 227 #[.pointer (some ⟨n,0,none⟩),.agg (mH M G).toArray] w (rI k n m (pV D M) w):=by
  have b0:=(aY w.heap.size w).alloc (aO _) (.cells (mH M G).toArray 57);have r0:=Row.new w (mH M G).toArray 57;obtain⟨⟨h5,h6,h7,h8⟩,-⟩:=gY r0;have E:=MN (.agg (mH M G).toArray) M _ ⟨G,rfl,wH.next hl b0⟩ hs;rw[C,aU rfl,aU rfl]at E;have h0:=bs2 C;have U:lb (bs (iV M))=iV M:=gF _;have u:(iV M).length=(bs (iV M)).size:=(eK _).symm;have y:=λ(x:aI)(i:bM x k n m D K H)=>bm8 i;unfold U2 at y;have s:=λ(x:aI)(i:bM x k n m D K H)(b:k<=x.heap.size)=>ch8 i b ⟨#[110,101,119]⟩ (by decide);rw[bm1]at s;have v:=λ(d:aM)(x:aI)(j:bK->Nat)(l:bK->aN)(i:bM x k n m d j l)=>And.intro (SU i) (show -1048576<=d.free/\d.free<=1048576 from by have:=i.cap;have:=i.used;unfold aM.free;omega);have HC:=λ(d:aM)(x:aI)(j:bK->Nat)(l:bK->aN)(i:bM x k n m d j l)(b:k<=x.heap.size)=>DG i ⟨#[110,101,119]⟩ (by decide) b;have J:=λ(d:aM)(x:aI)(j:bK->Nat)(l:bK->aN)(i:bM x k n m d j l)(b:k<=x.heap.size)=>yX i ⟨#[110,101,119]⟩ (bs (iV M)) (by decide) (by omega) b;have HS:=λ(d:aM)(x:aI)(j:bK->Nat)(l:bK->aN)(i:bM x k n m d j l)(b:k<=x.heap.size)=>FO i ⟨#[110,101,119]⟩ (by decide) b;have HR:=λ(d:aM)(x:aI)(j:bK->Nat)(l:bK->aN)(i:bM x k n m d j l)(b:k<=x.heap.size)=>UL i ⟨#[110,101,119]⟩ ⟨#[109,97,112]⟩ (by decide) (by decide) b;rw[bm1]at HC J HS HR;rw[U]at J;rw[VW]at HR;obtain⟨T,hT⟩:∃T,T=bs (iV M):=⟨_,rfl⟩;rw[<-hT]at E h0 u J;have⟨H1,B0⟩:=aA (h.next b0) b0;have t:∀(e:Int)(d:aM)(x:aI),pV D M=(e,d)->(∃j l,bM x k n m d j l)->gS k m w x->rI k n m (pV D M) w (.returned (.int .i64 e)) x:=λe d x c h2 h3=>(by rw[c];exact⟨rfl,h2,h3⟩);have f:=aH t;unfold mH at *;obtain⟨h9,h4,⟨A9,c9,rfl,-⟩,-⟩:=id hl;clear t h b0 r0 U hT C hs hl;rcases A:D.down with _|_
  .rw[A]at y;rw[bd1 A]at s;have W:=aH (show pV D M=kE D.gE λD=>if D.free-(iV M).length<6000 then(60,D)else D.FP fZ (iV M)from by unfold pV;rw[A,aQ (by simp)]);rw[u]at W;obtain⟨⟨e1,I⟩,V⟩:∃r,r=D.gE:=⟨_,rfl⟩;rw[<-V]at s W;unfold rI at s;simp only at s;clear A V;go_in;(go_wp2_with fail);refine E.mono ?_;rintro e w1 ⟨rfl,g⟩;have⟨B1,L⟩:=aA (aJ B0.out g) (H1.out.next g);clear E g;have ho:=y w1 L.out;clear y;(go_wp2_with fail);refine ho.mono ?_;rintro e w' ⟨rfl,rfl⟩;have hg:=s w1 L.out (aL Q B1.out.size);clear s ho;(go_wp2_with fail);refine hg.mono ?_;rintro e w2 ⟨rfl,⟨b2,d2,Y⟩,R⟩;have⟨V2,F2⟩:=aA Y ((gS.cQ B1.out k m).trans R);clear hg Y R;by_cases c:e1=0
   .subst c;have N:=aH (W.out.trans (EZ _ _));obtain⟨B,f1,f2⟩:=v I w2 b2 d2 V2.out;obtain⟨fr,S⟩:∃fr,fr=I.free:=⟨_,rfl⟩;rw[<-S]at B f1 f2 N;clear W v S;(go_wp2_with fail);refine B.mono ?_;rintro e w3 ⟨rfl,z⟩;have⟨V3,F3⟩:=aA (V2.out.next z) (F2.out.trans (gS.cQ z _ _));clear B z;by_cases X:fr-(T.size:Int)<6000
    .have F:=aH (N.out.trans (aU X));go_wp2;go_ret;exact f.out _ _ _ F.out ⟨_,_,V3.out⟩ F3.out
    have F:=aH (N.out.trans (aQ X));unfold aM.FP at F;obtain⟨b3,d3,Z⟩:∃j l,bM w3 k n m I j l:=⟨_,_,V3.out⟩;have V3:=aH Z;clear Z;have a:=HC I w3 b3 d3 V3.out (aL Q F3.out.size);obtain⟨⟨e3,D3⟩,p⟩:∃r,r=I.create dG:=⟨_,rfl⟩;rw[<-p]at a F;unfold rI at a;simp only at a;clear p;(go_wp2_with fail);refine a.mono ?_;rintro e w4 ⟨rfl,⟨b4,d4,q⟩,o⟩;have⟨V4,F4⟩:=aA q (F3.out.trans o);clear a q o;by_cases c:e3=0
    .subst c;have O:=aH (F.out.trans (EZ _ _));have a:=J D3 w4 b4 d4 V4.out (aL Q F4.out.size);obtain⟨⟨e4,D4⟩,p⟩:∃r,r=D3.append dG (iV M):=⟨_,rfl⟩;rw[<-p]at a O;unfold rI at a;simp only at a;clear p;(go_wp2_with fail);refine a.mono ?_;rintro e w5 ⟨rfl,⟨b5,d5,q⟩,o⟩;have⟨V5,F5⟩:=aA q (F4.out.trans o);clear a q o;by_cases c:e4=0
     .subst c;have P:=aH (O.out.trans (EZ _ _));have a:=HS D4 w5 b5 d5 V5.out (aL Q F5.out.size);obtain⟨⟨e5,D5⟩,p⟩:∃r,r=D4.sync dG:=⟨_,rfl⟩;rw[<-p]at a P;unfold rI at a;simp only at a;clear p;(go_wp2_with fail);refine a.mono ?_;rintro e w6 ⟨rfl,⟨b6,d6,q⟩,o⟩;have⟨V6,F6⟩:=aA q (F5.out.trans o);clear a q o;by_cases c:e5=0
      .subst c;have W5:=aH (P.out.trans (EZ _ _));have a:=HR D5 w6 b6 d6 V6.out (aL Q F6.out.size);obtain⟨⟨e6,D6⟩,p⟩:∃r,r=D5.rename dG fZ:=⟨_,rfl⟩;rw[<-p]at a W5;unfold rI at a;simp only at a;clear p;(go_wp2_with fail);refine a.mono ?_;rintro e w7 ⟨rfl,⟨b7,d7,q⟩,o⟩;have⟨V7,F7⟩:=aA q (F6.out.trans o);clear a q o;go_wp2;go_ret;exact f.out _ _ _ W5.out ⟨_,_,V7.out⟩ F7.out
      have W5:=aH (P.out.trans (F1 c _ _));have i1:(e5==0)=false:=bI.2 c;go_wp2;go_ret;exact f.out _ _ _ W5.out ⟨_,_,V6.out⟩ F6.out
     have P:=aH (O.out.trans (F1 c _ _));have i1:(e4==0)=false:=bI.2 c;go_wp2;go_ret;exact f.out _ _ _ P.out ⟨_,_,V5.out⟩ F5.out
    have O:=aH (F.out.trans (F1 c _ _));have i1:(e3==0)=false:=bI.2 c;go_wp2;go_ret;exact f.out _ _ _ O.out ⟨_,_,V4.out⟩ F4.out
   have N:=aH (W.out.trans (F1 c _ _));have i1:(e1==0)=false:=bI.2 c;go_wp2;go_ret;exact f.out _ _ _ N.out ⟨_,_,V2.out⟩ F2.out
  rw[A]at y;have W:=aH (show pV D M=(61,D)from by unfold pV;rw[A,aU rfl]);clear s v HC J HS HR A;go_in;(go_wp2_with fail);refine E.mono ?_;rintro e w1 ⟨rfl,g⟩;have⟨B1,L⟩:=aA (aJ B0.out g) (H1.out.next g);clear E g;have ho:=y w1 L.out;clear y;(go_wp2_with fail);refine ho.mono ?_;rintro e w' ⟨rfl,rfl⟩;go_wp2;go_ret;exact f.out _ _ _ W.out ⟨_,_,L.out⟩ (gS.cQ B1.out _ _)
variable{l:bZ}
structure DN(a m p d n:Nat)(N:Nat->Prop)(L:List cZ)(D:aM)(b:bK->Nat)(c:bK->aN)(w x:aI):Prop where
 eD:bM x a d m D b c
 RT:s7 x N a p d n L
 fr:gS a m w x
def DN.next{base k p n:Nat}{w:aI}(h:DN base k p m n N L D K H w y)(a:aS y y x):DN base k p m n N L D K H w x:=
 ⟨h.eD.next a,h.RT.next a,h.fr.trans (gS.cQ a _ _)⟩
def DN.xC{base:Nat}(b:∀q,N q->q≠n)(h:DN base n k m i N L D K H x y)(c:bM w base m n D K H)(a:gS base n y w):DN base n k m i N L D K H x w:=
 ⟨c,h.RT.xC h.eD b a,h.fr.trans a⟩
def mY.len(h:mY l n L):∃a,bR l (nR n)=some a/\a.data=mF L/\a.data.length=12+24*L:=by have⟨a,c,d,b⟩:=h.file;exact⟨a,c,b,by rw[b];exact(PF h.may h.ok h.yV).2.2.1⟩
def bI9(c:D.down=false)(a:mY D.files k L){n:Nat}{o:cZ}(d:L[n]?=o):D.read (nR k) (atT (n:Int)) 24=(lV o,0):=by have⟨l,e,f,i⟩:=a.len;have g:n<L:=(aR.1 d).1;have j:=a.yV;have b:atT (n:Int)=((8+24*n:Nat):Int):=(by unfold atT;rw[aQ (by omega)];omega);have h:=(PF a.may a.ok a.yV).2.2.2 n o d;unfold aM.read;rw[c,aQ (by simp),e];simp only;rw[b,aQ (by omega),cB,f];exact gQ (λx=>(x,(0:Int))) h
def ci4(e:mY l n L){k:Nat}{o:cZ}(d:L[k]?=o):okG (lV o)=true/\QH (lV o)=o/\wN o/\pZ o=true:=by have b:=e.may;unfold vU at b;rw[bL]at b;have a:=dL.1 b.2 o (bD d);have c:=e.ok o (bD d);exact⟨(QG c a).1,(QG c a).2,c,a⟩
def AZ(a m p d n:Nat)(N:Nat->Prop)(L:List cZ)(D:aM)(b:bK->Nat)(c:bK->aN)(x:cZ)(w:aI)(e:eT)(f:aI):Prop:=
 e=.returned (.tuple #[.agg (iX x),.int .i64 0])/\DN a m p d n N L D b c w f
def pF:¬(152=103\/152=112\/152=5):=by decide
def IN(a m p d n:Nat)(N:Nat->Prop)(L:List cZ)(D:aM)(b:bK->Nat)(c:bK->aN)(w:aI)(e:List aN)(x:aI):Prop:=
 DN a m p d n N L D b c w x/\Row x w.heap.size 152 e
def IN.next{base k p n:Nat}{w:aI}(h:IN base k p m n N L D K H w X y)(a:aS y y x):IN base k p m n N L D K H w X x:=⟨h.1.next a,h.2.next a⟩
def IN.xC{base:Nat}(b:∀q,N q->q≠n)(h:IN base n k m i N L D K H x X y)(c:bM w base m n D K H)(a:gS base n y w):IN base n k m i N L D K H x X w:=
 ⟨h.1.xC b c a,a.row h.2 pF (h.1.eD.pX h.2)⟩
def IN.pt(h:IN n k m i j N L D K H x X y)(a:DN n k m i j N L D K H y w):IN n k m i j N L D K H x X w:=
 ⟨⟨a.eD,a.RT,h.1.fr.trans a.fr⟩,a.fr.row h.2 pF (h.1.eD.pX h.2)⟩
def IN.new{base k n:Nat}{L:List cZ}{w:aI}(a:bM w base i k D K H)(h:s7 w N base m i n L)(C:Array aN):IN base k m i n N L D K H w C.toList (w.alloc (.cells C 152)):=
 ⟨(DN.mk a h (gS.refl _ _ _):DN base k m i n N L D K H w w).next (dO w _),Row.new w C _⟩
def IN.cells{base k m n:Nat}{H:bK->aN}{w:aI}{v:aN}(h:IN base k m i n N L D K H w [u,v,z] x):(x.cell? (zp w)=u/\x.cell? (zp w 1)=v/\x.cell? (zp w 2)=z)/\x.frozen? (zp w)=false/\x.frozen? (zp w 1)=false/\x.frozen? (zp w 2)=false:=
 ⟨⟨h.2.rY,h.2.xD,h.2.G8⟩,h.2.TI,h.2.J3,h.2.zf2⟩
def IN.cu7(r:∀q,N q->q<w.heap.size)(h:IN n k m i j N L D K H w X x)(a b c:aN):DN n k m i j N L D K H w (((x.setCell (zp w) a).setCell (zp w 1) b).setCell (zp w 2) c):=by
 have d:∀(y:aI)(o:List aN)(t:Nat)(u:aN),IN n k m i j N L D K H w o y->IN n k m i j N L D K H w (o.set t u) (y.setCell (zp w t) u):=λy o t u e=>by
  have g:=jN y (zp w t) u;refine⟨⟨e.1.eD.grown g (λv f=>?_),e.1.RT.eO (λq s l=>g.block q l (λp=>?_)),e.1.fr.grown g (λv f=>by simp at f;omega)⟩,e.2.set t u⟩
  .simp at f;subst f;exact e.1.eD.nE e.2 pF (by decide)
  have:=r q s;simp at p;omega
 exact(d _ _ 2 c (d _ _ 1 b (d _ _ 0 a h))).1
def bv0(h:s7 w N m k n j L)(Y:bM w m n i D a H)(hN:∀q,N q->q≠i)(G:∀q,N q->q<w.heap.size)(J:D.down=false)(z:mY D.files j L)(hn:j<=999999)(h1:Nat)(x:cZ)(u:L[h1]?=x):
 Calls prog 221 #[zp k,h1] w (AZ m i k n j N L D a H x w):=by
  unfold AZ;have F:=IN.new Y h #[.int .u64 0,.int .i64 0,.int .i64 0];have W:∀x,IN m i k n j N L D a H w [.int .u64 0,.int .i64 0,.int .i64 0] x->IN m i k n j N L D a H w [.int .u64 0,.int .i64 0,.int .i64 0] x.drew:=λx hx=>hx.next mE.drew;have I:h1<L.length:=(aR.1 u).1;have r:=z.yV;have Q:∀y,IN m i k n j N L D a H w [.int .u64 0,.int .i64 0,.int .i64 0] y->Calls prog 230 #[.int .i64 j] y λe c=>e=.returned (.string (lD 116 j))/\IN m i k n j N L D a H w [.int .u64 0,.int .i64 0,.int .i64 0] c:=λy l=>(yP (j:Int) y ⟨by omega,by omega⟩).mono λe c b=>⟨b.1,l.next b.2⟩;have B:∀y,IN m i k n j N L D a H w [.int .u64 0,.int .i64 0,.int .i64 0] y->Calls prog 265 #[.int .i64 h1] y λe c=>e=.returned (.int .i64 (atT (h1:Int)))/\IN m i k n j N L D a H w [.int .u64 0,.int .i64 0,.int .i64 0] c:=λy l=>(br0 (h1:Int) y ⟨by omega,by omega⟩).mono λe c b=>⟨b.1,by rw[<-b.2];exact l⟩;have p:atT (h1:Int)=((8+24*h1:Nat):Int):=(by unfold atT;rw[aQ (by omega)];omega);have Z:=bI9 J z u;have t:∀y,IN m i k n j N L D a H w [.int .u64 0,.int .i64 0,.int .i64 0] y->Calls prog 31 #[.pointer (some ⟨n,0,none⟩),.string (lD 116 j),.int .i64 (atT (h1:Int)),.int .i64 24] y λe c=>e=.returned (.tuple #[.string (bs (lV x)),.int .i64 0])/\IN m i k n j N L D a H w [.int .u64 0,.int .i64 0,.int .i64 0] c:=λy l=>by have:=AY l.1.eD (lD 116 (j:Int)) (jM _ _) (atT (h1:Int)) 24 (by rw[p];omega) ⟨by omega,by omega⟩;rw[JX,Z]at this;exact this.mono λe c b=>⟨b.1,l.xC hN b.2.1 b.2.2⟩
  have⟨R,S,U,V⟩:=ci4 z u;have g:=λy:aI=>UK (bs (lV x)) y (by rw[eK,rL V];unfold maxLen;omega);rw[gF,R,S]at g;have z0:∀x:wI (IN m i k n j N L D a H w [.int .u64 0,.int .i64 0,.int .i64 0]),x.it.cell? ⟨k,0,none⟩=some (.pointer (some ⟨n,0,none⟩)):=λx=>x.ok.1.RT.cells.1;have z1:∀x:wI (IN m i k n j N L D a H w [.int .u64 0,.int .i64 0,.int .i64 0]),x.it.cell? ⟨k,1,none⟩=some (.int .i64 j):=λx=>x.ok.1.RT.cells.2.1;have ho:wN x:=U;have⟨T,X⟩:=kX (bs (lV x));rw[<-X]at t g;generalize atT (h1:Int)=A at B t;have⟨M,O,P⟩:=x;unfold iX at g|-;simp only at g|-;clear h Y z u Z p R S U V X I r hn;go_in;go_wp2_with fail
  haveI:Nonempty (wI (IN m i k n j N L D a H w [.int .u64 0,.int .i64 0,.int .i64 0])):=⟨⟨_,F⟩⟩;refine J4 (K:=(IN m i k n j N L D a H w [.int .u64 0,.int .i64 0,.int .i64 0])) F W (by kernel_rfl) (by kernel_rfl) ?_;repeat go_big_quiet_step (first|(go_at_call 230;exact MB _ Q)|(go_at_call 265;exact MB _ B)|(go_at_call 31;exact MB _ t))
  refine wpQuiet_nil ?_;rintro _ ⟨⟨w1,s⟩,rfl⟩;have o:=aH s;clear s Q B t z0 z1 W F;go_wp2_with fail
  go_call g _ as e w2 ⟨rfl,d⟩;have C:=aH d;have f:=(o.next d).next (dO w2 (.cells #[.int .u64 M,.int .i64 O,.int .i64 P] 152));obtain⟨⟨r0,r1,r2⟩,f0,f1,f2⟩:=f.cells;have E:=aH (f.cu7 G (.int .u64 M) (.int .i64 O) (.int .i64 P));clear d g f C o;go_wp2;refine bG (v:=.tuple #[.agg #[.int .u64 M,.int .i64 O,.int .i64 P],.int .i64 0]) (by simp[results,results221,go_sem,r0,r1,r2]) rfl ⟨rfl,E⟩
def DN.mono{n p:Nat}{H:bK->aN}(h:DN n k p m i R L D K H w x)(a:∀q,R q->N q):DN n k p m i N L D K H w x:=⟨h.eD,h.RT.mono λq _ b=>a q b,h.fr⟩
def s7.less(h:s7 w N m k n i L):s7 w (λq=>N q/\q<w.heap.size) m k n i L:=h.mono λq b a=>⟨a,b⟩
def XF(h:s7 w N m k n j L)(f:bM w m n i D K H)(d:∀q,N q->q≠i)(b:D.down=false)(o:mY D.files j L)(l:j<=999999)(r:Nat)(x:cZ)(g:L[r]?=x):
 Calls prog 221 #[zp k,r] w (AZ m i k n j N L D K H x w):=
 (bv0 h.less f (λq a=>d q a.1) (λq a=>a.2) b o l r x g).mono λe p c=>⟨c.1,c.2.mono λq a=>a.1⟩
variable{o:cZ}
def Z3(f:fB L=true)(d:∀e∈L,pZ e=true)(h:Nat)(v:Int):∀(i:Nat)(e:cZ),L[i]?=some e->(iA e (h,v,0)=true↔i<kA L h v):=λi e c=>by
 obtain⟨a,rfl⟩:=aR.1 c;have b:=d _ (cY a);unfold pZ at b;rw[bH]at b;rw[<-qO f h v i a,pG,pR];simp only;omega
def aq9(j:fB L=true)(h:Nat)(t:Int):(kA L h (t+1)=0->jY L h t=none)/\∀m x,kA L h (t+1)=m+1->L[m]?=some x->(x.1=h->jY L h t=some x)/\(x.1≠h->jY L h t=none):=by
 have g:=qO j h (t+1);have c:∀i (a:i<L.length),kA L h (t+1)<=i->lR h t L[i]=false:=λi a o=>by have e:¬pS L[i] h (t+1)=true:=λf=>absurd ((g i a).1 f) (by omega);rw[pR]at e;unfold lR;refine cC ?_;omega
 refine⟨λe=>?_,λm x e f=>?_⟩
 .unfold jY;rw[qP λi a=>c i a (by omega)];rfl
 obtain⟨b,rfl⟩:=aR.1 f;have l:=(g m b).2 (by omega);rw[pR]at l;refine⟨λn=>?_,λn=>?_⟩
 .unfold jY;refine getLast_filter b ?_ (λi a p=>c i a (by omega));unfold lR;refine cJ ?_;omega
 unfold jY;rw[qP λi a=>?_]
 .rfl
 rcases cR m i with d|d
 .exact c i a (by omega)
 unfold lR;refine cC ?_;rcases nX d with rfl|d
 .omega
 have k:=sG j d b;rw[pG]at k;omega
def mY.sorted(h:mY l n L):fB L=true/\∀e∈L,pZ e=true:=by have a:=h.may;unfold vU at a;rw[bL]at a;exact⟨a.1,λe b=>dL.1 a.2 e b⟩
def aq2{M:List VN}(p:∀v∈M,L[v.2]?=some v.1)(u:n<=L.length)(b:∀(i:Nat)(e:cZ),L[i]?=some e->(iA e o=true↔i<n))(h:CV o L.length M 0=(k,m)):k<=n/\n<=m/\m<=L.length:=by
 have d:∀(M:List VN)(a:Nat),a<=n->(∀v∈M,L[v.2]?=some v.1)->(CV o L.length M a).1<=n/\n<=(CV o L.length M a).2/\(CV o L.length M a).2<=L.length:=λM=>by
  induction M with
  |nil=>intro a q _;unfold CV;simp only;omega
  |cons v M s=>
   intro a q j;have f:=j v (by simp);have g:=b _ _ f;have t:=(aR.1 f).1;unfold CV;by_cases c:iA v.1 o=true
   .rw[aU c];exact s _ (g.1 c) λy r=>j y (by simp[r])
   rw[aQ c];have:¬v.2<n:=λl=>c (g.2 l);simp only;omega
 have:=d M 0 (bO _) p;rwa[h]at this
def RH(a m p d n:Nat)(N:Nat->Prop)(L:List cZ)(D:aM)(b:bK->Nat)(c:bK->aN)(s:Nat)(w:aI)(e:eT)(f:aI):Prop:=
 e=.returned (.tuple #[.int .i64 (s:Int),.int .i64 0])/\DN a m p d n N L D b c w f
def by2(a:n<k)(b:k<=m)(d:m<=1000000):∃c:Nat,IntKind.u64.wrap ((n:Int)+(k:Int))=(n:Int)+(k:Int)/\Int.tdiv ((n:Int)+(k:Int)) 2=(c:Int)/\IntKind.i64.wrap (c:Int)=(c:Int)/\IntKind.u64.wrap (c:Int)=(c:Int)/\n<=c/\c<k:=by
 refine⟨(n+k)/2,?_,?_,?_,?_,by omega,by omega⟩
 .rw[eR];omega
 .rw[n7 (by omega)];omega
 .rw[dM];omega
 rw[eR];omega
def bk0(h:s7 w N m k n j L)(hd:bM w m n i D K H)(hN:∀q,N q->q≠i)(hc:D.down=false)(ht:mY D.files j L)(hn:j<=999999)(x:cZ)(hx:wN x)(s:Nat)(hs:s<=L.length)(d:∀(x4:Nat)(e:cZ),L[x4]?=some e->(iA e x=true↔x4<s)):
 Calls prog 220 #[.pointer (some ⟨k,0,none⟩),.agg (iX x)] w (RH m i k n j N L D K H s w):=by
  have h0:=IN.new hd h (iX x);have f:=ht.yV;have o:=ht.ok;have HE:=λ(y:aI) (hy:IN m i k n j N L D K H w (iX x).toList y) (x4:Nat) (e:cZ) (g:L[x4]?=some e)=>XF hy.1.RT hy.1.eD hN hc ht hn x4 e g;unfold AZ at HE;unfold RH;obtain⟨mv,a,b,c,F,h1,h2,h3,-⟩:=id h0.1.RT;have h7:=Reads.dC h3;have z2:∀y:dY (w.alloc (.cells (iX x) 152)),y.it.cell? ⟨k,2,none⟩=some (.int .i64 (L.length:Nat)):=λy=>(h1.next y.ok).cell 2 (by simp);have z3:∀y:dY (w.alloc (.cells (iX x) 152)),y.it.cell? ⟨k,3,none⟩=some mv:=λy=>(h1.next y.ok).cell 3 (by simp);have zE:∀y:dY (w.alloc (.cells (iX x) 152)),IN m i k n j N L D K H w (iX x).toList y.it:=λy=>h0.next y.ok;have h6:(pA L L.length).length<=1000000:=aL (XY L L.length) f;have T:=λ(y:aI) (W:aS (w.alloc (.cells (iX x) 152)).heap.size (w.alloc (.cells (iX x) 152)) y)=>aF8 mv L (pA L L.length) L.length s x y (h7.next W) (λi hm=>bl6 hm) o hx rfl f h6 hs d;obtain⟨p,g,G⟩:∃p g,CV x L.length (pA L L.length) 0=(p,g):=⟨_,_,rfl⟩;have l:∀(y:aI),aS (w.alloc (.cells (iX x) 152)).heap.size (w.alloc (.cells (iX x) 152)) y->Calls prog 264 #[mv,.int .i64 (L.length:Int),.agg (iX x)] y λe w'=>e=.returned (.tuple #[.int .i64 p,.int .i64 g])/\aS y.heap.size y w':=λy W=>(T y W).mono λe w' h9=>by obtain⟨x0,hz,v,r,-,-,-,z⟩:=h9;rw[G]at r;cases r;exact⟨v,z⟩
  have Z:p<=s/\s<=g/\g<=L.length:=aq2 (λi hm=>bl6 hm) hs d G;have⟨hl,hh,Q,hp,U⟩:=aD (λ(y:aI)(e:cZ)(J:wN e)=>wC e x y J hx) HE d o zE;obtain⟨x5,hk⟩:∃x5,x5=L.length:=⟨_,rfl⟩;rw[<-hk]at l z2 f hs Z;have⟨hj,hw⟩:=aA hk hN;obtain⟨M,O,P⟩:=x;unfold iX at *;simp only at *;obtain⟨b1,b2,b3⟩:=Z;have hr:∀y:dY (w.alloc (.cells #[.int .u64 M,.int .i64 O,.int .i64 P] 152)),y.it.cell? ⟨w.heap.size,0,none⟩=some (.int .u64 M):=λy=>(zE y).cells.1.1;have hu:∀y:dY (w.alloc (.cells #[.int .u64 M,.int .i64 O,.int .i64 P] 152)),y.it.cell? ⟨w.heap.size,1,none⟩=some (.int .i64 O):=λy=>(zE y).cells.1.2.1;have hv:∀y:dY (w.alloc (.cells #[.int .u64 M,.int .i64 O,.int .i64 P] 152)),y.it.cell? ⟨w.heap.size,2,none⟩=some (.int .i64 P):=λy=>(zE y).cells.1.2.2;clear h hd hN hc ht hn h1 h2 h3 h7 h6 HE d o h0 hk T G zE hx;go_in;(go_wp2_with fail);refine cU (by kernel_rfl) (by kernel_rfl) ?_;repeat go_big_quiet_step ((rename_i x;first|(go_at_call 264;exact eP x (l x.it x.ok))))
  refine wpQuiet_nil ?_;intro _ hx;obtain⟨⟨w1,X⟩,rfl⟩:=hx;rename_i w1;have A:=U.out ⟨w1,X⟩;simp only at A;have hf:=aH A;clear A X l z2 z3 U hr hu hv;go_wp2_with fail
  go_loopw [6,7,8,9,10] (λp g _ _ _ wr=>∃a b:Nat,a<=s/\s<=b/\b<=x5/\p=.int .i64 a/\g=.int .i64 b/\IN m i k n j N L D K H w [.int .u64 M,.int .i64 O,.int .i64 P] wr) (λp g _ _ _ _=>(intOf g-intOf p).toNat)
  .exact⟨p,g,b1,b2,b3,rfl,rfl,hf.out⟩
  obtain⟨a,b,ha,W,h4,rfl,rfl,V⟩:=hrel;have u:=aH V;clear V;by_cases hq:a<b
  .have i1:(a:Int)<b:=(by omega);obtain⟨c,q1,q2,q3,q6,q4,q5⟩:=by2 hq h4 f;obtain⟨e,J⟩:∃e,L[c]?=some e:=⟨_,aK (by have:=hj.out;omega)⟩;have oe:=hp.out e (bD J);have C:=hh.out wr u.out c e J;have t:=Q.out c e J;obtain⟨v,r,z⟩:=e;simp only at C;have⟨S,ho⟩:=aA t oe;clear J t oe;(go_wp2_with fail);refine C.mono ?_;rintro x w2 ⟨rfl,h5⟩;have B:=(u.out.pt h5).next (dO w2 (.cells #[.int .u64 v,.int .i64 r,.int .i64 z] 152));have r2:=Row.new w2 #[.int .u64 v,.int .i64 r,.int .i64 z] 152;obtain⟨⟨r0,r1,r9⟩,-⟩:=B.cells;have g0:=r2.cell 0 (by simp);have g1:=r2.cell 1 (by simp);have g2:=r2.cell 2 (by simp);simp only[bX,bE]at g0 g1 g2;have hg:=aH B;have I:=hl.out (w2.alloc (.cells #[.int .u64 v,.int .i64 r,.int .i64 z] 152)) (v,r,z) ho.out;simp only at I;clear B r2 C h5;(go_wp2_with fail);refine I.mono ?_;rintro x w3 ⟨rfl,Y⟩;have R:=aH (hg.out.next Y);clear Y I r0 r1 r9 g0 g1 g2;rcases E:iA (v,r,z) (M,O,P)with _|_
   .have h8:¬c<s:=λh9=>(by rw[S.out.2 h9]at E;cases E);go_wp2;go_roundw
    .exact⟨a,c,ha,by omega,by omega,rfl,by go_num,R.out⟩
    simp[intOf];omega
   have h8:c<s:=S.out.1 E;go_wp2;go_roundw
   .exact⟨c+1,b,by omega,W,h4,by go_num,rfl,R.out⟩
   simp[intOf];omega
  have i1:¬(a:Int)<b:=(by omega);obtain rfl:a=s:=(by omega);go_wp2;try rw[eJ]
  go_ret2;exact⟨rfl,u.out.1⟩
def DN.grown{p n:Nat}{w:aI}{r:Option Nat}(h:DN k m p i n N L D K H w y)(g:∀q,N q->q<w.heap.size)(a:y.grownBy x r)(d:∀o,r=some o->w.heap.size<=o/\∃e,Row y o 152 e):DN k m p i n N L D K H w x:=by
 refine⟨h.eD.grown a λo b=>?_,h.RT.eO λq j c=>a.block q c λf=>?_,h.fr.grown a λo b=>(d o b).1⟩
 .obtain⟨-,e,l⟩:=d o b;exact h.eD.nE l pF (by decide)
 have:=g q j;have:=(d q f.symm).1;omega
def DN.own{d k:Nat}(h:DN n m p i j N L D K H x y)(a:DN n m p i j N L D K H y w)(b:y.ownsRow d 152 3 v k X):w.ownsRow d 152 3 v k X:=a.fr.own b pF h.eD.map
def DN.trans{n p:Nat}{w x:aI}(h:DN n k p m i N L D K H w y)(a:DN n k p m i N L D K H y x):DN n k p m i N L D K H w x:=⟨a.eD,a.RT,h.fr.trans a.fr⟩
def bu4{L:List cZ}{x:Nat}{a:Int}(h:e<a):kF L x a e=[]:=by unfold kF;rw[qP λi b=>?_];unfold inE;refine cC ?_;omega
def aC1{a:Int}(h:∀c∈L,c.1≠n):kF L n a e=[]:=by unfold kF;rw[qP λi b=>?_];unfold inE;have:=h _ (cY b);refine cC ?_;omega
def bb5(h:∀b∈L,b.1≠n):jY L n e=none:=by
 unfold jY;rw[qP λi a=>?_]
 .rfl
 unfold lR;have:=h _ (cY a);refine cC ?_;omega
def bR2(c:∀d∈L,pZ d=true){x:Nat}{e:Int}(h:e<0):jY L x e=none:=by
 unfold jY;rw[qP λi b=>?_]
 .rfl
 have a:=c _ (cY b);unfold pZ at a;rw[bH]at a;unfold lR;refine cC ?_;omega
def aT6(a:n<=k)(h:L[k]?=o):(L.drop n).take (k+1-n)=(L.drop n).take (k-n)++[o]:=by rw[show k+1-n=(k-n)+1 from by omega,dQ,aw6,show n+(k-n)=k from by omega,h];rfl
def IB(a m p d n:Nat)(N:Nat->Prop)(L:List cZ)(D:aM)(b:bK->Nat)(c:bK->aN)(R:List cZ)(w:aI)(e:eT)(g:aI):Prop:=
 ∃f,e=.returned (.tuple #[f,.int .i64 0])/\g.ownsRow w.heap.size 152 3 f R.length (fX R)/\DN a m p d n N L D b c w g
def bv2(h:s7 w N m k n j L)(hd:bM w m n i D K H)(hN:∀q,N q->q≠i)(h6:∀q,N q->q<w.heap.size)(hp:D.down=false)(X:mY D.files j L)(hn:j<=999999)(x:Nat)(f t:Int)(hx:x<18446744073709551616)(hf:-9223372036854775808<=f/\f<=9223372036854775807)(x7:-9223372036854775808<=t/\t<=9223372036854775807):
 Calls prog 214 #[zp k,zu x,f,t] w (IB m i k n j N L D K H (kF L x (max f 0) (min t 1073741824)) w):=by
  have⟨A,S⟩:=kX (max f 0);have⟨v,Y⟩:=kX (min t 1073741824);rw[<-S,<-Y];have m1:max f 0=A:=S.symm;have m2:min t 1073741824=v:=Y.symm;have b1:0<=A:=(by omega);have b2:A<=9223372036854775807:=(by omega);have b3:v<=1073741824:=(by omega);have b4:-9223372036854775808<=v:=(by omega);have M:=LN h;have l:=X.yV;have⟨c,o⟩:=X.sorted;have h0:DN m i k n j N L D K H w w:=⟨hd,h,gS.refl _ _ _⟩;unfold IB;clear S Y hf x7;by_cases x5:v<A
  .have⟨HR,H0⟩:=aA (bu4 (L:=L) (x:=x) x5) h0;clear h hd X c o h0 l;go_in;(go_wp2_with fail);go_call M as e w' ⟨rfl,rfl⟩;go_wp2;go_ret2;rw[HR.zz];exact⟨_,rfl,bQ _ _ _ _,H0⟩
  have h5:=bN2 h l x hx;have x4:=h0;have d:=λ(y:aI)(Z:DN m i k n j N L D K H w y)=>bk0 Z.RT Z.eD hN hp X hn (x,A,0) ⟨hx,⟨by simp only;omega,by simp only;omega⟩,by simp⟩ (kA L x A) (sH _ _ _) (Z3 c o x A);have HE:=λ(y:aI)(Z:DN m i k n j N L D K H w y)(xc:Nat)(e:cZ)(hi:L[xc]?=some e)=>XF Z.RT Z.eD hN hp X hn xc e hi;unfold AZ at HE;unfold RH iX at d;simp only at d;have u:=sH L x A;have O:=aH (λ(q:Nat)=>@ah4 L c x A v q);have⟨s,hs⟩:=kX (kA L x A);rw[<-hs]at d O u;have⟨xe,T⟩:=kX L.length;rw[<-T]at u l;have⟨HK,hu,h3,H0,x0⟩:=aD T HE d h0 X.ok;have hc:∀y,DN m i k n j N L D K H w y->y.cell? ⟨k,2,none⟩=some (.int .i64 xe):=λy Z=>(by rw[T];exact Z.RT.cells.2.2);have⟨hr,hv⟩:=aA hc h6;clear h hd X c o h0 x4 HE d hs T hc hN h6;go_in;go_wp2_with fail
  go_call M as e w' ⟨rfl,rfl⟩;clear M;go_wp2_with fail
  go_call h5 as e w1 ⟨⟨b,rfl,hb⟩,ha⟩;have⟨H1,HB⟩:=aA (H0.next ha) hb;clear h5 hb ha;rcases b with _|_
  .go_wp2;go_ret2;rw[aC1 (HB.zz (by first|rfl|trivial))];exact⟨_,rfl,bQ _ _ _ _,H1⟩
  have hg:=h3 w1 H1;clear HB h3;go_wp2_with fail
  go_call hg as e w2 ⟨rfl,hl⟩;have H2:=aH (H1.trans hl);clear hg hl;go_wp2_with fail
  go_loopw [10,12,13,14] (λxc lv _ _ wr=>∃xd:Nat,s<=xd/\xd<=xe/\xc=.int .i64 xd/\wr.ownsRow w.heap.size 152 3 lv (xd-s) (fX ((L.drop s).take (xd-s)))/\(∀q (hq:q<L.length),s<=q->q<xd->lR x v L[q]=true)/\DN m i k n j N L D K H w wr) (λxc _ _ _ _=>xe-(intOf xc).toNat)
  .exact⟨s,gC,u,rfl,by rw[gM];exact bQ _ _ _ _,(λq hq h1 h2=>by omega),H2⟩
  obtain⟨xd,W,xa,rfl,p,a,V⟩:=hrel;have⟨HO,HU,B⟩:=aB p a V;obtain⟨A1,c1,rfl,-⟩:=id (Reads.dC p);have c2:=hr wr V;clear p a V;by_cases xb:xd<xe
  .have i1:(xd:Int)<xe:=(by omega);have x6:xd<L.length:=(by have:=HK.zz;omega);obtain⟨e,he⟩:∃e,L[xd]?=some e:=⟨_,aK x6⟩;have oe:=x0 e (bD he);have C:=hu wr B xd e he;have G:L[xd]=e:=(aR.1 he).2;have ho:=aT6 W he;have⟨E,F,e3⟩:=e;unfold iX at C;simp only at C;have⟨x1,h4,x8⟩:=aB ho G oe;clear he ho G oe;(go_wp2_with fail);go_call C as y w3 ⟨rfl,U⟩;have R:=dO w3 (.cells #[.int .u64 E,.int .i64 F,.int .i64 e3] 152);have⟨H3,g⟩:=aA ((B.trans U).next R) (cA (B.own U HO) R);clear C U R;by_cases a:lR x v (E,F,e3)=true
   .have Q:=of_decide_eq_true a;simp only at Q;obtain⟨rfl,x9⟩:=Q;have i3:¬v<F:=(by omega);have x2:=aH a;have⟨q,hq⟩:=kX (xd-s);rw[<-hq]at g|-;have HQ:=aH hq;have hm:q<=1000000:=(by omega);clear a c2 hq;(go_wp2_with (at_builtin;refine bh0 VX underlying113 (cA g (mE.alloc gC _)) (rd1 (by have hm:=Row.new (w3.alloc (.cells #[.int .u64 E,.int .i64 F,.int .i64 e3] 152)) #[.int .u64 E,.int .i64 F,.int .i64 e3] 152;rwa[bC]at hm) rfl) rfl rfl rfl rfl rfl (by omega) (by have:=H3.fr.size;rw[bC];omega) ?_;intro v5 w5 r hj h7;have⟨hw,H5⟩:=aA r ((H3.next (dO _ (.cells #[.int .u64 E,.int .i64 F,.int .i64 e3] 152))).grown hv hj (λxe T=>⟨dE g xe T,_,dZ (cA g (dO _ _)) T⟩));clear r hj h7));go_roundw
    .
     refine⟨xd+1,by omega,by omega,by go_num,?_,λz hz h1 h2=>?_,H5⟩
     .have:=hw.zz;rw[x1.zz,GZ];rw[show xd+1-s=q+1 from by have:=HQ.zz;omega,<-HQ.zz];exact this
     rcases cR z xd with h8|h8
     .exact HU z hz h1 h8
     have:z=xd:=(by omega);subst this;rw[h4.zz];exact x2
    simp[intOf];omega
   have Q:lR x v L[xd]=false:=(by rw[h4.zz];simpa using a);have P:=aH (O xd W (by have:=HK.zz;omega) (λxc hi h1 h2=>HU xc hi h1 h2) (λ_=>Q));have I:((L.drop s).take (xd-s)).length=xd-s:=(by rw[bJ,fF];omega);have J:=aH I;have x3:=of_decide_eq_false (by simpa using a:lR x v (E,F,e3)=false);simp only at x3;clear a Q I;by_cases hh:E=x
   iterate 2
    ·(first|(subst hh;(have i3:v<F:=by omega))|(have i3:¬(E:Int)=x:=by omega));go_wp2;(try rw[eJ]);go_ret2;exact⟨_,rfl,by rw[P.zz,J.zz];exact g,H3⟩
  obtain rfl:xd=xe:=(by omega);have i1:¬(xd:Int)<xd:=(by omega);have⟨P,J⟩:=aA (O xd W (by have:=HK.zz;omega) (λxc hi h1 h2=>HU xc hi h1 h2) (λQ=>absurd Q (by have:=HK.zz;omega))) (show((L.drop s).take (xd-s)).length=xd-s from by rw[bJ,fF];have:=HK.zz;omega);go_wp2;try rw[eJ]
  go_ret2;exact⟨_,rfl,by rw[P.zz,J.zz];exact HO,B⟩
def bN1(h:s7 w N m k n j L)(r:bM w m n i D K H)(p:∀q,N q->q≠i)(c:D.down=false)(v:mY D.files j L)(u:j<=999999)(x:Nat)(f t:Int)(y:x<18446744073709551616)(s:-9223372036854775808<=f/\f<=9223372036854775807)(b:-9223372036854775808<=t/\t<=9223372036854775807):
 Calls prog 214 #[zp k,zu x,f,t] w (IB m i k n j N L D K H (kF L x (max f 0) (min t 1073741824)) w):=
 (bv2 h.less r (λq a=>p q a.1) (λq a=>a.2) c v u x f t y s b).mono λe A o=>by
  have⟨z,d,g,l⟩:=o;exact⟨z,d,g,l.mono λq a=>a.1⟩
def WA(a m p d n:Nat)(N:Nat->Prop)(L:List cZ)(D:aM)(b:bK->Nat)(c:bK->aN)(o:Option cZ)(w:aI)(e:eT)(f:aI):Prop:=
 e=.returned (.tuple #[.agg (iX (bC6 o)),.bool o.isSome,.int .i64 0])/\DN a m p d n N L D b c w f
def bN3(h:s7 w N m k n j L)(hd:bM w m n i D K H)(hN:∀q,N q->q≠i)(P:∀q,N q->q<w.heap.size)(U:D.down=false)(J:mY D.files j L)(hn:j<=999999)(x:Nat)(u:Int)(hx:x<18446744073709551616)(hu:-9223372036854775808<=u/\u<=9223372036854775807):
 Calls prog 151 #[.pointer (some ⟨k,0,none⟩),.int .u64 x,.int .i64 u] w (WA m i k n j N L D K H (jY L x (min u 1073741824)) w):=by
  obtain⟨f,G⟩:∃f,f=min u 1073741824:=⟨_,rfl⟩;rw[<-G];have m2:min u 1073741824=f:=G.symm;have b3:f<=1073741824:=(by omega);have b4:-9223372036854775808<=f:=(by omega);have E:=IN.new hd h #[.int .u64 0,.int .i64 0,.int .i64 0];have C:=LN E.1.RT;have o:=J.yV;obtain⟨a,c⟩:=J.sorted;obtain⟨⟨t,z,A⟩,Z,f1,f2⟩:=E.cells;have X:=aH (λ(y:aI)(I:IN m i k n j N L D K H w [.int .u64 0,.int .i64 0,.int .i64 0] y)=>I.cu7 P);unfold WA;clear G hu;by_cases h4:f<0
  .have⟨HR,H0⟩:=aA (bR2 c (x:=x) h4) E.1;clear h hd J a c E o;go_in;(go_wp2_with fail);refine C.mono ?_;rintro e w' ⟨rfl,rfl⟩;go_wp2;refine bG (v:=.tuple #[.agg #[.int .u64 0,.int .i64 0,.int .i64 0],.bool false,.int .i64 0]) (by simp[results,results151,go_sem,t,z,A]) rfl ⟨by rw[HR.out];rfl,H0.out⟩
  have O:=bN2 E.1.RT o x hx;have g:=λ(y:aI)(I:IN m i k n j N L D K H w [.int .u64 0,.int .i64 0,.int .i64 0] y)=>bk0 I.1.RT I.1.eD hN U J hn (x,f+1,0) ⟨hx,⟨by simp only;omega,by simp only;omega⟩,by simp⟩ (kA L x (f+1)) (sH _ _ _) (Z3 a c x (f+1));have HE:=λ(y:aI)(I:IN m i k n j N L D K H w [.int .u64 0,.int .i64 0,.int .i64 0] y)(h6:Nat)(e:cZ)(hi:L[h6]?=some e)=>XF I.1.RT I.1.eD hN U J hn h6 e hi;unfold AZ at HE;unfold RH iX at g;simp only at g;have d:=sH L x (f+1);have l:=aH (aq9 a x f);obtain⟨s,hs⟩:∃s,s=kA L x (f+1):=⟨_,rfl⟩;rw[<-hs]at g l d;have⟨h1,M,H0⟩:=aB HE g E;have h5:s<=1000000:=aL d o;have h3:=aH d;clear h hd J a c E HE g hs hN P t z A Z f1 f2 d;go_in;(go_wp2_with fail);refine C.mono ?_;rintro e w' ⟨rfl,rfl⟩;clear C;(go_wp2_with fail);refine O.mono ?_;rintro e w1 ⟨⟨b,rfl,hb⟩,Q⟩;have⟨V,HB⟩:=aA (H0.out.next Q) hb;clear O hb Q;rcases b with _|_
  .obtain⟨⟨t,z,A⟩,Z,f1,f2⟩:=V.out.cells;go_wp2;refine bG (v:=.tuple #[.agg #[.int .u64 0,.int .i64 0,.int .i64 0],.bool false,.int .i64 0]) (by simp[results,results151,go_sem,t,z,A]) rfl ⟨by rw[bb5 (HB.out (by first|rfl|trivial))];rfl,X.out _ V.out _ _ _⟩
  have R:=M.out w1 V.out;clear HB M;(go_wp2_with fail);refine R.mono ?_;rintro e w2 ⟨rfl,S⟩;have W:=aH (V.out.pt S);clear R S;rcases dX s with h9|h9
  .have h2:=aH (l.out.1 h9);subst h9;obtain⟨⟨t,z,A⟩,Z,f1,f2⟩:=W.out.cells;clear l;go_wp2;refine bG (v:=.tuple #[.agg #[.int .u64 0,.int .i64 0,.int .i64 0],.bool false,.int .i64 0]) (by simp[results,results151,go_sem,t,z,A]) rfl ⟨by rw[h2.out];rfl,X.out _ W.out _ _ _⟩
  obtain⟨q,hq⟩:∃q,s=q+1:=⟨s - 1,by omega⟩;subst hq;obtain⟨e,he⟩:∃e,L[q]?=some e:=⟨_,aK (by have:=h3.out;omega)⟩;have r:=h1.out w2 W.out q e he;have p:=aH (l.out.2 q e rfl he);obtain⟨Y,e2,e3⟩:=e;unfold iX at r;simp only at r;have i1:((q+1:Nat):Int)-1=(q:Int):=(by omega);have i2:(q:Int)+1-1=(q:Int):=(by omega);have i4:¬((q:Int)+1=0):=(by omega);clear l he h9;(go_wp2_with fail);refine r.mono ?_;rintro y w3 ⟨rfl,T⟩;have F:=(W.out.pt T).next (dO w3 (.cells #[.int .u64 Y,.int .i64 e2,.int .i64 e3] 152));obtain⟨⟨t,z,A⟩,Z,f1,f2⟩:=F.cells;have H3:=aH F;clear r T F;by_cases hh:Y=x
  .subst hh;have B:=aH (p.out.1 rfl);clear p;go_wp2;refine bG (v:=.tuple #[.agg #[.int .u64 Y,.int .i64 e2,.int .i64 e3],.bool true,.int .i64 0]) (by simp[results,results151,go_sem,t,z,A]) rfl ⟨by rw[B.out];rfl,X.out _ H3.out _ _ _⟩
  have B:=aH (p.out.2 hh);have i3:¬(Y:Int)=x:=(by omega);clear p;go_wp2;refine bG (v:=.tuple #[.agg #[.int .u64 0,.int .i64 0,.int .i64 0],.bool false,.int .i64 0]) (by simp[results,results151,go_sem,t,z,A]) rfl ⟨by rw[B.out];rfl,X.out _ H3.out _ _ _⟩
def cd7(h:s7 w N m k n j L)(f:bM w m n i D K H)(d:∀q,N q->q≠i)(b:D.down=false)(l:mY D.files j L)(g:j<=999999)(x:Nat)(u:Int)(p:x<18446744073709551616)(o:-9223372036854775808<=u/\u<=9223372036854775807):
 Calls prog 151 #[.pointer (some ⟨k,0,none⟩),.int .u64 x,.int .i64 u] w (WA m i k n j N L D K H (jY L x (min u 1073741824)) w):=
 (bN3 h.less f (λq a=>d q a.1) (λq a=>a.2) b l g x u p o).mono λe r c=>⟨c.1,c.2.mono λq a=>a.1⟩
def aS4(c:D.down=false)(b:mY D.files n L):∃a,RM D (nR n)=(a,0)/\PG a=0/\uE a=L/\a.length<=1000000000:=by
 obtain⟨a,e,f,g⟩:=b.uE;obtain⟨j,d,h,i⟩:=b.len;rw[e]at d;cases d;refine⟨a.data,?_,?_,g,?_⟩
 .unfold RM;rw[c,e];rfl
 .unfold PG;rw[f];rfl
 have:=b.yV;omega
def cp5(h:s7 w N m k n j L)(I:bM w m n i D a H)(O:∀q,N q->q≠i)(v:D.down=false)(J:mY D.files j L)(P:j<=999999):
 Calls prog 159 #[.pointer (some ⟨k,0,none⟩)] w (IB m i k n j N L D a H L w):=by
  have u:DN m i k n j N L D a H w w:=⟨I,h,gS.refl _ _ _⟩;have G:∀x,DN m i k n j N L D a H w x->DN m i k n j N L D a H w x.drew:=λx Q=>Q.next (aY _ _).drew;have g:=LN h;obtain⟨z,B,C,E,F⟩:=aS4 v J;have A:∀y,DN m i k n j N L D a H w y->Calls prog 230 #[.int .i64 j] y λe d=>e=.returned (.string (lD 116 j))/\DN m i k n j N L D a H w d:=λy r=>(yP (j:Int) y ⟨by omega,by omega⟩).mono λe d c=>⟨c.1,r.next c.2⟩;have t:∀y,DN m i k n j N L D a H w y->Calls prog 229 #[.pointer (some ⟨n,0,none⟩),.string (lD 116 j)] y λe d=>e=.returned (.tuple #[.string (bs z),.int .i64 0])/\DN m i k n j N L D a H w d:=λy r=>by have:=aC8 r.eD (lD 116 (j:Int)) (jM _ _);rw[JX,B]at this;exact this.mono λe d c=>⟨c.1,r.xC O c.2.1 c.2.2⟩
  have p:=λy:aI=>WN (bs z) y (by rw[eK];exact F);rw[gF,C,E]at p;have R:∀x:wI (DN m i k n j N L D a H w),x.it.cell? ⟨k,0,none⟩=some (.pointer (some ⟨n,0,none⟩)):=λx=>x.ok.RT.cells.1;have S:∀x:wI (DN m i k n j N L D a H w),x.it.cell? ⟨k,1,none⟩=some (.int .i64 j):=λx=>x.ok.RT.cells.2.1;unfold IB;generalize bs z=T at t p;clear h I J B C E F P;go_in;(go_wp2_with fail);refine g.mono ?_;rintro e d ⟨rfl,rfl⟩;clear g;go_wp2_with fail
  haveI:Nonempty (wI (DN m i k n j N L D a H w)):=⟨⟨_,u⟩⟩;refine J4 (K:=(DN m i k n j N L D a H w)) u G (by kernel_rfl) (by kernel_rfl) ?_;repeat go_big_quiet_step (first|(go_at_call 230;exact MB _ A)|(go_at_call 229;exact MB _ t))
  refine wpQuiet_nil ?_;rintro _ ⟨⟨V,o⟩,rfl⟩;have f:=aH o;clear o A t R S G u;(go_wp2_with fail);refine(p _).mono ?_;rintro e W ⟨U,rfl,⟨b,-⟩,l⟩;have⟨s,M⟩:=aA l b;clear l p b;go_wp2;go_ret2;exact⟨_,rfl,fO M.out f.out.fr.size,f.out.next s.out⟩
end Go.Proofs.YtpopikndggffaaaGreatDoor
