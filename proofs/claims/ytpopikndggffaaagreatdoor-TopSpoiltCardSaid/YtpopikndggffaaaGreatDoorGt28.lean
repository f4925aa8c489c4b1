/- TOP, part 28. -/
import Derived.Test.YtpopikndggffaaaGreatDoorGt16
import Derived.Test.YtpopikndggffaaaGreatDoorGt24
import Derived.Test.YtpopikndggffaaaGreatDoorGt27
namespace Go.Proofs.YtpopikndggffaaaGreatDoor
set_option linter.all false
set_option maxRecDepth 100000
set_option maxHeartbeats 16000000
open Go.RowKit Go.Maps Tryz
variable{d i j k m n p:Nat}
def bH2{Q:List bB}{s:List bB}(h:uR Q n=s):s.length=60:=by
 unfold uR at h;split at h
 .rename_i a;cases h;have:=ao2 a.2;rw[aK4 a.1]at this;omega
 cases h
def cD4(w:aI)(a b c:aN)(t:cC)(e:aI)(f:aR (w.alloc (.cells #[a,b,c] t)) (w.alloc (.cells #[a,b,c] t)) e):e.cell? (zp w)=a/\e.cell? (zp w 1)=b/\e.cell? (zp w 2)=c:=by
 have d:(w.alloc (.cells #[a,b,c] t)).heap[w.heap.size]?=some (.cells #[a,b,c] t (0,0)):=heap_alloc_new w _;have h:∀j v,(#[a,b,c]:Array aN)[j]?=some v->e.cell? (zp w j)=some v:=λj v h=>by refine(f.cell (p:=zp w j) (fG.1 d).1).trans ?_;unfold World.cell?;rw[d];simpa using h
 exact⟨h 0 _ rfl,h 1 _ rfl,h 2 _ rfl⟩
def bT6(w:aI):(zeroValue 9).run prog w=.ok zn w:=by kernel_rfl
def an9(v:aN)(L:List bB)(h:Nat)(w:aI)(hf:rA w v L)(hh:h<18446744073709551616):Calls prog 263 #[v,zu h] w λe w'=>e=(X9 L h)/\aR w w w':=by
 rcases hf with⟨rfl,Y⟩|⟨B,nn,D,rfl,I,E,c⟩
 .have Hm:=aH (aP1 h Y);have d:=cD4 w () () (.map none) 283;have O:=(bR w w).alloc dQ (.cells #[(),(),.map none] 283);clear Y;go_in;(go_wp2_with fail);generalize w.alloc (.cells #[(),(),.map none] 283)=w1 at O d|-;go_loopw [11] (λi wr=>i=.int .i64 0/\aR w w wr) (λ_ _=>0)
  .exact⟨rfl,O⟩
  obtain⟨rfl,a⟩:=hrel;go_wp2;go_ret;exact⟨by rw[Hm.zz];rfl,a⟩
 have hc:oO L<256:=(by unfold oO;exact(L.getD 3 0).toNat_lt);have o:=I;unfold okF at o;rw[bL,bL]at o;have⟨m1,m2,m3,m4,m5⟩:=(LO _ _).1 o.2.1;have⟨Z,hZ⟩:=fR (yB L);have⟨p,hp⟩:=fR (oO L);rw[<-hZ]at m1 m2 m3 c|-;rw[<-hp]at m4 m5 hc|-;have⟨HZ,HP,h6,R,h5⟩:=aD hZ hp I c m3;have d:=λw' V=>cD4 w p Z (.map B) 283 w' V;have O:=(bR w w).alloc dQ (.cells #[p,Z,.map B] 283);have l:=E.alloc (.cells #[p,Z,.map B] 283);have z0:(0:Int)<=(Z:Int):=(by omega);have p0:(0:Int)<=(p:Int):=(by omega);have KI:=int_keyed (P:=prog) (k:=3) underlying3;have K:plainElem (H:=Unit) prog 9 zn=some (.lit (.string []),[]):=plainElem_string underlying9 (by unfold maxLen;show(0:Nat)<=_;omega);clear hZ hp o I c m3 E;go_in;(go_wp2_with fail);have⟨X,hX⟩:=fR w.heap.size;rw[<-hX]at d|-;generalize w.alloc (.cells #[p,Z,.map B] 283)=w1 at O d l|-;have⟨HB,HO⟩:=aA d l;clear hX d l;go_loopw [11] (λi wr=>∃k:Nat,k<=p/\i=.int .i64 k/\(∀j,j<k->ak0 L (prN h j (8*Z))=true)/\aR w1 w1 wr) (λi _=>p-(intOf i).toNat)
 .exact⟨0,bK _,rfl,λj hj=>by omega,iH⟩
 obtain⟨k,hk,rfl,c,a⟩:=hrel;have r:=aH c;clear c;have⟨x0,x1,x2⟩:=HB wr a;by_cases h8:k<p
 .have j1:(k:Int)<p:=(by omega);have G:0<8*Z:=(by omega);have ep:=aw9 h k (8*Z) G;have W:=bh3 h k G;rw[show((8*Z:Nat):Int)=8*(Z:Int)from by omega]at ep;have⟨b,V⟩:=fR (prN h k (8*Z));rw[<-V]at ep W;have cP:=λw=>SP h (k:Int) (8*(Z:Int)) w hh (by omega) (by omega);rw[ep]at cP;have Hb:=aH V;clear V ep;have⟨n,hn⟩:=fR (b/480);have e1:(b:Int)/8/60=(n:Int):=(by omega);have ha:n<Z/60:=(by have:=h5.zz;omega);have b0:(0:Int)<=(b:Int):=(by omega);have⟨m,U⟩:=R n ha;have HN:=aH hn;have x:ak0 L b=true->∀j,j<k+1->ak0 L (prN h j (8*Z))=true:=by
   intro h1 j hj;by_cases h7:j=k
   .rw[h7,<-Hb.zz];exact h1
   exact r j (by omega)
  have s:=aH x;have u:keyOf prog 3 ((b:Int)/8/60:Int)=some (xJ n):=(by rw[e1];exact keyOf_int_mk underlying3 (au5 (by omega) (by omega)));have h4:=aH (HO.kept (w':=wr) (row:=none) ⟨a.os,a.tape,a.output,a.size,λk hk _=>a.block k hk⟩ (by simp));have M:=bT6 wr;have b1:b<960001:=(by omega);clear hn x W G e1;rcases q:uR L n with _|P9
  iterate 2
   .rw[q]at m;(first|(have Q:=aH (s (bQ5 (by rw[<-HN.zz];exact q))))|(have A:=U P9 q;have C:=bH2 q;(have f:=bQ4 (b:=b) (by rw[<-HN.zz];exact q))));clear q U;(try (have⟨S,T,Hl⟩:=aB A f C;clear A f C));(go_wp2_with fail);go_call cP _ as e w' ⟨rfl,rfl⟩;go_wp2_with (first
     |(at_lookup;refine wpList_lookup_own_ok _ rfl _ _ 281 rfl 3 9 KI underlying281 (plainElem prog 9) M (.lit (.string [])) [] K B nn D rfl h4 _ (xJ n) rfl u ?_;intro v9 he z;rw[m]))
    first
     |obtain⟨F,rfl,-,-⟩:=plainElem_string_inv underlying9 z
      clear z u M K x0 x1 x2 cP m;refine cI (by kernel_rfl) (by kernel_rfl) ?_;(repeat go_big_quiet_step (fail));refine wpQuiet_nil ?_;intro _ hx;obtain⟨⟨w2,y⟩,rfl⟩:=hx;go_wp2;go_roundw
      .exact⟨k+1,by omega,by go_num,Q,aK a y⟩
      simp[intOf];omega
     |obtain⟨F,rfl,h3,-⟩:=plainElem_string_inv underlying9 z
      have J:lb F=P9:=by have N:=gQ Prod.fst h3;simp only[S.zz]at N;injection N with N;injection N with N;exact N.symm
      have s9:F.size=60:=(by rw[<-bI,J];exact Hl);have hq:b/8%60<F:=(by omega);have h0:(b%480)/8=b/8%60:=(by omega);have h2:(b%480)%8=b%8:=(by omega);have g:=cz3 F (b%480) (by rw[h0];exact hq);simp only[h0,h2]at g;have f:=T.zz;rw[<-J,g]at f;have hw:=cA5 F[b/8%60].toNat (b%8) F[b/8%60].toNat_lt (by omega);have c1:(b:Int)/8%60<60:=(by omega);have c2:(0:Int)<=(b:Int)/8%60:=(by omega);have c3:(b:Int)%8<=7:=(by omega);have c4:(0:Int)<=(b:Int)%8:=(by omega);have c5:(0:Int)<=(b:Int)/8:=(by omega);clear z h3 J u M K x0 x1 x2 cP m S Hl g h2 T;rcases t:(F[b/8%60].toNat/2^(b%8)%2==1)with _|_
      iterate 2
       .rw[t]at hw f;first|((have hF:=cu4 (L:=L) (h:=h) (i:=k) h6 (by rw[<-HP.zz];exact h8) (by rw[<-HZ.zz,<-Hb.zz];exact f));have HF:=aH hF;clear f hF t)|have Q:=aH (s f);clear f t
        refine cI (by kernel_rfl) (by kernel_rfl) ?_;(repeat go_big_quiet_step (fail));refine wpQuiet_nil ?_;intro _ hx;obtain⟨⟨w2,y⟩,rfl⟩:=hx;go_wp2;first|(go_ret;(exact⟨by rw[HF.zz];rfl,aK O (aK a y)⟩))|(go_roundw;(case rel=>exact⟨k+1,by omega,by go_num,Q,aK a y⟩);(case measure=>simp[intOf];omega))
 obtain rfl:k=p:=(by omega);have j1:¬(k:Int)<k:=(by omega);have hT:=cd0 (L:=L) (h:=h) (by rw[<-HP.zz,<-HZ.zz];exact r);have Q:=aH hT;clear hT;go_wp2;go_ret;exact⟨by rw[Q.zz];rfl,aK O a⟩
variable{X:List aN}{L:List dB}{N R:Nat->Prop}{A:Program}{w x y:aI}{D E:aL}{u v z:aN}{s:bH}{K:bH->Nat}{H:bH->aN}
def LR(n:Nat):lb (lR 116 (n:Int))=nN n:=by rw[M3,gP];rfl
def ZW(n:Nat):lb (lR 98 (n:Int))=wE n:=by rw[M3,gP];rfl
def tC(w:aI)(N:Nat->Prop)(f p d n:Nat)(L:List dB):Prop:=∃(g a b c:aN)(F:bH),
 Row w p 285 [.pointer (some ⟨d,0,none⟩),.int .i64 (n:Nat),.int .i64 (L.length:Nat),g,a,b,c]/\f<=p/\
 w.ownsRow f 328 4 g (pV L L.length).length (ZK (pV L L.length))/\rA w (.agg #[a,b,c]) F/\(∀e∈L,X9 F e.1=true)/\N p/\(∀k,g.ownBlock=some k->N k)/\∀q,c=.map (some q)->N q
def rA.eW{w':aI}{a:aN}(h:rA w (.agg #[a,v,u]) s)(f:∀q,u=.map (some q)->w'.heap[q]?=w.heap[q]?):rA w' (.agg #[a,v,u]) s:=by
 rcases h with h|⟨B,n,D,b,c,d,e⟩
 .exact .inl h
 refine .inr ⟨B,n,D,b,c,oB d (f B ?_),e⟩;simp at b;exact b.2.2
def rA.map_lt(h:rA w (.agg #[v,u,z]) s){n:Nat}(b:z=.map n):∃(d:Nat)(M:Dm),w.ownsMap prog 3 (plainElem prog 9) n d M:=by
 rcases h with h|⟨B,d,D,a,-,c,-⟩
 .subst b;simp at h
 subst b;simp at a;rw[a.2.2];exact⟨d,D,c⟩
def tC.eW{w':aI}(h:tC w N m k n i L)(d:∀q,N q->q<w.heap.size->w'.heap[q]?=w.heap[q]?):tC w' N m k n i L:=by have⟨v,a,b,c,F,e,s,f,g,t,o,p,r⟩:=h;refine⟨v,a,b,c,F,e.of_block (d k o e.lt),s,eS f λx j=>d x (p x j) (jN f x j),g.eW λq l=>d q (r q l) ?_,t,o,p,r⟩;have⟨i,D,u⟩:=g.map_lt l;exact u.lt
def tC.next{w:aI}{base p k n:Nat}(h:tC w N base p k n L)(a:aR w w x):tC x N base p k n L:=h.eW λq _ b=>a.block q b
def tC.mono{p:Nat}(h:tC w N k p n m L)(d:∀q,q<w.heap.size->N q->R q):tC w R k p n m L:=by have⟨s,a,b,c,F,e,l,f,g,o,t,u,v⟩:=h;refine⟨s,a,b,c,F,e,l,f,g,o,d p e.lt t,λx i=>d x (jN f x i) (u x i),λq j=>d q ?_ (v q j)⟩;have⟨m,D,r⟩:=g.map_lt j;exact r.lt
def QS:¬(285=103\/285=112\/285=5)/\¬(328=103\/328=112\/328=5):=by decide
def j7{T:cC}(e:Row w n T X)(f:¬(T=103\/T=112\/T=5)):¬DK w n:=λ⟨C,i,h,a,c⟩=>by obtain⟨g,b,d,-⟩:=e;rw[d]at a;cases a;exact f c
def uD{T:cC}{R:aN->Option (Du×List MemPlace)}{D:Du}(h:w.ownsMap A T R k n D):¬DK w k:=λ⟨C,g,e,b,f⟩=>by obtain⟨d,a,c,-⟩:=h;rw[c]at b;cases b
def tC.yH{base:Nat}(h:tC w N base k n i L)(j:bJ w base n m D K H)(t:∀q,N q->q≠m)(d:gX base m w x):tC x N base k n i L:=by have⟨u,a,b,c,F,e,p,r,f,s,v,y,o⟩:=h;refine⟨u,a,b,c,F,d.row e QS.1 (j.rE e),p,d.own r QS.2 j.map,f.eW λq l=>?_,s,v,y,o⟩;have⟨i,D,g⟩:=f.map_lt l;exact d.block q g.lt (.inr ⟨t q (o q l),uD g⟩)
def tC.cells{w:aI}{base m k n:Nat}(h:tC w N base m k n L):w.cell? (zp m)=zp k/\w.cell? (zp m 1)=n/\w.cell? (zp m 2)=L:=by obtain⟨e,a,b,c,F,d,-⟩:=h;exact⟨d.lO,d.qD,d.tW⟩
def N8(h:tC w N m k n i L):Calls prog 218 #[zp k] w λe a=>e=false/\w=a:=by obtain⟨b,-⟩:=h.cells;clear h;go_in;go_wp2;go_ret;exact⟨rfl,rfl⟩
def TB(D:aL)(n:bH):bH×Int:=if D.down then([],61)else match bO D.files n with
 |none=>([],4)
 |some f=>(f.data,0)
def aL3(h:bJ w k n m D K H)(s:aS)(o:s<=maxLen):Calls prog 229 #[zp n,s] w (OK k n m D K H w (TB D (lb s))):=by
 have b:=uH h s o;unfold OK TB;have j:=aH h;rcases i:D.down with _|_
 .rcases a:bO D.files (lb s)with _|f
  iterate 2
   ·(first|(have e:D.size (lb s)=(0,4):=by unfold aL.size;rw[i,a];rfl)|(have e:D.size (lb s)=(f.data.length,0):=by unfold aL.size;rw[i,a];rfl));rw[e]at b;(try (have d:=(h.data a).2;(have g:=wI h s o 0 (f.data:Nat) ⟨by omega,by omega⟩ ⟨by omega,by omega⟩);(have l:D.read (lb s) 0 (f.data:Nat)=(f.data,0):=by unfold aL.read;rw[i,a];simp);rw[l]at g;unfold OK at g));simp only[bU,dW];(first|clear h e a|clear h e l a d);go_in;(go_wp2_with fail);go_call b as e t ⟨rfl,rfl⟩;(try (go_wp2_with fail;go_call g as e u ⟨rfl,p,c⟩;have⟨r,q⟩:=aA p c;clear p c g b));go_wp2;go_ret2;first|exact⟨rfl,j,gX.refl _ _ _⟩|exact⟨rfl,r,q⟩
 have e:D.size (lb s)=(0,61):=(by unfold aL.size;rw[i];rfl);rw[e]at b;simp only[eH];clear h e;go_in;go_wp2_with fail
 go_call b as e t ⟨rfl,rfl⟩;go_wp2;go_ret2;exact⟨rfl,j,gX.refl _ _ _⟩
def bG3(e:Int)(w:aI)(d:-1000<=e/\e<=1000):Calls prog 231 #[e] w λx c=>x=.returned (.int .i64 (if e=1\/e=61 then e else 90))/\w=c:=by
 by_cases a:e=1
 .subst a;rw[aV (.inl rfl)];go_in;go_wp2;go_ret;exact⟨rfl,rfl⟩
 by_cases b:e=61
 iterate 2
  .first|subst b;rw[aV (.inr rfl)]|((rw[aP (by omega)]);have f:(e==1)=false:=bA.2 a;have g:(e==61)=false:=bA.2 b)
   go_in;go_wp2;go_ret;exact⟨rfl,rfl⟩
def ca9(h:tC w N m k n i L)(v:L.length<=1000000)(x:Nat)(G:x<18446744073709551616):Calls prog 219 #[zp k,zu x] w λe y=>(∃b,e=.returned (.bool b)/\(b=false->∀e∈L,e.1≠x))/\aR w w y:=by
 have p:=N8 h;obtain⟨M,a,b,c,F,f,C,D,r,s,-⟩:=h;have l:=an9 (.agg #[a,b,c]) F x w r G;have q:=f.tW;have H:=f.zc4;have I:=f.zc5;have J:=f.zc6;have o:X9 F x=false->∀e∈L,e.1≠x:=λh e j E=>by have:=s e j;rw[E,h]at this;cases this
 have A:=aH o;clear o f C D r s;by_cases d:L.length=0
 iterate 2
  .first|have t:L=[]:=eG.1 d;rw[d]at q;have B:=aH t;clear t d v l|(have⟨P,u⟩:=fR L.length;rw[<-u]at q d v;(have K:(0:Int)<(P:Int):=by omega);clear u d)
   go_in;(go_wp2_with fail);go_call p as e y ⟨rfl,rfl⟩;(try (go_wp2_with fail;go_call l as e O ⟨rfl,g⟩;have z:=aH g;clear g l p));go_wp2;go_ret;first|(exact⟨⟨_,rfl,λ_ e j=>by rw[B.zz]at j;cases j⟩,iH⟩)|exact⟨⟨_,rfl,A⟩,z⟩
variable{I:aZ}{G:cS}{C:mX}
def QJ(w:aI)(a:Nat)(T:Nat->Prop)(v:aN)(l:mX):Prop:=(l=[]/\∃A,v=.slice A 0 0)\/∃b d c,v=.slice (some ⟨b,0,none⟩) l.length c/\l.length<=c/\c<=maxLen/\a<=b/\Row w b 33 d/\lS w a d l/\T b/\∀(x:aN)(k:Nat),x∈d->x.ownBlock=some k->T k
def QJ.cQ1(h:QJ w n N v C):AN w n v C:=by
 rcases h with h|⟨b,j,c,a,d,e,f,g,i,-⟩
 .exact .inl h
 exact .inr ⟨b,j,c,a,d,e,f,g,i⟩
def QJ.GQ{v:aN}(h:QJ w n N v C):vA w v C:=h.cQ1.GQ
def cg4(h:lS w n X C){v:aN}(b:v∈X):∃L,w.ownsRow n 3 1 v L.length (fJ L):=by obtain⟨k,a,rfl⟩:=fH b;exact⟨_,h.own k _ _ (aJ a) (aJ (by rw[<-h.len];exact a))⟩
def QJ.eW{w':aI}(h:QJ w n N v C)(j:∀k,N k->k<w.heap.size->w'.heap[k]?=w.heap[k]?):QJ w' n N v C:=by
 rcases h with h|⟨b,s,c,m,o,p,r,e,a,f,g⟩
 .exact .inl h
 refine .inr ⟨b,s,c,m,o,p,r,e.of_block (j b f e.lt),⟨a.len,λk x L d i=>?_,a.apart⟩,f,g⟩;exact eS (a.own k x L d i) λq l=>j q (g x q (bC d) l) (jN (a.own k x L d i) q l)
def AN.ai3{base:Nat}{v:aN}(h:AN w n v C)(l:base<=n):QJ w base (λk=>n<=k/\k<w.heap.size/\((∃i,Row w k 3 i)\/∃i,Row w k 33 i)) v C:=by
 rcases h with h|⟨b,q,c,m,o,p,j,e,d⟩
 .exact .inl h
 refine .inr ⟨b,q,c,m,o,p,aM l j,e,⟨d.len,λk x L g a=>iI (d.own k x L g a) l,d.apart⟩,⟨j,e.lt,.inr ⟨_,e⟩⟩,λx k g f=>?_⟩;have⟨L,a⟩:=cg4 d g;exact⟨dH a k f,jN a k f,.inl ⟨_,dX a f⟩⟩
structure oZ where
 X:Nat
 mb:Nat
 tm:Nat
 mv:aN
 lv:aN
 tb:Nat->Nat
 TL:Nat->Prop
 TT:Nat->Prop
def oZ.T(h:oZ)(k:Nat):Prop:=k=h.X\/k=h.mb\/k=h.tm\/h.mv.ownBlock=some k\/h.TL k\/h.TT k
def UR(M:Du)(a:Nat->Option (List dB))(b:Nat->Nat):Prop:=IsMap M/\∀n L,a n=some L->has M (xJ n)=true/\∀z,M.atKey (xJ n) z=.lit (.int .i64 (b n:Int))
structure pI(w:aI)(a d:Nat)(h:oZ)(I:aZ)(b:Nat):Prop where
 row:Row w h.X 100 [.pointer (some ⟨d,0,none⟩),.int .i64 (I.cZ.next:Nat),.int .i64 (I.cZ.check:Nat),.int .u64 (I.cZ.aX:Nat),h.lv,.float .f64 b,.pointer (some ⟨h.mb,0,none⟩),.map (some h.tm)]
 fP:QJ w a h.TL h.lv I.cZ.fP
 mem:B3 w a h.mb h.mv I.mem
 map:∃c M,w.ownsMap prog 3 uB h.tm c M/\UR M I.fI h.tb/\c<=I.cZ.next
 fI:∀n L,I.fI n=some L->tC w h.TT a (h.tb n) d n L
 low:a<=h.X/\a<=h.mb/\a<=h.tm
 apart:∀k,h.TL k\/h.TT k->a<=k/\k<w.heap.size/\k≠h.X/\k≠h.mb/\k≠h.tm/\h.mv.ownBlock≠some k
def pI.lt{n:Nat}{h:oZ}(H:pI w k n h I m):∀d,h.T d->k<=d/\d<w.heap.size:=λd a=>by
 rcases a with rfl|rfl|rfl|a|a
 .exact⟨H.low.1,H.row.lt⟩
 .exact⟨H.low.2.1,H.mem.1.lt⟩
 .obtain⟨c,M,b,-⟩:=H.map;exact⟨H.low.2.2,b.lt⟩
 .exact⟨dH H.mem.2.1 d a,jN H.mem.2.1 d a⟩
 have:=H.apart d a;exact⟨this.1,this.2.1⟩
def pI.eW{w':aI}{h:oZ}(H:pI w k n h I m)(i:w.heap.size<=w')(d:∀p,h.T p->w'.heap[p]?=w.heap[p]?):pI w' k n h I m:=by have⟨o,M,j,l⟩:=H.map;refine⟨H.row.of_block (d _ (.inl rfl)),H.fP.eW λp e _=>d p (.inr (.inr (.inr (.inr (.inl e))))),⟨H.mem.1.of_block (d _ (.inr (.inl rfl))),eS H.mem.2.1 λp e=>d p (.inr (.inr (.inr (.inl e)))),H.mem.2.2⟩,⟨o,M,oB j (d _ (.inr (.inr (.inl rfl)))),l⟩,λr L f=>(H.fI r L f).eW λq g _=>d q (.inr (.inr (.inr (.inr (.inr g))))),H.low,λp e=>?_⟩;have⟨a,b,c⟩:=H.apart p e;exact⟨a,aW b i,c⟩
def pI.next{w:aI}{base n:Nat}{h:oZ}{I:aZ}{k:Nat}(H:pI w base n h I k)(a:aR w w x):pI x base n h I k:=H.eW a.size λc b=>a.block c (H.lt c b).2
def pI.cd3{h:oZ}(H:pI w k n h I m):ak2 w (.agg (mN I.cZ h.lv).toArray) I.cZ:=⟨h.lv,rfl,H.fP.GQ⟩
structure dV where
 d:Nat
 m:Nat
 L:Nat
 v:aN
 x:oZ
def iG(w:aI)(h:dV)(k:Nat):Prop:=BH w h.d h.m h.L h.v k\/h.x.T k
structure lQ(w:aI)(a:Nat)(h:dV)(D:aL)(G:cS)(I:aZ)(b:Nat):Prop where
 eI:∃c d,bJ w a h.d h.m D c d
 log:l4 w a h.d h.L G D.bQ false h.v
 idx:pI w a h.d h.x I b
 sep:∀k,h.x.T k->¬BH w h.d h.m h.L h.v k
def lQ.clear{base:Nat}{h:dV}{n:Nat}(H:lQ w base h D G I n):Clear (BH w h.d h.m h.L h.v) h.x.T w:=λk a=>⟨(H.idx.lt k a).2,H.sep k a⟩
def p7.orS{h h':dV}(b:h'.x=h.x)(a:p7 n (BH w h.d h.m h.L h.v) (BH x h'.d h'.m h'.L h'.v) w x):p7 n (iG w h) (iG x h') w x:=by have:=a.or h.x.T;unfold iG;rw[b];exact this
def lQ.yN{h:dV}{M:cS}(H:lQ w n h D G I k)(e:∃a b,bJ x n h.d h.m E a b)(i:l4 x n h.d h.L M E.bQ false u)(f:uJ n h.m h.L h.v w x)(j:lA w h.v u):lQ x n {h with v:=u} E M I k/\p7 n (iG w h) (iG x {h with v:=u}) w x:=by have c:=p7.PH f H.log.eI j;have⟨d,l⟩:=c.clear H.clear;exact⟨⟨e,i,H.idx.eW c.size l,λm g=>(d m g).2⟩,p7.orS (h:=h) (h':={h with v:=u}) rfl c⟩
def lQ.qI{w':aI}{S:dV}{D':aL}(H:lQ w n S D G I k)(d:D'.bQ=D.bQ)(f:∃a b,bJ w' n S.d S.m D' a b)(e:gX n S.m w w'):lQ w' n S D' G I k/\p7 n (iG w S) (iG w' S) w w':=by have⟨a,b,c⟩:=H.eI;have g:=H.log.yH c e;exact H.yN f (by rw[d];exact g) (uJ.nA e _ _) (lA.refl _ _)
def lQ.next{w:aI}{base:Nat}{h:dV}{I:aZ}{n:Nat}(H:lQ w base h D G I n)(b:aR w w x):lQ x base h D G I n:=by have⟨c,d,a⟩:=H.eI;exact(H.qI rfl ⟨_,_,a.next b⟩ (gX.cT b _ _)).1
def lQ.mB{S:dV}(H:lQ w n S D G I k)(b:aR w w x):p7 n (iG w S) (iG x S) w x:=by have⟨c,d,a⟩:=H.eI;exact(H.qI rfl ⟨_,_,a.next b⟩ (gX.cT b _ _)).2
def l4.far{b:Bool}(h:l4 w m k i G j b v)(f:x.heap[k]?=w.heap[k]?)(e:x.heap[i]?=w.heap[i]?)(l:∀o,v.ownBlock=some o->x.heap[o]?=w.heap[o]?):l4 x m k i G j b v:=by have⟨c,d⟩:=jW (n:=w.heap.size) f h.eI;exact⟨h.row.of_block e,h.low,eS h.own l,λo a g=>h.apart o a (d o (jN h.own o a) g),c,h.many,h.small,h.sure⟩
def lQ.PW{S:dV}{J:aZ}{x':oZ}(H:lQ w n S D G I k)(T:pI y n S.d x' J k)(F:y.os=w.os)(L:y.tape=w.tape)(s:y.output=w.output)(K:w.heap.size<=y)(u:∀U,U<w.heap.size->¬S.x.T U->y.heap[U]?=w.heap[U]?)(M:∀U,U<w.heap.size->x'.T U->S.x.T U)(i:∀U,x'.T U->¬DK y U):lQ y n {S with x:=x'} D G J k/\p7 n (iG w S) (iG y {S with x:=x'}) w y:=by
 have⟨o,p,A⟩:=H.eI;have d:∀U,U<w.heap.size->BH w S.d S.m S.L S.v U->y.heap[U]?=w.heap[U]?:=λU c P=>u U c λb=>H.sep U b P;have B:bJ y n S.d S.m D o p:=A.far λU c m=>d U c (.inl m);have h:=A.lt;have r:y.heap[S.d]?=w.heap[S.d]?:=d _ h.1 (.inl (.inr (.inl (by
  have⟨C,v,Q⟩:=H.log.eI;exact⟨C,_,v,Q,.inl rfl⟩))))
 have E:l4 y n S.d S.L G D.bQ false S.v:=H.log.far r (d _ H.log.row.lt (.inr (.inl rfl))) λU b=>d U (jN H.log.own U b) (.inr (.inr b));have g:∀U,OwnAt y S.d U↔OwnAt w S.d U:=λU=>by unfold OwnAt;rw[dK (a:=zp S.d 9) r]
 have j:∀U,U<w.heap.size->BH y S.d S.m S.L S.v U->BH w S.d S.m S.L S.v U\/S.x.T U:=λU c b=>by
  rcases Classical.em (S.x.T U)with q|q
  .exact .inr q
  have e:=u U c q;rcases b with(b|b|b)|b
  .exact .inl (.inl (.inl b))
  .have⟨C,t,v,N,O⟩:=b;exact .inl (.inl (.inr (.inl ⟨C,t,v,by rw[<-e];exact N,O⟩)))
  .exact .inl (.inl (.inr (.inr ((g U).1 b))))
  exact .inl (.inr b)
 have z:∀U,U<w.heap.size->S.x.T U->x'.T U->¬BH y S.d S.m S.L S.v U:=λU c q f b=>by
  have l:=H.sep U q;rcases b with(b|b|b)|b
  .exact l (.inl (.inl b))
  .exact i U f b
  .exact l (.inl (.inr (.inr ((g U).1 b))))
  exact l (.inr b)
 refine⟨⟨⟨o,p,B⟩,E,T,λU f b=>?_⟩,⟨F,L,s,K,λU c m=>?_,λU c b=>?_⟩⟩
 .rcases cK U w with c|R
  .exact z U c (M U c f) f b
  rcases b with(b|b|b)|b|b
  .have:=h.2;have b:U=S.m:=b;omega
  .exact i U f b
  .have:=A.ax2 ((g U).1 b);omega
  .have:=H.log.row.lt;have b:U=S.L:=b;omega
  have:=jN H.log.own U b;omega
 .rcases m with m|m
  .refine u U c λb=>?_;have:=(H.idx.lt U b).1;omega
  exact u U c λb=>m (.inr b)
 rcases b with b|b
 .exact j U c b
 exact .inr (M U c b)
def aQ9:(prog.info? 23).map (λi=>(i.zero,i.size,i.bytes))=some (some (.int .u64 0),1,8):=by kernel_rfl
def aS8(L:List bB)(p:Int):(SC L p)<=64+64*(L.length/60):=by
 cases b:RP L p with
 |false=>rw[aS9 b];simp
 |true=>have⟨d,e,f,g,h⟩:=(LO _ _).1 b;obtain⟨q,rfl⟩:=cR (a:=p) (by omega);have c:L=60*(L.length/60):=(by omega);rw[aq5 b c,aO,ap8,VL c _ dQ];omega
def aP2(l:List Nat)(n:Int)(g:Nat):(ZP l n ((g*60*8:Nat):Int)).length<=60*g:=by
 unfold ZP;split
 .simp
 rw[RQ];omega
def bh5{n:Nat}(a:k<=16):64*LD n k<=64+4*n:=by unfold LD;have:n*k<=n*16:=Nat.mul_le_mul_left n a;omega
def ax1{n:Nat}(a:n<=10000)(b:k<=16):LD n k<=501:=by unfold LD;have:n*k<=10000*16:=Nat.mul_le_mul a b;omega
def aE7(w:aI)(n:Nat)(e:eY)(a:aI):Prop:=∃f:bH,f.length<=128+4*n/\e=.returned (.string (bs f))/\aR w.heap.size w a
def bG1(v:aN)(L:List dB)(r:Nat)(w:aI)(hl:pJ w v L)(hn:L.length<=10000):Calls prog 271 #[v,.float .f64 r] w (aE7 w L):=by
 obtain⟨⟨A,c,rfl,-,-,-,-⟩,-⟩:=id hl;obtain⟨-,ha,hb,-⟩:=hl.cells;unfold maxLen at hb;have o:=λY=>hl.later Y;have M:=hl.2;have⟨n,hN⟩:=fR L.length;rw[<-hN]at ha hn o;have⟨HN,HL,h8⟩:=aB hN o M;have HP:=λw=>aw7 r w;unfold af3 at HP;unfold aE7;simp only[<-hN];clear hl o hN M;go_in;go_wp2_with fail
 go_loopw [5,12] (λhv i wr=>∃(j:Nat)(s:List Nat),j<=n/\i=.int .i64 j/\s.length<=j/\wr.ownsRow w.heap.size 23 1 hv s.length (WW s)/\(∀x∈s,x<18446744073709551616)/\aR w.heap.size w wr) (λ_ i _=>n-(intOf i).toNat)
 .exact⟨0,[],bK _,rfl,dQ,bM _ _ _ _,by simp,iH⟩
 obtain⟨j,s,hj,rfl,hd,l,H,y⟩:=hrel;obtain⟨A1,c1,rfl,hm,ho,-⟩:=id (Reads.cX l);unfold maxLen at ho;have⟨k,W⟩:=fR s.length;rw[<-W]at hd l hm|-;by_cases x0:j<n
 .have i1:(j:Int)<n:=(by omega);obtain⟨e,he⟩:∃e,L[j]?=some e:=⟨_,aJ (by have:=HN.zz;omega)⟩;obtain⟨b,x4,rfl,-,hc⟩:=HL (by omega);have⟨c0,hu,c2⟩:=hc j e he wr y;have oe:=h8 e (bC he);have k1:=eA wr (.cells (iT e) 152);have r1:=Row.new wr (iT e) 152;have⟨t,x2,x3⟩:=e;have hp:=oe.1;simp only at hp;unfold iT at k1 r1;simp only at k1 r1;have y0:∀x:dR (wr.alloc (.cells #[.int .u64 t,.int .i64 x2,.int .i64 x3] 152)),x.it.cell? ⟨wr.heap.size,0,none⟩=some (.int .u64 t):=λx=>(r1.next x.ok).lO;have⟨h,m,E,J⟩:=aC (bY l k1) (cU y k1 dQ) H W;have hr:wr.heap.size<(wr.alloc (.cells #[.int .u64 t,.int .i64 x2,.int .i64 x3] 152)).heap.size:=(by rw[bD];omega);have R1:=aH r1;clear hc he l y k1 oe H W r1;rcases dP k with Y|Y
  .subst Y;(go_wp2_with fail);refine cI (by kernel_rfl) (by kernel_rfl) ?_;(repeat go_big_quiet_step (fail));refine wpQuiet_nil ?_;intro _ I;obtain⟨⟨w2,d⟩,rfl⟩:=I;have e0:=(R1.next d).lO;have a:=aH d;clear y0 d;(go_wp2_with (at_builtin;refine MG aQ9 underlying334 (bY h a) rfl rfl rfl rfl rfl (by omega) (by have:=m.size;have:=a.size;omega) ?_;intro v4 w4 f C u;have O:=aH f;have N:=aH (nX (bY (bY h a) (iH.alloc dQ _)) (aK m (aK a (iH.alloc dQ _))) C (by have:=m.size;have:=a.size;rw[bD];omega));clear f C u));go_roundw
   .
    refine⟨j+1,s++[t],by omega,by go_num,by simp[<-J.zz],?_,?_,N⟩
    .have X:WW (s++[t])=WW s++[.int .u64 t]:=(by simp[WW]);rw[X,aO,<-J.zz];exact O
    intro x I;rcases cB.1 I with P|P
    .exact E x P
    simp at P;omega
   simp[intOf];omega
  obtain⟨q,hq⟩:∃q,k=q+1:=⟨k - 1,by omega⟩;subst hq;obtain⟨b1,h4,rfl,-,-,-,B⟩:=(Reads.cX h).UK (by omega);obtain⟨x9,V⟩:∃x,s[q]?=some x:=⟨_,aJ (by have:=J.zz;omega)⟩;have y1:∀x:dR (wr.alloc (.cells #[.int .u64 t,.int .i64 x2,.int .i64 x3] 152)),x.it.cell? ⟨b1,h4+q,none⟩=some (.int .u64 x9):=λx=>by have:=B x.it x.ok q (by simp;have:=J.zz;omega);rw[this];have X:=(aQ.1 V).2;simp[WW,X]
  have ht:=E x9 (bC V);have i2:((q+1:Nat):Int)-1=(q:Int):=(by omega);have i3:(q:Int)+1-1=(q:Int):=(by omega);have i4:((q:Int)+1==0)=false:=bA.2 (by omega);clear B V Y;by_cases hh:x9=t
  .subst hh;(go_wp2_with fail);refine cI (by kernel_rfl) (by kernel_rfl) ?_;(repeat go_big_quiet_step (fail));refine wpQuiet_nil ?_;intro _ I;obtain⟨⟨w2,d⟩,rfl⟩:=I;have a:=aH d;clear y0 y1 d;go_wp2;go_roundw
   .exact⟨j+1,s,by omega,by go_num,by have:=J.zz;omega,by rw[<-J.zz];exact bY h a,E,aK m a⟩
   simp[intOf];omega
  have i5:¬(x9:Int)=(t:Int):=(by omega);(go_wp2_with fail);refine cI (by kernel_rfl) (by kernel_rfl) ?_;repeat go_big_quiet_step (fail)
  refine wpQuiet_nil ?_;intro _ I;obtain⟨⟨w2,d⟩,rfl⟩:=I;have e0:=(R1.next d).lO;have a:=aH d;clear y0 y1 d;(go_wp2_with (at_builtin;refine MG aQ9 underlying334 (bY h a) rfl rfl rfl rfl rfl (by omega) (by have:=m.size;have:=a.size;omega) ?_;intro v4 w4 f C u;have O:=aH f;have N:=aH (nX (bY (bY h a) (iH.alloc dQ _)) (aK m (aK a (iH.alloc dQ _))) C (by have:=m.size;have:=a.size;rw[bD];omega));clear f C u));go_roundw
  .
   refine⟨j+1,s++[t],by omega,by go_num,by simp[<-J.zz];omega,?_,?_,N⟩
   .have X:WW (s++[t])=WW s++[.int .u64 t]:=(by simp[WW]);rw[X,aO,<-J.zz];exact O
   intro x I;rcases cB.1 I with P|P
   .exact E x P
   simp at P;omega
  simp[intOf];omega
 obtain rfl:j=n:=(by omega);have i1:¬(j:Int)<j:=(by omega);have K:k<=10000:=(by omega);obtain⟨HU,m,h7⟩:=aB (show cM7 wr (.slice A1 k c1) s from⟨by have:=Reads.cX l;rw[<-W];exact this,H⟩) y W;clear l H y W;go_wp2_with fail
 go_call HP _ as e w' ⟨p,hg,R,rfl,rfl⟩;have U:=aK5 k p wr K hg R;have hi:=ax1 K R;have h3:=bh5 (n:=k) R;generalize LD k p=g at U hi h3;clear HP;go_wp2_with fail
 go_call U as e w' ⟨rfl,rfl⟩;clear U;have D:=aW1 (.slice A1 k c1) s (p:Int) ((g*60*8:Nat):Int) wr HU (by have:=h7.zz;omega) ⟨by omega,by omega⟩ ⟨by omega,by omega⟩;have hf:=aP2 s (p:Int) g;generalize ZP s (p:Int) ((g*60*8:Nat):Int)=T at D hf;have i6:(g:Int)*60*8=((g*60*8:Nat):Int):=(by omega);have G:=λw=>bH1 (bs T) (p:Int) w (by rw[eO];omega) ⟨by omega,by omega⟩;have h1:=aS8 (lb (bs T)) (p:Int);have h2:(lb (bs T)).length=T.length:=(by rw[gP]);rw[h2]at h1;have Q:(SC (lb (bs T)) (p:Int)).length<=128+4*j:=(by omega);generalize SC (lb (bs T)) (p:Int)=F at G Q;have h6:=aH Q;clear h1 h2 h3 Q;generalize bs T=S at D G;obtain⟨z,hz⟩:∃z:Int,z=((g*60*8:Nat):Int):=⟨_,rfl⟩;rw[<-hz]at D i6;have hw:(0:Int)<=g:=(by omega);have hy:(g:Int)<=501:=(by omega);clear hz;go_wp2_with fail
 go_call D as e w2 ⟨rfl,d⟩;have a:=aH d;clear D d;go_wp2_with fail
 go_call G _ as e w3 ⟨rfl,Z⟩;have h5:=aH Z;clear G Z;go_wp2;go_ret;exact⟨F,h6,rfl,aK m (aK a h5)⟩
def rI.from{n k:Nat}{r:Int×aL}{w:aI}{e:eY}(a:gX n m w x)(h:rI n k m r x e y):rI n k m r w e y:=⟨h.1,h.2.1,a.trans h.2.2⟩
def cF5(h:bJ w k n m D K H)(L:k<=w)(s t:aS)(M:s<=maxLen)(Y:t.size<=100000000):Calls prog 272 #[zp n,s,t] w (rI k n m (D.lay (lb s) (lb t)) w):=by
 have i:=EX h s M L;have y:=λ(v:aL)(x:aI)(E:bH->Nat)(F:bH->aN)(N:bJ x k n m v E F)(l:k<=x)=>AH N s t M Y l;have A:=λ(v:aL)(x:aI)(E:bH->Nat)(F:bH->aN)(N:bJ x k n m v E F)(l:k<=x)=>GX N s M l;unfold aL.lay kS;obtain⟨⟨S,O⟩,o⟩:∃r,r=D.create (lb s):=⟨_,rfl⟩;rw[<-o]at i|-;unfold rI at i;simp only at i|-;clear h;by_cases G:S=0
 .subst G;rw[aV rfl];have b:=y O;obtain⟨⟨T,P⟩,q⟩:∃r,r=O.append (lb s) (lb t):=⟨_,rfl⟩;rw[<-q]at b|-;unfold rI at b;simp only at b|-;by_cases I:T=0
  iterate 2
   .first|subst I;rw[aV rfl];have j:=A P;generalize P.sync (lb s)=r3 at j ⊢|rw[aP I];have i2:(T==0)=false:=bA.2 I
    clear o q y A;go_in;(go_wp2_with fail);go_call i as e V ⟨rfl,⟨Q,R,c⟩,a⟩;have J:=b V Q R c (aM L a.size);have d:=aH a;clear i b c a;(go_wp2_with fail);go_call J as e Z ⟨rfl,⟨W,X,g⟩,f⟩;(try have u:=j Z W X g (aM L (aM d.size f.size)));have p:=aH (d.trans f);first|clear J j g f;go_wp2_with fail;go_call u as e w3 U;have z:=aH (U.from p);obtain⟨rfl,-⟩:=U;clear u|have C:=aH g;clear J g f
    go_wp2;go_ret;first|exact z|exact⟨rfl,⟨_,_,C⟩,p⟩
 rw[aP G];have i1:(S==0)=false:=bA.2 G;clear o y A;go_in;go_wp2_with fail
 go_call i as e V ⟨rfl,⟨Q,R,c⟩,a⟩;have⟨d,B⟩:=aA a c;clear i c a;go_wp2;go_ret;exact⟨rfl,⟨_,_,B⟩,d⟩
def VM(D:aL):Int:=if D.down then 61 else 0
def cs3(h:bJ w k n m D K H):Calls prog 270 #[zp n] w λe d=>e=(VM D)/\w=d:=by
 have b:=uH h ⟨#[]⟩ (by show 0<=_;unfold maxLen;omega);have a:bO D.files (lb ⟨#[]⟩)=none:=by
  cases g:bO D.files (lb ⟨#[]⟩)with
  |none=>rfl
  |some f=>have:=h.names _ (yQ g);exact absurd this (by show¬jR (lb ⟨#[]⟩)=true;decide)
 unfold VM;rcases c:D.down with _|_
 iterate 2
  ·(first|(have e:D.size (lb ⟨#[]⟩)=(0,4):=by unfold aL.size;rw[c,a];rfl)|(have e:D.size (lb ⟨#[]⟩)=(0,61):=by unfold aL.size;rw[c];rfl));rw[e]at b;clear h e a;go_in;(go_wp2_with fail);go_call b as e d ⟨rfl,rfl⟩;go_wp2;go_ret;exact⟨rfl,rfl⟩
def bv9{c:bB}(d:n<=999999):((lR c (n:Int)).toList==[])=false:=by rw[bA];intro h;have a:(lR c (n:Int)).toList.length=0:=(by rw[h];rfl);rw[jL,bI]at a;have b:=AB (c:=c) d;rw[M3]at a;rw[eO]at a;unfold jR at b;rw[bG]at b;exact b.1 (eG.1 a)
def XU(a d m:Nat)(D:aL)(n:Nat)(L:List dB)(w:aI)(e:eY)(b:aI):Prop:=∃f:bH,f.length<=128+4*L.length/\rI a d m (o8 D n L f) w e b
def ca7(h:bJ w k n m D K H)(hb:k<=w)(hv:Nat)(hn:hv<=999999)(v:aN)(L:List dB)(r:Nat)(hl:∀w',gX k m w w'->pJ w' v L)(hL:L.length<=10000)(hm:tN L=true)(ho:∀e∈L,wC e):Calls prog 226 #[zp n,hv,v,.float .f64 r] w (XU k n m D hv L w):=by
 have HT:=λx:aI=>zY (hv:Int) x ⟨by omega,by omega⟩;have j:=λx:aI=>LM (hv:Int) x ⟨by omega,by omega⟩;obtain⟨⟨A,c,rfl,-,-,-,-⟩,-⟩:=id (hl w (gX.refl _ _ _));have X:=λ(x:aI)(J:gX k m w x)=>bc3 (.slice A L c) L x (hl x J) (by omega);have he:SH L=0:=(by unfold SH;rw[aV hm]);have V:(lU L).length=12+24*L:=(QW hm ho (by omega)).2.2.1;rw[he]at X;have HF:=λ(x:aI)(J:gX k m w x)=>bG1 (.slice A L c) L r x (hl x J) hL;unfold aE7 at HF;have HO:=λ(x:aI)(J:bJ x k n m D K H)=>cs3 J;have z:=λ(x:aI)(J:bJ x k n m D K H)=>UD J;have B:=λ(D':aL) (x:aI) (b':bH->Nat) (d':bH->aN) (J:bJ x k n m D' b' d') (hq:k<=x) (s t:aS) hs ht=>cF5 J hq s t hs ht;have n1:=bv9 (c:=116) hn;have n2:=bv9 (c:=98) hn;have t1:=jV 116 (hv:Int);have t2:=jV 98 (hv:Int);have l1:=LR hv;have l2:=ZW hv;have⟨S1,h7⟩:=fR (lR 116 (hv:Int));have⟨S2,h8⟩:=fR (lR 98 (hv:Int));rw[<-h7]at HT n1 t1 l1;rw[<-h8]at j n2 t2 l2;have⟨P,hP⟩:=fR (bs (lU L));have h6:P.size=12+24*L:=(by rw[hP,eO,V]);have hk:lb P=lU L:=(by rw[hP,gP]);rw[<-hP]at X;have Q:=h.cap;have S:=h.used;unfold XU;have W:=aH h;have hu:P.size<=240012:=(by omega);have h5:(lU L)=P.size:=(by rw[V,h6]);have h2:=aH hL;clear h hl hm ho he V h7 h8 hP h6 hL;rcases Y:D.down with _|_
 .have f:=HO;unfold VM at f;rw[Y]at f;have q:-1048576<=D.free/\D.free<=1048576:=(by unfold aL.free;omega);have⟨fr,U⟩:=fR D.free;rw[<-U]at z q;have⟨g1,g2⟩:=q;have⟨N,HD⟩:=aA U Y;clear HO Q S U Y;go_in;go_wp2_with fail
  go_call HT _ as e w1 ⟨rfl,l⟩;go_wp2_with fail
  go_call j _ as e w2 ⟨rfl,o⟩;have b:=aK l o;have hp:=X w2 (gX.cT b _ _);have i:=aH b;clear HT j X l o b;go_wp2_with fail
  go_call hp as e w3 ⟨rfl,p⟩;have a:=aH (aK i p);have u:=f w3 (W.next a);have hf:=HF w3 (gX.cT a _ _);clear hp p HF f;go_wp2_with fail
  go_call u as e w' ⟨rfl,rfl⟩;clear u;go_wp2_with fail
  go_call hf as e w4 ⟨F,hF,rfl,ha⟩;have M:=aH (aK a ha);have R:=z w4 (W.next M);have T:(bs F).size=F:=eO F;have h4:lb (bs F)=F:=gP F;have⟨Fq,h3⟩:=fR (bs F);rw[<-h3]at T h4|-;have hr:Fq.size<=200000:=(by have:=h2.zz;omega);clear hf ha z h3;go_wp2_with fail
  go_call R as e w5 ⟨rfl,hc⟩;have d:=aH (aK M hc);clear R hc;by_cases y:fr-(P.size:Int)-(Fq.size:Int)<6000
  .have O:=aH (show o8 D hv L F=(60,D)from by unfold o8;rw[HD.zz,aP (by simp),aV (by rw[h5,<-N.zz,<-T];exact y)]);go_wp2;go_ret;refine⟨F,hF,?_⟩;rw[O.zz];exact⟨rfl,⟨_,_,W.next d⟩,gX.cT d _ _⟩
  have O:=aH (show o8 D hv L F=kS (D.lay (wE hv) F) λD=>D.lay (nN hv) (lU L)from by unfold o8;rw[HD.zz,aP (by simp),aP (by rw[h5,<-N.zz,<-T];exact y)]);have g:=B D w5 K H (W.next d) (aM hb d.size) S2 Fq (by unfold maxLen;unfold maxLen at t2;omega) (by omega);rw[l2,h4]at g;obtain⟨⟨e1,D1⟩,hg⟩:∃r,r=D.lay (wE hv) F:=⟨_,rfl⟩;rw[<-hg]at g O;unfold rI at g;simp only at g;by_cases h1:e1=0
  iterate 2
   .first|subst h1;have h0:=B D1;have C:=aH (show o8 D hv L F=D1.lay (nN hv) (lU L)from O)|((have C:=aH (show o8 D hv L F=(e1,D1)from by rw[O.zz];unfold kS;rw[aP h1]));have i1:(e1==0)=false:=bA.2 h1)
    clear hg B O;(go_wp2_with fail);go_call g as e w6 ⟨rfl,⟨b6,d6,I⟩,E⟩;(try (have hh:=E.size;(have G:=h0 w6 b6 d6 I (aM hb (aM d.size hh)) S1 P (by unfold maxLen;unfold maxLen at t1;omega) (by omega));rw[l1,hk]at G;rw[<-C.zz]at G));have Z:=aH ((gX.cT d k m).trans E);first|clear g h0 I E C;go_wp2_with fail;go_call G as e w7 h9;have hi:=aH (h9.from Z);obtain⟨rfl,-⟩:=h9;clear G|have hj:=aH I;clear g I E
    go_wp2;go_ret;first|exact⟨F,hF,hi⟩|refine⟨F,hF,?_⟩;rw[C.zz];exact⟨rfl,⟨_,_,hj⟩,Z⟩
 have f:=HO;unfold VM at f;rw[Y]at f;have O:=aH (show o8 D hv L []=(61,D)from by unfold o8;rw[Y,aV rfl]);clear HO Q S Y B z HF;go_in;go_wp2_with fail
 go_call HT _ as e w1 ⟨rfl,l⟩;go_wp2_with fail
 go_call j _ as e w2 ⟨rfl,o⟩;have b:=aK l o;have hp:=X w2 (gX.cT b _ _);have i:=aH b;clear HT j X l o b;go_wp2_with fail
 go_call hp as e w3 ⟨rfl,p⟩;have a:=aH (aK i p);have u:=f w3 (W.next a);clear hp p f;go_wp2_with fail
 go_call u as e w' ⟨rfl,rfl⟩;go_wp2_with fail
 go_call u as e w' ⟨rfl,rfl⟩;go_wp2;go_ret;refine⟨[],by simp,?_⟩;rw[O.zz];exact⟨rfl,⟨_,_,W.next a⟩,gX.cT a _ _⟩
def XQ:lb ⟨#[109,97,112]⟩=fE:=rfl
def MV:¬(57=103\/57=112\/57=5):=by decide
def ap7(w:aI)(B k:Nat)(p q r s:aN)(h:k≠B):((((w.setCell (zp B) p).setCell (zp B 1) q).setCell (zp B 2) r).setCell (zp B 3) s).heap[k]?=w.heap[k]?:=by rw[aU _ _ _ _ h,aU _ _ _ _ h,aU _ _ _ _ h,aU _ _ _ _ h]
def aa5(w:aI)(B:Nat)(p q r s:aN):w.grownBy ((((w.setCell (zp B) p).setCell (zp B 1) q).setCell (zp B 2) r).setCell (zp B 3) s) B:=⟨rfl,rfl,rfl,by simp,λk c a=>ap7 w B k p q r s (λb=>a (by rw[b]))⟩
def AN.be1(h:AN w n v C)(z:Row w k 57 X)(p q r s:aN):AN ((((w.setCell (zp k) p).setCell (zp k 1) q).setCell (zp k 2) r).setCell (zp k 3) s) n v C:=by
 have g:∀{D:Nat} {t:cC} {j:List aN},Row w D t j->t≠57->((((w.setCell (zp k) p).setCell (zp k 1) q).setCell (zp k 2) r).setCell (zp k 3) s).heap[D]?=w.heap[D]?:=fun {D t j} d A=>ap7 w k D p q r s λu=>A (dD (u▸d) z);rcases h with h|⟨b,B,c,d,l,m,o,e,a⟩
 .exact .inl h
 exact .inr ⟨b,B,c,d,l,m,o,e.of_block (g e (by decide)),⟨a.len,λD x L i f=>eS (a.own D x L i f) λq y=>g (dX (a.own D x L i f) y) (by decide),a.apart⟩⟩
def AN.U3(h:AN w n v C)(d:k<=n):AN w k v C:=by
 rcases h with h|⟨b,o,c,e,f,g,i,j,a⟩
 .exact .inl h
 exact .inr ⟨b,o,c,e,f,g,aM d i,j,⟨a.len,λp x L m l=>iI (a.own p x L m l) d,a.apart⟩⟩
def bJ.be1{T:cC}(h:bJ w k n m D K H)(c:Row w i T X)(d:¬(T=103\/T=112\/T=5))(a:T≠3)(p q r s:aN):bJ ((((w.setCell (zp i) p).setCell (zp i 1) q).setCell (zp i 2) r).setCell (zp i 3) s) k n m D K H:=h.grown (aa5 w i p q r s) λe b=>by cases b;exact h.nS c d a
def gX.be1(h:gX n k w x)(a:w<=m)(p q r s:aN):gX n k w ((((x.setCell (zp m) p).setCell (zp m 1) q).setCell (zp m 2) r).setCell (zp m 3) s):=h.grown (aa5 x m p q r s) λc b=>by cases b;exact a
def aE2(a d m:Nat)(D:aL)(b:bH->Nat)(c:bH->aN)(w:aI)(e:eY)(f:aI):Prop:=∃g,e=.returned (.tuple #[.agg (mN (pP D).2 g).toArray,.int .i64 (pP D).1])/\AN f w.heap.size g (pP D).2.fP/\bJ f a d m D b c/\gX a m w f
def cw6(h:bJ w k n m D K H):Calls prog 178 #[zp n] w (aE2 k n m D K H w):=by
 have i:=(bR w w).alloc dQ (.cells #[(),(),zu 0,zs] 57);have C:=Row.new w #[(),(),zu 0,zs] 57;have b:=h.next i;have d:=uH b ⟨#[109,97,112]⟩ (by decide);rw[XQ]at d;obtain⟨⟨p,q,r,s⟩,F,G,I,J⟩:=gR C;unfold aE2 pP;rcases j:D.down with _|_
 .rcases t:bO D.files fE with _|f
  .have e:D.size fE=(0,4):=(by unfold aL.size;rw[j,t];rfl);rw[e]at d;have⟨x,u⟩:=aA b i;clear h b i C e t j;go_in;(go_wp2_with fail);go_call d as e U ⟨rfl,rfl⟩;go_wp2;refine bE (v:=.tuple #[.agg #[(),(),zu 0,zs],(4:Int)]) (by simp[results,results178,go_sem,p,q,r,s]) rfl ⟨zs,rfl,?_,x,gX.cT u _ _⟩;exact .inl ⟨rfl,_,rfl⟩
  have e:D.size fE=(f.data.length,0):=(by unfold aL.size;rw[j,t];rfl);rw[e]at d;have R:=(b.data t).2;have z:=wI b ⟨#[109,97,112]⟩ (by decide) 0 (f.data:Nat) ⟨by omega,by omega⟩ ⟨by omega,by omega⟩;have Q:D.read fE 0 (f.data:Nat)=(f.data,0):=(by unfold aL.read;rw[j,t];simp);rw[XQ,Q]at z;unfold OK at z;have g:=λy:aI=>ai2 (bs f.data) y (by rw[eO];omega);unfold XZ at g;rw[gP]at g;simp only[bU,dW];generalize bs f.data=T at z g;generalize UC f.data=E at g|-;generalize getM f.data=M at g|-;have⟨x,u,N⟩:=aB b i C;clear h b i C e Q t j p q r s F G I J;go_in;go_wp2_with fail
  go_call d as e U ⟨rfl,rfl⟩;go_wp2_with fail
  go_call z as e w2 ⟨rfl,B,l⟩;have⟨O,X,L⟩:=aB (l.row N MV (x.rE N)) B ((gX.cT u k m).trans l);clear z d B l;go_wp2_with fail
  go_call g _ as e w3 ⟨v3,rfl,⟨lv,rfl,o⟩,a⟩;obtain⟨⟨q0,q1,q2,q3⟩,f0,f1,f2,f3⟩:=gR (O.next a);obtain⟨vs,Z,⟨A,c,rfl,-⟩,-⟩:=id o.GQ;have⟨Y,V,W,P⟩:=aC (X.next a) (L.trans (gX.cT a _ _)) o (O.next a);obtain⟨mn,mc,ms,S⟩:=M;simp only[mN]at *;clear g o a;go_wp2;refine bE (v:=.tuple #[.agg #[mn,mc,zu ms,.slice A S c],E]) (by simp[results,results178,go_sem,q0,q1,q2,q3]) rfl ⟨.slice A S c,rfl,?_,?_,?_⟩
  .exact(W.be1 P _ _ _ _).U3 (by have:=L.size;omega)
  .exact bJ.be1 Y P MV (by decide) _ _ _ _
  exact gX.be1 V dQ _ _ _ _
 have e:D.size fE=(0,61):=(by unfold aL.size;rw[j];rfl);rw[e]at d;have⟨x,u⟩:=aA b i;clear h b i C e j;go_in;go_wp2_with fail
 go_call d as e U ⟨rfl,rfl⟩;go_wp2;refine bE (v:=.tuple #[.agg #[(),(),zu 0,zs],(61:Int)]) (by simp[results,results178,go_sem,p,q,r,s]) rfl ⟨zs,rfl,?_,x,gX.cT u _ _⟩;exact .inl ⟨rfl,_,rfl⟩
def bx5(h:bJ w k n m D K H):Calls prog 182 #[zp n] w λe d=>e=(VM D)/\w=d:=by
 have b:=uH h ⟨#[]⟩ (by show 0<=_;unfold maxLen;omega);have a:bO D.files (lb ⟨#[]⟩)=none:=by
  cases g:bO D.files (lb ⟨#[]⟩)with
  |none=>rfl
  |some f=>have:=h.names _ (yQ g);exact absurd this (by show¬jR (lb ⟨#[]⟩)=true;decide)
 unfold VM;rcases c:D.down with _|_
 iterate 2
  ·(first|(have e:D.size (lb ⟨#[]⟩)=(0,4):=by unfold aL.size;rw[c,a];rfl)|(have e:D.size (lb ⟨#[]⟩)=(0,61):=by unfold aL.size;rw[c];rfl));rw[e]at b;clear h e a;go_in;(go_wp2_with fail);go_call b as e d ⟨rfl,rfl⟩;go_wp2;go_ret;exact⟨rfl,rfl⟩
def bx6(D:aL)(n:bH):Int×aL:=if(D.delete n).1=4 then(0,(D.delete n).2)else D.delete n
def cw4(h:bJ w k n m D K H)(l:k<=w)(s:aS)(o:s<=maxLen):Calls prog 274 #[zp n,s] w (rI k n m (bx6 D (lb s)) w):=by
 have a:=wJ h s o l;unfold bx6;obtain⟨⟨c,p⟩,f⟩:∃r,r=D.delete (lb s):=⟨_,rfl⟩;rw[<-f]at a|-;unfold rI at a|-;simp only at a|-;clear h f;by_cases b:c=4
 iterate 2
  .first|subst b;rw[aV rfl]|rw[aP b];have q:(c==4)=false:=bA.2 b
   go_in;(go_wp2_with fail);go_call a as e t ⟨rfl,g,d⟩;have⟨j,i⟩:=aA g d;clear g d a;go_wp2;go_ret;exact⟨rfl,j,i⟩
variable{a e t:Int}{M:jD}
def bw8:lb ⟨#[110,101,119]⟩=dI:=rfl
def GG(D:aL)(k:aL->Int×aL):kS (0,D) k=k D:=aV rfl
def GH(h:e≠0)(D:aL)(k:aL->Int×aL):kS (e,D) k=(e,D):=aP h
def bm6(a:D.down=false):bx6 D dI=D.gS:=by
 unfold bx6 aL.gS;cases b:bO D.files dI with
 |none=>rw[WE a b];simp
 |some f=>
  have c:(D.delete dI).1≠4:=by unfold aL.delete aL.change;rw[a,aP (by simp),b];simp only;split<;>simp
  rw[aP c];simp
def bD2(h:wU M=true):(bs (iS M)).size<=200:=by rw[eO];exact IN h
def cw5(h:bJ w k n m D K H)(Q:k<=w)(G:aN)(M:jD)(hl:vA w G M.fP)(hs:DA M)(C:wU M=true):Calls prog 227 #[zp n,.agg (mN M G).toArray] w (rI k n m (qV D M) w):=by
 have b0:=(bR w w).alloc dQ (.cells (mN M G).toArray 57);have r0:=Row.new w (mN M G).toArray 57;obtain⟨⟨h5,h6,h7,h8⟩,-⟩:=gR r0;have E:=OC (.agg (mN M G).toArray) M _ ⟨G,rfl,vA.next hl b0⟩ hs;rw[C,aV rfl,aV rfl]at E;have h0:=bD2 C;have U:lb (bs (iS M))=iS M:=gP _;have u:(iS M)=(bs (iS M)).size:=(eO _).symm;have y:=λ(x:aI)(i:bJ x k n m D K H)=>bx5 i;unfold VM at y;have s:=λ(x:aI)(i:bJ x k n m D K H)(b:k<=x)=>cw4 i b ⟨#[110,101,119]⟩ (by decide);rw[bw8]at s;have v:=λ(d:aL)(x:aI)(j:bH->Nat)(l:bH->aN)(i:bJ x k n m d j l)=>And.intro (UD i) (show -1048576<=d.free/\d.free<=1048576 from by have:=i.cap;have:=i.used;unfold aL.free;omega);have HC:=λ(d:aL)(x:aI)(j:bH->Nat)(l:bH->aN)(i:bJ x k n m d j l)(b:k<=x)=>EX i ⟨#[110,101,119]⟩ (by decide) b;have J:=λ(d:aL)(x:aI)(j:bH->Nat)(l:bH->aN)(i:bJ x k n m d j l)(b:k<=x)=>AH i ⟨#[110,101,119]⟩ (bs (iS M)) (by decide) (by omega) b;have HS:=λ(d:aL)(x:aI)(j:bH->Nat)(l:bH->aN)(i:bJ x k n m d j l)(b:k<=x)=>GX i ⟨#[110,101,119]⟩ (by decide) b;have HR:=λ(d:aL)(x:aI)(j:bH->Nat)(l:bH->aN)(i:bJ x k n m d j l)(b:k<=x)=>WC i ⟨#[110,101,119]⟩ ⟨#[109,97,112]⟩ (by decide) (by decide) b;rw[bw8]at HC J HS HR;rw[U]at J;rw[XQ]at HR;have⟨T,hT⟩:=fR (bs (iS M));rw[<-hT]at E h0 u J;have⟨H1,B0⟩:=aA (h.next b0) b0;have t:∀(e:Int)(d:aL)(x:aI),qV D M=(e,d)->(∃j l,bJ x k n m d j l)->gX k m w x->rI k n m (qV D M) w (.returned e) x:=λe d x c h2 h3=>(by rw[c];exact⟨rfl,h2,h3⟩);have f:=aH t;unfold mN at *;obtain⟨h9,h4,⟨A9,c9,rfl,-⟩,-⟩:=id hl;clear t h b0 r0 U hT C hs hl;rcases A:D.down with _|_
 .rw[A]at y;rw[bm6 A]at s;have W:=aH (show qV D M=kS D.gS λD=>if D.free-(iS M)<6000 then(60,D)else D.GZ fE (iS M)from by unfold qV;rw[A,aP (by simp)]);rw[u]at W;obtain⟨⟨e1,I⟩,V⟩:∃r,r=D.gS:=⟨_,rfl⟩;rw[<-V]at s W;unfold rI at s;simp only at s;clear A V;go_in;go_wp2_with fail
  go_call E as e w1 ⟨rfl,g⟩;have⟨B1,L⟩:=aA (aK B0 g) (H1.next g);clear E g;have ho:=y w1 L;clear y;go_wp2_with fail
  go_call ho as e w' ⟨rfl,rfl⟩;have hg:=s w1 L (aM Q B1.size);clear s ho;go_wp2_with fail
  go_call hg as e w2 ⟨rfl,⟨b2,d2,Y⟩,R⟩;have⟨V2,F2⟩:=aA Y ((gX.cT B1 k m).trans R);clear hg Y R;by_cases c:e1=0
  .subst c;have N:=aH (W.trans (GG _ _));have⟨B,f1,f2⟩:=v I w2 b2 d2 V2;have⟨fr,S⟩:=fR I.free;rw[<-S]at B f1 f2 N;clear W v S;(go_wp2_with fail);go_call B as e w3 ⟨rfl,z⟩;have⟨V3,F3⟩:=aA (V2.next z) (F2.trans (gX.cT z _ _));clear B z;by_cases X:fr-(T.size:Int)<6000
   .have F:=aH (N.trans (aV X));go_wp2;go_ret;exact f _ _ _ F ⟨_,_,V3⟩ F3
   have F:=aH (N.trans (aP X));unfold aL.GZ at F;obtain⟨b3,d3,Z⟩:∃j l,bJ w3 k n m I j l:=⟨_,_,V3⟩;have V3:=aH Z;clear Z;have a:=HC I w3 b3 d3 V3 (aM Q F3.size);obtain⟨⟨e3,D3⟩,p⟩:∃r,r=I.create dI:=⟨_,rfl⟩;rw[<-p]at a F;unfold rI at a;simp only at a;clear p;(go_wp2_with fail);go_call a as e w4 ⟨rfl,⟨b4,d4,q⟩,o⟩;have⟨V4,F4⟩:=aA q (F3.trans o);clear a q o;by_cases c:e3=0
   .subst c;have O:=aH (F.trans (GG _ _));have a:=J D3 w4 b4 d4 V4 (aM Q F4.size);obtain⟨⟨e4,D4⟩,p⟩:∃r,r=D3.append dI (iS M):=⟨_,rfl⟩;rw[<-p]at a O;unfold rI at a;simp only at a;clear p;(go_wp2_with fail);go_call a as e w5 ⟨rfl,⟨b5,d5,q⟩,o⟩;have⟨V5,F5⟩:=aA q (F4.trans o);clear a q o;by_cases c:e4=0
    .subst c;have P:=aH (O.trans (GG _ _));have a:=HS D4 w5 b5 d5 V5 (aM Q F5.size);obtain⟨⟨e5,D5⟩,p⟩:∃r,r=D4.sync dI:=⟨_,rfl⟩;rw[<-p]at a P;unfold rI at a;simp only at a;clear p;(go_wp2_with fail);go_call a as e w6 ⟨rfl,⟨b6,d6,q⟩,o⟩;have⟨V6,F6⟩:=aA q (F5.trans o);clear a q o;by_cases c:e5=0
     .subst c;have W5:=aH (P.trans (GG _ _));have a:=HR D5 w6 b6 d6 V6 (aM Q F6.size);obtain⟨⟨e6,D6⟩,p⟩:∃r,r=D5.rename dI fE:=⟨_,rfl⟩;rw[<-p]at a W5;unfold rI at a;simp only at a;clear p;(go_wp2_with fail);go_call a as e w7 ⟨rfl,⟨b7,d7,q⟩,o⟩;have⟨V7,F7⟩:=aA q (F6.trans o);clear a q o;go_wp2;go_ret;exact f _ _ _ W5 ⟨_,_,V7⟩ F7
     have W5:=aH (P.trans (GH c _ _));have i1:(e5==0)=false:=bA.2 c;go_wp2;go_ret;exact f _ _ _ W5 ⟨_,_,V6⟩ F6
    have P:=aH (O.trans (GH c _ _));have i1:(e4==0)=false:=bA.2 c;go_wp2;go_ret;exact f _ _ _ P ⟨_,_,V5⟩ F5
   have O:=aH (F.trans (GH c _ _));have i1:(e3==0)=false:=bA.2 c;go_wp2;go_ret;exact f _ _ _ O ⟨_,_,V4⟩ F4
  have N:=aH (W.trans (GH c _ _));have i1:(e1==0)=false:=bA.2 c;go_wp2;go_ret;exact f _ _ _ N ⟨_,_,V2⟩ F2
 rw[A]at y;have W:=aH (show qV D M=(61,D)from by unfold qV;rw[A,aV rfl]);clear s v HC J HS HR A;go_in;go_wp2_with fail
 go_call E as e w1 ⟨rfl,g⟩;have⟨B1,L⟩:=aA (aK B0 g) (H1.next g);clear E g;have ho:=y w1 L;clear y;go_wp2_with fail
 go_call ho as e w' ⟨rfl,rfl⟩;go_wp2;go_ret;exact f _ _ _ W ⟨_,_,L⟩ (gX.cT B1 _ _)
variable{l:List bH}
section
open Go.Sort
def CN(M:jD)(l:List bH)(k:Nat):List bH:=(l.take k).filter (lV M)
def VY(h:l[n]?=s)(a:lV M s=true):CN M l (n+1)=CN M l n++[s]:=by unfold CN;rw[dL,h,jA];simp[a]
def PX(h:l[n]?=s)(a:lV M s=false):CN M l (n+1)=CN M l n:=by unfold CN;rw[dL,h,jA];simp[a]
def bi1(M:jD):lV M dI=true:=by unfold lV;rw[bZ rfl];rfl
def aM6{M:jD}(a:s≠dI)(b:jY s=none):lV M s=false:=by unfold lV;rw[bN a,b];rfl
def aM5{M:jD}{s:bH}{c:bB}{n:Nat}(a:s≠dI)(b:jY s=some (c,n)):lV M s=((decide (c=116)||decide (c=98))&&!M.fP.flatten.contains n):=by unfold lV;rw[bN a,b];rfl
def cr0{s:aS}{l:bH}(h:s=bs l):(s.toList==[110,101,119])=decide (l=dI):=by rw[h,jL,gP];exact cK7 _ _
def aD6(w:aI)(D:aL)(M:jD)(e:eY)(b:aI):Prop:=∃a,e=.returned a/\b.ownsRow w.heap.size 9 1 a (D.names.filter (lV M)).length ((D.names.filter (lV M)).map encStr)/\aR w.heap.size w b
def bm0(h:bJ w k n m D K H)(lv:aN)(M:jD)(hl:vA w lv M.fP)(hs:DA M):Calls prog 183 #[zp n,.agg (mN M lv).toArray] w (aD6 w D M):=by
 have b0:=(bR w w).alloc dQ (.cells (mN M lv).toArray 57);have r0:=Row.new w (mN M lv).toArray 57;obtain⟨⟨hh,hi,hj,hm⟩,-⟩:=gR r0;have hA:=tP lv M.fP _ (hl.next b0) hs.len hs.flat;have HN:=λ(x:aI)(hx:bJ x k n m D K H)=>Q1 VD VE hx;have I:=h.many;have r:∀hw∈D.names,hw.length<=12:=λhw hn=>by unfold aL.names at hn;obtain⟨p,V,rfl⟩:=dS.1 hn;have:=h.names p V;unfold jR at this;simp at this;exact this.2
 have W:D.names.length<=400:=(by unfold aL.names;rw[gK];exact I);unfold aD6;rw[show D.names.filter (lV M)=CN M D.names D.names.length from by unfold CN;rw[eX]];generalize D.names=l at HN r W|-;have⟨N,hN⟩:=fR l.length;rw[<-hN]at HN W|-;have⟨h9,h4,HV,B0⟩:=aC r hN (h.next b0) b0;obtain⟨hu,ho,⟨A9,c9,rfl,-⟩,-⟩:=id hl;unfold mN at *;have h5:=aH (λ(x:bH)(c:bB)(hw:Nat)=>@aM5 M x c hw);have⟨F,hF⟩:=fR M.fP.flatten;rw[<-hF]at hA h5;clear h b0 r0 hl hs I r hN hF;go_in;go_wp2_with fail
 go_call hA as e w1 ⟨v1,rfl,L,h0⟩;have h7:=HN w1 (HV.next h0);have P:=Reads.cX L;obtain⟨Af,cf,rfl,-⟩:=id P;have⟨h8,B1⟩:=aA P (aK B0 h0);clear hA HN L P h0 hh hi hj hm;go_wp2_with fail
 go_call h7 as e w2 ⟨v2,rfl,O,h1⟩;have Q:=Reads.cX O;obtain⟨A2,c2,rfl,hr,hb,-⟩:=id Q;unfold maxLen at hb;have⟨ha,h3,B2⟩:=aB Q (h8.next h1) (aK B1 h1);clear h7 O Q h1;go_wp2_with fail
 go_loopw [6,8,9,10,11,18] (λov _ _ _ _ i wr=>∃hv:Nat,hv<=N/\i=.int .i64 hv/\wr.ownsRow w2 9 1 ov (CN M l hv) ((CN M l hv).map encStr)/\aR w2 w2 wr) (λ_ _ _ _ _ i _=>N-(intOf i).toNat)
 .exact⟨0,bK _,rfl,bM _ _ _ _,iH⟩
 obtain⟨hv,hk,rfl,j,t⟩:=hrel;have S:=t;obtain⟨A1,c1,rfl,hd,he,-⟩:=id (Reads.cX j);have hf:(CN M l hv)<=hv:=(by unfold CN;exact aM (jE _ _) (by rw[b8];omega));have⟨q,hq⟩:=fR ((CN M l hv).length);have⟨qs,v⟩:=fR (CN M l hv);rw[<-hq,<-v]at j;rw[<-hq]at hf|-;by_cases ht:hv<N
 .have i1:(hv:Int)<N:=(by omega);obtain⟨x,hx⟩:∃x,l[hv]?=some x:=⟨_,aJ (by have:=h4.zz;omega)⟩;have z:=h9 x (bC hx);obtain⟨b,hg,rfl,-,-,-,C⟩:=ha.UK (by omega);have c0:wr.cell? (zp b (hg+hv))=some (bs x):=(C wr t hv (by simp;have:=h4.zz;omega)).trans (by rw[tT,(aQ.1 hx).2];rfl);have s:=zZ (bs x) wr (by rw[eO];unfold maxLen;omega);rw[gP]at s;have⟨T,hT⟩:=fR (bs x);rw[<-hT]at c0 s;have X:=cr0 hT;obtain⟨HT,HL,R,f,h2,HQ,u⟩:=aF (show Value.string T=encStr x from by rw[hT];rfl) hx j S t (show q=(CN M l hv) from hq) v;clear C hx j S t hT hq hd he;by_cases A:x=dI
  .subst A;have o:=aH (bi1 M);rw[bZ rfl]at X;rw[C4]at s;unfold xE at s;clear v;(go_wp2_with fail);go_call s as e w6 ⟨rfl,d⟩;have a:=aH d;clear s d c0 z;(go_wp2_with (at_builtin;refine MG ay8 underlying118 (bY R a) rfl rfl rfl rfl rfl (by omega) (by have:=f.size;have:=a.size;omega) ?_;intro v8 w8 g G B;have Z:=aH g;have Y:=aH (nX (bY (bY R a) (iH.alloc dQ _)) (aK f (aK a (iH.alloc dQ _))) G (by have:=f.size;have:=a.size;rw[bD];omega));clear g G B));go_roundw
   .refine⟨hv+1,by omega,by go_num,?_,Y⟩;rw[VY HL.zz o.zz,iC,aO,<-HQ.zz,<-u.zz];have:=Z.zz;rwa[HT.zz]at this
   simp[intOf];omega
  rw[bN A]at X;rcases V:jY x with _|⟨c,hw⟩
  .rw[V]at s;unfold xE at s;have o:=aH (aM6 (M:=M) A V);clear v;clear V A;(go_wp2_with fail);go_call s as e w6 ⟨rfl,d⟩;have a:=aH d;clear s d c0 z;go_wp2;go_roundw
   .refine⟨hv+1,by omega,by go_num,?_,aK f a⟩;rw[PX HL.zz o.zz,<-HQ.zz,<-u.zz];exact bY R a
   simp[intOf];omega
  rw[V]at s;unfold xE at s;have J:=h5 x c hw A V;have E:=xQ (w:=wr) (h3.next h2) hw;obtain⟨-,-,hc⟩:=TX V;simp only at s;clear v;clear V A;rcases hc with rfl|rfl|rfl
  .have o:=aH (show lV M x=false from J);clear J E;(go_wp2_with fail);go_call s as e w6 ⟨rfl,d⟩;have a:=aH d;clear s d c0 z;go_wp2;go_roundw
   .refine⟨hv+1,by omega,by go_num,?_,aK f a⟩;rw[PX HL.zz o.zz,<-HQ.zz,<-u.zz];exact bY R a
   simp[intOf];omega
  iterate 2
   .rcases U:F.contains hw with _|_
    iterate 2
     ·(first|(have o:=aH (show lV M x=true from by rw[J,U];rfl))|(have o:=aH (show lV M x=false from by rw[J,U];rfl)));have E:=λy (hy:aR w2 w2 y)=>xQ (w:=y) (h3.next hy) hw;rw[U]at E;clear J U;(go_wp2_with fail);go_call s as e w6 ⟨rfl,d⟩;have h6:=E w6 (aK h2 d);have a:=aH d;clear s d c0 z E;(go_wp2_with fail);go_call h6 as e w' ⟨rfl,rfl⟩;clear h6;(first|(go_wp2_with (at_builtin;refine MG ay8 underlying118 (bY R a) rfl rfl rfl rfl rfl (by omega) (by have:=f.size;have:=a.size;omega) ?_;intro v8 w8 g G B;have Z:=aH g;have Y:=aH (nX (bY (bY R a) (iH.alloc dQ _)) (aK f (aK a (iH.alloc dQ _))) G (by have:=f.size;have:=a.size;rw[bD];omega));clear g G B))|go_wp2);go_roundw
      .first|((refine⟨hv+1,by omega,by go_num,?_,Y⟩);rw[VY HL.zz o.zz,iC,aO,<-HQ.zz,<-u.zz];have:=Z.zz;rwa[HT.zz]at this)|((refine⟨hv+1,by omega,by go_num,?_,aK f a⟩);rw[PX HL.zz o.zz,<-HQ.zz,<-u.zz];exact bY R a)
      simp[intOf];omega
 obtain rfl:hv=N:=(by omega);have i1:¬(hv:Int)<hv:=(by omega);have⟨R,f,HQ,u⟩:=aC j S hq v;clear j S hq v t;go_wp2;go_ret;exact⟨_,rfl,by rw[<-HQ.zz,<-u.zz];exact iI R B2.size,aK B2 f⟩
def bP2(h:l[n]?=s):D.XB (l.drop n)=kS (D.delete s) λD=>D.XB (l.drop (n+1)):=by obtain⟨a,rfl⟩:=aQ.1 h;rw[<-gT a];rfl
def cg7(h:bJ w k n m D K H)(hb:k<=w)(Q:aN)(M:jD)(U:vA w Q M.fP)(Y:DA M):Calls prog 122 #[zp n,.agg (mN M Q).toArray] w (rI k n m (mE D M) w):=by
 have E:=(bR w w).alloc dQ (.cells (mN M Q).toArray 57);have r0:=Row.new w (mN M Q).toArray 57;obtain⟨⟨h5,h6,h7,h8⟩,-⟩:=gR r0;have I:=h.next E;have A:=bx5 I;have c:=bm0 I Q M (U.next E) Y;unfold aD6 at c;unfold VM at A;have g:∀x∈D.names.filter (lV M),x.length<=12:=λhh W=>by have W:=(fL.1 W).1;unfold aL.names at W;obtain⟨p,hp,rfl⟩:=dS.1 W;have:=h.names p hp;unfold jR at this;simp at this;exact this.2
 unfold mE;generalize D.names.filter (lV M)=l at c g|-;have HD:=λ(j:aL)(x:aI)(C:bH->Nat)(G:bH->aN)(B:bJ x k n m j C G)(h2:k<=x)(s:bH)(Y:s.length<=12)=>wJ B (bs s) (by rw[eO];unfold maxLen;omega) h2;obtain⟨he,h9,⟨A9,c9,rfl,-⟩,-⟩:=id U;unfold mN at *;have⟨V0,B0,Z⟩:=aB I E g;have⟨N,R⟩:=fR l.length;rw[<-R]at c;have t:=aH R;unfold rI;rcases S:D.down with _|_
 .rw[S]at A;rw[aP (by simp)];clear h E r0 U Y I g R S;go_in;go_wp2_with fail
  go_call A as e w' ⟨rfl,rfl⟩;go_wp2_with fail
  go_call c as e w2 ⟨v2,rfl,a,u⟩;have o:=Reads.cX a;obtain⟨A2,c2,rfl,ha,h3,-⟩:=id o;unfold maxLen at h3;have⟨O2,V2,B2⟩:=aB a (V0.next u) (aK B0 u);clear A c a o u h5 h6 h7 h8;go_wp2_with fail
  go_loopw [7,8,18] (λ_ _ i wr=>∃(hg:Nat)(j:aL)(C:bH->Nat)(G:bH->aN),hg<=N/\i=.int .i64 hg/\D.XB l=j.XB (l.drop hg)/\bJ wr k n m j C G/\gX k m w wr/\wr.ownsRow w 9 1 (.slice A2 N c2) N (l.map encStr)) (λ_ _ i _=>N-(intOf i).toNat)
  .exact⟨0,D,_,_,bK _,rfl,rfl,V2,gX.cT B2 _ _,iI O2 (by rw[bD];omega)⟩
  obtain⟨hg,j,C,G,hk,rfl,f,L,J,X⟩:=hrel;by_cases hc:hg<N
  .have i1:(hg:Int)<N:=(by omega);obtain⟨x,B⟩:∃x,l[hg]?=some x:=⟨_,aJ (by have:=t.zz;omega)⟩;have q:=Z x (bC B);obtain⟨b,h4,rfl,-,-,-,d⟩:=(Reads.cX X).UK (by omega);have c0:wr.cell? (zp b (h4+hg))=some (bs x):=(d wr iH hg (by simp;have:=t.zz;omega)).trans (by rw[tT,(aQ.1 B).2];rfl);have y:=HD j wr C G L (aM hb J.size) x q;rw[gP]at y;have z:=f.trans (bP2 B);obtain⟨⟨e1,D1⟩,hr⟩:∃r,r=j.delete x:=⟨_,rfl⟩;rw[<-hr]at y z;unfold rI at y;simp only at y;have⟨V,F,O,ST⟩:=aC L J X z;generalize bs x=T at y c0;clear d B q L J X f z hr;(go_wp2_with fail);go_call y as e w3 ⟨rfl,⟨b3,d3,P⟩,v⟩;have⟨V3,F3,O3⟩:=aB P (F.trans v) (v.own O IH.2.1 V.map);clear y P v c0;by_cases h1:e1=0
   .subst h1;go_wp2;go_roundw
    .exact⟨hg+1,D1,b3,d3,by omega,by go_num,ST.trans (GG _ _),V3,F3,O3⟩
    simp[intOf];omega
   have i2:(e1==0)=false:=bA.2 h1;go_wp2;(try rw[eU]);go_ret;rw[ST.zz.trans (GH h1 _ _)];exact⟨rfl,⟨_,_,V3⟩,F3⟩
  obtain rfl:hg=N:=(by omega);have i1:¬(hg:Int)<hg:=(by omega);obtain⟨V,F,DL⟩:=aB L J (show D.XB l=(0,j)from by rw[f,iR (by rw[<-t.zz];exact cV _)];rfl);clear L J X f;go_wp2;try rw[eU]
  go_ret;rw[DL.zz];exact⟨rfl,⟨_,_,V⟩,F⟩
 rw[S]at A;rw[aV rfl];clear h E r0 U Y I g R S c HD;go_in;go_wp2_with fail
 go_call A as e w' ⟨rfl,rfl⟩;go_wp2;go_ret;exact⟨rfl,⟨_,_,V0⟩,gX.cT B0 _ _⟩
end
def AN.aI0{base:Nat}(h:AN w base v C)(y:Row w n 57 X)(j:Nat)(u:aN):AN (w.setCell (zp n j) u) base v C:=by
 have g:∀{k:Nat} {t:cC} {l:List aN},Row w k t l->t≠57->(w.setCell (zp n j) u).heap[k]?=w.heap[k]?:=fun {k t l} d z=>aU _ _ _ _ λr=>z (dD (r▸d) y);rcases h with h|⟨b,A,c,d,m,o,p,e,a⟩
 .exact .inl h
 exact .inr ⟨b,A,c,d,m,o,p,e.of_block (g e (by decide)),⟨a.len,λk x L i f=>eS (a.own k x L i f) λq s=>g (dX (a.own k x L i f) s) (by decide),a.apart⟩⟩
def zL(w:aI)(m:jD)(e:eY)(b:aI):Prop:=∃a,e=.returned (.agg (mN m a).toArray)/\AN b w.heap.size a m.fP/\aR w.heap.size w b
def BN(lv:aN)(m:jD)(w:aI)(h:vA w lv m.fP)(hl:m.fP.length<=1000)(ht:m.fP.flatten.length<=100000):Calls prog 47 #[.agg (mN m lv).toArray] w (zL w m):=by
 unfold zL;have⟨N,M,O,l⟩:=m;simp only at h hl ht|-;have⟨vs,hz,I,Y⟩:=h;have⟨iz,hq,x1,x2,x3⟩:=info_parts nH;obtain⟨A,c,rfl,hm,ho,-⟩:=id I;have d:∀(j:Nat),j<l->∃L x b u,l[j]?=some L/\vs[j]?=some x/\A=zp b u/\L.length<=100000/\Reads w x 1 L (fJ L)/\∀wr,aR w w wr->wr.cell? (zp b (u+j))=some x:=λj hj=>by
  obtain⟨b,u,hA,-,-,-,H⟩:=I.UK (by omega);have hx:vs[j]?=some (vs[j]'(by omega)):=aJ (by omega);have hL:l[j]?=some l[j]:=aJ hj;refine⟨_,_,b,u,hL,hx,hA,?_,Y j _ _ hx hL,λwr hb=>?_⟩
  .have e:l=l.take j++l[j]::l.drop (j+1):=(by rw[gT,bX]);have:=gQ (λz=>z.flatten.length) e;simp only[iO,iA,aO]at this;omega
  exact H wr hb j (by omega)
 have⟨n,hn⟩:=fR l.length;rw[<-hn]at hm hl d|-;have⟨HN,HC⟩:=aA hn d;unfold mN;simp only;have b0:=(bR w w).alloc dQ (.cells #[N,M,zu O,.slice A n c] 57);have r0:=Row.new w #[N,M,zu O,.slice A n c] 57;have z0:(w.alloc (.cells #[N,M,zu O,.slice A n c] 57)).heap.size=w+1:=bD _ _;have⟨P,h7⟩:=fR (w.alloc (.cells #[N,M,zu O,.slice A n c] 57));rw[<-h7]at b0 r0 z0;have b1:=(bR P P).alloc dQ (.cells #[(),(),zu 0,zs] 57);have r1:=Row.new P #[(),(),zu 0,zs] 57;have z1:(P.alloc (.cells #[(),(),zu 0,zs] 57)).heap.size=P+1:=bD _ _;have⟨K,s⟩:=fR (P.alloc (.cells #[(),(),zu 0,zs] 57));rw[<-s]at b1 r1 z1;rw[z0]at r1;obtain⟨BB,R0,R1,Z⟩:=aC (aK b0 b1) (r0.next b1) r1 (show K=w.heap.size+1+1 from by rw[z1,z0]);obtain⟨⟨h8,ha,hc,hd⟩,-⟩:=gR R0.zz;clear Y I d hn hz ho b0 r0 b1 r1 z0 z1;go_in;subst s;subst h7;(go_wp2_with fail);have⟨K,s⟩:=fR ((w.alloc (.cells #[N,M,zu O,.slice A n c] 57)).alloc (.cells #[(),(),zu 0,zs] 57));rw[<-s]at BB R0 R1 Z|-;clear h8 ha hc hd s;go_loopw [3,5,9] (λhh _ i wr=>∃(j:Nat)(J:List aN),j<=n/\i=.int .i64 j/\J=j/\wr.ownsRow K 33 1 hh j J/\lS wr K J (l.take j)/\aR K K wr) (λ_ _ i _=>n-(intOf i).toNat)
 .exact⟨0,[],bK _,rfl,rfl,bM _ _ _ _,by simpa using lS.nil _ _,iH⟩
 obtain⟨j,J,hj,rfl,hy,g,f,D⟩:=hrel;obtain⟨A1,c1,rfl,hv,hw,-⟩:=id (Reads.cX g);have⟨y,G⟩:=aA D (aK BB.zz D);by_cases hu:j<n
 .obtain⟨L,x,b,u,h1,h2,rfl,xg,h3,h4⟩:=HC.zz j hu;obtain⟨Ax,cx,rfl,-⟩:=id h3;have c0:=h4 wr G.zz;have i1:(j:Int)<n:=(by omega);have⟨H3,F,E,H1,hg⟩:=aD (h3.next G.zz) g f h1 hy;have hi:=y.zz.size;clear h1 h2 h3 h4 g f D hv hw;go_wp2_with (at_builtin;first
   |(refine MG AF underlying55 (bY F.zz q.zz) rfl rfl rfl rfl rfl (by omega) (by have:=q.zz.size;omega) ?_;intro v4 w4 r X V;have⟨hf,Q⟩:=aA r X;clear r X V)
   |(refine rB _ rfl _ _ 33 rfl wr 3 iz () 1 8 underlying33 hq x1 x2 x3 rfl (by decide) zs 0 [] rfl (bM _ _ _ _) _ L (fJ L) rfl H3.zz (PJ L) (by unfold maxLen;omega) (by omega) dQ ?_;intro v3 w3 a o U;rw[jC,qA]at a;obtain⟨A3,c3,rfl,-⟩:=id (Reads.cX a);obtain⟨R,q⟩:=aA a (show aR wr wr w3 from⟨o.os,o.tape,o.output,o.size,λk hk=>o.block k hk (by simp[Value.ownBlock])⟩);clear a o U))
  go_roundw
  .
   refine⟨j+1,J++[.slice A3 L c3],by omega,by go_num,by simp[hg.zz],hf.zz,?_,?_⟩
   iterate 2
    ·(try ((have hp:l.take (j+1)=l.take j++[L]:=by rw[dL,H1.zz];rfl);rw[hp]));have C:=(bR w3 w3).alloc dQ (.cells #[.slice A3 L c3] 33);(try (have h0:=(E.zz.next q.zz).next C;have x0:=bY (iI R.zz hi) C));have a:=bY (bY F.zz q.zz) C
     first
      |have hs:=h0.snoc (B:=wr.heap.size) x0 E.zz.lt (dH R.zz)
       exact hs.eW λk t xs hr ht=>Q.zz.block k hr.lt (λh9=>by have:=dD (dX a h9.symm) hr;rw[ht]at this;exact absurd this (by decide))
      |have W:=aK y.zz (aK q.zz C)
       exact nX a W Q.zz W.size
  simp[intOf];omega
 obtain rfl:j=n:=(by omega);have i1:¬(j:Int)<j:=(by omega);have h5:l.take j=l:=by rw[HN.zz,eX]
 have h6:AN wr K (.slice A1 j c1) l:=by rw[h5]at f;exact aM1 (us:=J) (by rw[<-HN.zz];exact g) f
 have⟨S,T⟩:=aA (R0.zz.next y.zz) (R1.zz.next y.zz);obtain⟨⟨h8,ha,hc,hd⟩,x8,x9,xa,xb⟩:=gR S.zz;obtain⟨⟨x4,x5,x6,x7⟩,xc,xd,xe,xf⟩:=gR T.zz;have he:=aH h6;clear g f D h5 h6;go_wp2;refine bE (v:=.agg #[N,M,zu O,.slice A1 j c1]) (by simp[results,results47,go_sem,x4,x5,x6,x7]) rfl ⟨.slice A1 j c1,rfl,?_,?_⟩
 .have h1:=he.zz.aI0 S.zz 3 (.slice A1 j c1);exact(h1.be1 (T.zz.far (p:=zp w 3) (by simp) _) _ _ _ _).U3 (by have:=Z.zz;omega)
 exact((((G.zz.setCell (by simp) _).setCell (by simp) _).setCell (by simp) _).setCell (by simp) _).setCell (by simp) _
def Q5(D:aL)(n:bH):(D.delete n).1=0\/(D.delete n).1=4\/(D.delete n).1=61:=by
 unfold aL.delete aL.change;split
 .exact .inr (.inr rfl)
 split
 .exact .inr (.inl rfl)
 split
 .exact .inr (.inr rfl)
 exact .inl rfl
def ak9:¬(9=103\/9=112\/9=5):=by decide
def aE8(D:aL)(n k:Nat)(a:aL):Prop:=(k=0/\a=D)\/(k=1/\(D.delete (nN n)).1≠61/\a=(D.delete (nN n)).2)\/(k=2/\(D.delete (nN n)).1≠61/\((D.delete (nN n)).2.delete (wE n)).1≠61/\a=((D.delete (nN n)).2.delete (wE n)).2)
def bo2(h:aE8 D n 2 E):pG D n=(0,E):=by
 rcases h with⟨h,-⟩|⟨h,-⟩|⟨-,a,b,rfl⟩
 .omega
 .omega
 unfold pG;rw[aP a,aP b]
def bO8(b:n<2)(h:aE8 D k n E):((E.delete (if n=0 then nN k else wE k)).1=61->pG D k=E.delete (if n=0 then nN k else wE k))/\((E.delete (if n=0 then nN k else wE k)).1≠61->aE8 D k (n+1) (E.delete (if n=0 then nN k else wE k)).2):=by
 rcases h with⟨rfl,rfl⟩|⟨rfl,a,rfl⟩|⟨h,-⟩
 .rw[aV rfl];exact⟨λh=>by unfold pG;rw[aV h],λh=>.inr (.inl ⟨rfl,h,rfl⟩)⟩
 .rw[aP (by omega)];exact⟨λh=>by unfold pG;rw[aP a,aV h],λh=>.inr (.inr ⟨rfl,a,h,rfl⟩)⟩
 omega
def bu5(h:bJ w k n m D K H)(hb:k<=w)(h1:Nat)(hn:h1<=999999):Calls prog 162 #[zp n,h1] w (rI k n m (pG D h1) w):=by
 have Y:=λx:aI=>zY (h1:Int) x ⟨by omega,by omega⟩;have y:=λx:aI=>LM (h1:Int) x ⟨by omega,by omega⟩;have B:=λ(g:aL)(x:aI)(t:bH->Nat)(u:bH->aN)(R:bJ x k n m g t u)(p:k<=x)(c:bB)=>wJ R (lR c (h1:Int)) (jV _ _) p;have l1:=LR h1;have l2:=ZW h1;have⟨T,M⟩:=fR (lR 116 (h1:Int));have⟨U,N⟩:=fR (lR 98 (h1:Int));have z:=λg x t u R p=>B g x t u R p 116;have A:=λg x t u R p=>B g x t u R p 98;rw[<-M]at Y l1 z;rw[<-N]at y l2 A;rw[l1]at z;rw[l2]at A;have HH:=aH h;unfold rI;clear h M N B l1 l2 hn;go_in;go_wp2_with fail
 go_call Y _ as e w1 ⟨rfl,O⟩;go_wp2_with fail
 go_call y _ as e F ⟨rfl,P⟩;have v:=aK O P;have Q:=(bR F F).alloc dQ (.cells #[T,U] 9);have r3:=Row.new F #[T,U] 9;obtain⟨G,X,HZ⟩:=aB (aK v Q) r3 (show F<(F.alloc (.cells #[T,U] 9)).heap.size from by rw[bD];omega);clear O P v Q r3 Y y;go_wp2_with fail
 go_loopw [6,7,14] (λ_ _ i wr=>∃(h0:Nat)(g:aL)(t:bH->Nat)(u:bH->aN),h0<=2/\i=.int .i64 h0/\aE8 D h1 h0 g/\bJ wr k n m g t u/\gX k m w wr/\Row wr F 9 [T,U]) (λ_ _ i _=>2-(intOf i).toNat)
 .exact⟨0,D,_,_,by omega,rfl,.inl ⟨rfl,rfl⟩,HH.next G,gX.cT G _ _,X⟩
 obtain⟨h0,g,t,u,hk,rfl,o,hv,hf,V⟩:=hrel;have⟨L,I,S⟩:=aB hv hf V;have c0:=V.lO;have c1:=V.qD;clear hv hf V;by_cases E:h0=2
 .subst E;have HE:=aH (bo2 o);clear o;go_wp2;try rw[eU]
  go_ret;rw[HE.zz];exact⟨rfl,⟨_,_,L⟩,I⟩
 have d:=bO8 (by omega) o;have a:=Q5 g (if h0=0 then nN h1 else wE h1);rcases(show h0=0\/h0=1 from by omega)with rfl|rfl
 .rw[aV rfl]at d a;have b:=z g wr t u L (aM hb I.size);obtain⟨⟨e1,W⟩,q⟩:∃r,r=g.delete (nN h1):=⟨_,rfl⟩;rw[<-q]at b d a;unfold rI at b;simp only at b d a;have J:=aH d;clear d o q E;go_wp2_with fail
  go_call b as e w4 ⟨rfl,⟨Z,d4,s⟩,f⟩;have⟨l,j,C⟩:=aB s (I.trans f) (f.row S ak9 (L.rE S));clear b s f c0 c1;rcases a with rfl|rfl|rfl
  iterate 2
   .go_wp2;go_roundw
    .exact⟨1,W,Z,d4,by omega,rfl,J.2 (by decide),l,j,C⟩
    simp[intOf]
  go_wp2;try rw[eU]
  go_ret;rw[J.zz.1 (by first|rfl|trivial)];exact⟨rfl,⟨_,_,l⟩,j⟩
 rw[aP (by omega)]at d a;have b:=A g wr t u L (aM hb I.size);obtain⟨⟨e1,W⟩,q⟩:∃r,r=g.delete (wE h1):=⟨_,rfl⟩;rw[<-q]at b d a;unfold rI at b;simp only at b d a;have J:=aH d;clear d o q E;go_wp2_with fail
 go_call b as e w4 ⟨rfl,⟨Z,d4,s⟩,f⟩;have⟨l,j,C⟩:=aB s (I.trans f) (f.row S ak9 (L.rE S));clear b s f c0 c1;rcases a with rfl|rfl|rfl
 iterate 2
  .go_wp2;go_roundw
   .exact⟨2,W,Z,d4,by omega,rfl,J.2 (by decide),l,j,C⟩
   simp[intOf]
 go_wp2;try rw[eU]
 go_ret;rw[J.zz.1 (by first|rfl|trivial)];exact⟨rfl,⟨_,_,l⟩,j⟩
structure FB(a m p d n:Nat)(N:Nat->Prop)(L:List dB)(D:aL)(b:bH->Nat)(c:bH->aN)(w x:aI):Prop where
 eI:bJ x a d m D b c
 TK:tC x N a p d n L
 fr:gX a m w x
def FB.next{base k p n:Nat}{w:aI}(h:FB base k p m n N L D K H w y)(a:aR y y x):FB base k p m n N L D K H w x:=⟨h.eI.next a,h.TK.next a,h.fr.trans (gX.cT a _ _)⟩
def FB.yH{base:Nat}(b:∀q,N q->q≠n)(h:FB base n k m i N L D K H x y)(c:bJ w base m n D K H)(a:gX base n y w):FB base n k m i N L D K H x w:=⟨c,h.TK.yH h.eI b a,h.fr.trans a⟩
def nJ.len{l:cA}(h:nJ l n L):∃a,bO l (nN n)=some a/\a.data=lU L/\a.data.length=12+24*L:=by have⟨a,c,d,b⟩:=h.file;exact⟨a,c,b,by rw[b];exact(QW h.may h.ok h.yG).2.2.1⟩
def bV1(c:D.down=false)(a:nJ D.files k L){n:Nat}{o:dB}(d:L[n]?=o):D.read (nN k) (atT (n:Int)) 24=(lJ o,0):=by have⟨l,e,f,i⟩:=a.len;have g:n<L:=(aQ.1 d).1;have j:=a.yG;have b:atT (n:Int)=((8+24*n:Nat):Int):=(by unfold atT;rw[aP (by omega)];omega);have h:=(QW a.may a.ok a.yG).2.2.2 n o d;unfold aL.read;rw[c,aP (by simp),e];simp only;rw[b,aP (by omega),bW,f];exact gQ (λx=>(x,(0:Int))) h
def cx1{l:cA}(e:nJ l n L){k:Nat}{o:dB}(d:L[k]?=o):okG (lJ o)=true/\IX (lJ o)=o/\wC o/\qF o=true:=by have b:=e.may;unfold tN at b;rw[bL]at b;have a:=dN.1 b.2 o (bC d);have c:=e.ok o (bC d);exact⟨(S7 c a).1,(S7 c a).2,c,a⟩
def C7(a m p d n:Nat)(N:Nat->Prop)(L:List dB)(D:aL)(b:bH->Nat)(c:bH->aN)(x:dB)(w:aI)(e:eY)(f:aI):Prop:=e=.returned (.tuple #[.agg (iT x),.int .i64 0])/\FB a m p d n N L D b c w f
def qB:¬(152=103\/152=112\/152=5):=by decide
def JR(a m p d n:Nat)(N:Nat->Prop)(L:List dB)(D:aL)(b:bH->Nat)(c:bH->aN)(w:aI)(e:List aN)(x:aI):Prop:=FB a m p d n N L D b c w x/\Row x w.heap.size 152 e
def JR.next{base k p n:Nat}{w:aI}(h:JR base k p m n N L D K H w X y)(a:aR y y x):JR base k p m n N L D K H w X x:=⟨h.1.next a,h.2.next a⟩
def JR.yH{base:Nat}(b:∀q,N q->q≠n)(h:JR base n k m i N L D K H x X y)(c:bJ w base m n D K H)(a:gX base n y w):JR base n k m i N L D K H x X w:=⟨h.1.yH b c a,a.row h.2 qB (h.1.eI.rE h.2)⟩
def JR.pt(h:JR n k m i j N L D K H x X y)(a:FB n k m i j N L D K H y w):JR n k m i j N L D K H x X w:=⟨⟨a.eI,a.TK,h.1.fr.trans a.fr⟩,a.fr.row h.2 qB (h.1.eI.rE h.2)⟩
def JR.new{base k n:Nat}{L:List dB}{w:aI}(a:bJ w base i k D K H)(h:tC w N base m i n L)(C:Array aN):JR base k m i n N L D K H w C.toList (w.alloc (.cells C 152)):=⟨(FB.mk a h (gX.refl _ _ _):FB base k m i n N L D K H w w).next (eA w _),Row.new w C _⟩
def JR.cells{base k m n:Nat}{H:bH->aN}{w:aI}{v:aN}(h:JR base k m i n N L D K H w [u,v,z] x):(x.cell? (zp w)=u/\x.cell? (zp w 1)=v/\x.cell? (zp w 2)=z)/\x.frozen? (zp w)=false/\x.frozen? (zp w 1)=false/\x.frozen? (zp w 2)=false:=⟨⟨h.2.lO,h.2.qD,h.2.tW⟩,h.2.NV,h.2.JE,h.2.QP⟩
def JR.cL1(r:∀q,N q->q<w.heap.size)(h:JR n k m i j N L D K H w X x)(a b c:aN):FB n k m i j N L D K H w (((x.setCell (zp w) a).setCell (zp w 1) b).setCell (zp w 2) c):=by
 have d:∀(y:aI)(o:List aN)(t:Nat)(u:aN),JR n k m i j N L D K H w o y->JR n k m i j N L D K H w (o.set t u) (y.setCell (zp w t) u):=λy o t u e=>by
  have g:=jI y (zp w t) u;refine⟨⟨e.1.eI.grown g (λv f=>?_),e.1.TK.eW (λq s l=>g.block q l (λp=>?_)),e.1.fr.grown g (λv f=>by simp at f;omega)⟩,e.2.set t u⟩
  .simp at f;subst f;exact e.1.eI.nS e.2 qB (by decide)
  have:=r q s;simp at p;omega
 exact(d _ _ 2 c (d _ _ 1 b (d _ _ 0 a h))).1
def bG2{a:bH->Nat}(h:tC w N m k n j L)(Y:bJ w m n i D a H)(hN:∀q,N q->q≠i)(G:∀q,N q->q<w.heap.size)(J:D.down=false)(z:nJ D.files j L)(hn:j<=999999)(h1:Nat)(x:dB)(u:L[h1]?=x):Calls prog 221 #[zp k,h1] w (C7 m i k n j N L D a H x w):=by
 unfold C7;have F:=JR.new Y h #[.int .u64 0,.int .i64 0,.int .i64 0];have W:∀x,JR m i k n j N L D a H w [.int .u64 0,.int .i64 0,.int .i64 0] x->JR m i k n j N L D a H w [.int .u64 0,.int .i64 0,.int .i64 0] x.drew:=λx hx=>hx.next iH.drew;have I:h1<L.length:=(aQ.1 u).1;have r:=z.yG;have Q:∀y,JR m i k n j N L D a H w [.int .u64 0,.int .i64 0,.int .i64 0] y->Calls prog 230 #[.int .i64 j] y λe c=>e=.returned (.string (lR 116 j))/\JR m i k n j N L D a H w [.int .u64 0,.int .i64 0,.int .i64 0] c:=λy l=>(zY (j:Int) y ⟨by omega,by omega⟩).mono λe c b=>⟨b.1,l.next b.2⟩;have B:∀y,JR m i k n j N L D a H w [.int .u64 0,.int .i64 0,.int .i64 0] y->Calls prog 265 #[.int .i64 h1] y λe c=>e=.returned (.int .i64 (atT (h1:Int)))/\JR m i k n j N L D a H w [.int .u64 0,.int .i64 0,.int .i64 0] c:=λy l=>(bB5 (h1:Int) y ⟨by omega,by omega⟩).mono λe c b=>⟨b.1,by rw[<-b.2];exact l⟩;have p:atT (h1:Int)=((8+24*h1:Nat):Int):=(by unfold atT;rw[aP (by omega)];omega);have Z:=bV1 J z u;have t:∀y,JR m i k n j N L D a H w [.int .u64 0,.int .i64 0,.int .i64 0] y->Calls prog 31 #[.pointer (some ⟨n,0,none⟩),.string (lR 116 j),.int .i64 (atT (h1:Int)),.int .i64 24] y λe c=>e=.returned (.tuple #[.string (bs (lJ x)),.int .i64 0])/\JR m i k n j N L D a H w [.int .u64 0,.int .i64 0,.int .i64 0] c:=λy l=>by have:=wI l.1.eI (lR 116 (j:Int)) (jV _ _) (atT (h1:Int)) 24 (by rw[p];omega) ⟨by omega,by omega⟩;rw[LR,Z]at this;exact this.mono λe c b=>⟨b.1,l.yH hN b.2.1 b.2.2⟩
 have⟨R,S,U,V⟩:=cx1 z u;have g:=λy:aI=>W8 (bs (lJ x)) y (by rw[eO,qO V];unfold maxLen;omega);rw[gP,R,S]at g;have z0:∀x:xS (JR m i k n j N L D a H w [.int .u64 0,.int .i64 0,.int .i64 0]),x.it.cell? ⟨k,0,none⟩=some (.pointer (some ⟨n,0,none⟩)):=λx=>x.ok.1.TK.cells.1;have z1:∀x:xS (JR m i k n j N L D a H w [.int .u64 0,.int .i64 0,.int .i64 0]),x.it.cell? ⟨k,1,none⟩=some (.int .i64 j):=λx=>x.ok.1.TK.cells.2.1;have ho:wC x:=U;have⟨T,X⟩:=fR (bs (lJ x));rw[<-X]at t g;generalize atT (h1:Int)=A at B t;have⟨M,O,P⟩:=x;unfold iT at g|-;simp only at g|-;clear h Y z u Z p R S U V X I r hn;go_in;go_wp2_with fail
 haveI:Nonempty (xS (JR m i k n j N L D a H w [.int .u64 0,.int .i64 0,.int .i64 0])):=⟨⟨_,F⟩⟩;refine KJ (K:=(JR m i k n j N L D a H w [.int .u64 0,.int .i64 0,.int .i64 0])) F W (by kernel_rfl) (by kernel_rfl) ?_;repeat go_big_quiet_step (first|(go_at_call 230;exact NS _ Q)|(go_at_call 265;exact NS _ B)|(go_at_call 31;exact NS _ t))
 refine wpQuiet_nil ?_;rintro _ ⟨⟨w1,s⟩,rfl⟩;have o:=aH s;clear s Q B t z0 z1 W F;go_wp2_with fail
 go_call g _ as e w2 ⟨rfl,d⟩;have C:=aH d;have f:=(o.next d).next (eA w2 (.cells #[.int .u64 M,.int .i64 O,.int .i64 P] 152));obtain⟨⟨r0,r1,r2⟩,f0,f1,f2⟩:=f.cells;have E:=aH (f.cL1 G (.int .u64 M) (.int .i64 O) (.int .i64 P));clear d g f C o;go_wp2;refine bE (v:=.tuple #[.agg #[.int .u64 M,.int .i64 O,.int .i64 P],.int .i64 0]) (by simp[results,results221,go_sem,r0,r1,r2]) rfl ⟨rfl,E⟩
def FB.mono{p:Nat}(h:FB n k p m i R L D K H w x)(a:∀q,R q->N q):FB n k p m i N L D K H w x:=⟨h.eI,h.TK.mono λq _ b=>a q b,h.fr⟩
def tC.less(h:tC w N m k n i L):tC w (λq=>N q/\q<w.heap.size) m k n i L:=h.mono λq b a=>⟨a,b⟩
def YY(h:tC w N m k n j L)(f:bJ w m n i D K H)(d:∀q,N q->q≠i)(b:D.down=false)(o:nJ D.files j L)(l:j<=999999)(r:Nat)(x:dB)(g:L[r]?=x):Calls prog 221 #[zp k,r] w (C7 m i k n j N L D K H x w):=(bG2 h.less f (λq a=>d q a.1) (λq a=>a.2) b o l r x g).mono λe p c=>⟨c.1,c.2.mono λq a=>a.1⟩
variable{o:dB}
def ac3(f:fD L=true)(d:∀e∈L,qF e=true)(h:Nat)(v:Int):∀(i:Nat)(e:dB),L[i]?=e->(iB e (h,v,0)=true↔i<kQ L h v):=λi e c=>by obtain⟨a,rfl⟩:=aQ.1 c;have b:=d _ (dC a);unfold qF at b;rw[bG]at b;rw[<-rO f h v i a,qC,qR];simp only;omega
def ay3(j:fD L=true)(h:Nat)(t:Int):(kQ L h (t+1)=0->kO L h t=none)/\∀m x,kQ L h (t+1)=m+1->L[m]?=some x->(x.1=h->kO L h t=x)/\(x.1≠h->kO L h t=none):=by
 have g:=rO j h (t+1);have c:∀i (a:i<L.length),kQ L h (t+1)<=i->mI h t L[i]=false:=λi a o=>by have e:¬qS L[i] h (t+1)=true:=λf=>absurd ((g i a).1 f) (by omega);rw[qR]at e;unfold mI;refine bN ?_;omega
 refine⟨λe=>?_,λm x e f=>?_⟩
 .unfold kO;rw[rP λi a=>c i a (by omega)];rfl
 obtain⟨b,rfl⟩:=aQ.1 f;have l:=(g m b).2 (by omega);rw[qR]at l;refine⟨λn=>?_,λn=>?_⟩
 .unfold kO;refine getLast_filter b ?_ (λi a p=>c i a (by omega));unfold mI;refine bZ ?_;omega
 unfold kO;rw[rP λi a=>?_]
 .rfl
 rcases cK m i with d|d
 .exact c i a (by omega)
 unfold mI;refine bN ?_;rcases oQ d with rfl|d
 .omega
 have k:=tH j d b;rw[qC]at k;omega
def nJ.sorted{l:cA}(h:nJ l n L):fD L=true/\∀e∈L,qF e=true:=by have a:=h.may;unfold tN at a;rw[bL]at a;exact⟨a.1,λe b=>dN.1 a.2 e b⟩
def ax6{M:List XE}(p:∀v∈M,L[v.2]?=v.1)(u:n<=L)(b:∀(i:Nat)(e:dB),L[i]?=e->(iB e o=true↔i<n))(h:EI o L M 0=(k,m)):k<=n/\n<=m/\m<=L:=by
 have d:∀(M:List XE)(a:Nat),a<=n->(∀v∈M,L[v.2]?=v.1)->(EI o L M a).1<=n/\n<=(EI o L M a).2/\(EI o L M a).2<=L:=λM=>by
  induction M with
  |nil=>intro a q _;unfold EI;simp only;omega
  |cons v M s=>
   intro a q j;have f:=j v (by simp);have g:=b _ _ f;have t:=(aQ.1 f).1;unfold EI;by_cases c:iB v.1 o=true
   .rw[aV c];exact s _ (g.1 c) λy r=>j y (by simp[r])
   rw[aP c];have:¬v.2<n:=λl=>c (g.2 l);simp only;omega
 have:=d M 0 (bK _) p;rwa[h]at this
def T6(a m p d n:Nat)(N:Nat->Prop)(L:List dB)(D:aL)(b:bH->Nat)(c:bH->aN)(s:Nat)(w:aI)(e:eY)(f:aI):Prop:=e=.returned (.tuple #[.int .i64 (s:Int),.int .i64 0])/\FB a m p d n N L D b c w f
def bJ8(a:n<k)(b:k<=m)(d:m<=1000000):∃c:Nat,IntKind.u64.wrap ((n:Int)+(k:Int))=(n:Int)+(k:Int)/\Int.tdiv ((n:Int)+(k:Int)) 2=(c:Int)/\IntKind.i64.wrap (c:Int)=(c:Int)/\IntKind.u64.wrap (c:Int)=(c:Int)/\n<=c/\c<k:=by
 refine⟨(n+k)/2,?_,?_,?_,?_,by omega,by omega⟩
 .rw[eE];omega
 .rw[nM (by omega)];omega
 .rw[cQ];omega
 rw[eE];omega
def bu3(h:tC w N m k n j L)(hd:bJ w m n i D K H)(hN:∀q,N q->q≠i)(hc:D.down=false)(ht:nJ D.files j L)(hn:j<=999999)(x:dB)(hx:wC x)(s:Nat)(hs:s<=L)(d:∀(x4:Nat)(e:dB),L[x4]?=e->(iB e x=true↔x4<s)):Calls prog 220 #[zp k,.agg (iT x)] w (T6 m i k n j N L D K H s w):=by
 have h0:=JR.new hd h (iT x);have f:=ht.yG;have o:=ht.ok;have HE:=λ(y:aI) (hy:JR m i k n j N L D K H w (iT x).toList y) (x4:Nat) (e:dB) (g:L[x4]?=some e)=>YY hy.1.TK hy.1.eI hN hc ht hn x4 e g;unfold C7 at HE;unfold T6;obtain⟨mv,a,b,c,F,h1,h2,h3,-⟩:=id h0.1.TK;have h7:=Reads.cX h3;have z2:∀y:dR (w.alloc (.cells (iT x) 152)),y.it.cell? ⟨k,2,none⟩=some (.int .i64 (L.length:Nat)):=λy=>(h1.next y.ok).tW;have z3:∀y:dR (w.alloc (.cells (iT x) 152)),y.it.cell? ⟨k,3,none⟩=some mv:=λy=>(h1.next y.ok).JF;have zE:∀y:dR (w.alloc (.cells (iT x) 152)),JR m i k n j N L D K H w (iT x).toList y.it:=λy=>h0.next y.ok;have h6:(pV L L.length).length<=1000000:=aM (ZJ L L.length) f;have T:=λ(y:aI) (W:aR (w.alloc (.cells (iT x) 152)).heap.size (w.alloc (.cells (iT x) 152)) y)=>aO6 mv L (pV L L.length) L.length s x y (h7.next W) (λi hm=>bw1 hm) o hx rfl f h6 hs d;obtain⟨p,g,G⟩:∃p g,EI x L.length (pV L L.length) 0=(p,g):=⟨_,_,rfl⟩;have l:∀(y:aI),aR (w.alloc (.cells (iT x) 152)).heap.size (w.alloc (.cells (iT x) 152)) y->Calls prog 264 #[mv,.int .i64 (L.length:Int),.agg (iT x)] y λe w'=>e=.returned (.tuple #[.int .i64 p,.int .i64 g])/\aR y.heap.size y w':=λy W=>(T y W).mono λe w' h9=>by obtain⟨x0,hz,v,r,-,-,-,z⟩:=h9;rw[G]at r;cases r;exact⟨v,z⟩
 have Z:p<=s/\s<=g/\g<=L.length:=ax6 (λi hm=>bw1 hm) hs d G;have⟨hl,hh,Q,hp,U⟩:=aD (λ(y:aI)(e:dB)(J:wC e)=>xO e x y J hx) HE d o zE;have⟨x5,hk⟩:=fR L.length;rw[<-hk]at l z2 f hs Z;have⟨hj,hw⟩:=aA hk hN;have⟨M,O,P⟩:=x;unfold iT at *;simp only at *;have⟨b1,b2,b3⟩:=Z;have hr:∀y:dR (w.alloc (.cells #[.int .u64 M,.int .i64 O,.int .i64 P] 152)),y.it.cell? ⟨w.heap.size,0,none⟩=some (.int .u64 M):=λy=>(zE y).cells.1.1;have hu:∀y:dR (w.alloc (.cells #[.int .u64 M,.int .i64 O,.int .i64 P] 152)),y.it.cell? ⟨w.heap.size,1,none⟩=some (.int .i64 O):=λy=>(zE y).cells.1.2.1;have hv:∀y:dR (w.alloc (.cells #[.int .u64 M,.int .i64 O,.int .i64 P] 152)),y.it.cell? ⟨w.heap.size,2,none⟩=some (.int .i64 P):=λy=>(zE y).cells.1.2.2;clear h hd hN hc ht hn h1 h2 h3 h7 h6 HE d o h0 hk T G zE hx;go_in;(go_wp2_with fail);refine cI (by kernel_rfl) (by kernel_rfl) ?_;repeat go_big_quiet_step ((rename_i x;first|(go_at_call 264;exact eL x (l x.it x.ok))))
 refine wpQuiet_nil ?_;intro _ hx;obtain⟨⟨w1,X⟩,rfl⟩:=hx;rename_i w1;have A:=U ⟨w1,X⟩;simp only at A;have hf:=aH A;clear A X l z2 z3 U hr hu hv;go_wp2_with fail
 go_loopw [6,7,8,9,10] (λp g _ _ _ wr=>∃a b:Nat,a<=s/\s<=b/\b<=x5/\p=.int .i64 a/\g=.int .i64 b/\JR m i k n j N L D K H w [.int .u64 M,.int .i64 O,.int .i64 P] wr) (λp g _ _ _ _=>(intOf g-intOf p).toNat)
 .exact⟨p,g,b1,b2,b3,rfl,rfl,hf⟩
 obtain⟨a,b,ha,W,h4,rfl,rfl,V⟩:=hrel;have u:=aH V;clear V;by_cases hq:a<b
 .have i1:(a:Int)<b:=(by omega);have⟨c,q1,q2,q3,q6,q4,q5⟩:=bJ8 hq h4 f;obtain⟨e,J⟩:∃e,L[c]?=some e:=⟨_,aJ (by have:=hj.zz;omega)⟩;have oe:=hp e (bC J);have C:=hh wr u c e J;have t:=Q c e J;have⟨v,r,z⟩:=e;simp only at C;have⟨S,ho⟩:=aA t oe;clear J t oe;go_wp2_with fail
  go_call C as x w2 ⟨rfl,h5⟩;have B:=(u.pt h5).next (eA w2 (.cells #[.int .u64 v,.int .i64 r,.int .i64 z] 152));have r2:=Row.new w2 #[.int .u64 v,.int .i64 r,.int .i64 z] 152;obtain⟨⟨r0,r1,r9⟩,-⟩:=B.cells;have g0:=r2.lO;have g1:=r2.qD;have g2:=r2.tW;have hg:=aH B;have I:=hl (w2.alloc (.cells #[.int .u64 v,.int .i64 r,.int .i64 z] 152)) (v,r,z) ho;simp only at I;clear B r2 C h5;go_wp2_with fail
  go_call I as x w3 ⟨rfl,Y⟩;have R:=aH (hg.next Y);clear Y I r0 r1 r9 g0 g1 g2;rcases E:iB (v,r,z) (M,O,P)with _|_
  .have h8:¬c<s:=λh9=>(by rw[S.zz.2 h9]at E;cases E);go_wp2;go_roundw
   .exact⟨a,c,ha,by omega,by omega,rfl,by go_num,R⟩
   simp[intOf];omega
  have h8:c<s:=S.zz.1 E;go_wp2;go_roundw
  .exact⟨c+1,b,by omega,W,h4,by go_num,rfl,R⟩
  simp[intOf];omega
 have i1:¬(a:Int)<b:=(by omega);obtain rfl:a=s:=(by omega);go_wp2;try rw[eU]
 go_ret2;exact⟨rfl,u.1⟩
variable{r:Option Nat}
def FB.grown{p n:Nat}{w:aI}(h:FB k m p i n N L D K H w y)(g:∀q,N q->q<w.heap.size)(a:y.grownBy x r)(d:∀o,r=some o->w.heap.size<=o/\∃e,Row y o 152 e):FB k m p i n N L D K H w x:=by
 refine⟨h.eI.grown a λo b=>?_,h.TK.eW λq j c=>a.block q c λf=>?_,h.fr.grown a λo b=>(d o b).1⟩
 .obtain⟨-,e,l⟩:=d o b;exact h.eI.nS l qB (by decide)
 have:=g q j;have:=(d q f.symm).1;omega
def FB.own{k:Nat}(h:FB n m p i j N L D K H x y)(a:FB n m p i j N L D K H y w)(b:y.ownsRow d 152 3 v k X):w.ownsRow d 152 3 v k X:=a.fr.own b qB h.eI.map
def FB.trans{n p:Nat}{w x:aI}(h:FB n k p m i N L D K H w y)(a:FB n k p m i N L D K H y x):FB n k p m i N L D K H w x:=⟨a.eI,a.TK,h.fr.trans a.fr⟩
def bF7{L:List dB}{x:Nat}(h:e<a):kW L x a e=[]:=by unfold kW;rw[rP λi b=>?_];unfold inE;refine bN ?_;omega
def aK7(h:∀c∈L,c.1≠n):kW L n a e=[]:=by unfold kW;rw[rP λi b=>?_];unfold inE;have:=h _ (dC b);refine bN ?_;omega
def bk9(h:∀b∈L,b.1≠n):kO L n e=none:=by
 unfold kO;rw[rP λi a=>?_]
 .rfl
 unfold mI;have:=h _ (dC a);refine bN ?_;omega
def cf3(c:∀d∈L,qF d=true){x:Nat}{e:Int}(h:e<0):kO L x e=none:=by
 unfold kO;rw[rP λi b=>?_]
 .rfl
 have a:=c _ (dC b);unfold qF at a;rw[bG]at a;unfold mI;refine bN ?_;omega
def bc0(a:n<=k)(h:L[k]?=o):(L.drop n).take (k+1-n)=(L.drop n).take (k-n)++[o]:=by rw[show k+1-n=(k-n)+1 from by omega,dL,aE4,show n+(k-n)=k from by omega,h];rfl
def JB(a m p d n:Nat)(N:Nat->Prop)(L:List dB)(D:aL)(b:bH->Nat)(c:bH->aN)(R:List dB)(w:aI)(e:eY)(g:aI):Prop:=∃f,e=.returned (.tuple #[f,.int .i64 0])/\g.ownsRow w.heap.size 152 3 f R.length (gV R)/\FB a m p d n N L D b c w g
def bG4(h:tC w N m k n j L)(hd:bJ w m n i D K H)(hN:∀q,N q->q≠i)(h6:∀q,N q->q<w.heap.size)(hp:D.down=false)(X:nJ D.files j L)(hn:j<=999999)(x:Nat)(f t:Int)(hx:x<18446744073709551616)(hf:-9223372036854775808<=f/\f<=9223372036854775807)(x7:-9223372036854775808<=t/\t<=9223372036854775807):Calls prog 214 #[zp k,zu x,f,t] w (JB m i k n j N L D K H (kW L x (max f 0) (min t 1073741824)) w):=by
 have⟨A,S⟩:=fR (max f 0);have⟨v,Y⟩:=fR (min t 1073741824);rw[<-S,<-Y];have m1:max f 0=A:=S.symm;have m2:min t 1073741824=v:=Y.symm;have b1:0<=A:=(by omega);have b2:A<=9223372036854775807:=(by omega);have b3:v<=1073741824:=(by omega);have b4:-9223372036854775808<=v:=(by omega);have M:=N8 h;have l:=X.yG;have⟨c,o⟩:=X.sorted;have h0:FB m i k n j N L D K H w w:=⟨hd,h,gX.refl _ _ _⟩;unfold JB;clear S Y hf x7;by_cases x5:v<A
 .have⟨HR,H0⟩:=aA (bF7 (L:=L) (x:=x) x5) h0;clear h hd X c o h0 l;go_in;go_wp2_with fail
  go_call M as e w' ⟨rfl,rfl⟩;go_wp2;go_ret2;rw[HR.zz];exact⟨_,rfl,bM _ _ _ _,H0⟩
 have h5:=ca9 h l x hx;have x4:=h0;have d:=λ(y:aI)(Z:FB m i k n j N L D K H w y)=>bu3 Z.TK Z.eI hN hp X hn (x,A,0) ⟨hx,⟨by simp only;omega,by simp only;omega⟩,by simp⟩ (kQ L x A) (tI _ _ _) (ac3 c o x A);have HE:=λ(y:aI)(Z:FB m i k n j N L D K H w y)(xc:Nat)(e:dB)(hi:L[xc]?=some e)=>YY Z.TK Z.eI hN hp X hn xc e hi;unfold C7 at HE;unfold T6 iT at d;simp only at d;have u:=tI L x A;have O:=aH (λ(q:Nat)=>@an2 L c x A v q);have⟨s,hs⟩:=fR (kQ L x A);rw[<-hs]at d O u;have⟨xe,T⟩:=fR L.length;rw[<-T]at u l;have⟨HK,hu,h3,H0,x0⟩:=aD T HE d h0 X.ok;have hc:∀y,FB m i k n j N L D K H w y->y.cell? ⟨k,2,none⟩=some (.int .i64 xe):=λy Z=>(by rw[T];exact Z.TK.cells.2.2);have⟨hr,hv⟩:=aA hc h6;clear h hd X c o h0 x4 HE d hs T hc hN h6;go_in;go_wp2_with fail
 go_call M as e w' ⟨rfl,rfl⟩;clear M;go_wp2_with fail
 go_call h5 as e w1 ⟨⟨b,rfl,hb⟩,ha⟩;have⟨H1,HB⟩:=aA (H0.next ha) hb;clear h5 hb ha;rcases b with _|_
 .go_wp2;go_ret2;rw[aK7 (HB.zz (by first|rfl|trivial))];exact⟨_,rfl,bM _ _ _ _,H1⟩
 have hg:=h3 w1 H1;clear HB h3;go_wp2_with fail
 go_call hg as e w2 ⟨rfl,hl⟩;have H2:=aH (H1.trans hl);clear hg hl;go_wp2_with fail
 go_loopw [10,12,13,14] (λxc lv _ _ wr=>∃xd:Nat,s<=xd/\xd<=xe/\xc=.int .i64 xd/\wr.ownsRow w.heap.size 152 3 lv (xd-s) (gV ((L.drop s).take (xd-s)))/\(∀q (hq:q<L.length),s<=q->q<xd->mI x v L[q]=true)/\FB m i k n j N L D K H w wr) (λxc _ _ _ _=>xe-(intOf xc).toNat)
 .exact⟨s,dQ,u,rfl,by rw[iM];exact bM _ _ _ _,(λq hq h1 h2=>by omega),H2⟩
 obtain⟨xd,W,xa,rfl,p,a,V⟩:=hrel;have⟨HO,HU,B⟩:=aB p a V;obtain⟨A1,c1,rfl,-⟩:=id (Reads.cX p);have c2:=hr wr V;clear p a V;by_cases xb:xd<xe
 .have i1:(xd:Int)<xe:=(by omega);have x6:xd<L.length:=(by have:=HK.zz;omega);obtain⟨e,he⟩:∃e,L[xd]?=some e:=⟨_,aJ x6⟩;have oe:=x0 e (bC he);have C:=hu wr B xd e he;have G:L[xd]=e:=(aQ.1 he).2;have ho:=bc0 W he;have⟨E,F,e3⟩:=e;unfold iT at C;simp only at C;have⟨x1,h4,x8⟩:=aB ho G oe;clear he ho G oe;go_wp2_with fail
  go_call C as y w3 ⟨rfl,U⟩;have R:=eA w3 (.cells #[.int .u64 E,.int .i64 F,.int .i64 e3] 152);have⟨H3,g⟩:=aA ((B.trans U).next R) (bY (B.own U HO) R);clear C U R;by_cases a:mI x v (E,F,e3)=true
  .have Q:=of_decide_eq_true a;simp only at Q;obtain⟨rfl,x9⟩:=Q;have i3:¬v<F:=(by omega);have x2:=aH a;have⟨q,hq⟩:=fR (xd-s);rw[<-hq]at g|-;have HQ:=aH hq;have hm:q<=1000000:=(by omega);clear a c2 hq;(go_wp2_with (at_builtin;refine bq8 RU underlying113 (bY g (iH.alloc dQ _)) (rd1 (by have hm:=Row.new (w3.alloc (.cells #[.int .u64 E,.int .i64 F,.int .i64 e3] 152)) #[.int .u64 E,.int .i64 F,.int .i64 e3] 152;rwa[bD]at hm) rfl) rfl rfl rfl rfl rfl (by omega) (by have:=H3.fr.size;rw[bD];omega) ?_;intro v5 w5 r hj h7;have hw:=aH r;have H5:=aH ((H3.next (eA _ (.cells #[.int .u64 E,.int .i64 F,.int .i64 e3] 152))).grown hv hj (λxe T=>⟨dH g xe T,_,dX (bY g (eA _ _)) T⟩));clear r hj h7));go_roundw
   .
    refine⟨xd+1,by omega,by omega,by go_num,?_,λz hz h1 h2=>?_,H5⟩
    .have:=hw.zz;rw[x1.zz,BO];rw[show xd+1-s=q+1 from by have:=HQ.zz;omega,<-HQ.zz];exact this
    rcases cK z xd with h8|h8
    .exact HU z hz h1 h8
    have:z=xd:=(by omega);subst this;rw[h4.zz];exact x2
   simp[intOf];omega
  have Q:mI x v L[xd]=false:=(by rw[h4.zz];simpa using a);have P:=aH (O xd W (by have:=HK.zz;omega) (λxc hi h1 h2=>HU xc hi h1 h2) (λ_=>Q));have I:((L.drop s).take (xd-s)).length=xd-s:=(by rw[b8,eK];omega);have J:=aH I;have x3:=of_decide_eq_false (by simpa using a:mI x v (E,F,e3)=false);simp only at x3;clear a Q I;by_cases hh:E=x
  iterate 2
   ·(first|(subst hh;(have i3:v<F:=by omega))|(have i3:¬(E:Int)=x:=by omega));go_wp2;(try rw[eU]);go_ret2;exact⟨_,rfl,by rw[P.zz,J.zz];exact g,H3⟩
 obtain rfl:xd=xe:=(by omega);have i1:¬(xd:Int)<xd:=(by omega);obtain⟨P,J⟩:=aA (O xd W (by have:=HK.zz;omega) (λxc hi h1 h2=>HU xc hi h1 h2) (λQ=>absurd Q (by have:=HK.zz;omega))) (show((L.drop s).take (xd-s)).length=xd-s from by rw[b8,eK];have:=HK.zz;omega);go_wp2;try rw[eU]
 go_ret2;exact⟨_,rfl,by rw[P.zz,J.zz];exact HO,B⟩
def ca8(h:tC w N m k n j L)(r:bJ w m n i D K H)(p:∀q,N q->q≠i)(c:D.down=false)(v:nJ D.files j L)(u:j<=999999)(x:Nat)(f t:Int)(y:x<18446744073709551616)(s:-9223372036854775808<=f/\f<=9223372036854775807)(b:-9223372036854775808<=t/\t<=9223372036854775807):Calls prog 214 #[zp k,zu x,f,t] w (JB m i k n j N L D K H (kW L x (max f 0) (min t 1073741824)) w):=(bG4 h.less r (λq a=>p q a.1) (λq a=>a.2) c v u x f t y s b).mono λe A o=>by
 have⟨z,d,g,l⟩:=o;exact⟨z,d,g,l.mono λq a=>a.1⟩
def XY(a m p d n:Nat)(N:Nat->Prop)(L:List dB)(D:aL)(b:bH->Nat)(c:bH->aN)(o:Option dB)(w:aI)(e:eY)(f:aI):Prop:=e=.returned (.tuple #[.agg (iT (bO4 o)),.bool o.isSome,.int .i64 0])/\FB a m p d n N L D b c w f
def cb0(h:tC w N m k n j L)(hd:bJ w m n i D K H)(hN:∀q,N q->q≠i)(P:∀q,N q->q<w.heap.size)(U:D.down=false)(J:nJ D.files j L)(hn:j<=999999)(x:Nat)(u:Int)(hx:x<18446744073709551616)(hu:-9223372036854775808<=u/\u<=9223372036854775807):Calls prog 151 #[zp k,zu x,u] w (XY m i k n j N L D K H (kO L x (min u 1073741824)) w):=by
 have⟨o,G⟩:=fR (min u 1073741824);rw[<-G];have m2:min u 1073741824=o:=G.symm;have b3:o<=1073741824:=(by omega);have b4:-9223372036854775808<=o:=(by omega);have E:=JR.new hd h #[zu 0,(),()];have C:=N8 E.1.TK;have l:=J.yG;have⟨a,c⟩:=J.sorted;obtain⟨⟨t,z,A⟩,Z,f1,f2⟩:=E.cells;have X:=aH (λ(y:aI) (I:JR m i k n j N L D K H w [zu 0,(),()] y)=>I.cL1 P);unfold XY;clear G hu;by_cases h4:o<0
 .have⟨HR,H0⟩:=aA (cf3 c (x:=x) h4) E.1;clear h hd J a c E l;go_in;go_wp2_with fail
  go_call C as e w' ⟨rfl,rfl⟩;go_wp2;refine bE (v:=.tuple #[.agg #[zu 0,(),()],false,()]) (by simp[results,results151,go_sem,t,z,A]) rfl ⟨by rw[HR.zz];rfl,H0⟩
 have O:=ca9 E.1.TK l x hx;have f:=λ(y:aI) (I:JR m i k n j N L D K H w [zu 0,(),()] y)=>bu3 I.1.TK I.1.eI hN U J hn (x,o+1,0) ⟨hx,⟨by simp only;omega,by simp only;omega⟩,by simp⟩ (kQ L x (o+1)) (tI _ _ _) (ac3 a c x (o+1));have HE:=λ(y:aI) (I:JR m i k n j N L D K H w [zu 0,(),()] y) (h6:Nat) (e:dB) (hi:L[h6]?=e)=>YY I.1.TK I.1.eI hN U J hn h6 e hi;unfold C7 at HE;unfold T6 iT at f;simp only at f;have d:=tI L x (o+1);have g:=aH (ay3 a x o);have⟨s,hs⟩:=fR (kQ L x (o+1));rw[<-hs]at f g d;have⟨h1,M,H0⟩:=aB HE f E;have h5:s<=1000000:=aM d l;have h3:=aH d;clear h hd J a c E HE f hs hN P t z A Z f1 f2 d;go_in;go_wp2_with fail
 go_call C as e w' ⟨rfl,rfl⟩;clear C;go_wp2_with fail
 go_call O as e w1 ⟨⟨b,rfl,hb⟩,Q⟩;have⟨V,HB⟩:=aA (H0.next Q) hb;clear O hb Q;rcases b with _|_
 .obtain⟨⟨t,z,A⟩,Z,f1,f2⟩:=V.cells;go_wp2;refine bE (v:=.tuple #[.agg #[zu 0,(),()],false,()]) (by simp[results,results151,go_sem,t,z,A]) rfl ⟨by rw[bk9 (HB.zz (by first|rfl|trivial))];rfl,X _ V _ _ _⟩
 have R:=M w1 V;clear HB M;go_wp2_with fail
 go_call R as e w2 ⟨rfl,S⟩;have W:=aH (V.pt S);clear R S;rcases dP s with h9|h9
 .have h2:=aH (g.1 h9);subst h9;obtain⟨⟨t,z,A⟩,Z,f1,f2⟩:=W.cells;clear g;go_wp2;refine bE (v:=.tuple #[.agg #[zu 0,(),()],false,()]) (by simp[results,results151,go_sem,t,z,A]) rfl ⟨by rw[h2.zz];rfl,X _ W _ _ _⟩
 obtain⟨q,hq⟩:∃q,s=q+1:=⟨s - 1,by omega⟩;subst hq;obtain⟨e,he⟩:∃e,L[q]?=some e:=⟨_,aJ (by have:=h3.zz;omega)⟩;have r:=h1 w2 W q e he;have p:=aH (g.2 q e rfl he);have⟨Y,e2,e3⟩:=e;unfold iT at r;simp only at r;have i1:((q+1:Nat):Int)-1=(q:Int):=(by omega);have i2:(q:Int)+1-1=(q:Int):=(by omega);have i4:¬((q:Int)+1=0):=(by omega);clear g he h9;go_wp2_with fail
 go_call r as y w3 ⟨rfl,T⟩;have F:=(W.pt T).next (eA w3 (.cells #[zu Y,e2,e3] 152));obtain⟨⟨t,z,A⟩,Z,f1,f2⟩:=F.cells;have H3:=aH F;clear r T F;by_cases hh:Y=x
 .subst hh;have B:=aH (p.1 rfl);clear p;go_wp2;refine bE (v:=.tuple #[.agg #[zu Y,e2,e3],true,()]) (by simp[results,results151,go_sem,t,z,A]) rfl ⟨by rw[B.zz];rfl,X _ H3 _ _ _⟩
 have B:=aH (p.2 hh);have i3:¬(Y:Int)=x:=(by omega);clear p;go_wp2;refine bE (v:=.tuple #[.agg #[zu 0,(),()],false,()]) (by simp[results,results151,go_sem,t,z,A]) rfl ⟨by rw[B.zz];rfl,X _ H3 _ _ _⟩
def cs4(h:tC w N m k n j L)(f:bJ w m n i D K H)(d:∀q,N q->q≠i)(b:D.down=false)(l:nJ D.files j L)(g:j<=999999)(x:Nat)(u:Int)(p:x<18446744073709551616)(o:-9223372036854775808<=u/\u<=9223372036854775807):Calls prog 151 #[zp k,zu x,u] w (XY m i k n j N L D K H (kO L x (min u 1073741824)) w):=(cb0 h.less f (λq a=>d q a.1) (λq a=>a.2) b l g x u p o).mono λe r c=>⟨c.1,c.2.mono λq a=>a.1⟩
def ba8(c:D.down=false)(b:nJ D.files n L):∃a,TB D (nN n)=(a,0)/\yK a=0/\rY a=L/\a.length<=1000000000:=by
 have⟨a,e,f,g⟩:=b.rY;have⟨j,d,h,i⟩:=b.len;rw[e]at d;cases d;refine⟨a.data,?_,?_,g,?_⟩
 .unfold TB;rw[c,e];rfl
 .unfold yK;rw[f];rfl
 have:=b.yG;omega
def cF6{a:bH->Nat}(h:tC w N m k n j L)(I:bJ w m n i D a H)(O:∀q,N q->q≠i)(v:D.down=false)(J:nJ D.files j L)(P:j<=999999):Calls prog 159 #[zp k] w (JB m i k n j N L D a H L w):=by
 have u:FB m i k n j N L D a H w w:=⟨I,h,gX.refl _ _ _⟩;have G:∀x,FB m i k n j N L D a H w x->FB m i k n j N L D a H w x.drew:=λx Q=>Q.next iH.drew;have g:=N8 h;have⟨z,B,C,E,F⟩:=ba8 v J;have A:∀y,FB m i k n j N L D a H w y->Calls prog 230 #[.int .i64 j] y λe d=>e=.returned (.string (lR 116 j))/\FB m i k n j N L D a H w d:=λy r=>(zY (j:Int) y ⟨by omega,by omega⟩).mono λe d c=>⟨c.1,r.next c.2⟩;have t:∀y,FB m i k n j N L D a H w y->Calls prog 229 #[.pointer (some ⟨n,0,none⟩),.string (lR 116 j)] y λe d=>e=.returned (.tuple #[.string (bs z),.int .i64 0])/\FB m i k n j N L D a H w d:=λy r=>by have:=aL3 r.eI (lR 116 (j:Int)) (jV _ _);rw[LR,B]at this;exact this.mono λe d c=>⟨c.1,r.yH O c.2.1 c.2.2⟩
 have p:=λy:aI=>YC (bs z) y (by rw[eO];exact F);rw[gP,C,E]at p;have R:∀x:xS (FB m i k n j N L D a H w),x.it.cell? ⟨k,0,none⟩=some (.pointer (some ⟨n,0,none⟩)):=λx=>x.ok.TK.cells.1;have S:∀x:xS (FB m i k n j N L D a H w),x.it.cell? ⟨k,1,none⟩=some (.int .i64 j):=λx=>x.ok.TK.cells.2.1;unfold JB;generalize bs z=T at t p;clear h I J B C E F P;go_in;go_wp2_with fail
 go_call g as e d ⟨rfl,rfl⟩;clear g;go_wp2_with fail
 haveI:Nonempty (xS (FB m i k n j N L D a H w)):=⟨⟨_,u⟩⟩;refine KJ (K:=(FB m i k n j N L D a H w)) u G (by kernel_rfl) (by kernel_rfl) ?_;repeat go_big_quiet_step (first|(go_at_call 230;exact NS _ A)|(go_at_call 229;exact NS _ t))
 refine wpQuiet_nil ?_;rintro _ ⟨⟨V,o⟩,rfl⟩;have f:=aH o;clear o A t R S G u;go_wp2_with fail
 go_call p _ as e W ⟨U,rfl,⟨b,-⟩,l⟩;have⟨s,M⟩:=aA l b;clear l p b;go_wp2;go_ret2;exact⟨_,rfl,iI M f.fr.size,f.next s⟩
def rA.form(h:rA w v s):∃(p b:Nat)(c:Option Nat),v=.agg #[p,b,.map c]:=by
 rcases h with h|⟨B,n,D,a,-⟩
 .exact⟨0,0,none,h.1⟩
 exact⟨_,_,_,a⟩
def co4(F:bH)(L:List dB):Prop:=∀e∈L,X9 F e.1=true
def aD3(w:aI)(v:aN)(L:List dB)(e:eY)(b:aI):Prop:=∃a,e=.returned a/\∃F,rA b a F/\co4 F L/\(a=v\/aD8 w a)/\aR w.heap.size w b
def ca6(h:rA w v s)(R:pJ w u L)(hn:L.length<=1000000):Calls prog 244 #[v,u] w (aD3 w v L):=by
 obtain⟨⟨A,c9,rfl,-,-,-,-⟩,-⟩:=id R;obtain⟨-,hg,hh,-⟩:=R.cells;unfold maxLen at hh;obtain⟨G,H,z,rfl⟩:=h.form;have g:=λP=>R.later P;have C:=R.2;have⟨n,hN⟩:=fR L.length;rw[<-hN]at hg hn g|-;have b1:=(bR w w).alloc dQ (.cells #[G,H,.map z] 283);have r1:=Row.new w #[G,H,.map z] 283;have Z:(w.alloc (.cells #[G,H,.map z] 283)).heap.size=w+1:=bD _ _;have⟨HN,HL,h8,HF⟩:=aC hN g C h;have F:=λ(x:aI) (hx:aR w w x) (q:Nat) o=>an9 (.agg #[G,H,.map z]) s q x (h.next hx) o;have E:=λx:aI=>VK ⟨#[]⟩ x (by show 0<=_;omega);unfold aD3;have⟨wa,W⟩:=fR (w.alloc (.cells #[G,H,.map z] 283));rw[<-W]at b1 r1 Z;have b2:=(bR wa wa).alloc dQ (.cells #[(),(),.map none] 283);have r2:=Row.new wa #[(),(),.map none] 283;have⟨h3,d⟩:=aA (aK b1 b2) (r1.next b2);rw[Z]at r2;have c:=aH r2;have Y:w.heap.size+1<(wa.alloc (.cells #[(),(),.map none] 283)):=(by rw[bD,Z];omega);have HZ:=aH (And.intro Z Y);subst W;clear h R g hN C b1 r1 Z b2 r2 Y;go_in;go_wp2_with fail
 go_loopw [6,9] (λ_ i wr=>∃j:Nat,j<=n/\i=.int .i64 j/\(∀(k:Nat)(e:dB),k<j->L[k]?=e->X9 s e.1=true)/\aR w w wr/\Row wr w 283 [G,H,.map z]/\Row wr (w+1) 283 [(),(),.map none]) (λ_ i _=>n-(intOf i).toNat)
 .exact⟨0,bK _,rfl,(λk e h=>by omega),h3,d,c⟩
 obtain⟨j,hj,rfl,B,Q,U,V⟩:=hrel;have⟨N,p,d,c⟩:=aC B Q U V;clear B Q U V;by_cases hp:j<n
 .have i1:(j:Int)<n:=(by omega);obtain⟨e,r⟩:∃e,L[j]?=some e:=⟨_,aJ (by have:=HN.zz;omega)⟩;obtain⟨b,hr,rfl,-,hc⟩:=HL (by omega);have⟨c0,hi,c2⟩:=hc j e r wr p;have oe:=h8 e (bC r);have y:=eA wr (.cells (iT e) 152);have rr:=Row.new wr (iT e) 152;have h6:=aH r;have⟨x1,x2,x3⟩:=e;have X:=oe.1;simp only at X;unfold iT at y rr;simp only at y rr;have y0:=rr.lO;have f0:=(d.next y).lO;have f1:=(d.next y).qD;have f2:=(d.next y).tW;have I:=aK p y;have S:=F _ I x1 X;have⟨h5,hb,hd⟩:=aB I (d.next y) (c.next y);clear hc r y rr oe I;go_wp2_with fail
  go_call S as e w3 ⟨rfl,t⟩;have⟨D,hf,l⟩:=aB (aK h5 t) (hb.next t) (hd.next t);clear S t y0 f0 f1 f2;rcases hm:X9 s x1 with _|_
  ·(go_wp2_with fail);go_call E _ as e w4 ⟨v4,rfl,J,T,f⟩;obtain⟨a4,b4,c4,rfl⟩:=J.form;have g0:=(l.next f).NV;have g1:=(l.next f).JE;have g2:=(l.next f).QP;have P:=(l.next f).lO;have h1:=(l.next f).qD;have h2:=(l.next f).tW;have⟨O,h7,h4,ha⟩:=aC J (λq a b h=>aM D.size (T q a b h)) (aK D f) (l.next f);clear J T f E F hm;have m:∀(q:Nat),Value.map c4=.map q->q≠w.heap.size+1:=λq o K=>by have⟨nn,M,ho⟩:=O.map_lt o;subst K;exact gJ ho ha rfl
   go_wp2;refine bE (v:=.agg #[a4,b4,.map c4]) (by simp[results,results244,go_sem,P,h1,h2]) rfl ⟨_,rfl,lb ⟨#[]⟩,?_,(show co4 _ L from λe _=>aP1 _ (by decide)),.inr h7,((h4.setCell (by simp) _).setCell (by simp) _).setCell (by simp) _⟩;refine O.eW λq o=>?_;rw[aU _ _ _ _ (m q o),aU _ _ _ _ (m q o),aU _ _ _ _ (m q o)]
  have HM:=aH hm;clear hm;go_wp2;go_roundw
  .
   refine⟨j+1,by omega,by go_num,λk e hk r=>?_,D,hf,l⟩;rcases cK k j with K|K
   .exact N k e K r
   have:k=j:=(by omega);subst this;rw[h6.zz]at r;cases r;exact HM
  simp[intOf];omega
 obtain rfl:j=n:=(by omega);have i1:¬(j:Int)<j:=(by omega);have f0:=d.lO;have f1:=d.qD;have f2:=d.tW;have g0:=c.NV;have g1:=c.JE;have g2:=c.QP;have P:=c.lO;have h1:=c.qD;have h2:=c.tW;have m:∀(q:Nat),Value.map z=.map q->q≠w+1:=λq o K=>by have⟨nn,M,ho⟩:=(HF.next p).map_lt o;subst K;exact gJ ho c rfl
 clear E F;go_wp2;refine bE (v:=.agg #[G,H,.map z]) (by simp[results,results244,go_sem,P,h1,h2]) rfl ⟨_,rfl,s,?_,?_,.inl rfl,((p.setCell (by simp) _).setCell (by simp) _).setCell (by simp) _⟩
 .refine(HF.next p).eW λq o=>?_;rw[aU _ _ _ _ (m q o),aU _ _ _ _ (m q o),aU _ _ _ _ (m q o)]
 intro e r;obtain⟨k,hk,rfl⟩:=fH r;exact N k _ (by have:=HN.zz;omega) (aJ hk)
def bV4(h:kT s=true)(a:s.length<=1048576):(rY s).length<=1000000:=by unfold rY;rw[aV h,pD];unfold n5;omega
def SY(a m d n:Nat)(D:aL)(w:aI)(e:eY)(b:aI):Prop:=∃p:Nat,
 e=.returned (.tuple #[(match (kX D n).2 with|none=>.pointer none|some _=>.pointer (some ⟨p,0,none⟩)),.int .i64 (kX D n).1])/\(∃c f,bJ b a d m D c f)/\gX a m w b/\∀L,(kX D n).2=some L->tC b (DS w b d m) a p d n L
def cb6(a:D.down=false):kX D n=match bO D.files (nN n)with|none=>(90,none)|some f=>if kT f.data then(0,some (rY f.data))else(90,none):=by unfold kX;rw[a,aP (by simp)];rfl
def ak8(a:D.down=false):TB D s=match bO D.files s with|none=>([],4)|some f=>(f.data,0):=by unfold TB;rw[a,aP (by simp)]
def cs9(a:bJ w k n m D K H)(b:w.ownsRow i 328 4 v j X)(c:v.ownBlock=d):¬jQ w n m d:=a.nS (dX b c) QS.2 (by decide)
def bu4(h:bJ w k n m D K H)(hb:k<=w)(T:D.down=false)(xs:Nat)(hn:xs<=999999):Calls prog 181 #[zp n,xs] w (SY k m n xs D w):=by
 have HT:=λx:aI=>zY (xs:Int) x ⟨by omega,by omega⟩;have A:=λx:aI=>LM (xs:Int) x ⟨by omega,by omega⟩;have l1:=LR xs;have l2:=ZW xs;have HW:=λ(x:aI)(hx:bJ x k n m D K H)(c:bB)=>aL3 hx (lR c (xs:Int)) (jV _ _);have a:=λx hx=>HW x hx 116;have d:=λx hx=>HW x hx 98;have⟨S1,hr⟩:=fR (lR 116 (xs:Int));have⟨S2,hs⟩:=fR (lR 98 (xs:Int));rw[<-hr]at HT l1 a;rw[<-hs]at A l2 d;rw[l1,ak8 T]at a;rw[l2,ak8 T]at d;unfold OK at a d;unfold SY;rw[cb6 T];have s:=λ(f:fK) (t:bO D.files (nN xs)=f)=>(h.data t).2;have g:=λ(f:fK) (t:bO D.files (wE xs)=f)=>(h.data t).2;have HH:=aH h;clear h hr hs HW l1 l2 T;rcases t:bO D.files (nN xs)with _|Z
 .rw[t]at a;simp only at a;have HB:=bG3 4;clear t s g d A;go_in;go_wp2_with fail
  go_call HT _ as e w1 ⟨rfl,b⟩;have N:=a w1 (HH.next b);have u:=aH b;clear HT a b;go_wp2_with fail
  go_call N as e w2 ⟨rfl,o,l⟩;have⟨C,B⟩:=aA o ((gX.cT u k m).trans l);clear N o l;go_wp2_with fail
  go_call HB w2 (by omega) as e w' ⟨rfl,rfl⟩;go_wp2;go_ret2;exact⟨0,rfl,⟨_,_,C⟩,B,λL V=>by cases V⟩
 rw[t]at a;simp only at a|-;have I:=s Z t;have Q:=λy:aI=>YC (bs Z.data) y (by rw[eO];omega);rw[gP]at Q;have⟨ST,h2⟩:=fR (bs Z.data);rw[<-h2]at a Q;by_cases i:kT Z.data=true
 .have he:yK Z.data=0:=(by unfold yK;rw[i];rfl);rw[he]at Q;rw[aV i];simp only;have⟨L,V⟩:=fR (rY Z.data);rw[<-V]at Q|-;have G:L.length<=1000000:=by rw[V];exact bV4 i I
  obtain⟨F0,z,xj,hz,h0⟩:∃(F0:bH)(z:Int),F0.length<=1048576/\(z=0\/z=4)/\∀x (hx:bJ x k n m D K H),Calls prog 229 #[zp n,S2] x λe w'=>e=.returned (.tuple #[bs F0,z])/\bJ w' k n m D K H/\gX k m x w':=by
   rcases hg:bO D.files (wE xs)with _|bf
   .rw[hg]at d;exact⟨[],4,by simp,.inr rfl,d⟩
   rw[hg]at d;exact⟨bf.data,0,g bf hg,.inl rfl,d⟩
  have R:=λx:aI=>VK (bs F0) x (by rw[eO];omega);rw[gP]at R;have⟨SB,ht⟩:=fR (bs F0);rw[<-ht]at h0 R;have xl:(z==61)=false:=(by rcases hz with rfl|rfl<;>rfl);have HM:=λ(y:aI)(v:aN)(hv:pJ y v L)=>bJ6 v L y hv G;have HS:=λ(y:aI)(vf ve:aN)(t:rA y vf F0)(hv:pJ y ve L)=>ca6 t hv G;unfold aD3 at HS;have xm:=aH V;clear i he ht h2 t s g d xj I V G;go_in;go_wp2_with fail
  go_call HT _ as e w1 ⟨rfl,b⟩;have N:=a w1 (HH.next b);have u:=aH b;clear HT a b;go_wp2_with fail
  go_call N as e w2 ⟨rfl,o,l⟩;have⟨C,B⟩:=aA o ((gX.cT u k m).trans l);clear N o l;go_wp2_with fail
  go_call Q _ as e w3 ⟨v3,rfl,⟨j,J⟩,E⟩;have xi:pJ w3 v3 L:=⟨Reads.cX j,J⟩;obtain⟨A3,c3,rfl,-⟩:=id (Reads.cX j);have⟨x6,U,O⟩:=aB (show w3.ownsRow w2 152 3 (.slice A3 L c3) L (gV L)from j) J E;clear Q j J xi E;go_wp2_with fail
  go_call A _ as e w4 ⟨rfl,h3⟩;have F:=aK O h3;have hd:=C.next F;have N:=h0 w4 hd;have⟨x7,xh,x9⟩:=aB (bY x6 h3) hd (B.trans (gX.cT F k m));clear A h0 h3 F hd;go_wp2_with fail
  go_call N as e w5 ⟨rfl,x4,h7⟩;have h1:=h7.own x7 qB xh.map;have⟨x8,hm,hj⟩:=aB h1 x4 (x9.trans h7);have x1:=HM w5 (.slice A3 L c3) ⟨Reads.cX h1,U⟩;clear N x4 h7 h1 HM;go_wp2_with fail
  go_call x1 as e w6 ⟨v6,rfl,p,hu⟩;obtain⟨A6,c6,rfl,-⟩:=id (Reads.cX p);have⟨xf,P⟩:=aA p hu;clear x1 p hu;go_wp2_with fail
  go_call R _ as e w7 ⟨v7,rfl,x5,x2,S⟩;have W:=aK P S;have x3:=HS w7 v7 (.slice A3 L c3) x5 ⟨Reads.cX (bY x8 W),U⟩;have⟨xd,hi,xg⟩:=aB x2 S (bY xf S);clear R x5 x2 S W HS;go_wp2_with fail
  go_call x3 as e w8 ⟨v8,rfl,F8,hh,x0,h8,h4⟩;obtain⟨fa,fb,fc,rfl⟩:=hh.form;have X:=aK hi h4;have r:=aK P X;have Y:∀q,Value.map fc=.map (some q)->w5.heap.size<=q:=λq hq=>by
   rw[hq]at h8;rcases h8 with h9|h9
   .exact aM P.size (xd q _ _ h9.symm)
   exact aM (aM P.size hi.size) (h9 q _ _ rfl)
  have⟨hp,xa,hl,xb,xc,xe⟩:=aE (hm.next r) (hj.trans (gX.cT r k m)) (bY xg h4) hh x0 Y;have xp:w.heap.size<=w5:=hj.size;have xq:w5.heap.size<=w8:=r.size;clear x3 hh x0 h8 h4 X r Y;go_wp2;go_ret2;refine⟨w8,rfl,?_,?_,λL' xk=>?_⟩
  .exact⟨_,_,hp.next (iH.alloc dQ _)⟩
  .exact xa.trans (gX.cT (iH.alloc dQ _) _ _)
  cases xk;have h5:=(bR w8 w8).alloc dQ (.cells #[zp n,xs,L,.slice A6 (pV L L) c6,fa,fb,.map fc] 285);have h6:=hp.next h5;have hc:=Row.new w8 #[zp n,xs,L,.slice A6 (pV L L) c6,fa,fb,.map fc] 285;have ha:=bY hl h5;have hy:=xb.next h5;refine⟨_,_,_,_,F8,hc,by omega,iI ha (by omega),hy,xc,⟨by omega,hc.lt,h6.nS hc QS.1 (by decide)⟩,λxr hk=>⟨?_,jN ha xr hk,cs9 h6 ha hk⟩,λq hq=>?_⟩
  .have:=dH hl xr hk;omega
  have⟨nn,M,ho⟩:=hy.map_lt hq;have xo:=xe q hq;have xn:=hm.lt.2;exact⟨by omega,ho.lt,h6.cu5 ho (by omega)⟩
 have i:kT Z.data=false:=(by simpa using i);have he:yK Z.data=90:=(by unfold yK;rw[i];rfl);rw[he]at Q;rw[i,aP (by simp)];clear t s g d A i he h2 I;go_in;go_wp2_with fail
 go_call HT _ as e w1 ⟨rfl,b⟩;have N:=a w1 (HH.next b);have u:=aH b;clear HT a b;go_wp2_with fail
 go_call N as e w2 ⟨rfl,o,l⟩;have⟨C,B⟩:=aA o ((gX.cT u k m).trans l);clear N o l;go_wp2_with fail
 go_call Q _ as e w3 ⟨v3,rfl,-,E⟩;have O:=aH E;clear Q E;go_wp2;go_ret2;exact⟨0,rfl,⟨_,_,C.next O⟩,B.trans (gX.cT O _ _),λL V=>by cases V⟩
variable{h:oZ}
def pI.cells{w:aI}{base n:Nat}{h:oZ}{cF:Nat}(H:pI w base n h I cF):w.cell? (zp h.X)=zp n/\w.cell? (zp h.X 1)=I.cZ.next/\w.cell? (zp h.X 2)=I.cZ.check/\w.cell? (zp h.X 3)=zu (I.cZ.aX:Nat)/\w.cell? (zp h.X 4)=h.lv/\w.cell? (zp h.X 5)=some (.float .f64 cF)/\w.cell? (zp h.X 6)=zp h.mb/\w.cell? (zp h.X 7)=some (.map h.tm):=⟨H.row.lO,H.row.qD,H.row.tW,H.row.JF,H.row.zc4,H.row.zc5,H.row.zc6,H.row.zc7⟩
def index_none(H:pI w k n h I m):Calls prog 46 #[zp h.X] w λe a=>e=false/\w=a:=by obtain⟨-,-,-,-,-,-,b,-⟩:=H.cells;clear H;go_in;go_wp2;go_ret;exact⟨rfl,rfl⟩
def QJ.slice{w:aI}{base:Nat}{v:aN}{l:mX}(h:QJ w base N v l):∃A c,v=.slice A l c:=by obtain⟨b,-,⟨A,c,a,-⟩,-⟩:=h.GQ;exact⟨A,c,a⟩
def CO(H:pI w k n h I m)(f:wU I.cZ=true):Calls prog 24 #[zp h.X] w (zL w I.cZ):=by
 obtain⟨-,⟨M,N,-⟩,-⟩:=mM.1 f;have l:=(bR w w).alloc dQ (.cells #[(),(),zu 0,zs] 57);have u:=Row.new w #[(),(),zu 0,zs] 57;have d:=H.next l;obtain⟨-,D,E,F,s,-⟩:=d.cells;have⟨A,c,t⟩:=d.fP.slice;have q:=index_none d;have i:=BN h.lv I.cZ _ d.fP.GQ (by omega) (by omega);rw[t]at s i;unfold zL at i|-;have⟨x,C⟩:=aA l u;clear H d f M N l u t;generalize I.cZ=B at *;have⟨J,K,L,p⟩:=B;unfold mN at *;simp only at *;go_in;go_wp2_with fail
 go_call q as e X ⟨rfl,rfl⟩;go_wp2_with fail
 go_call i as e Y ⟨o,rfl,b,a⟩;obtain⟨g,j,rfl⟩:∃g j,o=.slice g p j:=by
  obtain⟨W,-,⟨A,c,G,-⟩,-⟩:=b.GQ;exact⟨A,c,G⟩
 have r:=aH (C.next a);obtain⟨⟨O,P,Q,R⟩,S,T,U,V⟩:=gR r;have⟨z,y⟩:=aA b (aK x a);clear q i b a D E F s;go_wp2;refine bE (v:=.agg #[J,K,zu L,.slice g p j]) (by simp[results,results24,go_sem,O,P,Q,R]) rfl ⟨.slice g p j,rfl,?_,?_⟩
 .exact(z.be1 r _ _ _ _).U3 (by rw[bD];omega)
 exact(((y.setCell dQ _).setCell dQ _).setCell dQ _).setCell dQ _
def GA:¬(100=103\/100=112\/100=5)/\¬(267=103\/267=112\/267=5):=by decide
def pI.cc5(H:pI w k n h I m)(c:∀e,h.TL e\/h.TT e->¬DK w e):∀e,h.T e->¬DK w e:=λe a=>by
 rcases a with rfl|rfl|rfl|a|a
 .exact j7 H.row GA.1
 .exact j7 H.mem.1 GA.2
 .obtain⟨d,M,b,-⟩:=H.map;exact uD b
 .exact j7 (dX H.mem.2.1 a) qB
 exact c e a
def pI.ne(H:pI w k n h I m):h.X≠h.mb/\h.X≠h.tm/\h.mb≠h.tm/\(∀e,h.mv.ownBlock=some e->e≠h.X/\e≠h.mb/\e≠h.tm):=by
 obtain⟨d,M,b,-⟩:=H.map;refine⟨λa=>?_,λa=>gJ b H.row a.symm,λa=>gJ b H.mem.1 a.symm,λe c=>⟨λa=>?_,λa=>?_,λa=>gJ b (dX H.mem.2.1 c) a.symm⟩⟩
 .have:=dD H.row (a▸H.mem.1);exact absurd this (by decide)
 .have:=dD H.row (a▸dX H.mem.2.1 c);exact absurd this (by decide)
 have:=dD H.mem.1 (a▸dX H.mem.2.1 c);exact absurd this (by decide)
def pI.PO(H:pI w k n h I m)(l:w.grownBy x h.mb)(z:B3 x k h.mb v L)(A:∀K,v.ownBlock=some K->h.mv.ownBlock=K\/w.heap.size<=K):pI x k n {h with mv:=v} {I with mem:=L} m:=by
 have i:∀K,K<w.heap.size->K≠h.mb->x.heap[K]?=w.heap[K]?:=λK r s=>l.block K r (λg=>s (by cases g;rfl));have⟨C,F,D,G⟩:=H.ne;have⟨E,M,o,B⟩:=H.map;refine⟨H.row.of_block (i _ H.row.lt C),H.fP.eW λK g d=>i K d (H.apart K (.inl g)).2.2.2.1,z,⟨E,M,oB o (i _ o.lt (λh=>D h.symm)),B⟩,λN J u=>(H.fI N J u).eW λq y d=>i q d (H.apart q (.inr y)).2.2.2.1,H.low,λK g=>?_⟩;have⟨a,b,c,p,e,f⟩:=H.apart K g;refine⟨a,aW b l.size,c,p,e,λt=>?_⟩;rcases A K t with j|j
 .exact f j
 omega
def lQ.PO{S:dV}(H:lQ w n S D G I k)(g:w.grownBy y S.x.mb)(B:B3 y n S.x.mb v L)(q:∀E,v.ownBlock=some E->S.x.mv.ownBlock=E\/w.heap.size<=E):lQ y n {S with x:={S.x with mv:=v}} D G {I with mem:=L} k/\p7 n (iG w S) (iG y {S with x:={S.x with mv:=v}}) w y:=by
 have o:=H.idx.PO g B q;refine H.PW o g.os g.tape g.output g.size (λE i j=>g.block E i λd=>j (.inr (.inl (by cases d;rfl)))) (λE i j=>?_) (o.cc5 λE p A=>?_)
 .rcases j with d|d|d|d|d
  .exact .inl d
  .exact .inr (.inl d)
  .exact .inr (.inr (.inl d))
  .rcases q E d with m|m
   .exact .inr (.inr (.inr (.inl m)))
   omega
  exact .inr (.inr (.inr (.inr d)))
 have⟨a,b,c,r,e,f⟩:=H.idx.apart E p;have l:=H.sep E (.inr (.inr (.inr (.inr p))));have h:=g.block E b (λd=>r (by cases d;rfl));have⟨C,t,s,u,z⟩:=A;exact l (.inl (.inr (.inl ⟨C,t,s,by rw[<-h];exact u,z⟩)))
def bA0(a:Nat)(h:oZ)(I:aZ)(e:dB)(w:aI)(x:eY)(c:aI):Prop:=x=.returned (.int .i64 0)/\∃b,B3 c a h.mb b (pW I.mem e)/\w.grownBy c (some h.mb)/\∀k,b.ownBlock=some k->h.mv.ownBlock=some k\/w.heap.size<=k
def bM3(H:pI w k n h I m)(Y:k<=w)(e:dB)(z:wC e)(G:qF e=true)(Z:I.mem.length<=1000000):Calls prog 94 #[zp h.X,.agg (iT e)] w (bA0 k h I e w):=by
 have o:=eA w (.cells (iT e) 152);have j:=Row.new w (iT e) 152;have l:=H.next o;have D:=index_none l;have q:=W7 e (w.alloc (.cells (iT e) 152)) z;have A:((bs (lJ e)).toList==[])=false:=by rw[bA];intro s;have X:(bs (lJ e)).toList.length=0:=(by rw[s];rfl);rw[jL,bI,eO,qO G]at X;omega
 have C:=λ(x:aI) (J:aR (w.alloc (.cells (iT e) 152)).heap.size (w.alloc (.cells (iT e) 152)) x)=>cq6 (l.mem.next J) e z Z (aM Y (aM o.size J.size));unfold bA0;generalize bs (lJ e)=T at q A;have⟨U,V,W⟩:=e;unfold iT at *;simp only at *;have⟨L,Q,P,c,hz⟩:=aD o j l C H.mem.1.lt;have t:=j.lO;have u:=j.qD;have v:=j.tW;clear H l o j C z G;go_in;go_wp2_with fail
 go_call D as e w' ⟨rfl,rfl⟩;go_wp2_with fail
 go_call q as e p ⟨rfl,a⟩;have⟨O,r,M⟩:=aB (P.next a) (Q.next a) a;have z6:∀y:dR p,y.it.cell? ⟨h.X,6,none⟩=some (.pointer (some ⟨h.mb,0,none⟩)):=λy=>(O.next y.ok).cells.2.2.2.2.2.2.1;have y0:∀y:dR p,y.it.cell? ⟨w.heap.size,0,none⟩=some (.int .u64 U):=λy=>(r.next y.ok).lO;have y1:∀y:dR p,y.it.cell? ⟨w.heap.size,1,none⟩=some (.int .i64 V):=λy=>(r.next y.ok).qD;have y2:∀y:dR p,y.it.cell? ⟨w.heap.size,2,none⟩=some (.int .i64 W):=λy=>(r.next y.ok).tW;clear D q a t u v;(go_wp2_with fail);refine nT (by kernel_rfl) (by kernel_rfl) (by kernel_rfl) (by kernel_rfl) ?_;simp only[List.dropLast,List.drop,List.length];repeat go_big_quiet_step (fail)
 refine wpQuiet_nil ?_;rintro _ ⟨⟨wq,i⟩,rfl⟩;have b:=aK M i;have E:=c _ b;have B:=aH (aK L b);clear z6 y0 y1 y2 i b c;go_wp2_with fail
 go_call E as e w4 ⟨rfl,K,f,d,g⟩;have⟨R,N⟩:=aA f (EP B d);have S:=aH (show∀h0,K.ownBlock=some h0->h.mv.ownBlock=some h0\/w.heap.size<=h0 from λh0 F=>by
  rcases g with rfl|s
  .exact .inl F
  exact .inr (aM B.size (s h0 F)))
 clear E f d g;go_wp2;go_ret;exact⟨rfl,K,R,N,S⟩
variable{P:List (List dB)}
structure yA(a m d:Nat)(h:oZ)(I:aZ)(b:Nat)(D:aL)(c:bH->Nat)(e:bH->aN)(w x:aI):Prop where
 eI:bJ x a d m D c e
 idx:pI x a d h I b
 out:∀k,h.T k->¬jQ x d m k
 fr:gX a m w x
section
variable {base m d:Nat}{h:oZ}{I:aZ}{cF:Nat}{D:aL}{blk:bH->Nat}{dat:bH->aN}{w x y:aI}
def yA.refl(a:bJ w base d m D blk dat)(b:pI w base d h I cF)(c:∀k,h.T k->¬jQ w d m k):yA base m d h I cF D blk dat w w:=⟨a,b,c,gX.refl _ _ _⟩
def yA.yH(H:yA base m d h I cF D blk dat w x)(g:bJ y base d m D blk dat)(b:gX base m x y):yA base m d h I cF D blk dat w y:=by have e:=p7.nA b H.eI.IZ;have⟨c,f⟩:=e.clear (T:=h.T) (λk a=>⟨(H.idx.lt k a).2,H.out k a⟩);exact⟨g,H.idx.eW b.size f,λk a=>(c k a).2,H.fr.trans b⟩
def yA.next(H:yA base m d h I cF D blk dat w x)(a:aR x x y):yA base m d h I cF D blk dat w y:=H.yH (H.eI.next a) (gX.cT a _ _)
def yA.grown(H:yA base m d h I cF D blk dat w x)(B:∀k,h.T k->k<w.heap.size)(g:x.grownBy y r)(l:∀k,r=some k->w.heap.size<=k/\∃t s,Row x k t s/\¬(t=103\/t=112\/t=5)/\t≠3):yA base m d h I cF D blk dat w y:=by
 have E:=H.eI.grown g λk c=>by obtain⟨-,t,s,n,o,j⟩:=l k c;exact H.eI.nS n o j
 have b:∀k,h.T k->y.heap[k]?=x.heap[k]?:=λk c=>g.block k (H.idx.lt k c).2 λp=>by have:=(l k p.symm).1;have:=B k c;omega
 refine⟨E,H.idx.eW g.size b,λk c f=>?_,H.fr.grown g λk c=>(l k c).1⟩;have e:=H.out k c;rcases f with f|⟨C,t,u,j,z⟩|f
 .exact e (.inl f)
 .exact e (.inr (.inl ⟨C,t,u,by rw[<-b k c];exact j,z⟩))
 refine e (.inr (.inr ?_));have⟨C,u,A⟩:=H.eI.IZ;have q:y.heap[d]?=x.heap[d]?:=g.block d (n7 H.eI.IZ).lt λp=>by obtain⟨-,t,s,n,o,j⟩:=l d p.symm;obtain⟨F,v,i,-⟩:=n;rw[A]at i;cases i;exact o (.inl rfl)
 unfold OwnAt at f|-;rwa[dK (a:=zp d 9) q]at f
def yA.TK(H:yA base m d h I cF D blk dat w x){n:Nat}{L:List dB}(b:I.fI n=L):tC x h.TT base (h.tb n) d n L/\∀q,h.TT q->q≠m:=⟨H.idx.fI n L b,λq c a=>H.out q (.inr (.inr (.inr (.inr (.inr c))))) (.inl a)⟩
end
def bs8(w:aI):(zeroValue 214).run prog w=.ok (.pointer none) w:=by kernel_rfl
def cg3:Keyed prog 3:=int_keyed underlying3
def GS(a:n<=999999):keyOf prog 3 n=some (xJ n):=keyOf_int_mk underlying3 (au5 (by omega) (by omega))
def ZR(H:pI w k n h I i){m:Nat}(d:m<=999999){L:List dB}(c:I.fI m=L):(Instr.lookup 98 (.map h.tm) m false).run prog w=.ok (zp (h.tb m)) w:=by obtain⟨g,M,e,f,-⟩:=H.map;have⟨v,j,a,b⟩:=e.lookup cg3 underlying98 (bs8 w) TV (GS d);rw[(f.2 m L c).2]at b;rw[a,YX b]
def mC(w:aI)(a:Nat)(v:aN)(b:List (List dB)):Prop:=∃c:List aN,c.length=b.length/\w.ownsRow a 113 1 v b.length c/\∀(k:Nat)(x:aN)(l:List dB),c[k]?=some x->b[k]?=some l->w.ownsRow a 152 3 x l.length (gV l)/\∀e∈l,wC e
def KM:¬(113=103\/113=112\/113=5)/\113≠3/\113≠152:=by decide
def mC.lists(h:mC w n v P):cD7 w v P:=by have⟨f,a,e,b⟩:=h;refine⟨f,a,by rw[a];exact Reads.cX e,λk x l d c=>⟨Reads.cX (b k x l d c).1,(b k x l d c).2⟩⟩
def mC.eW{w':aI}(h:mC w n v P)(f:∀k t m,Row w k t m->n<=k->t=113\/t=152->w'.heap[k]?=w.heap[k]?):mC w' n v P:=by have⟨j,i,e,b⟩:=h;exact⟨j,i,eS e λk a=>f k _ _ (dX e a) (dH e k a) (.inl rfl),λk x l d c=>⟨eS (b k x l d c).1 λq g=>f q _ _ (dX (b k x l d c).1 g) (dH (b k x l d c).1 q g) (.inr rfl),(b k x l d c).2⟩⟩
def mC.next{w:aI}{base:Nat}{v:aN}{P:List (List dB)}(h:mC w base v P)(a:aR w w x):mC x base v P:=h.eW λk t c b _ _=>a.block k b.lt
def mC.yH{base:Nat}(h:mC w k v P)(b:bJ w base n m D K H)(c:gX base m w x):mC x k v P:=h.eW λf t e a _ d=>c.block f a.lt (.inr ⟨b.rE a,j7 a (by rcases d with rfl|rfl;exact KM.1;exact qB)⟩)
def mC.form(h:mC w n v P):∃A c,v=.slice A P c:=by obtain⟨e,d,a,-⟩:=h;obtain⟨A,c,b,-⟩:=Reads.cX a;exact⟨A,c,b⟩
def mC.snoc{w:aI}(h:X.length=P)(j:∀(k:Nat)(v:aN)(L:List dB),X[k]?=v->P[k]?=L->w.ownsRow n 152 3 v L (gV L)/\∀e∈L,wC e)(r:w.ownsRow n 152 3 v L (gV L))(i:∀e∈L,wC e)(m:aR w w x)(o:x.grownBy y u.ownBlock)(p:x.ownsRow n 113 1 u P X)(g:y.ownsRow n 113 1 z (P+1) (X++[v])):mC y n z (P++[L]):=by
 have f:∀{A:aN} {q:List dB},w.ownsRow n 152 3 A q (gV q)->y.ownsRow n 152 3 A q (gV q):=fun {A q} s=>by
  have b:=bY s m;exact eS b λk f=>o.block k (jN b k f) λd=>by have:=dD (dX b f) (dX p d.symm);exact absurd this (by decide)
 refine⟨X++[v],by simp[h],by rw[aO];exact g,λk t q a c=>?_⟩;rcases cK k X with d|d
 .rw[fO d]at a;rw[fO (by rw[<-h];exact d)]at c;exact⟨f (j k t q a c).1,(j k t q a c).2⟩
 have l:=(aQ.1 a).1;simp at l;have:k=X:=(by omega);subst this;rw[eF dQ]at a;rw[eF (by rw[h];exact cV _)]at c;simp[h]at a c;subst a;subst c;exact⟨f r,i⟩
def aR0:(prog.info? 113).map (λi=>(i.zero,i.size,i.bytes))=some (some (.slice none 0 0),1,24):=by kernel_rfl
def OkL(L:List dB):Prop:=∀e∈L,wC e
structure aD2(I:aZ)(D:aL):Prop where
 cZ:wU I.cZ=true
 fI:∀n∈I.cZ.fP.flatten,n<=999999/\∃L,I.fI n=some L/\nJ D.files n L/\L.length<=10000
 mem:I.mem.length<=10000/\OkL I.mem
def cJ2(a m d:Nat)(h:oZ)(I:aZ)(b:Nat)(D:aL)(c:bH->Nat)(f:bH->aN)(R:List dB)(w:aI)(e:eY)(i:aI):Prop:=∃g,e=.returned (.tuple #[g,.int .i64 0])/\i.ownsRow w.heap.size 152 3 g R.length (gV R)/\OkL R/\yA a m d h I b D c f w i
def aG3{ls:List (List dB)}(h:∀l∈ls,l.length<=10000):pT ls<=ls*10000:=by unfold pT;have:=bc6 (l:=ls.map List.length) (M:=10000) (λx b=>by obtain⟨l,a,rfl⟩:=dS.1 b;exact h l a);rwa [gK]at this
def an0(L:List dB)(x:Nat)(f t:Int):(kW L x f t).length<=L:=jE _ _
def aK8(h:OkL L)(x:Nat)(f t:Int):OkL (kW L x f t):=λe a=>h e (fL.1 a).1
def lsR(I:aZ)(x:Nat)(f t:Int)(k:Nat):List (List dB):=kW I.mem x f t::(I.cZ.fP.flatten.take k).map fun n=>kW ((I.fI n).getD []) x f t
def cd8{x:Nat}{f t:Int}(h:I.cZ.fP.flatten[k]?=n)(a:I.fI n=L):lsR I x f t (k+1)=lsR I x f t k++[kW L x f t]:=by unfold lsR;rw[dL,h];simp[a]
def cu7(h:k<=I.cZ.fP.flatten):(lsR I n a e k)=k+1:=by unfold lsR;rw[cE,gK,b8,fX h]
def aR2(O:yA n k m h I i D K H w w)(x3:D.down=false)(C:aD2 I D)(hb:n<=w)(x:Nat)(f t:Int)(hx:x<18446744073709551616)(hf:-9223372036854775808<=f/\f<=9223372036854775807)(x2:-9223372036854775808<=t/\t<=9223372036854775807):Calls prog 147 #[zp h.X,zu x,f,t] w (cJ2 n k m h I i D K H (FE I x f t) w):=by
 have⟨c,Z⟩:=fR (max f 0);have⟨d,h1⟩:=fR (min t 1073741824);have m1:max f 0=c:=Z.symm;have m2:min t 1073741824=d:=h1.symm;have b1:0<=c:=(by omega);have b2:c<=9223372036854775807:=(by omega);have b3:d<=1073741824:=(by omega);have b4:-9223372036854775808<=d:=(by omega);obtain⟨-,⟨o3,o4,-⟩,-⟩:=mM.1 C.cZ;have⟨N,hN⟩:=fR I.cZ.fP.flatten.length;have hd:FE I x f t=kI (lsR I x c d N):=(by unfold FE lsR;rw[<-Z,<-h1,hN,eX]);rw[hd];have h6:=index_none O.idx;have HA:=λ(y:aI)(u:aR w.heap.size w y)=>tP h.lv I.cZ.fP y ((O.idx.next u).fP.GQ) (by omega) (by omega);have h4:=bB6 O.idx.mem (by have:=C.mem.1;omega) x c d hx ⟨by omega,by omega⟩ ⟨by omega,by omega⟩;have HT:=λ(y:aI)(u:yA n k m h I i D K H w y)(x8:Nat)(L:List dB)(J:I.fI x8=some L)(T:x8<=999999)(F:nJ D.files x8 L)=>ca8 (u.TK J).1 u.eI (u.TK J).2 x3 F T x c d hx ⟨by omega,by omega⟩ ⟨by omega,by omega⟩;unfold JB at HT;rw[show max c 0=c from by omega,show min d 1073741824=d from by omega]at HT;have hm:=aK8 C.mem.2 x c d;have M:∀y,pI y n m h I i->y.cell? ⟨h.X,4,none⟩=some h.lv/\y.cell? ⟨h.X,6,none⟩=some (.pointer (some ⟨h.mb,0,none⟩))/\y.cell? ⟨h.X,7,none⟩=some (.map (some h.tm)):=λy u=>⟨u.cells.2.2.2.2.1,u.cells.2.2.2.2.2.2.1,u.cells.2.2.2.2.2.2.2⟩;have⟨c4,c6,c7⟩:=M w O.idx;have he:∀x7,h.T x7->x7<w.heap.size:=λx7 hk=>(O.idx.lt x7 hk).2;have⟨AL,cL,hc⟩:=O.idx.fP.slice;rw[hc]at c4 HA M;have⟨K0,h3,hw,hv,ht,h5,W⟩:=aF O M HT he hm hN C;rw[<-hN]at o4 HA;unfold cJ2;clear O C HT hm Z h1 M he hf x2 hd hc hN;go_in;go_wp2_with fail
 go_call h6 as e w' ⟨rfl,rfl⟩;clear h6;go_wp2_with fail
 go_call h4 as e w1 ⟨v1,rfl,j,z⟩;obtain⟨A1,c1,rfl,-⟩:=id (Reads.cX j);have S:=aX8 (base:=w.heap.size) (e:=113) (size:=1) w1 #[.slice A1 (kW I.mem x c d).length c1] 1 z.size (by unfold maxLen;omega) rfl;have v:=(bR w1.heap.size w1).alloc dQ (.cells #[.slice A1 (kW I.mem x c d).length c1] 113);have OL:=aH (show mC (w1.alloc (.cells #[.slice A1 (kW I.mem x c d).length c1] 113)) w.heap.size (.slice (some ⟨w1.heap.size,0,none⟩) 1 1) (lsR I x c d 0)from⟨[.slice A1 (kW I.mem x c d).length c1],rfl,S,λx7 y l u hl=>by
  rcases x7 with _|x7
  .simp at u;simp[lsR]at hl;subst u;subst hl;exact⟨bY j v,ht⟩
  simp at u⟩)
 have⟨B2,K2⟩:=aA (aK z v) (K0.next (aK z v));have⟨c4,c6,c7⟩:=h3 _ K2.idx;have ha:=HA _ (aK z v);clear h4 HA j S v z;go_wp2_with fail
 go_call ha as e w3 ⟨v3,rfl,o,Y⟩;obtain⟨A3,c3,rfl,-⟩:=id (Reads.cX o);have⟨O3,K3,L3⟩:=aB o (K2.next Y) (OL.next Y);clear ha o Y c4 c6 c7;go_wp2_with fail
 go_loopw [10,12,13,14,37] (λlv _ _ _ x6 wr=>∃x7:Nat,x7<=N/\x6=.int .i64 x7/\mC wr w.heap.size lv (lsR I x c d x7)/\yA n k m h I i D K H w wr/\wr.ownsRow w.heap.size 3 1 (.slice A3 N c3) N (fJ I.cZ.fP.flatten)) (λ_ _ _ _ x6 _=>N-(intOf x6).toNat)
 .exact⟨0,bK _,rfl,L3,K3,iI O3 B2.size⟩
 obtain⟨x7,hk,rfl,s,g,ho⟩:=hrel;obtain⟨hs,x0,rfl⟩:=s.form;have r:(lsR I x c d x7).length=x7+1:=cu7 (by rw[<-h5.zz];exact hk);rw[r]at s|-;have⟨LS,KR,OR⟩:=aB s g ho;have⟨c4,c6,c7⟩:=h3 _ g.idx;have G:=aH r;have hr:=g.fr.size;by_cases x1:x7<N
 .have i1:(x7:Int)<N:=(by omega);obtain⟨x8,T⟩:∃x8,I.cZ.fP.flatten[x7]?=some x8:=⟨_,aJ (by rw[<-h5.zz];exact x1)⟩;have⟨hp,L,J,F,X⟩:=W.fI x8 (bC T);obtain⟨b,x4,rfl,-,-,-,A⟩:=(Reads.cX ho).UK (by omega);have c0:wr.cell? ⟨b,x4+x7,none⟩=some (.int .i64 x8):=(A wr iH x7 (by have hz:(fJ I.cZ.fP.flatten).length=N:=ho.1.trans (sG N);omega)).trans (by rw[sP T]);have hj:=ZR g.idx hp J;have h2:=hw wr g x8 L J hp F;have⟨h7,P⟩:=aA (cd8 (x:=x) (f:=c) (t:=d) T J) (aK8 (show OkL L from F.ok) x c d);generalize kW L x c d=Q at h2 h7 P;clear s g ho T J F A r X;go_wp2_with fail
  go_call h2 as y w4 ⟨v4,rfl,a,B⟩;obtain⟨A4,c9,rfl,-⟩:=id (Reads.cX a);have⟨K4,L4,O4,Q4⟩:=aC (KR.yH B.eI B.fr) (LS.yH KR.eI B.fr) (B.fr.own OR iP.2.1 KR.eI.map) (iI a hr);have x5:w.heap.size<=w4.heap.size:=K4.fr.size;have⟨us,u1,u2,u3⟩:=id L4;rw[G.zz]at u1 u2;have U:=aH (And.intro u1 (And.intro u2 u3));clear h2 a B hj c0 c4 c6 c7 u1 u2 u3;(go_wp2_with (at_builtin;refine MG aR0 underlying222 U.2.1 rfl rfl rfl rfl rfl (by omega) (by omega) ?_;intro v5 w5 E hi hg;have H5:=aH (And.intro E hi);clear E hi hg));have p:=(bR w4.heap.size w4).alloc dQ (.cells #[.slice A4 Q.length c9] 113);go_roundw
  .
   refine⟨x7+1,by omega,by go_num,?_,?_,?_⟩
   .rw[h7.zz];exact mC.snoc (w:=w4) (by rw[G.zz];exact U.1) U.2.2 Q4 P p H5.2 (by rw[G.zz];exact bY U.2.1 p) (by rw[G.zz];exact H5.1)
   .exact(K4.next p).grown hv H5.2 λq hq=>⟨dH U.2.1 q hq,_,_,dX (bY U.2.1 p) hq,KM.1,KM.2.1⟩
   have:=bY O4 p;exact eS this λq hq=>H5.2.block q (jN this q hq) λh9=>by have h8:=dD (dX this hq) (dX (bY U.2.1 p) h9.symm);exact absurd h8 (by decide)
  simp[intOf];omega
 obtain rfl:x7=N:=(by omega);have i1:¬(x7:Int)<x7:=by omega
 have h0:=RM (.slice hs (x7+1) x0) (lsR I x c d x7) wr s.lists (by rw[r];omega) (by
  have:=aG3 (ls:=lsR I x c d x7) (λl hl=>by
   unfold lsR at hl;rcases cY.1 hl with rfl|hl
   .exact aM (an0 _ _ _ _) W.mem.1
   obtain⟨x8,T,rfl⟩:=dS.1 hl;obtain⟨-,L,J,-,X⟩:=W.fI x8 (lM T);rw[J];exact aM (an0 _ _ _ _) X)
  rw[r]at this;omega)
 have⟨R,hR⟩:=fR (kI (lsR I x c d x7));rw[<-hR]at h0;have hu:=aH hR;clear hR;clear s g ho r c4 c6 c7;go_wp2_with fail
 go_call h0 as y w4 ⟨A4,c9,rfl,a,V,hh⟩;have⟨O4,KK,K4⟩:=aB a V (KR.next hh);clear h0 a V hh;go_wp2;try rw[eU]
 go_ret2;rw[<-hu.zz];exact⟨_,rfl,iI O4 hr,KK,K4⟩
def cd7(x:Nat)(t:Int)(o:Int)(l:List dB):Int:=match kO l x t with|some e=>max o e.2.1|none=>o
def bk1(I:aZ)(x:Nat)(t:Int):Int:=match kO I.mem x t with|some e=>e.2.1|none=>-1
def LU(I:aZ)(x:Nat)(t:Int)(k:Nat):Int:=((I.cZ.fP.flatten.take k).map fun n=>(I.fI n).getD []).foldl (cd7 x t) (bk1 I x t)
def aQ5{x:Nat}{t:Int}(h:I.cZ.fP.flatten[k]?=n)(a:I.fI n=L):LU I x t (k+1)=cd7 x t (LU I x t k) L:=by unfold LU;rw[dL,h];simp[a,mH]
def cf4(I:aZ)(x:Nat)(t:Int):yE I x t=LU I x (min t 1073741824) I.cZ.fP.flatten:=by unfold LU;rw[eX];rfl
def VU{L:List dB}(h:OkL L){n:Nat}{e:Int}{o:dB}(a:kO L n e=o):-9223372036854775808<=o.2.1/\o.2.1<=9223372036854775807:=(h o (bL9 a)).2.1
def cN7(a m d:Nat)(h:oZ)(I:aZ)(b:Nat)(D:aL)(c:bH->Nat)(f:bH->aN)(R:Int)(w:aI)(e:eY)(g:aI):Prop:=e=.returned (.tuple #[.int .i64 R,.int .i64 0])/\yA a m d h I b D c f w g
def bl9(B:yA n k m h I i D K H w w)(hi:D.down=false)(u:aD2 I D)(hb:n<=w)(x:Nat)(t:Int)(hx:x<18446744073709551616)(hh:-9223372036854775808<=t/\t<=9223372036854775807):Calls prog 99 #[zp h.X,zu x,t] w (cN7 n k m h I i D K H (yE I x t) w):=by
 rw[cf4];have⟨d,J⟩:=fR (min t 1073741824);rw[<-J];have m2:min t 1073741824=d:=J.symm;have b3:d<=1073741824:=(by omega);have b4:-9223372036854775808<=d:=(by omega);obtain⟨-,⟨o3,o4,-⟩,-⟩:=mM.1 u.cZ;have⟨N,hN⟩:=fR I.cZ.fP.flatten.length;have T:=index_none B.idx;have HA:=λ(y:aI)(v:aR w.heap.size w y)=>tP h.lv I.cZ.fP y ((B.idx.next v).fP.GQ) (by omega) (by omega);have S:=bV2 B.idx.mem x d hx ⟨by omega,by omega⟩;have HT:=λ(y:aI)(v:yA n k m h I i D K H w y)(hr:Nat)(L:List dB)(E:I.fI hr=some L)(P:hr<=999999)(p:nJ D.files hr L)=>cs4 (v.TK E).1 v.eI (v.TK E).2 hi p P x d hx ⟨by omega,by omega⟩;unfold XY at HT;rw[show min d 1073741824=d from by omega]at HT;have r:∀y,pI y n m h I i->y.cell? ⟨h.X,4,none⟩=some h.lv/\y.cell? ⟨h.X,6,none⟩=some (.pointer (some ⟨h.mb,0,none⟩))/\y.cell? ⟨h.X,7,none⟩=some (.map (some h.tm)):=λy v=>⟨v.cells.2.2.2.2.1,v.cells.2.2.2.2.2.2.1,v.cells.2.2.2.2.2.2.2⟩;have⟨C,M,O⟩:=r w B.idx;have⟨AL,cL,U⟩:=B.idx.fP.slice;rw[U]at C HA r;have⟨K0,R,h9,h6,h7,hl⟩:=aE B r HT hN u (λe he=>@VU I.mem u.mem.2 x d e he);rw[<-hN]at o4 HA|-;unfold cN7;clear B u HT J r hh U hN;go_in;go_wp2_with fail
 go_call T as e w' ⟨rfl,rfl⟩;clear T;go_wp2_with fail
 go_call S as e w1 ⟨rfl,F⟩;have⟨K1,B1⟩:=aA (K0.next F) F;have hg:∃s:Int,bk1 I x d=s/\((kO I.mem x d=none/\s=-1)\/∃e,kO I.mem x d=some e/\s=e.2.1):=by
  unfold bk1;cases hq:kO I.mem x d with
  |none=>exact⟨-1,rfl,.inl ⟨rfl,rfl⟩⟩
  |some e=>exact⟨e.2.1,rfl,.inr ⟨e,rfl,rfl⟩⟩
 have⟨s,h3,h4⟩:=hg;have h8:=aH (show LU I x d 0=s from h3);obtain⟨E1,Q,E3,bq,hE,X,h5⟩:∃(E1:Nat)(Q E3:Int)(bq:Bool),bO4 (kO I.mem x d)=(E1,Q,E3)/\(kO I.mem x d).isSome=bq/\(s=if bq then Q else -1):=by
  rcases h4 with⟨h1,h2⟩|⟨⟨a,b,c⟩,h1,h2⟩
  .rw[h1];exact⟨0,0,0,false,rfl,rfl,h2⟩
  rw[h1];exact⟨a,b,c,true,rfl,rfl,h2⟩
 rw[hE,X];unfold iT;simp only;have k2:=eA w1 (.cells #[.int .u64 E1,.int .i64 Q,.int .i64 E3] 152);have K2:=aH (K1.next k2);have⟨C,M,O⟩:=R _ K2.idx;have r2:=Row.new w1 #[.int .u64 E1,.int .i64 Q,.int .i64 E3] 152;have g0:=r2.lO;have g1:=r2.qD;have g2:=r2.tW;have ha:=HA _ (aK B1 k2);have B2:=aH (aK B1 k2);clear S HA F h3 h4 hE X k2 r2;have hc:∀(W:aI)(A3:Option Addr)(c3:Nat),True:=λ_ _ _=>trivial;rcases bq with _|_
 all_goals
  simp only[bU,dW,eH]at h5;subst h5;go_wp2_with fail
  go_call ha as e w3 ⟨v3,rfl,f,V⟩;obtain⟨A3,c3,rfl,-⟩:=id (Reads.cX f);have⟨O3,K3⟩:=aA f (K2.next V);clear ha f V C M O g0 g1 g2 hc;go_wp2_with fail
  go_loopw [8,12,13,14,15,40] (λov _ _ _ _ hm wr=>∃hp:Nat,hp<=N/\hm=.int .i64 hp/\ov=.int .i64 (LU I x d hp)/\yA n k m h I i D K H w wr/\wr.ownsRow w.heap.size 3 1 (.slice A3 N c3) N (fJ I.cZ.fP.flatten)) (λ_ _ _ _ _ hm _=>N-(intOf hm).toNat)
  .exact⟨0,bK _,rfl,by rw[h8.zz],K3,iI O3 B2.size⟩
  obtain⟨hp,hk,rfl,rfl,j,Z⟩:=hrel;have⟨KR,OR⟩:=aA j Z;have⟨C,M,O⟩:=R _ j.idx;by_cases hf:hp<N
  .have i1:(hp:Int)<N:=(by omega);obtain⟨hr,P⟩:∃hr,I.cZ.fP.flatten[hp]?=some hr:=⟨_,aJ (by rw[<-h6.zz];exact hf)⟩;have⟨Y,L,E,p,hd⟩:=h7.fI hr (bC P);obtain⟨b,hj,rfl,-,-,-,l⟩:=(Reads.cX Z).UK (by omega);have c0:wr.cell? ⟨b,hj+hp,none⟩=some (.int .i64 hr):=(l wr iH hp (by have hz:(fJ I.cZ.fP.flatten).length=N:=Z.1.trans (sG N);omega)).trans (by rw[sP P]);have A:=ZR j.idx Y E;have g:=h9 wr j hr L E Y p;have q:=aH (aQ5 (x:=x) (t:=d) P E);have h0:=λe he=>@VU L p.ok x d e he;have⟨z,hz⟩:=fR (LU I x d hp);rw[<-hz]at q|-;unfold cd7 at q;rcases hq:kO L x d with _|⟨e1,e2,e3⟩
   iterate 2
    .rw[hq]at g q;unfold bO4 iT at g;first|simp only[lX,MJ]at g;have⟨q1,q2⟩:=h0 _ hq;simp only at q1 q2|simp only[SX,MK]at g
     clear j Z P E p l hd h0 hz hq;(go_wp2_with fail);go_call g as y w4 ⟨rfl,o⟩;have⟨K4,O4⟩:=aA (KR.yH o.eI o.fr) (o.fr.own OR iP.2.1 KR.eI.map);(first|(have r4:=Row.new w4 #[.int .u64 e1,.int .i64 e2,.int .i64 e3] 152;(have g0:=r4.lO);(have g1:=r4.qD);(have g2:=r4.tW);clear g o A c0 C M O r4)|clear g o A c0 C M O);go_wp2;go_roundw
     .
      (first|have G:=eA w4 (.cells #[.int .u64 e1,.int .i64 e2,.int .i64 e3] 152)|have G:=eA w4 (.cells #[.int .u64 0,.int .i64 0,.int .i64 0] 152));exact⟨hp+1,by omega,by go_num,by rw[q.zz],K4.next G,bY O4 G⟩
     simp[intOf];omega
  obtain rfl:hp=N:=(by omega);have i1:¬(hp:Int)<hp:=(by omega);clear j Z C M O;go_wp2;try rw[eU]
  go_ret2;exact⟨rfl,KR⟩
def cf7(a:n<=999999):WideAt.IsKeyLit (xJ n):=cg3.key (GS a)
def UR.put{M:Du}{t:Nat->Option (List dB)}{f:Nat->Nat}(h:UR M t f){n k:Nat}(e:n<=999999)(L:List dB):UR (M.put (xJ n) (.lit (.int .i64 k))) (jM t n L) (λi=>if i=n then k else f i):=by
 refine⟨h.1.put _ _,λi g d=>?_⟩;unfold jM at d;by_cases c:i=n
 .subst c;simp only[eH];exact⟨has_put_same h.1 (cf7 e) _,λz=>atKey_put_same h.1 (cf7 e) _ _⟩
 rw[aP c]at d;simp only[aP c];have⟨a,b⟩:=h.2 i g d;exact⟨by rw[has_put_other (NK c)];exact a,λz=>by rw[atKey_put_other (NK c)];exact b z⟩
def pI.put{x:aI}{I:aZ}{nt' n:Nat}{M:Du}(H:pI w m k h I i)(B:UR M I.fI h.tb)(z:n<=999999)(r:x.ownsMap prog 3 uB h.tm nt' (M.put (xJ n) (.lit (.int .i64 j))))(t:nt'<=I.cZ.next)(s:w.grownBy x h.tm)(A:tC w N m j k n L)(p:∀G,N G->m<=G/\G<w.heap.size/\G≠h.X/\G≠h.mb/\G≠h.tm/\h.mv.ownBlock≠some G):pI x m k {h with tb:=λG=>if G=n then j else h.tb G,TT:=λG=>h.TT G\/N G} {I with fI:=jM I.fI n L} i:=by
 have o:∀G,G<w.heap.size->G≠h.tm->x.heap[G]?=w.heap[G]?:=λG v y=>s.block G v (λd=>y (by cases d;rfl));have⟨F,C,D,E⟩:=H.ne;refine⟨H.row.of_block (o _ H.row.lt C),H.fP.eW λG d e=>o G e (H.apart G (.inl d)).2.2.2.2.1,⟨H.mem.1.of_block (o _ H.mem.1.lt D),eS H.mem.2.1 λG d=>o G (jN H.mem.2.1 G d) (E G d).2.2,H.mem.2.2⟩,⟨nt',_,r,B.put z L,t⟩,λG u l=>?_,H.low,λG d=>?_⟩
 .simp only at l|-;unfold jM at l;by_cases f:G=n
  .subst f;rw[aV rfl]at l;cases l;rw[aV rfl];exact(A.eW λq g e=>o q e (p q g).2.2.2.2.1).mono λq _ g=>.inr g
  rw[aP f]at l;rw[aP f];exact((H.fI G u l).eW λq g e=>o q e (H.apart q (.inr g)).2.2.2.2.1).mono λq _ g=>.inl g
 rcases d with d|d|d
 .have⟨a,b,c⟩:=H.apart G (.inl d);exact⟨a,aW b s.size,c⟩
 .have⟨a,b,c⟩:=H.apart G (.inr d);exact⟨a,aW b s.size,c⟩
 have⟨a,b,c⟩:=p G d;exact⟨a,aW b s.size,c⟩
def aM9{M:List Nat}(h:M[n]?=k)(t:Nat->Option (List dB)):pU D (M.drop n) t=if(kX D k).1≠0 then((kX D k).1,t)else pU D (M.drop (n+1)) (jM t k (kX D k).2):=by obtain⟨a,rfl⟩:=aQ.1 h;rw[<-gT a,pU]
def aN1(h:(kX D n).1=0):∃L,(kX D n).2=some L:=by
 unfold kX at h|-;split at h
 .simp at h
 rename_i a;rw[aP a];split at h
 .simp at h
 split at h
 .rename_i b;rw[aV b];exact⟨_,rfl⟩
 simp at h
def bM4(X:Nat)(o:Option aZ):aN:=match o with|none=>.pointer none|some _=>.pointer (some ⟨X,0,none⟩)
def XX(a m d:Nat)(D:aL)(M:jD)(b:Nat)(w:aI)(e:eY)(c:aI):Prop:=∃h:oZ,
 e=.returned (.tuple #[bM4 h.X (xF D M).2,.int .i64 (xF D M).1])/\(∃f g,bJ c a d m D f g)/\gX a m w c/\∀I,(xF D M).2=some I->pI c a d h I b/\∀k,h.T k->DS w c d m k
def TO(h:wU M=true)(b:M.aX<18446744073709551616):DA M:=by obtain⟨⟨d,e⟩,⟨f,g,i⟩,c⟩:=mM.1 h;exact⟨by omega,by omega,b,by omega,by omega,λn a=>by have:=c n a;omega⟩
def DS.yH{base:Nat}(h:gX base k x y)(c:DT x n){m:Nat}(a:DS w x n k m):DS w y n k m:=⟨a.1,aW a.2.1 h.size,λb=>a.2.2 (ab0 h c m a.2.1 b)⟩
def DS.of(b:w.heap.size<=x)(a:DS x y n k m):DS w y n k m:=⟨aM b a.1,a.2.1,a.2.2⟩
def DS.below(b:bJ w k n m D K H)(f:aR w w x)(c:w<=i)(d:i<x)(e:¬DK x i):DS w x n m i:=by
 refine⟨c,d,λa=>?_⟩;rcases a with a|a|a
 .have:=b.lt.2;omega
 .exact e a
 have:=b.ax2 ((aM2 f b.IZ).1 a);omega
def Z6(h:(kX D n).2=L):(kX D n).1=0:=by
 unfold kX at h|-;split at h
 .cases h
 rename_i a;rw[aP a];split at h
 .cases h
 split at h
 .rename_i b;rw[aV b]
 cases h
def bJ0{wr:aI}(b:∀i,h.T i->i<wr.heap.size)(e:k<=w)(f:w.heap.size<=wr)(c:DS wr x n m i):k<=i/\i<x.heap.size/\i≠h.X/\i≠h.mb/\i≠h.tm/\h.mv.ownBlock≠some i:=by
 have d:=c.1;refine⟨by omega,c.2.1,λa=>?_,λa=>?_,λa=>?_,λa=>?_⟩
 .have:=b _ (.inl a);omega
 .have:=b _ (.inr (.inl a));omega
 .have:=b _ (.inr (.inr (.inl a)));omega
 have:=b _ (.inr (.inr (.inr (.inl a))));omega
def ay9(d:Nat)(M:jD)(b:aN)(a c e:Nat):Array aN:=#[.pointer (some ⟨d,0,none⟩),.int .i64 (M.next:Nat),.int .i64 (M.check:Nat),.int .u64 (M.aX:Nat),b,.float .f64 a,.pointer (some ⟨c,0,none⟩),.map (some e)]
def bb4:¬(33=103\/33=112\/33=5):=by decide
def cg8{cF:Nat}{t:bH->aN}(p:bJ w k n m D K t)(T:k<=w)(j:aR w w x)(O:AN x i v M.fP)(S:w<=i)(l:aR x x y)(E:B3 y x x zs []):∃h:oZ,h.X=y+1/\h.tm=y/\h.mb=x/\pI ((y.alloc (.map #[] 0)).alloc (.cells (ay9 n M v cF x y) 100)) k n h ⟨M,[],λ_=>none⟩ cF/\(∀V,h.T V->DS w ((y.alloc (.map #[] 0)).alloc (.cells (ay9 n M v cF x y) 100)) n m V)/\((y.alloc (.map #[] 0)).alloc (.cells (ay9 n M v cF x y) 100)).ownsMap prog 3 uB h.tm 0 (.map [])/\aR w w ((y.alloc (.map #[] 0)).alloc (.cells (ay9 n M v cF x y) 100)):=by
 have F:(y.alloc (.map #[] 0)).heap.size=y+1:=bD _ _;have A:=(bR y y).alloc dQ (.map #[] 0);have B:=World.ownsMap_made (H:=Unit) y prog 3 uB;have⟨e,J⟩:=fR (y.alloc (.map #[] 0));rw[<-J]at F A B|-;have s:=(bR e e).alloc dQ (.cells (ay9 n M v cF x y) 100);have r:=Row.new e (ay9 n M v cF x y) 100;have R:(e.alloc (.cells (ay9 n M v cF x y) 100)).heap.size=e+1:=bD _ _;rw[F]at r;have q:=IQ B s;have⟨U,N⟩:=fR (e.alloc (.cells (ay9 n M v cF x y) 100));rw[<-N]at s r R q|-;have f:=aK A s;have c:=aK l f;have b:=aK j c;have z:=O.ai3 (base:=k) (by omega);have P:=j.size;have Q:=l.size;have d:=E.next f;have C:=E.1.lt;refine⟨⟨y.heap.size+1,x,y,zs,v,λ_=>0,λV=>i<=V/\V<x.heap.size/\((∃o,Row x V 3 o)\/∃o,Row x V 33 o),λ_=>False⟩,rfl,rfl,rfl,⟨r,z.eW λV _ a=>c.block V a,⟨d.1,iI d.2.1 (by omega),d.2.2⟩,⟨0,_,q,⟨isMap_empty,λW L u=>by cases u⟩,bK _⟩,(λW L u=>by cases u),⟨by simp only;omega,by simp only;omega,by simp only;omega⟩,λV a=>?_⟩,λV a=>?_,q,b⟩
 .rcases a with⟨G,I,-⟩|a
  .refine⟨by omega,by omega,by simp only;omega,by simp only;omega,by simp only;omega,by simp[Value.ownBlock]⟩
  exact absurd a id
 rcases a with a|a|a|a|a|a
 .simp only at a;subst a;exact DS.below p b (by omega) (by omega) (j7 r GA.1)
 .simp only at a;subst a;exact DS.below p b (by omega) (by omega) (j7 d.1 GA.2)
 .simp only at a;subst a;exact DS.below p b (by omega) (by omega) (uD q)
 .simp[Value.ownBlock]at a
 .have⟨G,I,g⟩:=a;refine DS.below p b (by omega) (by omega) ?_;rcases g with⟨o,g⟩|⟨o,g⟩
  .exact j7 (g.next c) iP.2.1
  exact j7 (g.next c) bb4
 exact absurd a id
def ch9{g:Nat}{T:cC}{R:aN->Option (Du×List MemPlace)}{M r:Du}(p:bJ w k n m D K H)(E:w.ownsMap A T R i d M)(l:x.ownsMap A T R i g r)(q:w.grownBy x i)(B:j<w)(b:jQ x n m j):jQ w n m j:=by
 have h:n≠i:=λc=>by obtain⟨o,F,u,-⟩:=p.row;exact gJ E u c.symm
 have f:x.heap[n]?=w.heap[n]?:=q.block n p.lt.1 (λc=>h (cJ c));rcases b with b|b|b
 .exact .inl b
 .by_cases c:j=i
  .subst c;exact absurd b (uD l)
  have e:=q.block j B (λz=>c (cJ z));have⟨C,t,s,v,y⟩:=b;exact .inr (.inl ⟨C,t,s,by rw[<-e];exact v,y⟩)
 refine .inr (.inr ?_);unfold OwnAt at b|-;rwa[dK (a:=zp n 9) f]at b
def aa0(hd:bJ w k n m D K H)(hb:k<=w)(h7:D.down=false)(lv:aN)(M:jD)(hl:vA w lv M.fP)(h5:wU M=true)(xr:M.aX<18446744073709551616)(g:Nat):Calls prog 121 #[zp n,.agg (mN M lv).toArray,.float .f64 g] w (XX k m n D M g w):=by
 obtain⟨⟨o1,o2⟩,⟨o3,o4,o5⟩,o6⟩:=mM.1 h5;have xg:=TO h5 xr;have b0:=(bR w w).alloc dQ (.cells (mN M lv).toArray 57);have r0:=Row.new w (mN M lv).toArray 57;have h0:=hd.next b0;have HS:=uH h0 ⟨#[]⟩ (by show 0<=_;unfold maxLen;omega);have xd:bO D.files (lb ⟨#[]⟩)=none:=by
  cases hg:bO D.files (lb ⟨#[]⟩)with
  |none=>rfl
  |some f=>have:=hd.names _ (yQ hg);exact absurd this (by show¬jR (lb ⟨#[]⟩)=true;decide)
 rw[show D.size (lb ⟨#[]⟩)=(0,4)from by unfold aL.size;rw[h7,xd];rfl]at HS;have HV:=AW (.agg (mN M lv).toArray) M _ ⟨lv,rfl,hl.next b0⟩ xg;rw[h5]at HV;have HC:=λ(x:aI)(hx:aR w w x)=>BN lv M x (hl.next hx) (by omega) (by omega);have HA:=λ(x:aI)(hx:aR w w x)=>tP lv M.fP x (hl.next hx) (by omega) (by omega);have hp:=λ(x:aI)(b':bH->Nat)(d':bH->aN)(hx:bJ x k n m D b' d')(xn:k<=x)(xy:Nat)(Q:xy<=999999)=>bu4 hx xn h7 xy Q;unfold zL at HC;unfold SY at hp;obtain⟨⟨h8,hf,hh,hj⟩,-⟩:=gR r0;obtain⟨xw,xu,⟨A9,c9,rfl,-⟩,-⟩:=id hl;have xa:M.fP.flatten<=M.next:=by have:=uS o5 (b:=List.range M.next) λxy Q=>gB.2 (o6 xy Q);rwa [List.length_range]at this
 have⟨N,hN⟩:=fR M.fP.flatten.length;rw[<-hN]at HA xa o4;have u:∀xy∈M.fP.flatten,xy<=999999:=λxy Q=>(by have:=o6 xy Q;omega);have HX:xF D M=if(pU D M.fP.flatten λ_=>none).1≠0 then((pU D M.fP.flatten λ_=>none).1,none)else(0,some ⟨M,[],(pU D M.fP.flatten λ_=>none).2⟩):=(by unfold xF;rw[h7,aP (by simp)]);have⟨B0,R0,D0,DW,x3,x5,xj,xi⟩:=aG b0 r0 h0 hd hN HX u hp;have xq:=@run_makeMap prog;unfold XX;unfold mN at *;clear hd h0 b0 r0 hl h5 xg xd h7 hN HX u hp o5 o6;go_in;go_wp2_with fail
 go_call HS as e w' ⟨rfl,rfl⟩;clear HS;go_wp2_with fail
 go_call HV as e w1 ⟨rfl,Z⟩;have hr:=aK B0 Z;obtain⟨⟨h8,hf,hh,hj⟩,-⟩:=gR (R0.next Z);have hc:=HC w1 hr;have⟨B1,R1⟩:=aA hr (R0.next Z);clear HV HC Z hr;go_wp2_with fail
 go_call hc as e w2 ⟨xs,rfl,O,hs⟩;obtain⟨A2,c2,rfl⟩:∃A2 c2,xs=.slice A2 M.fP c2:=by
  obtain⟨vs,-,⟨A,c,hv,-⟩,-⟩:=O.GQ;exact⟨A,c,hv⟩
 have x6:=aK B1 hs;have⟨xm,B2,R2⟩:=aB O x6 (R1.next hs);clear hc O hs x6 h8 hf hh hj;go_wp2_with fail
 go_call cq4 w2 as e w3 ⟨rfl,xh,ht⟩;have⟨h,hX,x1,hy,HI,HN,P,s⟩:=cg8 (cF:=g) DW hb B2 xm B1.size ht xh;have R3:=aH (R2.next ht);unfold ay9 at HI HN P s;have r5:=R3.next (aK ((bR w3 w3).alloc dQ (.map #[] 0)) (iH.alloc dQ (.cells #[zp n,M.next,M.check,zu (M.aX:Nat),.slice A2 M.fP c2,.float .f64 g,zp w2,.map w3] 100)));obtain⟨⟨h8,hf,hh,hj⟩,-⟩:=gR r5;have ha:=HA _ s;have⟨x2,x4,MP,BW,xl⟩:=aD HI HN P s (And.intro hX (And.intro x1 hy));clear ht xh hX x1 hy HI HN P s r5 HA;go_wp2_with fail
 go_call ha as e w6 ⟨v6,rfl,r,F⟩;obtain⟨A6,c6,rfl,-⟩:=id (Reads.cX r);have G:=aK BW F;have x8:=DW.next G;have⟨I6,M6,N6,O6,D6,B6⟩:=aE (x2.next F) (IQ MP F) (λxx (hk:h.T xx)=>(x4 xx hk).yH (base:=k) (gX.cT F k m) (DW.next BW).IZ) (iI r BW.size) x8 G;clear ha r F G x8 h8 hf hh hj xq x2 x4 MP;have⟨hX,x1,hy⟩:=xl.zz;have F6:=aH (gX.cT B6 k m);go_wp2_with fail
 go_loopw [12,13,14,44] (λ_ _ _ i wr=>∃(xx:Nat) (E:oZ) (t:Nat->Option (List dB)),xx<=N/\i=.int .i64 xx/\pU D M.fP.flatten (λ_=>none)=pU D (M.fP.flatten.drop xx) t/\pI wr k n E ⟨M,[],t⟩ g/\(∀xx,E.T xx->DS w wr n m xx)/\E.X=w3+1/\(∃nt M',wr.ownsMap prog 3 uB E.tm nt M'/\UR M' t E.tb/\nt<=xx)/\(∃b' d',bJ wr k n m D b' d')/\gX k m w wr/\wr.ownsRow w 3 1 (.slice A6 N c6) N (fJ M.fP.flatten)) (λ_ _ _ i _=>N-(intOf i).toNat)
 .exact⟨0,h,λ_=>none,bK _,rfl,rfl,I6,N6,hX,⟨0,_,M6,⟨isMap_empty,λxy L hL=>by cases hL⟩,dQ⟩,⟨_,_,D6⟩,F6,O6⟩
 obtain⟨xx,E,t,hk,rfl,V,hi,S,Y,⟨nt,M',h1,h2,h4⟩,⟨b',d',v⟩,B,ho⟩:=hrel;by_cases xp:xx<N
 .have i1:(xx:Int)<N:=(by omega);obtain⟨xy,Q⟩:∃xy,M.fP.flatten[xx]?=some xy:=⟨_,aJ (by rw[<-x3.zz];exact xp)⟩;have h3:=xj xy (bC Q);obtain⟨b,xt,rfl,-,-,-,o⟩:=(Reads.cX ho).UK (by omega);have c0:wr.cell? (zp b (xt+xx))=some (.int .i64 xy):=(o wr iH xx (by have hz:(fJ M.fP.flatten)=N:=ho.1.trans (sG N);omega)).trans (by rw[sP Q]);have l:=xi wr b' d' v (aM hb B.size) xy h3;have C:=V.trans (aM9 Q t);have⟨IR,NR,DR,FR,OR,MR⟩:=aE hi S v B ho (And.intro h1 (And.intro h2 h4));by_cases he:(kX D xy).1=0
  .have⟨L,hL⟩:=aN1 he;rw[hL,he]at l;simp only at l;rw[aP (by rw[he];simp),hL]at C;have ST:=aH C;have xb:keyOf prog 3 xy=some (xJ xy):=GS h3;have xe:nt<maxLen:=(by unfold maxLen;omega);clear o Q V hi S h1 h2 h4 v B ho C he hL;(go_wp2_with fail);go_call l as y w7 ⟨p,rfl,⟨b7,d7,J⟩,d,h6⟩;have h6:=h6 L rfl;have x9:=p7.nA d DR.IZ;have⟨xo,x0⟩:=x9.clear (T:=E.T) (λxx hk=>⟨(IR.lt xx hk).2,(NR xx hk).2.2⟩);have hu:=IR.eW d.size x0;have xc:=oB MR.1 (x0 _ (.inr (.inr (.inl rfl))));have⟨I7,N7,D7,F7,O7,M7,P7⟩:=aF hu (λxx (hk:E.T xx)=>(NR xx hk).yH d DR.IZ) J (FR.trans d) (d.own OR iP.2.1 DR.map) xc h6;have xv:=d.size;obtain⟨-,-,-,-,-,-,-,c7⟩:=hu.cells;rw[Y]at c7;clear l J d h6 x9 xo x0 hu xc c0;go_wp2_with (first
    |(at_mapUpdate;refine wpList_mapUpdate_own _ rfl _ _ _ 98 rfl 3 214 cg3 underlying98 uB E.tm nt M' rfl M7 xe _ _ (xJ xy) rfl rfl xb (.lit (.int .i64 p)) [] (N0 p) ?_;intro w8 U j;have H8:=aH (And.intro U j);clear U j))
   go_roundw
   .
    have⟨hw,j⟩:=H8.zz;have x7:∀q,E.T q->q<wr.heap.size:=λq a=>(IR.lt q a).2;have xf:=I7.put MR.2.1 h3 hw (by show nt+1<=M.next;have:=MR.zz.2.2;omega) j P7 (λq a=>bJ0 x7 hb FR.size a);refine⟨xx+1,_,jM t xy L,by omega,by go_num,ST,xf,λq a=>?_,Y,⟨nt+1,_,hw,MR.2.1.put h3 L,by have:=MR.zz.2.2;omega⟩,⟨b7,d7,D7.grown j λq a=>?_⟩,F7.grown j (λq a=>?_),?_⟩
    .have W:DS w w7 n m q:=by
      rcases a with a|a|a|a|a|a
      .exact N7 q (.inl a)
      .exact N7 q (.inr (.inl a))
      .exact N7 q (.inr (.inr (.inl a)))
      .exact N7 q (.inr (.inr (.inr (.inl a))))
      .exact N7 q (.inr (.inr (.inr (.inr (.inl a)))))
      rcases a with a|a
      .exact N7 q (.inr (.inr (.inr (.inr (.inr a)))))
      exact a.of FR.size
     exact⟨W.1,aW W.2.1 j.size,λh9=>W.2.2 (ch9 D7 M7 hw j W.2.1 h9)⟩
    .cases a;exact(N7 _ (.inr (.inr (.inl rfl)))).2.2
    .cases a;exact(N7 _ (.inr (.inr (.inl rfl)))).1
    exact eS O7 λq a=>j.block q (jN O7 q a) λh9=>by cases h9;exact gJ M7 (dX O7 a) rfl
   simp[intOf];omega
  have R:(kX D xy).2=none:=by
   rcases a:(kX D xy).2 with _|L
   .rfl
   exact absurd (Z6 a) he
  rw[R]at l;simp only at l;rw[aV he]at C;have X:=aH (show xF D M=((kX D xy).1,none)from by rw[x5.zz,C,aV he]);have⟨z,hz⟩:=fR ((kX D xy).1);rw[<-hz]at l he X;have i2:(z==0)=false:=bA.2 he;clear o Q V hi S h1 h2 h4 v B ho C R hz;go_wp2_with fail
  go_call l as y w7 ⟨p,rfl,J,d,-⟩;have⟨D7,F7⟩:=aA J (FR.trans d);clear l J d c0;go_wp2;try rw[eU]
  go_ret2;rw[X.zz];exact⟨E,rfl,D7,F7,λI hI=>by cases hI⟩
 obtain rfl:xx=N:=(by omega);have i1:¬(xx:Int)<xx:=(by omega);have hm:pU D M.fP.flatten (λ_=>none)=(0,t):=(by rw[V,iR (by rw[<-x3.zz];exact cV _)];rfl);obtain⟨X,IR,NR,DR,FR,xk⟩:=aE (show xF D M=(0,some ⟨M,[],t⟩)from by rw[x5.zz,hm,aP (by simp)]) hi S v B Y;clear V hi S h1 h2 h4 v B ho hm Y;go_wp2;try rw[eU]
 go_ret2;rw[X.zz];refine⟨E,by unfold bM4;rw[xk.zz];rfl,⟨_,_,DR⟩,FR,λI hI=>?_⟩;cases hI;exact⟨IR,NR⟩
end Go.Proofs.YtpopikndggffaaaGreatDoor
