/- TOP, part 19. -/
import Derived.Test.YtpopikndggffaaaGreatDoorGm11
import Derived.Test.YtpopikndggffaaaGreatDoorGm17
namespace Go.Proofs.YtpopikndggffaaaGreatDoor
set_option linter.all false
set_option maxRecDepth 100000
set_option maxHeartbeats 16000000
open Go.RowKit Go.Maps Tryz
section
open Go.Sort
def TS:bo4:=λa c b g w d e f=>slices_Sort_string a c b g w d e f
def TU:bo5:=λw=>(slices_Sort_string_none none 0 w).mono λe a h=>by
 exact⟨h.1,by rw[h.2];exact aY _ _⟩
end
variable{i j k m n:Nat}{a w x:aI}{D:aM}{K:bK->Nat}{H:bK->aN}
def FO(h:bM w m k i D K H)(s:aT)(P:s.size<=maxLen)(O:m<=w.heap.size):
 Calls prog 222 #[.pointer (some ⟨k,0,none⟩),.string s] w (rI m k i (D.sync (lb s)) w):=by
  have a:=xP h s P;unfold QK at a;unfold rI aM.sync;rcases z:D.down with _|_
  .rw[z]at a;simp only[bU,dP]at a|-;rcases B:bR D.files (lb s)with _|f
   .rw[B]at a;simp only at a|-;have⟨b,v⟩:=aA a h;clear a h;go_in;(go_wp2_with fail);refine b.out.mono ?_;rintro e C ⟨rfl,rfl⟩;go_wp2;go_ret;exact⟨rfl,⟨_,_,v.out⟩,gS.refl _ _ _⟩
   rw[B]at a;simp only at a|-;have⟨b,q⟩:=aA a (xQ h);unfold aM.change;rcases g:D.qT with _|_
   .simp only[bU,dP];have⟨d,p⟩:=aA g B;clear a h g;go_in;(go_wp2_with fail);refine b.out.mono ?_;rintro e C ⟨rfl,rfl⟩;(go_wp2_with fail);refine q.out.mono ?_;rintro e Q ⟨r,-,F⟩;rw[d.out]at r;subst r;obtain⟨j,l⟩:=F d.out;obtain⟨N,R,-,S⟩:=j.BO (n:=lb s) p.out;obtain⟨A,c,J,-⟩:=id (j.data (n:=lb s) p.out).1;rw[J]at N;obtain⟨t,o⟩:=j.synced (n:=lb s) p.out f.data.length (aO _);have⟨y,u⟩:=aA t (l.trans o);clear j l t o J F;go_wp2;go_ret;exact⟨rfl,⟨_,_,y.out⟩,u.out⟩
   simp only[eE];have⟨d,x⟩:=aA g (FK TS TU h O z);clear a h g;go_in;(go_wp2_with fail);refine b.out.mono ?_;rintro e C ⟨rfl,rfl⟩;(go_wp2_with fail);refine q.out.mono ?_;rintro e Q ⟨r,E,-⟩;rw[d.out]at r;subst r;obtain rfl:=E d.out;clear E;(go_wp2_with fail);refine x.out.mono ?_;rintro e T ⟨rfl,G,I⟩;have⟨L,M⟩:=aA G I;clear G I;go_wp2;go_ret;exact⟨rfl,L.out,M.out⟩
  rw[z]at a;simp only[eE]at a|-;have⟨b,v⟩:=aA a h;clear a h;go_in;(go_wp2_with fail);refine b.out.mono ?_;rintro e C ⟨rfl,rfl⟩;go_wp2;go_ret;exact⟨rfl,⟨_,_,v.out⟩,gS.refl _ _ _⟩
variable{l:bZ}
def ad9(s:aT):byteCells s=dS (lb s):=by simp[byteCells,dS,lb]
def bq0(a:rZ l){s:bK}{f:fM}(h:bR l s=f)(b:bK):dT (eH l s ⟨f.data++b,f.sync⟩)=dT l+b:=by have:=kZ a s ⟨f.data++b,f.sync⟩;rw[h]at this;simp at this;omega
def bM.appended(h:bM w k n m D K H){s:bK}{f:fM}(C:bR D.files s=f)(V:aT){v:aN}(i:dT D.files+V<=D.cap)
 (I:lK x k 5 1 v (f.data+V) (dS f.data++byteCells V)) (e:w.grownBy x (H s).ownBlock) (z:v.ownBlock=(H s).ownBlock\/v.ownBlock=w) (u:Int) (F:u=((dT D.files+V:Nat):Int)) :
 bM ((x.setCell (zp (K s)) v).setCell (zp n 2) u) k n m {D with files:=eH D.files s ⟨f.data++lb V,f.sync⟩} K (λW=>if W=s then v else H W)/\gS k m w ((x.setCell (zp (K s)) v).setCell (zp n 2) u):=by
  have c:=h.files s f C;have⟨j,M,o,O,y⟩:=h.row;have L:dT (eH D.files s ⟨f.data++lb V,f.sync⟩)=dT D.files+V:=by rw[bq0 h.kO C,bN]
  have q:n≠K s:=λa=>by have J:=c.row;rw[<-a]at J;exact eU.1 (dI J o)
  have B:∀U,(H s).ownBlock=U->U≠n:=λU a d=>by subst d;exact eU.2.1 (dI (c.own.row a).1 o)
  have A:∀U,(H s).ownBlock=U->U≠K s:=λU a d=>by subst d;exact eU.2.2.1 (dI (c.own.row a).1 c.row)
  have T:Row x n 103 _:=o.grown e (λa=>B n a.symm rfl);have t:Row x (K s) 112 _:=c.row.grown e (λa=>A _ a.symm rfl);have g:Row (x.setCell (zp (K s)) v) n 103 _:=T.of_block (aV _ _ _ _ q);have r:lK x k 3 1 M D.eO (xA D.eO):=y.eO λU a=>e.block U (y.row a).1.lt (λd=>eU.2.2.2.2.2 (dI (y.row a).1 (c.own.row d.symm).1));refine⟨h.aW4 (D':={D with files:=eH D.files s ⟨f.data++lb V,f.sync⟩}) C rfl rfl h.bP h.left h.kept (by show dT (eH D.files s ⟨f.data++lb V,f.sync⟩)<=D.cap;rw[L];exact i) ⟨j,M,?_,O,?_⟩ ⟨?_,c.low,?_,?_⟩ (λU a=>?_) (λU E P Q R=>?_),⟨e.os,e.tape,e.output,by simpa using e.size,λU E l=>?_,λU p=>?_⟩⟩
  .show Row _ n _ [_,_,(dT (eH D.files s ⟨f.data++lb V,f.sync⟩):Nat),_,_,_,_,_,_,_];rw[L,<-F];exact g.set 2 _
  .exact(r.eO λU a=>uB t (r.row a).1 eU.2.2.2.2.1 0 _).eO λU a=>uB g ((r.eO λU a=>uB t (r.row a).1 eU.2.2.2.2.1 0 v).row a).1 eU.2.2.2.1 2 _
  .exact(t.set 0 v).of_block (aV _ _ _ _ (λa=>q a.symm))
  .have N:lK (x.setCell (zp (K s)) v) k 5 1 v (f.data+V.size) (dS f.data++byteCells V):=I.eO λU a=>uB t (I.row a).1 eU.2.2.1 0 _;have S:=N.eO (w':=(x.setCell (zp (K s)) v).setCell (zp n 2) u) λU a=>uB g (N.row a).1 eU.2.1 2 _;show lK _ k _ 1 v (f.data++lb V).length (dS (f.data++lb V));rw[aP,bN,show dS (f.data++lb V)=dS f.data++byteCells V from by rw[ad9];simp[dS]];exact S
  .have:=c.sync;show f.sync<=(f.data++lb V).length;rw[aP];omega
  .rcases z with d|d
   .rw[d]at a;exact .inl a
   rw[d]at a;cases a;exact .inr gC
  .rw[aV _ _ _ _ P,aV _ _ _ _ Q];exact e.block U E (λa=>R a.symm)
  .have G:U≠n/\U≠K s/\some U≠(H s).ownBlock:=by
    rcases l with l|⟨-,l⟩
    .exact⟨by have:=h.low.1;omega,by have:=c.low;omega,λa=>by have:=(c.own.row a.symm).2;omega⟩
    exact⟨λa=>l (by subst a;exact pK o (.inl rfl)),λa=>l (by subst a;exact pK c.row (.inr (.inl rfl))),λa=>l (pK (c.own.row a.symm).1 (.inr (.inr rfl)))⟩
   rw[aV _ _ _ _ G.1,aV _ _ _ _ G.2.1];exact e.block U E G.2.2
  by_cases a:U=n
  .subst a;exact JZ o (g.set 2 u) (by simp) (by simp) (λb _ a=>by simpa using a) p
  refine kC ?_ p;rw[aV _ _ _ _ a,aV _ _ _ _ (oT p c.row (by decide))];exact e.block U (mV p).lt (λd=>(oT p (c.own.row d.symm).1 (by decide)) rfl)
def bM.bP1(h:bM w k n m D K H){s:bK}{f:fM}(p:bR D.files s=f)(j:w.grownBy x (H s).ownBlock):
 (x.cell? (zp (K s))=some (H s)/\x.frozen? (zp (K s))=false)/\∀d,(x.setCell (zp (K s)) d).cell? (zp n 2)=(dT D.files:Nat)/\(x.setCell (zp (K s)) d).frozen? (zp n 2)=false:=by
  have b:=h.files s f p;have⟨i,u,e,r,t⟩:=h.row;have g:n≠K s:=λa=>by have l:=b.row;rw[<-a]at l;exact eU.1 (dI l e)
  have q:Row x n 103 _:=e.grown j (λa=>eU.2.1 (dI (b.own.row a.symm).1 e));have o:Row x (K s) 112 _:=b.row.grown j (λa=>eU.2.2.1 (dI (b.own.row a.symm).1 b.row));exact⟨⟨o.rY,o.TI⟩,λd=>by have c:Row (x.setCell (zp (K s)) d) n 103 _:=q.of_block (aV _ _ _ _ g);exact⟨c.G8,c.zf2⟩⟩
def yX(h:bM w k n m D K H)(s t:aT)(hs:s<=maxLen)(ht:t.size<=100000000)(hb:k<=w):
 Calls prog 205 #[zp n,s,t] w (rI k n m (D.append (lb s) (lb t)) w):=by
  have q:=xP h s hs;unfold QK at q;unfold rI aM.append;rcases hd:D.down with _|_
  .rw[hd]at q;simp only[bU,dP]at q|-;rcases hf:bR D.files (lb s)with _|f
   .rw[hf]at q;simp only at q|-;have⟨r,G⟩:=aA q h;clear q h;go_in;(go_wp2_with fail);go_call r as e w' ⟨rfl,rfl⟩;go_wp2;go_ret;exact⟨rfl,⟨_,_,G⟩,gS.refl _ _ _⟩
   rw[hf]at q;simp only at q|-;have r:=aH q;have z1:∀x:dY w,x.it.cell? ⟨n,1,none⟩=some (.int .i64 (D.cap:Nat)):=λx=>(h.next x.ok).cells.2.1;have z2:∀x:dY w,x.it.cell? ⟨n,2,none⟩=some (.int .i64 (dT D.files:Nat)):=λx=>(h.next x.ok).cells.2.2.1;have h5:=h.cap;have h7:=h.used;rw[bN];have⟨G,g⟩:=aA h hf;have⟨U,hU⟩:=kX (dT D.files);have⟨C,hC⟩:=kX D.cap;rw[<-hU,<-hC]at h7;rw[<-hC]at h5 z1;rw[<-hU]at z2;rw[show dT D.files=U from hU.symm,show D.cap=C from hC.symm];have⟨Y,HC⟩:=aA hU hC;clear q h hU hC;by_cases o:C<U+t.size
   .rw[aU o];have i1:(C:Int)-U<t.size:=(by omega);have i2:(U:Int)<=C:=(by omega);have i3:(C:Int)<=1048576:=(by omega);clear o h5 h7;go_in;(go_wp2_with fail);go_call r as e w' ⟨rfl,rfl⟩;(go_wp2_with fail);refine cU (by kernel_rfl) (by kernel_rfl) ?_;(repeat go_big_quiet_step (fail));refine wpQuiet_nil ?_;intro _ S;obtain⟨⟨w3,d⟩,rfl⟩:=S;have⟨b,y⟩:=aA (G.next d) (gS.cQ d k m);clear d;go_wp2;go_ret;exact⟨rfl,⟨_,_,b⟩,y⟩
   rw[aQ o];have i1:¬(C:Int)-U<t.size:=(by omega);have i2:(U:Int)<=C:=(by omega);have i3:(C:Int)<=1048576:=(by omega);have⟨i0,h6,h9,ha,hc⟩:=info_parts infoByte;have hi:=(G.data g).2;have L:∀x∈dS f.data,x.oneCell'=true:=λx S=>by obtain⟨c,-,rfl⟩:=dR.1 S;rfl
   have⟨I,X⟩:=aA L (show dT D.files+t.size<=D.cap by rw[<-Y.zz,<-HC.zz];omega);clear o L;rcases F:D.qT with _|_
   .have z:=aH F;simp only[bU,dP,eE];go_in;(go_wp2_with fail);go_call r as e w' ⟨rfl,rfl⟩;(go_wp2_with fail);refine cU (by kernel_rfl) (by kernel_rfl) ?_;(repeat go_big_quiet_step (fail));refine wpQuiet_nil ?_;intro _ S;obtain⟨⟨w3,d⟩,rfl⟩:=S;have⟨b,y⟩:=aA (G.next d) (gS.cQ d k m);have R:=aL hb d.size;obtain⟨c0,-,f0,-⟩:=b.BO g;obtain⟨A9,c9,j,-⟩:=id (b.data g).1;have N:=aH j;rw[j]at c0;have a:=(b.files _ f g).own;rw[j]at a;have P:=aH a;clear d j a F;go_wp2_with (first
     |(at_builtin;refine CJ _ rfl _ _ 110 9 rfl k 5 i0 _ underlying110 underlying9 h6 h9 ha hc rfl (.slice A9 f.data.length c9) f.data.length (dS f.data) rfl P I t rfl (by omega) R ?_;intro v4 w4 u l i;obtain⟨M,Q,rfl,-⟩:=id u.reads;rw[<-N.zz]at l i;have E:=aH (b.bP1 g l);have k0:=E.zz.1.1;have T:=E.zz.1.2;have k2:=(E.2 (.slice M (f.data.length+t.size) Q)).1;have V:=(E.2 (.slice M (f.data.length+t.size) Q)).2;rw[<-Y.zz]at k2))
    have B:=b.appended g t X u l i ((U:Int)+(t.size:Int)) (by rw[Y.zz];rfl);generalize ((w4.setCell ⟨K (lb s),0,none⟩ (.slice M (f.data.length+t.size) Q)).setCell ⟨n,2,none⟩ (.int .i64 ((U:Int)+(t.size:Int))))=w5 at B|-;have⟨v,p⟩:=B;have⟨A,O⟩:=aA (y.trans p) (xQ v);have h4:k<=w5.heap.size:=aL hb (A).size;have Z:=aH v;clear u l i k0 T k2 V v p;go_call O as e w6 ⟨he,-,h1⟩;rw[show aM.qT {D with files:=eH D.files (lb s) ⟨f.data++lb t,f.sync⟩}=false from z.zz]at he;subst he;have⟨h8,J⟩:=h1 z;have⟨hh,W⟩:=aA h8 (A.trans J);clear h1 h8 J;go_wp2;go_ret;exact⟨rfl,⟨_,_,hh⟩,W⟩
   have z:=aH F;simp only[bU,dP,eE];go_in;(go_wp2_with fail);go_call r as e w' ⟨rfl,rfl⟩;(go_wp2_with fail);refine cU (by kernel_rfl) (by kernel_rfl) ?_;(repeat go_big_quiet_step (fail));refine wpQuiet_nil ?_;intro _ S;obtain⟨⟨w3,d⟩,rfl⟩:=S;have⟨b,y⟩:=aA (G.next d) (gS.cQ d k m);have R:=aL hb d.size;obtain⟨c0,-,f0,-⟩:=b.BO g;obtain⟨A9,c9,j,-⟩:=id (b.data g).1;have N:=aH j;rw[j]at c0;have a:=(b.files _ f g).own;rw[j]at a;have P:=aH a;clear d j a F;go_wp2_with (first
    |(at_builtin;refine CJ _ rfl _ _ 110 9 rfl k 5 i0 _ underlying110 underlying9 h6 h9 ha hc rfl (.slice A9 f.data.length c9) f.data.length (dS f.data) rfl P I t rfl (by omega) R ?_;intro v4 w4 u l i;obtain⟨M,Q,rfl,-⟩:=id u.reads;rw[<-N.zz]at l i;have E:=aH (b.bP1 g l);have k0:=E.zz.1.1;have T:=E.zz.1.2;have k2:=(E.2 (.slice M (f.data.length+t.size) Q)).1;have V:=(E.2 (.slice M (f.data.length+t.size) Q)).2;rw[<-Y.zz]at k2))
   have B:=b.appended g t X u l i ((U:Int)+(t.size:Int)) (by rw[Y.zz];rfl);generalize ((w4.setCell ⟨K (lb s),0,none⟩ (.slice M (f.data.length+t.size) Q)).setCell ⟨n,2,none⟩ (.int .i64 ((U:Int)+(t.size:Int))))=w5 at B|-;have⟨v,p⟩:=B;have⟨A,O⟩:=aA (y.trans p) (xQ v);have h4:k<=w5.heap.size:=aL hb (A).size;have Z:=aH v;clear u l i k0 T k2 V v p;go_call O as e w6 ⟨he,h0,-⟩;rw[show aM.qT {D with files:=eH D.files (lb s) ⟨f.data++lb t,f.sync⟩}=true from z.zz]at he;subst he;obtain rfl:=h0 z;clear h0;have hg:=aH (FK TS TU Z h4 hd);(go_wp2_with fail);go_call hg as e w7 ⟨rfl,h2,h3⟩;have⟨H2,H3⟩:=aA h2 (A.trans h3);clear h2 h3;go_wp2;go_ret;exact⟨rfl,by have:=H2.zz;rw[<-HC.zz,hd]at this;exact this,H3⟩
  rw[hd]at q;simp only[eE]at q|-;have⟨r,G⟩:=aA q h;clear q h;go_in;go_wp2_with fail
  go_call r as e w' ⟨rfl,rfl⟩;go_wp2;go_ret;exact⟨rfl,⟨_,_,G⟩,gS.refl _ _ _⟩
variable{X:List aN}{s:bK}
def aD3{A:Program}{T:cD}{R:aN->Option (Du×List MemPlace)}{D:Du}(h:w.ownsMap A T R k n D):w.ownsMap A T R k (Maps.size D) D:=by obtain⟨b,a,c,F,d,rfl⟩:=h;exact⟨b,a,c,F,by simp[Maps.size,length_sorted],rfl⟩
def bM.cm6{D':aM}(h:bM w k n m D K H)(b:bK->bK)(F:D'.cap=D.cap)(J:D'.bP<=1000000000)(I:D'.left<=9223372036854775807)(u:∀i∈D'.eO,-9223372036854775808<=i/\i<=9223372036854775807)(M:dT D'.files<=D'.cap)(e:D'.files.length<=400)(f:rZ D'.files)(d:∀p∈D'.files,jH p.1=true)
 (o:∃(a:Int)(A:aN),Row x n 103 [.bool true,.int .i64 (D'.cap:Nat),.int .i64 (dT D'.files:Nat),.map (some m),.int .i64 a,.int .i64 (D'.bP:Nat),.bool D'.down,.bool D'.tB,.int .i64 (D'.left:Nat),A]/\(-9223372036854775808<=a/\a<=9223372036854775807)/\lK x k 3 1 A D'.eO.length (xA D'.eO))
 {i:Nat} (l:x.ownsMap prog 9 sU m i (kR D'.files λP=>K (b P)))
 (c:∀P g,bR D'.files P=some g->bR D.files (b P)=some g) (j:∀P y g q,bR D'.files P=some g->bR D'.files y=some q->P≠y->b P≠b y)
 (G:∀O,O<w.heap.size->O≠n->O≠m->x.heap[O]?=w.heap[O]?):bM x k n m D' (λP=>K (b P)) (λP=>H (b P)):=by
  obtain⟨a,A,C,-⟩:=h.row;refine⟨o,h.low,by have:=aD3 l;rwa [DF]at this,λP g r=>?_,λP y g q r B v=>h.apart _ _ _ _ (c P g r) (c y q B) (j P y g q r B v),f,by rw[F];exact h.cap,M,e,J,I,d,u⟩;have E:=h.files _ _ (c P g r);refine E.eO λO t N z L=>G O z.lt (λs=>?_) (λs=>?_)
  .subst s;have:=dI z C;rcases L with rfl|rfl
   .exact eU.1 this
   exact eU.2.1 this
  subst s;exact fP h.map z rfl
def aL7{p:bK×fM}(h:p∈jX l s):p∈l:=(eW.1 h).1
def aL8(l:bZ)(n:bK):(jX l n).length<=l.length:=iR _ _
def N8(a:rZ l){s:bK}{f:fM}(h:bR l s=some f):dT (jX l s)=dT l-f.data.length/\f.data.length<=dT l:=by have:=xE a s;rw[h]at this;simp at this;omega
def gS.of_map(j:Row w n 103 X)(y:k<=n/\k<=m)(f:x.os=w.os)(s:x.tape=w.tape)(r:x.output=w.output)(v:w.heap.size<=x.heap.size)(e:∀z,z<w.heap.size->z≠n->z≠m->x.heap[z]?=w.heap[z]?){Y:List aN}(g:Row x n 103 Y)(t:9<X.length)(u:9<Y.length)(p:Y[9]=X[9])(q:∀z,CI w z->z≠m):gS k m w x:=
 ⟨f,s,r,v,λz a i=>by
  rcases i with i|⟨l,o⟩
  .exact e z a (by omega) (by omega)
  .exact e z a (λc=>o (by subst c;exact pK j (.inl rfl))) l,λz d=>by
  by_cases c:z=n
  .subst c;exact JZ j g t u (λb _ h=>by rwa [p]at h) d
  exact kC (e z (mV d).lt c (q z d)) d⟩
def bM.dropped(h:bM w k n m D K H){s:bK}{f:fM}(G:bR D.files s=some f)(u:Int)(L:u=((dT D.files-f.data.length:Nat):Int))
 (b:x.ownsMap prog 9 sU m i ((kR D.files K).del (.string s))) (e:(w.setCell ⟨n,2,none⟩ (.int .i64 u)).drew.grownBy x (some m)):bM x k n m {D with files:=jX D.files s} K H/\gS k m w x:=by
  obtain⟨d,z,o,B,q⟩:=h.row;obtain⟨A,N⟩:=N8 h.kO G;rw[YU]at b;have t:n≠m:=λc=>fP h.map o c.symm;have j:∀O,O<w.heap.size->O≠n->O≠m->x.heap[O]?=w.heap[O]?:=λO j C E=>by rw[e.block O (by simpa[World.drew]using j) (by simpa using E)];exact aV _ _ _ _ C
  have l:Row x n 103 _:=(o.set 2 (.int .i64 u)).drew.grown e (by simpa using t);have I:lK x k 3 1 z D.eO.length (xA D.eO):=q.eO λO c=>j O (q.row c).1.lt (λr=>by subst r;exact eU.2.2.2.1 (dI (q.row c).1 o)) (λr=>by subst r;exact fP h.map (q.row c).1 rfl);refine⟨h.cm6 (D':={D with files:=jX D.files s}) id rfl h.bP h.left h.kept (by show dT (jX D.files s)<=D.cap;have:=h.used;omega) (aL (aL8 _ _) h.many) (uZ h.kO _) (λp J=>h.names p (aL7 J)) ⟨d,z,?_,B,I⟩ b (λy g M=>?_) (λ_ _ _ _ _ _ v=>v) j,gS.of_map o h.low (by rw[e.os];rfl) (by rw[e.tape];rfl) (by rw[e.output];rfl) (by have:=e.size;simpa[World.drew]using this) j l (by simp) (by simp) rfl (λO F c=>fP h.map (mV F) c.symm)⟩
  .show Row _ n _ [_,_,.int .i64 (dT (jX D.files s):Nat),_,_,_,_,_,_,_];rw[A,<-L];exact l
  have a:bR (jX D.files s) y=some g:=M;rw[iB]at a;split at a
  .cases a
  exact a
def ak9(h:bM w m k i D K H)(s:aT)(C:s.size<=maxLen):
 Calls prog 175 #[.pointer (some ⟨k,0,none⟩),.string s] w λe G=>e=.returned (.tuple #[])/\bM G m k i {D with files:=jX D.files (lb s)} K H/\gS m i w G:=by
  obtain⟨-,-,M,S,-⟩:=h.cells;obtain⟨v,x⟩:=WZ h s C;rcases g:bR D.files (lb s)with _|f
  .have R:=x g;have j:jX D.files (lb s)=D.files:=by
    unfold jX;rw[pN];intro p Q;have:p.1≠lb s:=λP=>by have:=QF h.kO (n:=p.1) (f:=p.2) Q;rw[P,g]at this;cases this
    simp[this]
   rw[j];have o:=aH h;clear h v x M;go_in;go_wp2;go_end0;exact⟨rfl,o.out,gS.refl _ _ _⟩
  have R:=v f g;obtain⟨y,X,l,-⟩:=h.row;have U:=l.frozen 2 (by simp);obtain⟨L,-,-,-⟩:=h.BO g;obtain⟨A,c,B,-⟩:=id (h.data g).1;rw[B]at L;obtain⟨O,T⟩:=N8 h.kO g;have r:=h.used;have q:=h.cap;have F:Row (w.setCell ⟨k,2,none⟩ (.int .i64 ((dT D.files:Int)-(f.data.length:Int)))).drew k 103 _:=(l.set 2 _).drew;have N:=F.cell 3 (by simp);have t:i≠k:=fP h.map l;have d:(w.setCell ⟨k,2,none⟩ (.int .i64 ((dT D.files:Int)-(f.data.length:Int)))).drew.ownsMap prog 9 sU i D.files.length (kR D.files K):=(nO h.map (aV _ _ _ _ t)).drew;have u:=keyOf_str s C;have⟨o,I,J⟩:=aB h g d;have V:(f.data.length:Int)<=(dT D.files:Int):=(by omega);have W:(dT D.files:Int)<=1048576:=(by omega);clear h v x l B O d g F r q;go_in;(go_wp2_with fail);go_region;go_wp2_with (first
   |(at_delete;refine wpList_delete_own _ rfl _ _ 101 9 rfl 107 ao0 underlying101 sU i D.files.length (kR D.files K) rfl J.out _ _ rfl u ?_;intro Y b a))
  have E:=o.out.dropped I.out _ (by omega) b a.grown;have z:=aH E;clear E b a;go_wp2;go_end0;exact⟨rfl,z.out.1,z.out.2⟩
def uY(h:bM w k n m D K H)(s:aT)(E:s<=maxLen)(F:k<=w):
 Calls prog 115 #[zp n,s] w (rI k n m (D.delete (lb s)) w):=by
  have a:=xP h s E;unfold QK at a;unfold rI aM.delete;rcases y:D.down with _|_
  .rw[y]at a;simp only[bU,dP]at a|-;rcases C:bR D.files (lb s)with _|f
   .rw[C]at a;simp only at a|-;have⟨b,v⟩:=aA a h;clear a h;go_in;(go_wp2_with fail);go_call b as e z ⟨rfl,rfl⟩;go_wp2;go_ret;exact⟨rfl,⟨_,_,v⟩,gS.refl _ _ _⟩
   rw[C]at a;simp only at a|-;have⟨b,i⟩:=aA a (xQ h);unfold aM.change;rcases d:D.qT with _|_
   .simp only[bU,dP];have c:=aH d;clear a h d;go_in;(go_wp2_with fail);go_call b as e z ⟨rfl,rfl⟩;(go_wp2_with fail);go_call i as e G ⟨o,-,B⟩;rw[c.zz]at o;subst o;have⟨p,g⟩:=B c;have⟨t,u⟩:=aA (ak9 p s E) g;clear p g B;(go_wp2_with fail);go_call t as e I ⟨rfl,j,l⟩;have⟨q,r⟩:=aA j (u.trans l);clear j l;go_wp2;go_ret;exact⟨rfl,⟨_,_,q⟩,r⟩
   simp only[eE];have⟨c,x⟩:=aA d (FK TS TU h F y);clear a h d;go_in;(go_wp2_with fail);go_call b as e z ⟨rfl,rfl⟩;(go_wp2_with fail);go_call i as e G ⟨o,A,-⟩;rw[c.zz]at o;subst o;obtain rfl:=A c;clear A;(go_wp2_with fail);go_call x as e I ⟨rfl,j,l⟩;have⟨q,r⟩:=aA j l;clear j l;go_wp2;go_ret;exact⟨rfl,q,r⟩
  rw[y]at a;simp only[eE]at a|-;have⟨b,v⟩:=aA a h;clear a h;go_in;go_wp2_with fail
  go_call b as e z ⟨rfl,rfl⟩;go_wp2;go_ret;exact⟨rfl,⟨_,_,v⟩,gS.refl _ _ _⟩
def zL(h:bR l s=none)(f:fM):(eH l s f).length=l+1:=by
 induction l with
 |nil=>rfl
 |cons p l b=>
  have⟨m,g⟩:=p;rw[bR]at h;split at h
  .cases h
  rename_i a;rw[eH,aQ a];split
  .rfl
  rw[cF,b h,cF]
def bM.created{w1:aI}{base d:Nat}{blk:bK->Nat}{dat:bK->aN}(h:bM w base d m D blk dat){x:bK}(hx:bR D.files x=none)(hn:jH x=true)(hmany:D.files.length<400)(hb:base<=w)
 (hmap:w1.ownsMap prog 9 sU m n ((kR D.files blk).put (.string x) (.lit (.int .i64 (w:Nat))))) (hg:(w.alloc (.cells #[zs,()] 112)).grownBy w1 m) :
 bM w1 base d m {D with files:=eH D.files x ⟨[],0⟩} (λy=>if y=x then w else blk y) (λy=>if y=x then .slice none 0 0 else dat y)/\gS base m w w1:=by
 obtain⟨reads,kv,h1,h2,h3⟩:=h.row;have hz:=cI w (.cells #[.slice none 0 0,.int .i64 0] 112);have hnew:=Row.new w #[.slice none 0 0,.int .i64 0] 112;rw[YT h.kO blk x w.heap.size ⟨[],0⟩]at hmap;have hmw:=h.map.lt;have hdm:d≠m:=fun h9=>fP h.map h1 h9.symm;have hk:∀k,k<w.heap.size->k≠m->w1.heap[k]?=w.heap[k]?:=fun k hk h5=>by
  rw[hg.block k (by have:=hz.size;omega) (by simpa using h5)];exact hz.block k hk
 have hlen:=zL hx ⟨[],0⟩;have hu:dT (eH D.files x ⟨[],0⟩)=dT D.files:=by
  have:=kZ h.kO x ⟨[],0⟩;rw[hx]at this;simpa using this
 have hnr:Row w1 w.heap.size 112 [.slice none 0 0,.int .i64 0]:=hnew.grown hg (by simp;omega);have hget:∀y g,bR (eH D.files x ⟨[],0⟩) y=some g->(y=x/\g=⟨[],0⟩)\/(y≠x/\bR D.files y=some g):=fun y g hy=>by
  rw[fK]at hy;by_cases e:x=y
  .rw[aU e]at hy;cases hy;exact .inl ⟨e.symm,rfl⟩
  rw[aQ e]at hy;exact .inr ⟨fun h=>e h.symm,hy⟩
 refine⟨⟨⟨reads,kv,?_,h2,?_⟩,h.low,?_,fun y g hy=>?_,fun y z g g' hy hz9 hne=>?_,uS h.kO _ _,h.cap,by show dT (eH D.files x ⟨[],0⟩)<=D.cap;rw[hu];exact h.used,by show(eH D.files x ⟨[],0⟩).length<=400;rw[hlen];omega,h.bP,h.left,NO h.names hn,h.kept⟩,?_⟩
 .show Row _ d _ [_,_,.int .i64 (dT (eH D.files x ⟨[],0⟩):Nat),_,_,_,_,_,_,_];rw[hu];exact h1.of_block (hk d h1.lt hdm)
 .exact h3.eO fun k h9=>hk k (h3.row h9).1.lt (fun h8=>by subst h8;exact fP h.map (h3.row h9).1 rfl)
 .have:=aD3 hmap;rwa [DF]at this
 .rcases hget y g hy with⟨rfl,rfl⟩|⟨hne,hy'⟩
  .simp only[eE];exact⟨hnr,hb,.inl (bQ _ _ _ _),aO _⟩
  simp only[aQ hne];exact(h.files y g hy').eO fun k t xs hr ht=>hk k hr.lt (fun h8=>by subst h8;exact fP h.map hr rfl)
 .rcases hget y g hy with⟨rfl,rfl⟩|⟨hny,hy'⟩
  iterate 2
   .rcases hget z g' hz9 with⟨rfl,rfl⟩|⟨hnz,hz'⟩
    .first|exact absurd rfl hne|(simp only[eE,aQ hny];(exact⟨fun h9=>by have:=(h.files y g hy').row.lt;omega,fun k h9=>by simp[Value.ownBlock]⟩))
    first|(simp only[eE,aQ hnz];(exact⟨fun h9=>by have:=(h.files z g' hz').row.lt;omega,fun k h9=>by simp[Value.ownBlock]at h9⟩))|simp only[aQ hny,aQ hnz];exact h.apart y z g g' hy' hz' hne
 exact⟨hg.os.trans hz.os,hg.tape.trans hz.tape,hg.output.trans hz.output,aL hz.size hg.size,fun k hlt hc=>by
  rcases hc with hc|⟨h5,-⟩
  .exact hk k hlt (by have:=h.low.2;omega)
  exact hk k hlt h5,fun k hd=>kC (hk k (mV hd).lt (fun h9=>fP h.map (mV hd) h9.symm)) hd⟩
def DG(h:bM w k n m D K H)(s:aT)(U:s<=maxLen)(hb:k<=w):
 Calls prog 208 #[zp n,s] w (rI k n m (D.create (lb s)) w):=by
  have o:=BU h;unfold NK at o;obtain⟨-,-,-,c3,-⟩:=h.cells;have d:=aH (ak8 s w U);have⟨y,z⟩:=WZ h s U;have q:(Builtin.len_ #[101] 3 #[.map (some m)]).run prog w=.ok (.int .i64 (D.files.length:Nat)) w:=by have:=h.map.len underlying101 3;rwa [DF]at this
  unfold rI aM.create;rcases Q:D.down with _|_
  .rw[Q]at o;simp only[bU,dP]at o|-;have b:=aH o;clear o;rcases T:jH (lb s)with _|_
   .have a:=aH d;rw[T]at a;have u:=aH h;simp only[eE];clear h;rcases v:bR D.files (lb s)with _|f
    iterate 2
     ·(first|have W:=z v|have W:=y f v);clear y z q d;go_in;(go_wp2_with fail);go_call b as e l ⟨rfl,rfl⟩;(go_wp2_with fail);go_call a as e l ⟨rfl,rfl⟩;go_wp2;go_ret;exact⟨rfl,⟨_,_,u⟩,gS.refl _ _ _⟩
   have a:=aH d;rw[T]at a;simp only[ax1,dP];rcases v:bR D.files (lb s)with _|f
   .have W:=z v;simp only[L5,bU,dP];have⟨L,G⟩:=kX D.files.length;rw[<-G]at q;rw[show D.files.length=L from G.symm];have⟨J,M,A⟩:=aB G T v;clear G d y z;by_cases r:400<=L
    .rw[aU r];have i1:(400:Int)<=L:=(by omega);have u:=aH h;clear h;go_in;(go_wp2_with fail);go_call b as e l ⟨rfl,rfl⟩;(go_wp2_with fail);go_call a as e l ⟨rfl,rfl⟩;go_wp2;go_ret;exact⟨rfl,⟨_,_,u⟩,gS.refl _ _ _⟩
    rw[aQ r];have i1:¬(400:Int)<=L:=(by omega);have B:=aH (xQ h);unfold aM.change;rcases p:D.qT with _|_
    .simp only[bU,dP];have c:=aH p;have R:=keyOf_str s U;clear h p;go_in;(go_wp2_with fail);go_call b as e l ⟨rfl,rfl⟩;(go_wp2_with fail);go_call a as e l ⟨rfl,rfl⟩;(go_wp2_with fail);go_call B as e F ⟨C,-,Z⟩;rw[c.zz]at C;subst C;have⟨j,g⟩:=Z c;have c3:=j.cells.2.2.2.1;have P:k<=F.heap.size:=aL hb g.size;have V:=cI F (.cells #[.slice none 0 0,.int .i64 0] 112);have h4:=(j.next V).cells.2.2.2.1;have t:=(j.next V).map;have⟨O,HO,I⟩:=aB j t g;have h5:(eH D.files (lb s) ⟨[],0⟩).length<=400:=(by rw[zL A.zz];have:=J.zz;omega);have S:D.files.length<maxLen:=(by unfold maxLen;have:=J.zz;omega);have HP:=aH (LM F.heap.size);clear j g Z V t;go_wp2_with (first
      |(at_mapUpdate;refine wpList_mapUpdate_own _ rfl _ _ _ 101 rfl 9 107 ao0 underlying101 sU m D.files.length (kR D.files K) rfl HO S _ _ (.string (lb s)) rfl rfl R (.lit (.int .i64 (F.heap.size:Nat))) [] HP ?_;intro w3 i E))
     have hv:=O.created (x:=lb s) A M (by show D.files.length<400;have:=J.zz;omega) P i E;have X:=aH hv;clear hv i E;go_wp2;go_ret;exact⟨rfl,⟨_,_,X.1⟩,I.trans X.2⟩
    simp only[eE];have⟨c,N⟩:=aA p (FK TS TU h hb Q);clear h p;go_in;(go_wp2_with fail);go_call b as e l ⟨rfl,rfl⟩;(go_wp2_with fail);go_call a as e l ⟨rfl,rfl⟩;(go_wp2_with fail);go_call B as e F ⟨C,Y,-⟩;rw[c.zz]at C;subst C;obtain rfl:=Y c;clear Y;(go_wp2_with fail);go_call N as e w2 ⟨rfl,h2,h3⟩;have⟨H2,H3⟩:=aA h2 h3;clear h2 h3;go_wp2;go_ret;exact⟨rfl,H2,H3⟩
   have W:=y f v;simp only[L2,eE];have u:=aH h;clear h y z q d;go_in;(go_wp2_with fail);go_call b as e l ⟨rfl,rfl⟩;(go_wp2_with fail);go_call a as e l ⟨rfl,rfl⟩;go_wp2;go_ret;exact⟨rfl,⟨_,_,u⟩,gS.refl _ _ _⟩
  rw[Q]at o;simp only[eE]at o|-;have⟨b,u⟩:=aA o h;clear o h y z q;go_in;go_wp2_with fail
  go_call b as e l ⟨rfl,rfl⟩;go_wp2;go_ret;exact⟨rfl,⟨_,_,u⟩,gS.refl _ _ _⟩
def bD6{f:fM}(h:bR l s=some f):(jX l s).length+1<=l.length:=by
 induction l with
 |nil=>cases h
 |cons p l a=>
  obtain⟨m,g⟩:=p;rw[bR]at h;unfold jX at a|-;rw[j7];by_cases e:m=s
  .have:=iR (λp:bK×fM=>!decide (p.1=s)) l;simp only[e,decide_true,oH,bU,dP,cF];omega
  rw[aQ e]at h;have:=a h;simp only[e,decide_false,CE,eE,cF];omega
def bM.renamed {w w1 w2:aI} {base d m n:Nat} {D:aM} {blk:bK→Nat} {dat:bK→aN} (h:bM w base d m D blk dat) {a b:bK} {f:fM} (hf:bR D.files a=some f) (hgb:bR D.files b=none) (hb:jH b=true)
 (hg:w.grownBy w1 (some m)) (hmap:w2.ownsMap prog 9 sU m n ((kR (jX D.files a) blk).put (.string b) (.lit (.int .i64 (blk a:Nat))))) (hg2:w1.grownBy w2 (some m)) :
 (∃blk' dat',bM w2 base d m {D with files:=eH (jX D.files a) b f} blk' dat')∧gS base m w w2:=by
 obtain⟨reads,kv,h1,h2,h3⟩:=h.row;have hne:a≠b:=fun h9=>by rw[h9,hgb]at hf;cases hf
 rw[YT (uZ h.kO a) blk b (blk a) f]at hmap;have hdm:d≠m:=fun h9=>fP h.map h1 h9.symm;have hk:∀k,k<w.heap.size→k≠d→k≠m→w2.heap[k]?=w.heap[k]?:=fun k hk h4 h5=>by
  rw[hg2.block k (aW hk hg.size) (by simpa using h5)];exact hg.block k hk (by simpa using h5)
 have hr2:Row w2 d 103 _:=(h1.grown hg (by simpa using hdm)).grown hg2 (by simpa using hdm);have ho:lK w2 base 3 1 kv D.eO.length (xA D.eO):=h3.eO fun k h9=>hk k (h3.row h9).1.lt (fun h8=>by subst h8;exact eU.2.2.2.1 (dI (h3.row h9).1 h1)) (fun h8=>by subst h8;exact fP h.map (h3.row h9).1 rfl);have hnb:bR (jX D.files a) b=none:=by rw[iB,aQ hne];exact hgb
 have hu:dT (eH (jX D.files a) b f)=dT D.files:=by
  have e1:=kZ (uZ h.kO a) b f;rw[hnb]at e1;obtain⟨e2,e3⟩:=N8 h.kO hf;simp at e1;omega
 have hlen:(eH (jX D.files a) b f).length≤400:=by
  rw[zL hnb];have:=bD6 hf;have:=h.many;omega
 have hsrc:(fun y=>if y=b then blk a else blk y)=fun y=>blk (if y=b then a else y):=by
  funext y;split<;>rfl
 rw[hsrc]at hmap;have hget:∀x g,bR (eH (jX D.files a) b f) x=some g→(x=b∧g=f)∨(x≠b∧x≠a∧bR D.files x=some g):=fun x g hx=>by
  rw[fK]at hx;by_cases e:b=x
  ·rw[aU e]at hx;cases hx;exact .inl ⟨e.symm,rfl⟩
  rw[aQ e,iB]at hx;split at hx
  ·cases hx
  rename_i e2;exact .inr ⟨fun h=>e h.symm,fun h=>e2 h.symm,hx⟩
 refine⟨⟨_,_,h.cm6 (D':={D with files:=eH (jX D.files a) b f}) (fun y=>if y=b then a else y) rfl h.bP h.left h.kept (by show dT (eH (jX D.files a) b f)≤D.cap;rw[hu];exact h.used) hlen (uS (uZ h.kO a) _ _) (NO (fun p hp=>h.names p (aL7 hp)) hb) ⟨reads,kv,?_,h2,ho⟩ hmap (fun x g hx=>?_) (fun x y g g' hx hy hxy=>?_) hk⟩,gS.of_map h1 h.low (by rw[hg2.os,hg.os]) (by rw[hg2.tape,hg.tape]) (by rw[hg2.output,hg.output]) (aL hg.size hg2.size) hk hr2 (by simp) (by simp) rfl (fun k hd h9=>fP h.map (mV hd) h9.symm)⟩
 ·show Row _ d _ [_,_,.int .i64 (dT (eH (jX D.files a) b f):Nat),_,_,_,_,_,_,_];rw[hu];exact hr2
 ·rcases hget x g hx with⟨rfl,rfl⟩|⟨e1,e2,e3⟩
  ·simpa using hf
  simpa[e1]using e3
 rcases hget x g hx with⟨rfl,rfl⟩|⟨e1,e2,e3⟩
 iterate 2
  ·rcases hget y g' hy with⟨rfl,rfl⟩|⟨f1,f2,f3⟩
   ·first|exact absurd rfl hxy|simp only[eE,aQ e1];exact e2
   first|simp only[eE,aQ f1];exact fun h=>f2 h.symm|simp only[aQ e1,aQ f1];exact hxy
def UL(h:bM w k n m D K H)(s t:aT)(hs:s.size<=maxLen)(ht:t.size<=maxLen)(hb:k<=w.heap.size):
 Calls prog 275 #[.pointer (some ⟨n,0,none⟩),.string s,.string t] w (rI k n m (D.rename (lb s) (lb t)) w):=by
  have b:=xP h s hs;unfold QK at b;unfold rI aM.rename;rcases X:D.down with _|_
  .rw[X]at b;simp only[bU,dP]at b|-;rcases Z:bR D.files (lb s)with _|f
   .rw[Z]at b;simp only at b|-;have⟨c,E⟩:=aA b h;clear b h;go_in;(go_wp2_with fail);refine c.out.mono ?_;rintro e y ⟨rfl,rfl⟩;go_wp2;go_ret;exact⟨rfl,⟨_,_,E.out⟩,gS.refl _ _ _⟩
   rw[Z]at b;simp only at b|-;have⟨c,l⟩:=aA b (ak8 t w ht);rcases hn:jH (lb t)with _|_
   .have a:=aH l.out;rw[hn]at a;simp only[eE];have E:=aH h;clear b h l;go_in;(go_wp2_with fail);refine c.out.mono ?_;rintro e y ⟨rfl,rfl⟩;(go_wp2_with fail);refine a.out.mono ?_;rintro e y ⟨rfl,rfl⟩;go_wp2;go_ret;exact⟨rfl,⟨_,_,E.out⟩,gS.refl _ _ _⟩
   have a:=aH l.out;rw[hn]at a;simp only[ax1,dP];have⟨T,Q,A⟩:=aB hn Z (xQ h);unfold aM.change;rcases o:D.qT with _|_
   .simp only[bU,dP];have j:=aH o;by_cases g:lb s=lb t
    iterate 2
     .first
       |rw[aQ g]
        have e1:(s.toList==t.toList)=false:=by rw[bI];intro O;exact g (by rw[<-l3,<-l3];exact O)
        have W:=aH g;have h4:=keyOf_str s hs;have h5:=keyOf_str t ht;clear b h o l g
       |have L:s=t:=by rw[<-BZ s,<-BZ t,g]
        rw[aU g];have e1:(s.toList==t.toList)=true:=(by rw[L];simp);clear b h o l L g
      go_in;(go_wp2_with fail);refine c.out.mono ?_;rintro e y ⟨rfl,rfl⟩;(go_wp2_with fail);refine a.out.mono ?_;rintro e y ⟨rfl,rfl⟩;(go_wp2_with fail);refine A.out.mono ?_;rintro e w1 ⟨F,-,N⟩;rw[j.out]at F;subst F
      first
       |obtain⟨M,r⟩:=N j.out
        have⟨P,B⟩:=aA (ak9 M t ht) r;clear N M r;(go_wp2_with fail);refine P.out.mono ?_;rintro e w2 ⟨rfl,q,u⟩;have⟨v,C⟩:=aA q (B.out.trans u);have c3:=q.cells.2.2.2.1;have HO:=aH q.map;have G:bR (jX D.files (lb t)) (lb s)=some f:=(by rw[iB,aQ (λh=>W.out h.symm)];exact Q.out);have I:bR (jX D.files (lb t)) (lb t)=none:=(by rw[iB,aU rfl]);have⟨z,R⟩:=aA G I;have Y:=aH (λ(w9:aI) (hg:w2.grownBy w9 (some m))=>(show w9.cell? ⟨n,3,none⟩=some (.map (some m))from by
         obtain⟨h7,kv,r1,-⟩:=v.out.row;exact(r1.grown hg (by simpa using λO=>fP v.out.map r1 O.symm)).cell 3 (by simp)))
        have h6:(jX D.files (lb t)).length<maxLen:=(by have:=q.many;unfold maxLen;have O:(jX D.files (lb t)).length<=400:=this;omega);have HP:=aH (LM (K (lb s)));clear q u G I;go_wp2_with (first
         |(at_mapUpdate;refine wpList_mapUpdate_own _ rfl _ _ _ 101 rfl 9 107 ao0 underlying101 sU m (jX D.files (lb t)).length (kR (jX (jX D.files (lb t)) (lb s)) K) rfl U.out h6 _ _ (.string (lb t)) rfl rfl h5 (.lit (.int .i64 (K (lb s):Nat))) [] HP.out ?_;intro w4 p J)
         |(at_delete;refine wpList_delete_own _ rfl _ _ 101 9 rfl 107 ao0 underlying101 sU m (jX D.files (lb t)).length (kR (jX D.files (lb t)) K) rfl HO.out _ _ rfl h4 ?_;intro w3 d i;rw[YU]at d;have U:=aH d;have x:=i.grown;have S:=aH x;have h8:=Y.out w3 x;clear d i x))
        have hv:=v.out.renamed z.out R.out T.out S.out p J;have HV:=aH hv;clear hv p J
       |have H1:=aH (N j.out)
        clear N
      go_wp2;go_ret;first|exact⟨rfl,HV.out.1,C.out.trans HV.out.2⟩|exact⟨rfl,⟨_,_,H1.out.1⟩,H1.out.2⟩
   simp only[eE];have⟨j,V⟩:=aA o (FK TS TU h hb X);clear b h o l;go_in;(go_wp2_with fail);refine c.out.mono ?_;rintro e y ⟨rfl,rfl⟩;(go_wp2_with fail);refine a.out.mono ?_;rintro e y ⟨rfl,rfl⟩;(go_wp2_with fail);refine A.out.mono ?_;rintro e w1 ⟨F,h0,-⟩;rw[j.out]at F;subst F;obtain rfl:=h0 j.out;clear h0;(go_wp2_with fail);refine V.out.mono ?_;rintro e w2 ⟨rfl,h2,h3⟩;have⟨H2,H3⟩:=aA h2 h3;clear h2 h3;go_wp2;go_ret;exact⟨rfl,H2.out,H3.out⟩
  rw[X]at b;simp only[eE]at b|-;have⟨c,E⟩:=aA b h;clear b h;go_in;(go_wp2_with fail);refine c.out.mono ?_;rintro e y ⟨rfl,rfl⟩;go_wp2;go_ret;exact⟨rfl,⟨_,_,E.out⟩,gS.refl _ _ _⟩
def be8(h:bM w k n m D K H)(x:D.bP<1000000000):
 Calls prog 48 #[.pointer (some ⟨n,0,none⟩)] w (rI k n m D.start w):=by
  have q:=FM h;obtain⟨-,-,-,-,A,s,-⟩:=h.cells;unfold rI aM.start;rcases u:D.down with _|_
  iterate 2
   .rw[u]at s
    first
     |simp only[eE]
      obtain⟨b,y,g,t,j⟩:=h.row;have C:=g.frozen 6 (by simp);have c:=g.set 6 (.bool false);have z:=c.cell 5 (by simp);have B:=c.frozen 5 (by simp);have o:=c.set 5 (.int .i64 ((D.bP:Int)+1));simp only[bX,bE,nZ,nY]at z;have l:∀F,F<w.heap.size->F≠n->((w.setCell ⟨n,6,none⟩ (.bool false)).setCell ⟨n,5,none⟩ (.int .i64 ((D.bP:Int)+1))).heap[F]?=w.heap[F]?:=(λF _ d=>by rw[aV _ _ _ _ d,aV _ _ _ _ d]);have f:bM ((w.setCell ⟨n,6,none⟩ (.bool false)).setCell ⟨n,5,none⟩ (.int .i64 ((D.bP:Int)+1))) k n m {D with down:=false,bP:=D.bP+1} K H:=h.cb6 rfl rfl (by show D.bP+1<=_;omega) h.left h.kept ⟨b,y,o,t,CR (CR j g) c⟩ l;have a:gS k m w ((w.setCell ⟨n,6,none⟩ (.bool false)).setCell ⟨n,5,none⟩ (.int .i64 ((D.bP:Int)+1))):=(gS.DV g h.low.1 6 _).trans (gS.DV c h.low.1 5 _);have⟨r,i⟩:=aA f a;have v:(D.bP:Int)<1000000000:=(by omega);clear h g c o f a l j
     |simp only[bU,dP]
      have p:=aH h;clear h
    go_in;(go_wp2_with fail);refine q.mono ?_;rintro e E ⟨rfl,rfl⟩;go_wp2;go_ret;first|exact⟨rfl,⟨_,_,r.out⟩,i.out⟩|exact⟨rfl,⟨_,_,p.out⟩,gS.refl _ _ _⟩
def aM.tE(a:Nat):aM:=⟨a,[],0,false,false,0,[]⟩
def bV5(w:aI)(b a:Nat)(i:a<=1048576)(u:b<=w.heap.size):
 Calls prog 25 #[.int .i64 a] w λe r=>∃d,e=.returned (.tuple #[.pointer (some ⟨d,0,none⟩),.int .i64 0])/\(∃m j k,bM r b d m (aM.tE a) j k)/\aS w.heap.size w r:=by
  have v:=@run_makeMap prog;have y:¬((a:Int)<0):=(by omega);have z:(a:Int)<=1048576:=(by omega);have c:=(World.ownsMap_made (H:=Unit) w prog 9 sU).alloc (.cells #[.bool true,.int .i64 a,.int .i64 0,.map (some w.heap.size),.int .i64 0,.int .i64 0,.bool false,.bool false,.int .i64 0,.slice none 0 0] 103);have o:=Row.new (w.alloc (.map #[] 0)) #[.bool true,.int .i64 a,.int .i64 0,.map (some w.heap.size),.int .i64 0,.int .i64 0,.bool false,.bool false,.int .i64 0,.slice none 0 0] 103;rw[bC]at o;have g:=((aY w.heap.size w).alloc (aO _) (.map #[] 0)).alloc (by simp) (.cells #[.bool true,.int .i64 a,.int .i64 0,.map (some w.heap.size),.int .i64 0,.int .i64 0,.bool false,.bool false,.int .i64 0,.slice none 0 0] 103);have q:bM ((w.alloc (.map #[] 0)).alloc (.cells #[.bool true,.int .i64 a,.int .i64 0,.map (some w.heap.size),.int .i64 0,.int .i64 0,.bool false,.bool false,.int .i64 0,.slice none 0 0] 103)) b (w.heap.size+1) w.heap.size (aM.tE a) (λ_=>0) (λ_=>.bool false):=
   ⟨⟨0,.slice none 0 0,o,by omega,.inl (bQ _ _ _ _)⟩,⟨by omega,u⟩,c,(λn f h=>by cases h),(λn A f x h=>by cases h),List.Pairwise.nil,i,bO _,bO _,bO _,bO _,(λp l=>by cases l),(λp l=>by cases l)⟩
  have⟨t,s⟩:=aA q g;clear q g o c;go_in;go_wp2;go_ret2;exact⟨w.heap.size+1,rfl,⟨_,_,_,t.out⟩,s.out⟩
section
open Go.Sort
def Reads.W1{w:aI}{A:Option Addr}(h:Reads w (.slice A n k) 1 n X)(f:0<n):∃b a,A=some ⟨b,a,none⟩/\n<=k/\k<=maxLen/\X.length=n/\∀(e:aI),aS w.heap.size w e->∀j (h:j<X.length),e.cell? ⟨b,a+j,none⟩=some X[j]:=by obtain⟨r,s,q,g,i,t,m⟩:=h;obtain⟨rfl,-,rfl⟩:=eV q;obtain⟨b,a,rfl,d,c⟩:=m f;exact⟨b,a,rfl,g,i,by omega,λe l j o=>(l.cell (p:=⟨b,a+j,none⟩) d).trans (c j o)⟩
def T0(l:List bK)(k:Nat):Nat×Bool:=(l.take k).foldl rQ (0,true)
def al6{l:List bK}(h:n<l.length):T0 l (n+1)=rQ (T0 l n) l[n]:=by unfold T0;rw[jC h,lP];rfl
def bW4(l:List bK):T0 l l.length=l.foldl rQ (0,true):=by unfold T0;rw[eQ]
def cj8(l:List bK):∀k,(T0 l k).1<=k:=by
 intro k;induction k with
 |zero=>exact bO _
 |succ k a=>
  by_cases h:k<l.length
  .rw[al6 h];unfold rQ;split
   .split<;>(try dsimp only)<;>omega
   omega
  have:T0 l (k+1)=T0 l k:=(by unfold T0;rw[aX (by omega),aX (by omega)]);rw[this];omega
def bv7{c:bB}(h:mG s=some (c,n)):n<=999999:=(SA h).2.1
def ai5(h:bM w k n m D K H):
 Calls prog 116 #[.pointer (some ⟨n,0,none⟩)] w λe w'=>e=.returned (.tuple #[.int .i64 (D.count.1:Nat),.bool D.count.2])/\aS w.heap.size w w':=by
  have P:=OE TS TU h;have t:=h.many;have j:∀h3∈D.names,h3.length<=12:=λh3 W=>by unfold aM.names at W;obtain⟨p,z,rfl⟩:=dR.1 W;have:=h.names p z;unfold jH at this;simp at this;exact this.2
  have J:D.names.length<=400:=(by unfold aM.names;rw[gR];exact t);unfold aM.count;generalize D.names=l at *;have Q:=aH j;obtain⟨N,M⟩:∃N,N=l.length:=⟨_,rfl⟩;rw[<-bW4,<-M];rw[<-M]at P J;have HL:=aH M;clear h t j M;go_in;(go_wp2_with fail);refine P.mono ?_;rintro e w1 ⟨v,rfl,y,R⟩;have E:=Reads.dC y;obtain⟨A,c,rfl,h0,S,-⟩:=id E;unfold maxLen at S;have HR:=aH E;clear P y E;go_wp2_with fail
  go_loopw [2,3,5,6,7,8,12] (λL ok _ _ _ _ i wr=>∃h1:Nat,h1<=N/\i=.int .i64 h1/\L=.int .i64 ((T0 l h1).1:Nat)/\ok=.bool (T0 l h1).2/\aS w.heap.size w wr/\aS w1.heap.size w1 wr) (λ_ _ _ _ _ _ i _=>N-(intOf i).toNat)
  .exact⟨0,bO _,rfl,rfl,rfl,R,aY _ _⟩
  obtain⟨h1,hk,rfl,rfl,rfl,s,g⟩:=hrel;have I:=cj8 l h1;by_cases V:h1<N
  .have i1:(h1:Int)<N:=(by omega);obtain⟨b,X,rfl,-,-,-,d⟩:=HR.out.W1 (by omega);have U:h1<l.length:=(by rw[<-HL.out];exact V);have c0:wr.cell? ⟨b,X+h1,none⟩=some (.string (bs l[h1])):=(d wr g h1 (by simp;omega)).trans (by simp;rfl);have x:(bs l[h1]).size<=maxLen:=(by rw[eK];have:=Q.out l[h1] (cY _);unfold maxLen;omega);have o:=al6 U;unfold rQ at o;have B:=U4 (bs l[h1]) wr x;rw[gF]at B;generalize bs l[h1]=T at c0 B;generalize T0 l h1=q at o I|-;obtain⟨O,Y⟩:=q;rcases z:mG l[h1]with _|⟨cc,h3⟩
   .rw[z]at B o;simp only at o;have u:=aH o;clear o d x z;(go_wp2_with fail);refine B.mono ?_;rintro e w2 ⟨rfl,f⟩;unfold NT;have r:=dK s f (aO _);have a:=dK g f (aO _);go_wp2;go_roundw
    .exact⟨h1+1,by omega,by go_num,by rw[u.out],by rw[u.out],r,a⟩
    simp[intOf];omega
   rw[z]at B o;have W:=bv7 z;simp only at o;by_cases C:cc=99
   .subst C;rw[aU rfl]at o;have u:=aH o;clear o d x z;by_cases G:Y=true
    iterate 2
     ·(try simp at G);subst G;(go_wp2_with fail);refine B.mono ?_;rintro e w2 ⟨rfl,f⟩;unfold NT;have r:=dK s f (aO _);have a:=dK g f (aO _);go_wp2;go_roundw;(first|(case rel=>exact⟨h1+1,by omega,by go_num,by rw[u.out];go_num,by rw[u.out];congr 1;rw[j8];simp;omega,r,a⟩)|(case rel=>exact⟨h1+1,by omega,by go_num,by rw[u.out];go_num,by rw[u.out];simp,r,a⟩));simp[intOf];omega
   rw[aQ C]at o;have u:=aH o;have c9:=bi7 (c:=cc) (k:=99) (by omega) C;clear o d x z;(go_wp2_with fail);refine B.mono ?_;rintro e w2 ⟨rfl,f⟩;unfold NT;have r:=dK s f (aO _);have a:=dK g f (aO _);go_wp2;go_roundw
   .exact⟨h1+1,by omega,by go_num,by rw[u.out],by rw[u.out],r,a⟩
   simp[intOf];omega
  obtain rfl:h1=N:=(by omega);obtain⟨⟨O,Y⟩,G⟩:∃q:Nat×Bool,q=T0 l h1:=⟨_,rfl⟩;rw[<-G]at I|-;have Z:=aH G;clear G;have i0:¬(h1:Int)<h1:=by omega
  cases Y with
  |false=>go_wp2;go_ret2;exact⟨by rw[<-Z.out];rfl,s⟩
  |true=>
   by_cases h2:O<=200
   iterate 2
    ·(first|(have i2:(O:Int)<=200:=by omega)|(have i2:¬(O:Int)<=200:=by omega));go_wp2;go_ret2;exact⟨by rw[<-Z.out];simp[h2],s⟩
end
def tQ(n:Nat):lb (lD 99 (n:Int))=gZ n:=by rw[KG,gF];rfl
def aU9(c:bB)(n:Int):(lD c n).size<=7:=by
 rw[KG,eK];unfold KH;split
 .simp
 simp[QM,aL5]
def jM(c:bB)(n:Int):(lD c n).size<=maxLen:=aL (aU9 c n) (by unfold maxLen;omega)
def bQ1(h:bM w k n m D K H)(i:D.down=false)(h6:Nat)(W:h6<=1000000):
 Calls prog 176 #[.pointer (some ⟨n,0,none⟩),.int .i64 h6] w λe J=>e=.returned (.tuple #[.string (bs (D.load h6).1.1),.int .i64 ((D.load h6).1.2:Nat),.int .i64 (D.load h6).2])/\bM J k n m D K H/\gS k m w J:=by
  have F:=λx:aI=>qR (h6:Int) x ⟨by omega,by omega⟩;have y:=λ(x:aI)(t:bM x k n m D K H)=>uX t (lD 99 (h6:Int)) (jM _ _);have u:=λ(x:aI) (t:bM x k n m D K H) (h5:Int) S=>AY t (lD 99 (h6:Int)) (jM _ _) 0 h5 ⟨by omega,by omega⟩ S;rw[tQ]at y u;have N:=aH h;have C:bR D.files (gZ h6)=none\/∃f,bR D.files (gZ h6)=some f/\f.data.length<=1048576:=by
   rcases c:bR D.files (gZ h6)with _|f
   .exact .inl rfl
   exact .inr ⟨f,rfl,(h.data c).2⟩
  clear h;rcases C with c|⟨f,c,E⟩
  iterate 2
   .first
     |have z:D.size (gZ h6)=(f.data.length,0):=by unfold aM.size;rw[i,c];rfl
      have l:D.read (gZ h6) 0 (f.data.length:Int)=(f.data,0):=by unfold aM.read;rw[i,c];simp
      have G:D.load h6=if cOk f.data h6 then((f.data,ad8 f.data h6),0)else(([],0),63):=by unfold aM.load;rw[c]
     |have z:D.size (gZ h6)=(0,4):=by unfold aM.size;rw[i,c];rfl
      have l:D.load h6=(([],0),4):=by unfold aM.load;rw[c]
    rw[z]at y;first|((have a:=λx t=>u x t (f.data.length:Int) ⟨by omega,by omega⟩);simp only[l]at a;unfold MW at a;(have b:=λx:aI=>UP (bs f.data) (h6:Int) x (by rw[eK];omega) ⟨by omega,by omega⟩);unfold C4 at b;rw[gF]at b;have j:=aH G;obtain⟨h0,I⟩:∃h0,h0=f.data.length:=⟨_,rfl⟩;rw[<-I]at y a;clear u c z l G E I;obtain⟨T,B⟩:∃T,T=bs f.data:=⟨_,rfl⟩;rw[<-B]at a b;have O:=aH B;clear B)|have L:=aH l;clear u c z l
    go_in;(go_wp2_with fail);refine(F _).mono ?_;rintro e X ⟨rfl,d⟩;have A:=aH (N.out.next d);(go_wp2_with fail);refine(y _ A.out).mono ?_;rintro e V ⟨rfl,rfl⟩
    first
     |go_wp2_with fail
      refine(F _).mono ?_;rintro e V ⟨rfl,o⟩;have P:=aH (A.out.next o);(go_wp2_with fail);refine(a _ P.out).mono ?_;rintro e Y ⟨rfl,s,r⟩;have⟨Q,p⟩:=aA s ((gS.cQ d k m).trans ((gS.cQ o k m).trans r));clear s r;have j:=j.out;rcases U:cOk f.data h6 with _|_
      all_goals
       rw[U]at b j;simp only[bU,dP,eE]at j;have M:=aH j;clear j;(go_wp2_with fail);refine(b _).mono ?_;rintro e Z ⟨v,rfl,-,g⟩;have⟨R,q⟩:=aA (Q.out.next g) (p.out.trans (gS.cQ g k m));clear g;go_wp2;go_ret3;refine⟨?_,R.out,q.out⟩;rw[M.out];(try rw[O.out]);try rfl
     |go_wp2
      go_ret3;exact⟨by rw[L.out];rfl,A.out,gS.cQ d _ _⟩
variable{σ:Type}
section
open Go.Shelf
def runs(s:σ):List (σ->Int×σ)->Int×σ
 |[]=>(0,s)
 |f::fs=>if(f s).1=0 then runs (f s).2 fs else f s
def bs4{b:Type}(s:b)(a:List (b->Int×b))(k:Nat)(h:k<a.length):runs s (a.drop k)=if(a[k] s).1=0 then runs (a[k] s).2 (a.drop (k+1))else a[k] s:=by rw[gO h];rfl
def af3(c:σ->aI->Prop)(a:List (σ->Int×σ))(B:Nat->Nat)(first t:Nat->Array aN)(R:Nat)(x:σ)(w:aI)(X:a.length<=100)
 (r:∀s w,c s w->∀k,k<a.length->w.cell? ⟨R,k,none⟩=some (.func (.func (B k)) (first k) (t k)))
 (p:∀k,k<a.length->∀o w,(callFunc (B k) o).run prog w=.ok (.enter (B k) o) w)
 (l:∀k (h:k<a.length),∀s w,c s w->Calls prog (B k) (first k++t k) w λe O=>e=.returned (.int .i64 (a[k] s).1)/\c (a[k] s).2 O)
 (Q:c x w) :
 Calls prog 206 #[.slice (some ⟨R,0,none⟩) a.length a.length] w λe O=>e=.returned (.int .i64 (runs x a).1)/\c (runs x a).2 O:=by
  have⟨V,A,y,L,J,z,K⟩:=aF Q r p l (λs k h=>bs4 s a k h) (show runs x a=runs x (a.drop 0)from by rw[mA]) (show∀s:σ,runs s (a.drop a.length)=(0,s)from λs=>by rw[List.drop_length];rfl);obtain⟨n,u⟩:∃n,n=a.length:=⟨_,rfl⟩;obtain⟨E,v⟩:∃E,E=runs x a:=⟨_,rfl⟩;rw[<-v];rw[<-v]at z;rw[<-u]at X|-;have P:=aH u;clear Q r p l u v;go_in;go_wp2_with fail
  go_loopw [2,4,5,8] (λ_ _ _ i wr=>∃(k:Nat)(s:σ),k<=n/\i=.int .i64 k/\E=runs s (a.drop k)/\c s wr) (λ_ _ _ i _=>n-(intOf i).toNat)
  .exact⟨0,x,bO _,rfl,z.out,V.out⟩
  obtain⟨k,s,Z,rfl,g,b⟩:=hrel;by_cases N:k<n
  .have i1:(k:Int)<n:=(by omega);have m:k<a.length:=(by rw[<-P.out];exact N);have M:=A.out s wr b k m;have W:=y.out k m;have j:=L.out k m s wr b;rw[J.out s k m]at g;have I:=aH g;clear g b;generalize first k=F at M j;generalize t k=C at M j;generalize B k=f at M W j;obtain⟨q,S⟩:∃q,q=a[k] s:=⟨_,rfl⟩;rw[<-S]at j I;clear S;obtain⟨T,U⟩:=q;by_cases D:T=0
   iterate 2
    ·(try subst D);(go_wp2_with fail);refine j.mono ?_;rintro e w2 ⟨rfl,d⟩;have G:=aH d;(try have H:=aH (show E=(T,U)from I.out.trans (aQ D)));clear d;go_wp2;first|(go_roundw;(case rel=>exact⟨k+1,U,by omega,by go_num,I.out,G.out⟩);(case measure=>simp[intOf];omega))|go_ret;rw[H.out];exact⟨rfl,G.out⟩
  obtain rfl:k=n:=(by omega);have⟨H,G⟩:=aA (show E=(0,s)from g.trans (by rw[P.out];exact K.out s)) b;clear b g;go_wp2;go_ret;rw[H.out];exact⟨rfl,G.out⟩
end
def aF4:aT:=⟨#[110,101,119]⟩
def M0:lb aF4=dG:=rfl
def AW:aF4.size<=maxLen:=by show 3<=_;unfold maxLen;omega
def cv8(h:bM w k n m D K H)(g:k<=w.heap.size)(B:Nat)(i:w.cell? ⟨B,0,none⟩=some (.pointer (some ⟨n,0,none⟩))):
 Calls prog 279 #[.pointer (some ⟨B,0,none⟩)] w (rI k n m (D.create dG) w):=by
  have a:=DG h aF4 AW g;rw[M0]at a;generalize D.create dG=r at a|-;unfold rI at a|-;clear h;go_in;(go_wp2_with fail);refine a.mono ?_;rintro e j ⟨rfl,c,b⟩;have⟨f,d⟩:=aA c b;clear c b;go_wp2;go_ret;exact⟨rfl,f.out,d.out⟩
def cv7(h:bM w k n m D K H)(j:k<=w.heap.size)(B b:Nat)(T:aT)(i:T.size<=100000000)(l:w.cell? ⟨B,0,none⟩=some (.pointer (some ⟨n,0,none⟩)))(o:w.cell? ⟨b,0,none⟩=some (.string T)):
 Calls prog 280 #[.pointer (some ⟨B,0,none⟩),.pointer (some ⟨b,0,none⟩)] w (rI k n m (D.append dG (lb T)) w):=by
  have a:=yX h aF4 T AW i j;rw[M0]at a;generalize D.append dG (lb T)=r at a|-;unfold rI at a|-;clear h;go_in;(go_wp2_with fail);refine a.mono ?_;rintro e p ⟨rfl,d,c⟩;have⟨g,f⟩:=aA d c;clear d c;go_wp2;go_ret;exact⟨rfl,g.out,f.out⟩
def cv6(h:bM w k n m D K H)(g:k<=w.heap.size)(B:Nat)(i:w.cell? ⟨B,0,none⟩=some (.pointer (some ⟨n,0,none⟩))):
 Calls prog 281 #[.pointer (some ⟨B,0,none⟩)] w (rI k n m (D.sync dG) w):=by
  have a:=FO h aF4 AW g;rw[M0]at a;generalize D.sync dG=r at a|-;unfold rI at a|-;clear h;go_in;(go_wp2_with fail);refine a.mono ?_;rintro e j ⟨rfl,c,b⟩;have⟨f,d⟩:=aA c b;clear c b;go_wp2;go_ret;exact⟨rfl,f.out,d.out⟩
def cv5(h:bM w k n m D K H)(j:k<=w.heap.size)(B b:Nat)(T:aT)(i:T.size<=maxLen)(l:w.cell? ⟨B,0,none⟩=some (.pointer (some ⟨n,0,none⟩)))(o:w.cell? ⟨b,0,none⟩=some (.string T)):
 Calls prog 282 #[.pointer (some ⟨B,0,none⟩),.pointer (some ⟨b,0,none⟩)] w (rI k n m (D.rename dG (lb T)) w):=by
  have a:=UL h aF4 T AW i j;rw[M0]at a;generalize D.rename dG (lb T)=r at a|-;unfold rI at a|-;clear h;go_in;(go_wp2_with fail);refine a.mono ?_;rintro e p ⟨rfl,d,c⟩;have⟨g,f⟩:=aA d c;clear d c;go_wp2;go_ret;exact⟨rfl,g.out,f.out⟩
def bh1(n s:bK):List (aM->Int×aM):=[fun D=>D.create dG,fun D=>D.append dG s,fun D=>D.sync dG,fun D=>D.rename dG n]
def bK4(D:aM)(f:aM->Int×aM):runs D [f]=f D:=by
 show(if(f D).1=0 then(0,(f D).2)else f D)=f D;split
 .rename_i h;exact Prod.ext h.symm rfl
 rfl
def bF6(D:aM)(n s:bK):runs D (bh1 n s)=D.FP n s:=by show kE (D.create dG) (λD=>kE (D.append dG s) λD=>kE (D.sync dG) λD=>runs D [λD=>D.rename dG n])=_;simp only[bK4];rfl
def cs5(k:Nat):Nat:=match k with
 |0=>279
 |1=>280
 |2=>281
 |_=>282
def cl2(b1 b2 b3:Nat)(k:Nat):Array aN:=match k with
 |0=>#[.pointer (some ⟨b1,0,none⟩)]
 |1=>#[.pointer (some ⟨b1,0,none⟩),.pointer (some ⟨b3,0,none⟩)]
 |2=>#[.pointer (some ⟨b1,0,none⟩)]
 |_=>#[.pointer (some ⟨b1,0,none⟩),.pointer (some ⟨b2,0,none⟩)]
def GB:¬(67=103\/67=112\/67=5)/\¬(9=103\/9=112\/9=5)/\¬(76=103\/76=112\/76=5):=by decide
def bY0(h:bM w k n m D K H)(M:k<=w.heap.size)(R d j l:Nat)(S T:aT)(J:S.size<=maxLen)(L:T.size<=100000000)
 (z:Row w d 67 [.pointer (some ⟨n,0,none⟩)]) (A:Row w j 9 [.string S]) (B:Row w l 9 [.string T])
 (C:Row w R 76 [.func (.func 279) #[] #[.pointer (some ⟨d,0,none⟩)],.func (.func 280) #[] #[.pointer (some ⟨d,0,none⟩),.pointer (some ⟨l,0,none⟩)],.func (.func 281) #[] #[.pointer (some ⟨d,0,none⟩)],.func (.func 282) #[] #[.pointer (some ⟨d,0,none⟩),.pointer (some ⟨j,0,none⟩)]]) :
 Calls prog 206 #[.slice (some ⟨R,0,none⟩) 4 4] w (rI k n m (D.FP (lb S) (lb T)) w):=by
  have g:∀{Q:Nat} {t:cD} {P:List aN},Row w Q t P->Q≠m:=λi a=>fP h.map i a.symm;obtain⟨N,F,O⟩:=GB;have r:∀wr,gS k m w wr->wr.cell? ⟨d,0,none⟩=some (.pointer (some ⟨n,0,none⟩)):=λwr b=>(b.row z N (g z)).cell 0 (by simp);have G:∀wr,gS k m w wr->wr.cell? ⟨j,0,none⟩=some (.string S):=λwr b=>(b.row A F (g A)).cell 0 (by simp);have I:∀wr,gS k m w wr->wr.cell? ⟨l,0,none⟩=some (.string T):=λwr b=>(b.row B F (g B)).cell 0 (by simp);have o:=af3 (σ:=aM) (λE wr=>(∃K H,bM wr k n m E K H)/\gS k m w wr) (bh1 (lb S) (lb T)) cs5 (λ_=>#[]) (cl2 d j l) R D w (by simp[bh1])
   (λE wr u Q p=>by
    have i:=u.2.row C O (g C);have q:Q<4:=p;rcases(show Q=0\/Q=1\/Q=2\/Q=3 from by omega)with rfl|rfl|rfl|rfl
    .exact i.cell 0 (by simp)
    .exact i.cell 1 (by simp)
    .exact i.cell 2 (by simp)
    exact i.cell 3 (by simp))
   (λQ p c wr=>by
    have q:Q<4:=p;rcases(show Q=0\/Q=1\/Q=2\/Q=3 from by omega)with rfl|rfl|rfl|rfl
    .exact enters_of func279 (by kernel_rfl) rfl c wr
    .exact enters_of func280 (by kernel_rfl) rfl c wr
    .exact enters_of func281 (by kernel_rfl) rfl c wr
    exact enters_of func282 (by kernel_rfl) rfl c wr)
   (λQ p E wr u=>by
    have q:Q<4:=p;obtain⟨⟨x,y,s⟩,b⟩:=u;have f:k<=wr.heap.size:=aL M b.size;rcases(show Q=0\/Q=1\/Q=2\/Q=3 from by omega)with rfl|rfl|rfl|rfl
    .exact(cv8 s f d (r wr b)).mono λe v a=>⟨a.1,a.2.1,b.trans a.2.2⟩
    .exact(cv7 s f d l T L (r wr b) (I wr b)).mono λe v a=>⟨a.1,a.2.1,b.trans a.2.2⟩
    .exact(cv6 s f d (r wr b)).mono λe v a=>⟨a.1,a.2.1,b.trans a.2.2⟩
    exact(cv5 s f d j S J (r wr b) (G wr b)).mono λe v a=>⟨a.1,a.2.1,b.trans a.2.2⟩)
   ⟨⟨K,H,h⟩,gS.refl _ _ _⟩
  rwa[bF6]at o
def bQ2(h:bM w k n m D K H)(O:k<=w.heap.size)(S T:aT)(M:S.size<=maxLen)(N:T.size<=100000000):
 Calls prog 239 #[.pointer (some ⟨n,0,none⟩),.string S,.string T] w (rI k n m (D.FP (lb S) (lb T)) w):=by
  have P:∀(y:Fn)(first c:Array aN)(w:aI),(Instr.makeFunc y first c).run prog w=.ok (.func y first c) w:=λ_ _ _ _=>rfl;have B:∀(x:aI)(o:Obj),aS x.heap.size x (x.alloc o):=λx o=>(aY _ _).alloc (aO _) o;have a:Calls prog 206 #[.slice (some ⟨w.heap.size+1+1+1,0,none⟩) 4 4] ((((w.alloc (.cells #[.pointer (some ⟨n,0,none⟩)] 67)).alloc (.cells #[.string S] 9)).alloc (.cells #[.string T] 9)).alloc (.cells #[.func (.func 279) #[] #[.pointer (some ⟨w.heap.size,0,none⟩)],.func (.func 280) #[] #[.pointer (some ⟨w.heap.size,0,none⟩),.pointer (some ⟨w.heap.size+1+1,0,none⟩)],.func (.func 281) #[] #[.pointer (some ⟨w.heap.size,0,none⟩)],.func (.func 282) #[] #[.pointer (some ⟨w.heap.size,0,none⟩),.pointer (some ⟨w.heap.size+1,0,none⟩)]] 76)) (rI k n m (D.FP (lb S) (lb T)) w):=by have G:=Row.new w #[.pointer (some ⟨n,0,none⟩)] 67;have C:=B w (.cells #[.pointer (some ⟨n,0,none⟩)] 67);have j:(w.alloc (.cells #[.pointer (some ⟨n,0,none⟩)] 67)).heap.size=w.heap.size+1:=bC _ _;generalize w.alloc (.cells #[.pointer (some ⟨n,0,none⟩)] 67)=g at G C j|-;have q:=Row.new g #[.string S] 9;have E:=B g (.cells #[.string S] 9);have v:(g.alloc (.cells #[.string S] 9)).heap.size=g.heap.size+1:=bC _ _;generalize g.alloc (.cells #[.string S] 9)=i at q E v|-;have s:=Row.new i #[.string T] 9;have F:=B i (.cells #[.string T] 9);have I:(i.alloc (.cells #[.string T] 9)).heap.size=i.heap.size+1:=bC _ _;generalize i.alloc (.cells #[.string T] 9)=u at s F I|-;rw[j]at q;rw[v,j]at s;have t:=Row.new u #[.func (.func 279) #[] #[.pointer (some ⟨w.heap.size,0,none⟩)],.func (.func 280) #[] #[.pointer (some ⟨w.heap.size,0,none⟩),.pointer (some ⟨w.heap.size+1+1,0,none⟩)],.func (.func 281) #[] #[.pointer (some ⟨w.heap.size,0,none⟩)],.func (.func 282) #[] #[.pointer (some ⟨w.heap.size,0,none⟩),.pointer (some ⟨w.heap.size+1,0,none⟩)]] 76;have p:=B u (.cells #[.func (.func 279) #[] #[.pointer (some ⟨w.heap.size,0,none⟩)],.func (.func 280) #[] #[.pointer (some ⟨w.heap.size,0,none⟩),.pointer (some ⟨w.heap.size+1+1,0,none⟩)],.func (.func 281) #[] #[.pointer (some ⟨w.heap.size,0,none⟩)],.func (.func 282) #[] #[.pointer (some ⟨w.heap.size,0,none⟩),.pointer (some ⟨w.heap.size+1,0,none⟩)]] 76);rw[I,v,j]at t;generalize u.alloc _=R at t p|-;have f:=aJ F p;have d:=aJ E f;have b:=aJ C d;refine(bY0 (h.next b) (aL O b.size) _ _ _ _ S T M N (G.next d) (q.next f) (s.next p) t).mono λe Q l=>⟨l.1,l.2.1,(gS.cQ b _ _).trans l.2.2⟩
  generalize D.FP (lb S) (lb T)=r at a|-;unfold rI at a|-;clear h B;go_in;(go_wp2_with fail);refine a.mono ?_;rintro e Q ⟨rfl,A,z⟩;have⟨L,J⟩:=aA A z;clear A z a;go_wp2;go_ret;exact⟨rfl,L.out,J.out⟩
variable{b:Bool}{u v:aN}{G:cT}
def ZX(w a:aI):Prop:=∀k,CI w k->CI a k/\∀b,b<w.heap.size->OwnAt a k b->OwnAt w k b
def ZX.trans{a w x:aI}(b:ZX a w)(d:ZX w x)(g:a.heap.size<=w.heap.size):ZX a x:=λk c=>
 ⟨(d k (b k c).1).1,λh e f=>(b k c).2 h e ((d k (b k c).1).2 h (aW e g) f)⟩
structure sA(b m L:Nat)(v:aN)(w a:aI):Prop where
 os:a.os=w.os
 tape:a.tape=w.tape
 output:a.output=w.output
 size:w.heap.size<=a.heap.size
 block:∀k,k<w.heap.size->(k<b\/(k≠m/\¬CD w k/\k≠L/\v.ownBlock≠some k))->a.heap[k]?=w.heap[k]?
 kept:ZX w a
def sA.lX(h:gS n k w x)(L:Nat)(v:aN):sA n k L v w x:=
 ⟨h.os,h.tape,h.output,h.size,λd c b=>h.block d c (b.imp id λa=>⟨a.1,a.2.1⟩),h.kept⟩
def sA.cQ(h:aS w.heap.size w x)(a m L:Nat)(v:aN):sA a m L v w x:=.lX (.cQ h a m) L v
def sA.refl(base m L:Nat)(v:aN)(w:aI):sA base m L v w w:=.lX (.refl _ _ _) L v
def kI(w:aI)(v a:aN):Prop:=∀k,a.ownBlock=some k->v.ownBlock=some k\/w.heap.size<=k
def kI.refl(w:aI)(v:aN):kI w v v:=λ_ h=>.inl h
def kI.trans{a w:aI}{v z:aN}(b:kI a v u)(c:kI w u z)(e:a.heap.size<=w.heap.size)(f:True):∀k,z.ownBlock=some k->v.ownBlock=some k\/a.heap.size<=k:=λk d=>by
 rcases c k d with h|h
 .exact b k h
 exact .inr (aL e h)
def sA.trans{n:Nat}{v:aN}{a w x:aI}(b:sA n k m v a w)(p:kI a v u)(c:sA n k m u w x):sA n k m v a x:=
 ⟨c.os.trans b.os,c.tape.trans b.tape,c.output.trans b.output,aL b.size c.size,λq h g=>by
  have e:=b.block q h g;refine(c.block q (aW h b.size) (g.imp id λd=>⟨d.1,λ⟨C,t,i,j,l⟩=>d.2.1 ⟨C,t,i,by rw[<-e];exact j,l⟩,d.2.2.1,λo=>?_⟩)).trans e;rcases p q o with f|f
  .exact d.2.2.2 f
  omega,b.kept.trans c.kept b.size⟩
structure kD(w:aI)(a d L:Nat)(G:cT)(c:Nat)(b:Bool)(v:aN):Prop where
 row:Row w L 171 [.pointer (some ⟨d,0,none⟩),.int .i64 (c:Nat),.bool b,v,.int .i64 (G.sure:Nat)]
 low:a<=L
 own:w.ownsRow a 3 1 v G.bW.length (gJ G.bW)
 apart:∀k,v.ownBlock=some k->¬OwnAt w d k
 eD:CI w d
 many:G.bW.length<=200
 small:∀n∈G.bW,n<=1048576
 sure:G.sure<=1000000000
def kD.next{w:aI}{base k:Nat}{st:Nat}{b:Bool}{v:aN}(h:kD w base k m G st b v)(a:aS w.heap.size w x):kD x base k m G st b v:=by obtain⟨d,e⟩:=kC (n:=w.heap.size) (a.block k (mV h.eD).lt) h.eD;exact⟨h.row.next a,h.low,cA h.own a,λg c f=>h.apart g c (e g (jG h.own g c) f),d,h.many,h.small,h.sure⟩
def iE:¬(171=103\/171=112\/171=5)/\¬(3=103\/3=112\/3=5)/\171≠3:=by decide
def bM.pX(h:bM w k n m D K H){i:Nat}{T:cD}{X:List aN}(b:Row w i T X):i≠m:=λa=>fP h.map b a.symm
def kD.xC{base:Nat}(h:kD w base n m G i b v)(c:bM w base n k D K H)(a:gS base k w x):kD x base n m G i b v:=by obtain⟨e,f⟩:=a.kept n h.eD;refine⟨a.row h.row iE.1 (c.pX h.row),h.low,?_,λj d g=>h.apart j d (f j (jG h.own j d) g),e,h.many,h.small,h.sure⟩;exact a.own h.own iE.2.1 c.map
def bM.far{n:Nat}(h:bM w k n m D K H)(c:∀q,q<w.heap.size->(q=m\/CD w q\/OwnAt w n q)->x.heap[q]?=w.heap[q]?):bM x k n m D K H:=by obtain⟨a,i,b,j,d⟩:=h.row;refine⟨⟨a,i,b.of_block (c n b.lt (.inr (.inl (pK b (.inl rfl))))),j,d.eO λq e=>c q (d.row e).1.lt (.inr (.inr ⟨i,b.cell 9 (by simp),e⟩))⟩,h.low,nO h.map (c m h.map.lt (.inl rfl)),λr f l=>?_,h.apart,h.kO,h.cap,h.used,h.many,h.bP,h.left,h.names,h.kept⟩;exact(h.files r f l).eO λq t p g o=>c q g.lt (.inr (.inl (pK g (o.elim (λh=>.inr (.inl h)) (λh=>.inr (.inr h))))))
def VV(h:kD w k n i G j b v)(f:bM w k n m D K H)(M:Nat)(u:aN):
 bM (w.setCell ⟨i,M,none⟩ u) k n m D K H/\sA k m i v w (w.setCell ⟨i,M,none⟩ u)/\(∀N,N≠i->(w.setCell ⟨i,M,none⟩ u).heap[N]?=w.heap[N]?):=by
  have d:∀N,N≠i->(w.setCell ⟨i,M,none⟩ u).heap[N]?=w.heap[N]?:=λN o=>aV _ _ _ _ o;refine⟨f.far λN l a=>d N (λe=>?_),⟨rfl,rfl,rfl,by simp,λN l a=>d N (λe=>?_),λN c=>kC (d N (oT c h.row (by decide))) c⟩,d⟩
  .subst e;rcases a with a|⟨C,t,F,r,B⟩|a
   .exact f.pX h.row a
   .obtain⟨E,s,g,-⟩:=h.row;rw[g]at r;cases r;exact iE.1 B
   obtain⟨p,J,x,I,y⟩:=f.row;obtain⟨L,q,z⟩:=a;rw[x.cell 9 (by simp)]at q;cases q;exact iE.2.2 (dI h.row (y.row z).1)
  rcases a with a|⟨-,-,A,-⟩
  .have:=h.low;omega
  exact A e
def LW(h:kD w k n i G D.bP false v)(c:bM w k n m D K H)(f:D.down=false):
 Calls prog 108 #[.pointer (some ⟨i,0,none⟩)] w λe a=>e=.returned (.int .i64 0)/\aS w.heap.size w a:=by
  have r:∀x:dY w,x.it.cell? ⟨i,0,none⟩=some (.pointer (some ⟨n,0,none⟩)):=λx=>(h.next x.ok).row.cell 0 (by simp);have s:∀x:dY w,x.it.cell? ⟨i,1,none⟩=some (.int .i64 (D.bP:Nat)):=λx=>(h.next x.ok).row.cell 1 (by simp);have t:∀x:dY w,x.it.cell? ⟨i,2,none⟩=some (.bool false):=λx=>(h.next x.ok).row.cell 2 (by simp);have p:=h.row.cell 0 (by simp);simp only[bE]at p;have j:∀x:dY w,Calls prog 29 #[.pointer (some ⟨n,0,none⟩)] x.it λe a=>e=.returned (.bool true)/\aS x.it.heap.size x.it a:=λx=>(HY (c.next x.ok)).mono λe a b=>⟨by rw[b.1,f];rfl,by rw[b.2];exact aY _ _⟩;have g:∀x:dY w,Calls prog 117 #[.pointer (some ⟨n,0,none⟩)] x.it λe a=>e=.returned (.int .i64 (D.bP:Nat))/\aS x.it.heap.size x.it a:=λx=>(KM (c.next x.ok)).mono λe a b=>⟨b.1,by rw[b.2];exact aY _ _⟩;have l:=c.bP;generalize D.bP=S at *;clear h c;go_in;(go_wp2_with fail);refine cU (by kernel_rfl) (by kernel_rfl) ?_;repeat go_big_quiet_step (first|(go_at_call 29;exact eP _ (j _))|(go_at_call 117;exact eP _ (g _)))
  refine wpQuiet_nil ?_;intro _ o;obtain⟨⟨q,d⟩,rfl⟩:=o;go_wp2;go_ret;exact⟨rfl,d⟩
def aG8(h:kD w k n i G j b v)(a:bM w k n m D K H)(x:Nat)(t:x<=1000000000):
 Calls prog 204 #[.pointer (some ⟨i,0,none⟩),.int .i64 x] w λe o=>e=.returned (.bool (yK D x))/\aS w.heap.size w o:=by
  have f:=h.row.cell 0 (by simp);simp only[bE]at f;have d:=SU a;have r:=a.cap;have s:=a.used;have g:(D.free:Int)<=1048576/\0<=D.free:=(by unfold aM.free;omega);unfold yK;generalize D.free=F at *;obtain⟨p,q⟩:=g;have l:(x:Int)<=1000000000:=(by omega);clear h a;go_in;(go_wp2_with fail);refine d.mono ?_;rintro e u ⟨rfl,c⟩;go_wp2;go_ret;exact⟨rfl,c⟩
def kD.cz7(h:kD w m k i G j b v)(x:Bool):kD (w.setCell ⟨i,2,none⟩ (.bool x)) m k i G j x v:=by have e:∀p,p≠i->(w.setCell ⟨i,2,none⟩ (.bool x)).heap[p]?=w.heap[p]?:=λp d=>aV _ _ _ _ d;have c:k≠i:=oT h.eD h.row (by decide);obtain⟨f,g⟩:=kC (n:=w.heap.size) (e k c) h.eD;refine⟨h.row.set 2 _,h.low,fG h.own λp a=>e p (λl=>?_),λp a o=>h.apart p a (g p (jG h.own p a) o),f,h.many,h.small,h.sure⟩;subst l;exact iE.2.2 (dI h.row (dZ h.own a))
def Y7(h:kD w k n i G j false v)(f:bM w k n m D K H)(e:Int):
 Calls prog 110 #[.pointer (some ⟨i,0,none⟩),.int .i64 e] w λx d=>x=.returned (.int .i64 e)/\bM d k n m D K H/\kD d k n i G j (decide (e=61)) v/\sA k m i v w d:=by
  have g:=h.row.cell 2 (by simp);have l:=h.row.frozen 2 (by simp);simp only[bX,bE]at g;have⟨b,a⟩:=aA (h.cz7 (decide (e=61))) (VV h f 2 (.bool (decide (e=61))));clear h f;by_cases c:e=61
  iterate 2
   .first|subst c;rw[show decide ((61:Int)=61)=true from rfl]at b a ⊢|rw[cC c]at b a|-
    go_in;go_wp2;go_ret;(try rw[show(e==61)=false from bI.2 c]);exact⟨rfl,a.out.1,b.out,a.out.2.1⟩
def yO(l:List Nat)(j:Nat)(h:j<(gJ l).length):(gJ l)[j]=.int .i64 ((l[j]'(by simpa using h):Nat):Int):=by simp[gJ,MO]
def Q6(h:kD w k n m G i b v):
 Calls prog 119 #[.pointer (some ⟨m,0,none⟩)] w λe B=>e=.returned (.int .i64 (jJ G.bW:Nat))/\aS w.heap.size w B:=by
  have f:=Reads.dC h.own;obtain⟨A,c,rfl,t,o,-⟩:=id f;have g:=h.many;unfold maxLen at o;have C:∀x:dY w,x.it.cell? ⟨m,3,none⟩=some (.slice A G.bW.length c):=λx=>(h.next x.ok).row.cell 3 (by simp);have s:=h.row.cell 3 (by simp);simp only[bX,bE]at s;have p:=h.small;generalize G.bW=l at *;rcases dX l.length with j|j
  .have u:=fE.1 j;subst u;clear h f;go_in;go_wp2;go_ret;exact⟨rfl,aY _ _⟩
  obtain⟨F,r,rfl,-,-,-,a⟩:=f.W1 j;obtain⟨H,y⟩:∃H,l.length=H+1:=⟨l.length - 1,by omega⟩;have d:jJ l=H*4096+l[H]'(by omega):=by unfold jJ;rw[ca8,show l.length-1=H from by omega,aK (by omega:H<l.length)]
  have z:l[H]'(by omega)<=1048576:=p _ (cY _);have D:w.cell? ⟨F,r+H,none⟩=some (.int .i64 (l[H]'(by omega):Nat)):=(a w (aY _ _) H (by simp;omega)).trans (by rw[yO]);rw[d];clear d a f h;generalize l[H]'(by omega)=q at *;rw[y]at C s g;have E:((H:Int)+1)-1=H:=by omega
  go_in;go_wp2;go_ret;exact⟨rfl,aY _ _⟩
def LOp(a d m L k:Nat)(v:aN)(g:aN)(j:Int)(G:cT)(D:aM)(w:aI)(e:eT)(h:aI):Prop:=
 e=.returned g/\(∃c f,bM h a d m D c f)/\(∃i b,kD h a d L G k b i/\kI w v i/\(j≠61->b=false))/\sA a m L v w h
def kD.bJ5(h:kD w k n m G i b v)(q:Nat)(l:q<=1000000000):kD (w.setCell ⟨m,4,none⟩ (.int .i64 q)) k n m {G with sure:=q} i b v:=by have e:∀p,p≠m->(w.setCell ⟨m,4,none⟩ (.int .i64 q)).heap[p]?=w.heap[p]?:=λp d=>aV _ _ _ _ d;have c:n≠m:=oT h.eD h.row (by decide);obtain⟨f,g⟩:=kC (n:=w.heap.size) (e n c) h.eD;refine⟨h.row.set 4 _,h.low,fG h.own λp a=>e p (λj=>?_),λp a o=>h.apart p a (g p (jG h.own p a) o),f,h.many,h.small,l⟩;subst j;exact iE.2.2 (dI h.row (dZ h.own a))
def at7{M:List Nat}(c:M.length<=200)(a:∀n∈M,n<=1048576):jJ M<=1000000000:=by
 unfold jJ;split
 .omega
 rename_i k b;have:=a k (FV b);omega
def aG7(h:kD w k n i G j false v)(O:bM w k n m D K H)(hb:k<=w.heap.size):
 Calls prog 152 #[.pointer (some ⟨i,0,none⟩)] w λe R=>e=.returned (.int .i64 (fY G D).1)/\(∃K H,bM R k n m (fY G D).2.2 K H)/\kD R k n i (fY G D).2.1 j false v/\sA k m i v w R:=by
  obtain⟨A,c,rfl,h1,N,-⟩:=id (Reads.dC h.own);have s:=h.many;have P:=at7 h.many h.small;unfold maxLen at N;have⟨T,S⟩:=aA h O;have L:=h.row.cell 3 (by simp);simp only[bX,bE]at L;by_cases u:G.bW=[]
  .have E:fY G D=(0,G,D):=(by unfold fY;rw[aU u]);have h0:G.bW.length=0:=(by rw[u];rfl);rw[E];rw[h0]at L;clear E u h O;go_in;go_wp2;go_ret;exact⟨rfl,⟨_,_,S.out⟩,T.out,sA.refl _ _ _ _ _⟩
  obtain⟨h2,Q⟩:∃h2,G.bW.length=h2+1:=⟨G.bW.length - 1,by have:=pM.2 u;omega⟩;have E:fY G D=((D.sync (gZ h2)).1,if(D.sync (gZ h2)).1=0 then {G with sure:=jJ G.bW} else G,(D.sync (gZ h2)).2):=(by unfold fY;rw[aQ u,Q];rfl);rw[Q]at L s;have z0:∀x:dY w,x.it.cell? ⟨i,0,none⟩=some (.pointer (some ⟨n,0,none⟩)):=λx=>(h.next x.ok).row.cell 0 (by simp);have z3:∀x:dY w,x.it.cell? ⟨i,3,none⟩=some (.slice A (h2+1) c):=λx=>(by rw[<-Q];exact(h.next x.ok).row.cell 3 (by simp));have Y:=λx:aI=>qR (h2:Int) x ⟨by omega,by omega⟩;have a:=λ(x:aI)(hx:bM x k n m D K H)(M:k<=x.heap.size)=>FO hx (lD 99 (h2:Int)) (jM _ _) M;rw[tQ]at a;have U:=aH E;have Z:IntKind.i64.wrap ((((h2+1:Nat):Int))-1)=(h2:Int):=(by rw[dM];omega);have e2:IntKind.i64.wrap (((h2:Int)+1)-1)=(h2:Int):=(by rw[dM];omega);obtain⟨r,X⟩:∃r,r=D.sync (gZ h2):=⟨_,rfl⟩;rw[<-X]at a U;clear E u h O X;go_in;(go_wp2_with fail);refine iS (by kernel_rfl) (by kernel_rfl) (by kernel_rfl) (by kernel_rfl) (by kernel_rfl) ?_;simp only[List.dropLast,List.drop,List.length,xW];repeat go_big_quiet_step ((go_at_call 109;exact eP _ (Y _)))
  refine wpQuiet_nil ?_;rintro _ ⟨⟨wq,o⟩,rfl⟩;clear z0 z3 Z e2;have f:=S.out.next o;have l:=T.out.next o;obtain⟨r1,r2⟩:=r;unfold rI at a;by_cases C:r1=0
  iterate 2
   ·(try subst C);(go_wp2_with fail);refine(a _ f (aL hb o.size)).mono ?_;rintro e w2 ⟨rfl,⟨V,W,t⟩,b⟩;(first|have q:=l.xC f b|have p:=aH (l.xC f b));have B:=aH t;(try have p:=aH q);have y:=aH ((gS.cQ o k m).trans b);(first|(have hE:=Q6 q;clear t q b f l a;go_wp2_with fail;refine hE.mono ?_;rintro e w3 ⟨rfl,g⟩;have F:=B.out.next g;have d:=p.out.next g;(have f4:=d.row.frozen 4 (by simp));(have c4:=d.row.cell 4 (by simp));have⟨z,J⟩:=aA (VV d F 4 (.int .i64 (jJ G.bW:Nat))) (d.bJ5 (jJ G.bW) P);have I:=aH ((sA.lX (y.out.trans (gS.cQ g k m)) i (.slice A G.bW.length c)).trans (kI.refl _ _) z.out.2.1);clear F d hE g)|clear t b f l a);go_wp2;go_ret;rw[U.out];first|exact⟨rfl,⟨_,_,z.out.1⟩,J.out,I.out⟩|simp only[aQ C];exact⟨rfl,⟨_,_,B.out⟩,p.out,sA.lX y.out _ _⟩
end Go.Proofs.YtpopikndggffaaaGreatDoor
