/- TOP, part 19. -/
import Derived.Test.YtpopikndggffaaaGreatDoorGt10
import Derived.Test.YtpopikndggffaaaGreatDoorGt18
namespace Go.Proofs.YtpopikndggffaaaGreatDoor
set_option linter.all false
set_option maxRecDepth 100000
set_option maxHeartbeats 16000000
open Go.RowKit Go.Maps Tryz
section
open Go.Sort
def VD:bz0:=λa c b g w d e f=>slices_Sort_string a c b g w d e f
def VE:bz1:=λw=>(slices_Sort_string_none none 0 w).mono λe a h=>by exact⟨h.1,by rw[h.2];exact bR _ _⟩
end
variable{d i k m n:Nat}{w x:aI}{D:aL}{K:bH->Nat}{H:bH->aN}
def GX(h:bJ w m k i D K H)(s:aS)(P:s<=maxLen)(O:m<=w):Calls prog 222 #[zp k,s] w (rI m k i (D.sync (lb s)) w):=by
 have a:=yT h s P;unfold SA at a;unfold rI aL.sync;rcases z:D.down with _|_
 .rw[z]at a;simp only[bU,dW]at a|-;rcases B:bO D.files (lb s)with _|f
  .rw[B]at a;simp only at a|-;have⟨b,v⟩:=aA a h;clear a h;go_in;(go_wp2_with fail);go_call b as e C ⟨rfl,rfl⟩;go_wp2;go_ret;exact⟨rfl,⟨_,_,v⟩,gX.refl _ _ _⟩
  rw[B]at a;simp only at a|-;have⟨b,q⟩:=aA a (yU h);unfold aL.change;rcases g:D.rU with _|_
  .simp only[bU,dW];have⟨d,p⟩:=aA g B;clear a h g;go_in;(go_wp2_with fail);go_call b as e C ⟨rfl,rfl⟩;(go_wp2_with fail);go_call q as e Q ⟨r,-,F⟩;rw[d.zz]at r;subst r;have⟨j,l⟩:=F d;obtain⟨N,R,-,S⟩:=j.CS (n:=lb s) p;obtain⟨A,c,J,-⟩:=id (j.data (n:=lb s) p).1;rw[J]at N;have⟨t,o⟩:=j.synced (n:=lb s) p f.data dQ;have⟨y,u⟩:=aA t (l.trans o);clear j l t o J F;go_wp2;go_ret;exact⟨rfl,⟨_,_,y⟩,u⟩
  simp only[eH];have⟨d,x⟩:=aA g (GW VD VE h O z);clear a h g;go_in;go_wp2_with fail
  go_call b as e C ⟨rfl,rfl⟩;go_wp2_with fail
  go_call q as e Q ⟨r,E,-⟩;rw[d.zz]at r;subst r;obtain rfl:=E d;clear E;go_wp2_with fail
  go_call x as e T ⟨rfl,G,I⟩;have⟨L,M⟩:=aA G I;clear G I;go_wp2;go_ret;exact⟨rfl,L,M⟩
 rw[z]at a;simp only[eH]at a|-;have⟨b,v⟩:=aA a h;clear a h;go_in;go_wp2_with fail
 go_call b as e C ⟨rfl,rfl⟩;go_wp2;go_ret;exact⟨rfl,⟨_,_,v⟩,gX.refl _ _ _⟩
variable{l:cA}
def aj9(s:aS):byteCells s=dM (lb s):=by simp[byteCells,dM,lb]
def bA4(a:tB l){s:bH}{f:fK}(h:bO l s=f)(b:bH):dZ (eC l s ⟨f.data++b,f.sync⟩)=dZ l+b:=by have:=lB a s ⟨f.data++b,f.sync⟩;rw[h]at this;simp at this;omega
def bJ.appended(h:bJ w k n m D K H){s:bH}{f:fK}(C:bO D.files s=f)(V:aS){v:aN}(i:dZ D.files+V<=D.cap) (I:l3 x k 5 1 v (f.data+V) (dM f.data++byteCells V)) (e:w.grownBy x (H s).ownBlock) (z:v.ownBlock=(H s).ownBlock\/v.ownBlock=w) (u:Int) (F:u=((dZ D.files+V:Nat):Int)) :bJ ((x.setCell (zp (K s)) v).setCell (zp n 2) u) k n m {D with files:=eC D.files s ⟨f.data++lb V,f.sync⟩} K (λW=>if W=s then v else H W)/\gX k m w ((x.setCell (zp (K s)) v).setCell (zp n 2) u):=by
 have c:=h.files s f C;have⟨j,M,o,O,y⟩:=h.row;have L:dZ (eC D.files s ⟨f.data++lb V,f.sync⟩)=dZ D.files+V:=by rw[bA4 h.kV C,bI]
 have q:n≠K s:=λa=>by have J:=c.row;rw[<-a]at J;exact eV.1 (dD J o)
 have B:∀U,(H s).ownBlock=U->U≠n:=λU a d=>by subst d;exact eV.2.1 (dD (c.own.row a).1 o)
 have A:∀U,(H s).ownBlock=U->U≠K s:=λU a d=>by subst d;exact eV.2.2.1 (dD (c.own.row a).1 c.row)
 have T:Row x n 103 _:=o.grown e (λa=>B n a.symm rfl);have t:Row x (K s) 112 _:=c.row.grown e (λa=>A _ a.symm rfl);have g:Row (x.setCell (zp (K s)) v) n 103 _:=T.of_block (aU _ _ _ _ q);have r:l3 x k 3 1 M D.eW (rT D.eW):=y.eW λU a=>e.block U (y.row a).1.lt (λd=>eV.2.2.2.2.2 (dD (y.row a).1 (c.own.row d.symm).1));refine⟨h.aw0 (D':={D with files:=eC D.files s ⟨f.data++lb V,f.sync⟩}) C rfl rfl h.bQ h.left h.kept (by show dZ (eC D.files s ⟨f.data++lb V,f.sync⟩)<=D.cap;rw[L];exact i) ⟨j,M,?_,O,?_⟩ ⟨?_,c.low,?_,?_⟩ (λU a=>?_) (λU E P Q R=>?_),⟨e.os,e.tape,e.output,by simpa using e.size,λU E l=>?_,λU p=>?_⟩⟩
 .show Row _ n _ [_,_,(dZ (eC D.files s ⟨f.data++lb V,f.sync⟩):Nat),_,_,_,_,_,_,_];rw[L,<-F];exact g.set 2 _
 .exact(r.eW λU a=>vF t (r.row a).1 eV.2.2.2.2.1 0 _).eW λU a=>vF g ((r.eW λU a=>vF t (r.row a).1 eV.2.2.2.2.1 0 v).row a).1 eV.2.2.2.1 2 _
 .exact(t.set 0 v).of_block (aU _ _ _ _ (λa=>q a.symm))
 .have N:l3 (x.setCell (zp (K s)) v) k 5 1 v (f.data+V.size) (dM f.data++byteCells V):=I.eW λU a=>vF t (I.row a).1 eV.2.2.1 0 _;have S:=N.eW (w':=(x.setCell (zp (K s)) v).setCell (zp n 2) u) λU a=>vF g (N.row a).1 eV.2.1 2 _;show l3 _ k _ 1 v (f.data++lb V).length (dM (f.data++lb V));rw[aO,bI,show dM (f.data++lb V)=dM f.data++byteCells V from by rw[aj9];simp[dM]];exact S
 .have:=c.sync;show f.sync<=(f.data++lb V).length;rw[aO];omega
 .rcases z with d|d
  .rw[d]at a;exact .inl a
  rw[d]at a;cases a;exact .inr dQ
 .rw[aU _ _ _ _ P,aU _ _ _ _ Q];exact e.block U E (λa=>R a.symm)
 .have G:U≠n/\U≠K s/\some U≠(H s).ownBlock:=by
   rcases l with l|⟨-,l⟩
   .exact⟨by have:=h.low.1;omega,by have:=c.low;omega,λa=>by have:=(c.own.row a.symm).2;omega⟩
   exact⟨λa=>l (by subst a;exact oF o (.inl rfl)),λa=>l (by subst a;exact oF c.row (.inr (.inl rfl))),λa=>l (oF (c.own.row a.symm).1 (.inr (.inr rfl)))⟩
  rw[aU _ _ _ _ G.1,aU _ _ _ _ G.2.1];exact e.block U E G.2.2
 by_cases a:U=n
 .subst a;exact LV o (g.set 2 u) (by simp) (by simp) (λb _ a=>by simpa using a) p
 refine jW ?_ p;rw[aU _ _ _ _ a,aU _ _ _ _ (oP p c.row (by decide))];exact e.block U (n7 p).lt (λd=>(oP p (c.own.row d.symm).1 (by decide)) rfl)
def bJ.cc8(h:bJ w k n m D K H){s:bH}{f:fK}(p:bO D.files s=f)(j:w.grownBy x (H s).ownBlock):(x.cell? (zp (K s))=some (H s)/\x.frozen? (zp (K s))=false)/\∀d,(x.setCell (zp (K s)) d).cell? (zp n 2)=(dZ D.files:Nat)/\(x.setCell (zp (K s)) d).frozen? (zp n 2)=false:=by
 have b:=h.files s f p;have⟨i,u,e,r,t⟩:=h.row;have g:n≠K s:=λa=>by have l:=b.row;rw[<-a]at l;exact eV.1 (dD l e)
 have q:Row x n 103 _:=e.grown j (λa=>eV.2.1 (dD (b.own.row a.symm).1 e));have o:Row x (K s) 112 _:=b.row.grown j (λa=>eV.2.2.1 (dD (b.own.row a.symm).1 b.row));exact⟨⟨o.lO,o.NV⟩,λd=>by have c:Row (x.setCell (zp (K s)) d) n 103 _:=q.of_block (aU _ _ _ _ g);exact⟨c.tW,c.QP⟩⟩
def AH(h:bJ w k n m D K H)(s t:aS)(hs:s<=maxLen)(ht:t.size<=100000000)(hb:k<=w):Calls prog 205 #[zp n,s,t] w (rI k n m (D.append (lb s) (lb t)) w):=by
 have q:=yT h s hs;unfold SA at q;unfold rI aL.append;rcases hd:D.down with _|_
 .rw[hd]at q;simp only[bU,dW]at q|-;rcases hf:bO D.files (lb s)with _|f
  .rw[hf]at q;simp only at q|-;have⟨r,G⟩:=aA q h;clear q h;go_in;(go_wp2_with fail);go_call r as e w' ⟨rfl,rfl⟩;go_wp2;go_ret;exact⟨rfl,⟨_,_,G⟩,gX.refl _ _ _⟩
  rw[hf]at q;simp only at q|-;have r:=aH q;have z1:∀x:dR w,x.it.cell? ⟨n,1,none⟩=some (.int .i64 (D.cap:Nat)):=λx=>(h.next x.ok).cells.2.1;have z2:∀x:dR w,x.it.cell? ⟨n,2,none⟩=some (.int .i64 (dZ D.files:Nat)):=λx=>(h.next x.ok).cells.2.2.1;have h5:=h.cap;have h7:=h.used;rw[bI];have⟨G,g⟩:=aA h hf;have⟨U,hU⟩:=fR (dZ D.files);have⟨C,hC⟩:=fR D.cap;rw[<-hU,<-hC]at h7;rw[<-hC]at h5 z1;rw[<-hU]at z2;rw[show dZ D.files=U from hU.symm,show D.cap=C from hC.symm];have⟨Y,HC⟩:=aA hU hC;clear q h hU hC;by_cases o:C<U+t.size
  .rw[aV o];have i1:(C:Int)-U<t.size:=(by omega);have i2:(U:Int)<=C:=(by omega);have i3:(C:Int)<=1048576:=(by omega);clear o h5 h7;go_in;(go_wp2_with fail);go_call r as e w' ⟨rfl,rfl⟩;(go_wp2_with fail);refine cI (by kernel_rfl) (by kernel_rfl) ?_;(repeat go_big_quiet_step (fail));refine wpQuiet_nil ?_;intro _ S;obtain⟨⟨w3,d⟩,rfl⟩:=S;have⟨b,y⟩:=aA (G.next d) (gX.cT d k m);clear d;go_wp2;go_ret;exact⟨rfl,⟨_,_,b⟩,y⟩
  rw[aP o];have i1:¬(C:Int)-U<t.size:=(by omega);have i2:(U:Int)<=C:=(by omega);have i3:(C:Int)<=1048576:=(by omega);have⟨i0,h6,h9,ha,hc⟩:=info_parts infoByte;have hi:=(G.data g).2;have L:∀x∈dM f.data,x.oneCell'=true:=λx S=>by obtain⟨c,-,rfl⟩:=dS.1 S;rfl
  obtain⟨I,X⟩:=aA L (show dZ D.files+t.size<=D.cap by rw[<-Y.zz,<-HC.zz];omega);clear o L;rcases F:D.rU with _|_
  .have z:=aH F;simp only[bU,dW,eH];go_in;(go_wp2_with fail);go_call r as e w' ⟨rfl,rfl⟩;(go_wp2_with fail);refine cI (by kernel_rfl) (by kernel_rfl) ?_;(repeat go_big_quiet_step (fail));refine wpQuiet_nil ?_;intro _ S;obtain⟨⟨w3,d⟩,rfl⟩:=S;have⟨b,y⟩:=aA (G.next d) (gX.cT d k m);have R:=aM hb d.size;obtain⟨c0,-,f0,-⟩:=b.CS g;obtain⟨A9,c9,j,-⟩:=id (b.data g).1;have N:=aH j;rw[j]at c0;have a:=(b.files _ f g).own;rw[j]at a;have P:=aH a;clear d j a F;go_wp2_with (first
    |(at_builtin;refine DU _ rfl _ _ 110 9 rfl k 5 i0 _ underlying110 underlying9 h6 h9 ha hc rfl (.slice A9 f.data.length c9) f.data.length (dM f.data) rfl P I t rfl (by omega) R ?_;intro v4 w4 u l i;obtain⟨M,Q,rfl,-⟩:=id u.reads;rw[<-N.zz]at l i;have E:=aH (b.cc8 g l);have k0:=E.zz.1.1;have T:=E.zz.1.2;have k2:=(E.2 (.slice M (f.data.length+t.size) Q)).1;have V:=(E.2 (.slice M (f.data.length+t.size) Q)).2;rw[<-Y.zz]at k2))
   have B:=b.appended g t X u l i ((U:Int)+(t.size:Int)) (by rw[Y.zz];rfl);generalize ((w4.setCell ⟨K (lb s),0,none⟩ (.slice M (f.data.length+t.size) Q)).setCell ⟨n,2,none⟩ (.int .i64 ((U:Int)+(t.size:Int))))=w5 at B|-;have⟨v,p⟩:=B;have⟨A,O⟩:=aA (y.trans p) (yU v);have h4:k<=w5.heap.size:=aM hb (A).size;have Z:=aH v;clear u l i k0 T k2 V v p;go_call O as e w6 ⟨he,-,h1⟩;rw[show aL.rU {D with files:=eC D.files (lb s) ⟨f.data++lb t,f.sync⟩}=false from z.zz]at he;subst he;have⟨h8,J⟩:=h1 z;have⟨hh,W⟩:=aA h8 (A.trans J);clear h1 h8 J;go_wp2;go_ret;exact⟨rfl,⟨_,_,hh⟩,W⟩
  have z:=aH F;simp only[bU,dW,eH];go_in;go_wp2_with fail
  go_call r as e w' ⟨rfl,rfl⟩;(go_wp2_with fail);refine cI (by kernel_rfl) (by kernel_rfl) ?_;repeat go_big_quiet_step (fail)
  refine wpQuiet_nil ?_;intro _ S;obtain⟨⟨w3,d⟩,rfl⟩:=S;have⟨b,y⟩:=aA (G.next d) (gX.cT d k m);have R:=aM hb d.size;obtain⟨c0,-,f0,-⟩:=b.CS g;obtain⟨A9,c9,j,-⟩:=id (b.data g).1;have N:=aH j;rw[j]at c0;have a:=(b.files _ f g).own;rw[j]at a;have P:=aH a;clear d j a F;go_wp2_with (first
   |(at_builtin;refine DU _ rfl _ _ 110 9 rfl k 5 i0 _ underlying110 underlying9 h6 h9 ha hc rfl (.slice A9 f.data.length c9) f.data.length (dM f.data) rfl P I t rfl (by omega) R ?_;intro v4 w4 u l i;obtain⟨M,Q,rfl,-⟩:=id u.reads;rw[<-N.zz]at l i;have E:=aH (b.cc8 g l);have k0:=E.zz.1.1;have T:=E.zz.1.2;have k2:=(E.2 (.slice M (f.data.length+t.size) Q)).1;have V:=(E.2 (.slice M (f.data.length+t.size) Q)).2;rw[<-Y.zz]at k2))
  have B:=b.appended g t X u l i ((U:Int)+(t.size:Int)) (by rw[Y.zz];rfl);generalize ((w4.setCell ⟨K (lb s),0,none⟩ (.slice M (f.data.length+t.size) Q)).setCell ⟨n,2,none⟩ (.int .i64 ((U:Int)+(t.size:Int))))=w5 at B|-;have⟨v,p⟩:=B;have⟨A,O⟩:=aA (y.trans p) (yU v);have h4:k<=w5.heap.size:=aM hb (A).size;have Z:=aH v;clear u l i k0 T k2 V v p;go_call O as e w6 ⟨he,h0,-⟩;rw[show aL.rU {D with files:=eC D.files (lb s) ⟨f.data++lb t,f.sync⟩}=true from z.zz]at he;subst he;obtain rfl:=h0 z;clear h0;have hg:=aH (GW VD VE Z h4 hd);go_wp2_with fail
  go_call hg as e w7 ⟨rfl,h2,h3⟩;have⟨H2,H3⟩:=aA h2 (A.trans h3);clear h2 h3;go_wp2;go_ret;exact⟨rfl,by have:=H2.zz;rw[<-HC.zz,hd]at this;exact this,H3⟩
 rw[hd]at q;simp only[eH]at q|-;have⟨r,G⟩:=aA q h;clear q h;go_in;go_wp2_with fail
 go_call r as e w' ⟨rfl,rfl⟩;go_wp2;go_ret;exact⟨rfl,⟨_,_,G⟩,gX.refl _ _ _⟩
variable{X:List aN}{s:bH}
def aL9{A:Program}{T:cC}{R:aN->Option (Du×List MemPlace)}{D:Du}(h:w.ownsMap A T R k n D):w.ownsMap A T R k (Maps.size D) D:=by obtain⟨b,a,c,F,d,rfl⟩:=h;exact⟨b,a,c,F,by simp[Maps.size,length_sorted],rfl⟩
def bJ.cC1{D':aL}(h:bJ w k n m D K H)(b:bH->bH)(F:D'.cap=D.cap)(J:D'.bQ<=1000000000)(I:D'.left<=9223372036854775807)(u:∀i∈D'.eW,-9223372036854775808<=i/\i<=9223372036854775807)(M:dZ D'.files<=D'.cap)(e:D'.files.length<=400)(f:tB D'.files)(d:∀p∈D'.files,jR p.1=true) (o:∃(a:Int)(A:aN),Row x n 103 [true,D'.cap,(dZ D'.files:Nat),.map m,a,D'.bQ,D'.down,D'.sC,D'.left,A]/\(-9223372036854775808<=a/\a<=9223372036854775807)/\l3 x k 3 1 A D'.eW (rT D'.eW)) {i:Nat} (l:x.ownsMap prog 9 uB m i (lD D'.files λP=>K (b P))) (c:∀P g,bO D'.files P=some g->bO D.files (b P)=g) (j:∀P y g q,bO D'.files P=some g->bO D'.files y=some q->P≠y->b P≠b y) (G:∀O,O<w.heap.size->O≠n->O≠m->x.heap[O]?=w.heap[O]?):bJ x k n m D' (λP=>K (b P)) (λP=>H (b P)):=by
 obtain⟨a,A,C,-⟩:=h.row;refine⟨o,h.low,by have:=aL9 l;rwa [EW]at this,λP g r=>?_,λP y g q r B v=>h.apart _ _ _ _ (c P g r) (c y q B) (j P y g q r B v),f,by rw[F];exact h.cap,M,e,J,I,d,u⟩;have E:=h.files _ _ (c P g r);refine E.eW λO t N z L=>G O z.lt (λs=>?_) (λs=>?_)
 .subst s;have:=dD z C;rcases L with rfl|rfl
  .exact eV.1 this
  exact eV.2.1 this
 subst s;exact gJ h.map z rfl
def aU4{p:bH×fK}(h:p∈kN l s):p∈l:=(fL.1 h).1
def aU5(l:cA)(n:bH):(kN l n).length<=l:=jE _ _
def OQ(a:tB l){s:bH}{f:fK}(h:bO l s=f):dZ (kN l s)=dZ l-f.data/\f.data<=dZ l:=by have:=yJ a s;rw[h]at this;simp at this;omega
def gX.of_map(j:Row w n 103 X)(y:k<=n/\k<=m)(f:x.os=w.os)(s:x.tape=w.tape)(r:x.output=w.output)(v:w.heap.size<=x)(e:∀z,z<w.heap.size->z≠n->z≠m->x.heap[z]?=w.heap[z]?){Y:List aN}(g:Row x n 103 Y)(t:9<X.length)(u:9<Y.length)(p:Y[9]=X[9])(q:∀z,DT w z->z≠m):gX k m w x:=⟨f,s,r,v,λz a i=>by
 rcases i with i|⟨l,o⟩
 .exact e z a (by omega) (by omega)
 .exact e z a (λc=>o (by subst c;exact oF j (.inl rfl))) l,λz d=>by
 by_cases c:z=n
 .subst c;exact LV j g t u (λb _ h=>by rwa [p]at h) d
 exact jW (e z (n7 d).lt c (q z d)) d⟩
def bJ.dropped(h:bJ w k n m D K H){s:bH}{f:fK}(G:bO D.files s=f)(u:Int)(L:u=((dZ D.files-f.data:Nat):Int)) (b:x.ownsMap prog 9 uB m i ((lD D.files K).del (.string s))) (e:(w.setCell (zp n 2) u).drew.grownBy x m):bJ x k n m {D with files:=kN D.files s} K H/\gX k m w x:=by
 have⟨d,z,o,B,q⟩:=h.row;have⟨A,N⟩:=OQ h.kV G;rw[ab5]at b;have t:n≠m:=λc=>gJ h.map o c.symm;have j:∀O,O<w.heap.size->O≠n->O≠m->x.heap[O]?=w.heap[O]?:=λO j C E=>by rw[e.block O (by simpa[World.drew]using j) (by simpa using E)];exact aU _ _ _ _ C
 have l:Row x n 103 _:=(o.set 2 u).drew.grown e (by simpa using t);have I:l3 x k 3 1 z D.eW (rT D.eW):=q.eW λO c=>j O (q.row c).1.lt (λr=>by subst r;exact eV.2.2.2.1 (dD (q.row c).1 o)) (λr=>by subst r;exact gJ h.map (q.row c).1 rfl);refine⟨h.cC1 (D':={D with files:=kN D.files s}) id rfl h.bQ h.left h.kept (by show dZ (kN D.files s)<=D.cap;have:=h.used;omega) (aM (aU5 _ _) h.many) (wK h.kV _) (λp J=>h.names p (aU4 J)) ⟨d,z,?_,B,I⟩ b (λy g M=>?_) (λ_ _ _ _ _ _ v=>v) j,gX.of_map o h.low (by rw[e.os];rfl) (by rw[e.tape];rfl) (by rw[e.output];rfl) (by have:=e.size;simpa[World.drew]using this) j l (by simp) (by simp) rfl (λO F c=>gJ h.map (n7 F) c.symm)⟩
 .show Row _ n _ [_,_,(dZ (kN D.files s):Nat),_,_,_,_,_,_,_];rw[A,<-L];exact l
 have a:bO (kN D.files s) y=some g:=M;rw[iK]at a;split at a
 .cases a
 exact a
def ar3(h:bJ w m k i D K H)(s:aS)(C:s<=maxLen):Calls prog 175 #[zp k,s] w λe G=>e=zt/\bJ G m k i {D with files:=kN D.files (lb s)} K H/\gX m i w G:=by
 obtain⟨-,-,M,S,-⟩:=h.cells;have⟨v,x⟩:=R7 h s C;rcases g:bO D.files (lb s)with _|f
 .have R:=x g;have j:kN D.files (lb s)=D.files:=by
   unfold kN;rw[qM];intro p Q;have:p.1≠lb s:=λP=>by have:=RZ h.kV (n:=p.1) (f:=p.2) Q;rw[P,g]at this;cases this
   simp[this]
  rw[j];have o:=aH h;clear h v x M;go_in;go_wp2;go_end0;exact⟨rfl,o,gX.refl _ _ _⟩
 have R:=v f g;obtain⟨y,X,l,-⟩:=h.row;have U:=l.QP;obtain⟨L,-,-,-⟩:=h.CS g;obtain⟨A,c,B,-⟩:=id (h.data g).1;rw[B]at L;have⟨O,T⟩:=OQ h.kV g;have r:=h.used;have q:=h.cap;have F:Row (w.setCell (zp k 2) ((dZ D.files:Int)-(f.data:Int):Int)).drew k 103 _:=(l.set 2 _).drew;have N:=F.JF;have t:i≠k:=gJ h.map l;have d:(w.setCell (zp k 2) ((dZ D.files:Int)-(f.data:Int):Int)).drew.ownsMap prog 9 uB i D.files (lD D.files K):=(oB h.map (aU _ _ _ _ t)).drew;have u:=keyOf_str s C;have⟨o,I,J⟩:=aB h g d;have V:(f.data:Int)<=(dZ D.files:Int):=(by omega);have W:(dZ D.files:Int)<=1048576:=(by omega);clear h v x l B O d g F r q;go_in;(go_wp2_with fail);go_region;go_wp2_with (first
  |(at_delete;refine wpList_delete_own _ rfl _ _ 101 9 rfl 107 av3 underlying101 uB i D.files (lD D.files K) rfl J _ _ rfl u ?_;intro Y b a))
 have E:=o.dropped I _ (by omega) b a.grown;have z:=aH E;clear E b a;go_wp2;go_end0;exact⟨rfl,z.1,z.2⟩
def wJ{n:Nat}{D:aL}(h:bJ w k n m D K H)(s:aS)(E:s<=maxLen)(F:k<=w):Calls prog 115 #[zp n,s] w (rI k n m (D.delete (lb s)) w):=by
 have a:=yT h s E;unfold SA at a;unfold rI aL.delete;rcases y:D.down with _|_
 .rw[y]at a;simp only[bU,dW]at a|-;rcases C:bO D.files (lb s)with _|f
  .rw[C]at a;simp only at a|-;have⟨b,v⟩:=aA a h;clear a h;go_in;(go_wp2_with fail);go_call b as e z ⟨rfl,rfl⟩;go_wp2;go_ret;exact⟨rfl,⟨_,_,v⟩,gX.refl _ _ _⟩
  rw[C]at a;simp only at a|-;have⟨b,i⟩:=aA a (yU h);unfold aL.change;rcases d:D.rU with _|_
  .simp only[bU,dW];have c:=aH d;clear a h d;go_in;(go_wp2_with fail);go_call b as e z ⟨rfl,rfl⟩;(go_wp2_with fail);go_call i as e G ⟨o,-,B⟩;rw[c.zz]at o;subst o;have⟨p,g⟩:=B c;have⟨t,u⟩:=aA (ar3 p s E) g;clear p g B;(go_wp2_with fail);go_call t as e I ⟨rfl,j,l⟩;have⟨q,r⟩:=aA j (u.trans l);clear j l;go_wp2;go_ret;exact⟨rfl,⟨_,_,q⟩,r⟩
  simp only[eH];have⟨c,x⟩:=aA d (GW VD VE h F y);clear a h d;go_in;go_wp2_with fail
  go_call b as e z ⟨rfl,rfl⟩;go_wp2_with fail
  go_call i as e G ⟨o,A,-⟩;rw[c.zz]at o;subst o;obtain rfl:=A c;clear A;go_wp2_with fail
  go_call x as e I ⟨rfl,j,l⟩;have⟨q,r⟩:=aA j l;clear j l;go_wp2;go_ret;exact⟨rfl,q,r⟩
 rw[y]at a;simp only[eH]at a|-;have⟨b,v⟩:=aA a h;clear a h;go_in;go_wp2_with fail
 go_call b as e z ⟨rfl,rfl⟩;go_wp2;go_ret;exact⟨rfl,⟨_,_,v⟩,gX.refl _ _ _⟩
def AS(h:bO l s=none)(f:fK):(eC l s f).length=l+1:=by
 induction l with
 |nil=>rfl
 |cons p l b=>
  have⟨m,g⟩:=p;rw[bO]at h;split at h
  .cases h
  rename_i a;rw[eC,aP a];split
  .rfl
  rw[cE,b h,cE]
def bJ.created{w1:aI}{base:Nat}{blk:bH->Nat}{dat:bH->aN}(h:bJ w base d m D blk dat){x:bH}(hx:bO D.files x=none)(hn:jR x=true)(hmany:D.files.length<400)(hb:base<=w) (hmap:w1.ownsMap prog 9 uB m n ((lD D.files blk).put (.string x) (.lit (.int .i64 (w:Nat))))) (hg:(w.alloc (.cells #[zs,()] 112)).grownBy w1 m) :bJ w1 base d m {D with files:=eC D.files x ⟨[],0⟩} (λy=>if y=x then w else blk y) (λy=>if y=x then .slice none 0 0 else dat y)/\gX base m w w1:=by
 obtain⟨reads,kv,h1,h2,h3⟩:=h.row;have hz:=cD w (.cells #[.slice none 0 0,.int .i64 0] 112);have hnew:=Row.new w #[.slice none 0 0,.int .i64 0] 112;rw[ab4 h.kV blk x w.heap.size ⟨[],0⟩]at hmap;have hmw:=h.map.lt;have hdm:d≠m:=fun h9=>gJ h.map h1 h9.symm;have hk:∀k,k<w.heap.size->k≠m->w1.heap[k]?=w.heap[k]?:=fun k hk h5=>by
  rw[hg.block k (by have:=hz.size;omega) (by simpa using h5)];exact hz.block k hk
 have hlen:=AS hx ⟨[],0⟩;have hu:dZ (eC D.files x ⟨[],0⟩)=dZ D.files:=by
  have:=lB h.kV x ⟨[],0⟩;rw[hx]at this;simpa using this
 have hnr:Row w1 w.heap.size 112 [.slice none 0 0,.int .i64 0]:=hnew.grown hg (by simp;omega);have hget:∀y g,bO (eC D.files x ⟨[],0⟩) y=some g->(y=x/\g=⟨[],0⟩)\/(y≠x/\bO D.files y=some g):=fun y g hy=>by
  rw[fF]at hy;by_cases e:x=y
  .rw[aV e]at hy;cases hy;exact .inl ⟨e.symm,rfl⟩
  rw[aP e]at hy;exact .inr ⟨fun h=>e h.symm,hy⟩
 refine⟨⟨⟨reads,kv,?_,h2,?_⟩,h.low,?_,fun y g hy=>?_,fun y z g g' hy hz9 hne=>?_,vX h.kV _ _,h.cap,by show dZ (eC D.files x ⟨[],0⟩)<=D.cap;rw[hu];exact h.used,by show(eC D.files x ⟨[],0⟩).length<=400;rw[hlen];omega,h.bQ,h.left,PD h.names hn,h.kept⟩,?_⟩
 .show Row _ d _ [_,_,.int .i64 (dZ (eC D.files x ⟨[],0⟩):Nat),_,_,_,_,_,_,_];rw[hu];exact h1.of_block (hk d h1.lt hdm)
 .exact h3.eW fun k h9=>hk k (h3.row h9).1.lt (fun h8=>by subst h8;exact gJ h.map (h3.row h9).1 rfl)
 .have:=aL9 hmap;rwa [EW]at this
 .rcases hget y g hy with⟨rfl,rfl⟩|⟨hne,hy'⟩
  .simp only[eH];exact⟨hnr,hb,.inl (bM _ _ _ _),cV _⟩
  simp only[aP hne];exact(h.files y g hy').eW fun k t xs hr ht=>hk k hr.lt (fun h8=>by subst h8;exact gJ h.map hr rfl)
 .rcases hget y g hy with⟨rfl,rfl⟩|⟨hny,hy'⟩
  iterate 2
   .rcases hget z g' hz9 with⟨rfl,rfl⟩|⟨hnz,hz'⟩
    .first|exact absurd rfl hne|(simp only[eH,aP hny];(exact⟨fun h9=>by have:=(h.files y g hy').row.lt;omega,fun k h9=>by simp[Value.ownBlock]⟩))
    first|(simp only[eH,aP hnz];(exact⟨fun h9=>by have:=(h.files z g' hz').row.lt;omega,fun k h9=>by simp[Value.ownBlock]at h9⟩))|simp only[aP hny,aP hnz];exact h.apart y z g g' hy' hz' hne
 exact⟨hg.os.trans hz.os,hg.tape.trans hz.tape,hg.output.trans hz.output,aM hz.size hg.size,fun k hlt hc=>by
  rcases hc with hc|⟨h5,-⟩
  .exact hk k hlt (by have:=h.low.2;omega)
  exact hk k hlt h5,fun k hd=>jW (hk k (n7 hd).lt (fun h9=>gJ h.map (n7 hd) h9.symm)) hd⟩
def EX(h:bJ w k n m D K H)(s:aS)(U:s<=maxLen)(hb:k<=w):Calls prog 208 #[zp n,s] w (rI k n m (D.create (lb s)) w):=by
 have o:=yS h;unfold L8 at o;obtain⟨-,-,-,c3,-⟩:=h.cells;have d:=aH (ar2 s w U);have⟨y,z⟩:=R7 h s U;have q:(Builtin.len_ #[101] 3 #[.map (some m)]).run prog w=.ok (.int .i64 (D.files.length:Nat)) w:=by have:=h.map.len underlying101 3;rwa [EW]at this
 unfold rI aL.create;rcases Q:D.down with _|_
 .rw[Q]at o;simp only[bU,dW]at o|-;have b:=aH o;clear o;rcases T:jR (lb s)with _|_
  .have a:=aH d;rw[T]at a;have u:=aH h;simp only[eH];clear h;rcases v:bO D.files (lb s)with _|f
   iterate 2
    ·(first|have W:=z v|have W:=y f v);clear y z q d;go_in;(go_wp2_with fail);go_call b as e l ⟨rfl,rfl⟩;(go_wp2_with fail);go_call a as e l ⟨rfl,rfl⟩;go_wp2;go_ret;exact⟨rfl,⟨_,_,u⟩,gX.refl _ _ _⟩
  have a:=aH d;rw[T]at a;simp only[aE9,dW];rcases v:bO D.files (lb s)with _|f
  .have W:=z v;simp only[MK,bU,dW];have⟨L,G⟩:=fR D.files.length;rw[<-G]at q;rw[show D.files.length=L from G.symm];have⟨J,M,A⟩:=aB G T v;clear G d y z;by_cases r:400<=L
   .rw[aV r];have i1:(400:Int)<=L:=(by omega);have u:=aH h;clear h;go_in;(go_wp2_with fail);go_call b as e l ⟨rfl,rfl⟩;(go_wp2_with fail);go_call a as e l ⟨rfl,rfl⟩;go_wp2;go_ret;exact⟨rfl,⟨_,_,u⟩,gX.refl _ _ _⟩
   rw[aP r];have i1:¬(400:Int)<=L:=(by omega);have B:=aH (yU h);unfold aL.change;rcases p:D.rU with _|_
   .simp only[bU,dW];have c:=aH p;have R:=keyOf_str s U;clear h p;go_in;(go_wp2_with fail);go_call b as e l ⟨rfl,rfl⟩;(go_wp2_with fail);go_call a as e l ⟨rfl,rfl⟩;(go_wp2_with fail);go_call B as e F ⟨C,-,Z⟩;rw[c.zz]at C;subst C;have⟨j,g⟩:=Z c;have c3:=j.cells.2.2.2.1;have P:k<=F.heap.size:=aM hb g.size;have V:=cD F (.cells #[.slice none 0 0,.int .i64 0] 112);have h4:=(j.next V).cells.2.2.2.1;have t:=(j.next V).map;have⟨O,HO,I⟩:=aB j t g;have h5:(eC D.files (lb s) ⟨[],0⟩).length<=400:=(by rw[AS A.zz];have:=J.zz;omega);have S:D.files.length<maxLen:=(by unfold maxLen;have:=J.zz;omega);have HP:=aH (N0 F.heap.size);clear j g Z V t;go_wp2_with (first
     |(at_mapUpdate;refine wpList_mapUpdate_own _ rfl _ _ _ 101 rfl 9 107 av3 underlying101 uB m D.files.length (lD D.files K) rfl HO S _ _ (.string (lb s)) rfl rfl R (.lit (.int .i64 (F.heap.size:Nat))) [] HP ?_;intro w3 i E))
    have hv:=O.created (x:=lb s) A M (by show D.files.length<400;have:=J.zz;omega) P i E;have X:=aH hv;clear hv i E;go_wp2;go_ret;exact⟨rfl,⟨_,_,X.1⟩,I.trans X.2⟩
   simp only[eH];have⟨c,N⟩:=aA p (GW VD VE h hb Q);clear h p;go_in;(go_wp2_with fail);go_call b as e l ⟨rfl,rfl⟩;(go_wp2_with fail);go_call a as e l ⟨rfl,rfl⟩;(go_wp2_with fail);go_call B as e F ⟨C,Y,-⟩;rw[c.zz]at C;subst C;obtain rfl:=Y c;clear Y;(go_wp2_with fail);go_call N as e w2 ⟨rfl,h2,h3⟩;have⟨H2,H3⟩:=aA h2 h3;clear h2 h3;go_wp2;go_ret;exact⟨rfl,H2,H3⟩
  have W:=y f v;simp only[MJ,eH];have u:=aH h;clear h y z q d;go_in;go_wp2_with fail
  go_call b as e l ⟨rfl,rfl⟩;go_wp2_with fail
  go_call a as e l ⟨rfl,rfl⟩;go_wp2;go_ret;exact⟨rfl,⟨_,_,u⟩,gX.refl _ _ _⟩
 rw[Q]at o;simp only[eH]at o|-;have⟨b,u⟩:=aA o h;clear o h y z q;go_in;go_wp2_with fail
 go_call b as e l ⟨rfl,rfl⟩;go_wp2;go_ret;exact⟨rfl,⟨_,_,u⟩,gX.refl _ _ _⟩
def bP5{f:fK}(h:bO l s=f):(kN l s).length+1<=l:=by
 induction l with
 |nil=>cases h
 |cons p l a=>
  have⟨m,g⟩:=p;rw[bO]at h;unfold kN at a|-;rw[jK];by_cases e:m=s
  .have:=jE (λp:bH×fK=>!decide (p.1=s)) l;simp only[e,decide_true,p8,bU,dW,cE];omega
  rw[aP e]at h;have:=a h;simp only[e,decide_false,DM,eH,cE];omega
def bJ.renamed{w1 w2:aI}{base:Nat}{blk:bH->Nat}{dat:bH->aN}(h:bJ w base d m D blk dat){a b:bH}{f:fK}(hf:bO D.files a=f)(hgb:bO D.files b=none)(hb:jR b=true) (hg:w.grownBy w1 m) (hmap:w2.ownsMap prog 9 uB m n ((lD (kN D.files a) blk).put (.string b) (.lit (.int .i64 (blk a:Nat))))) (hg2:w1.grownBy w2 m) :(∃blk' dat',bJ w2 base d m {D with files:=eC (kN D.files a) b f} blk' dat')/\gX base m w w2:=by
 obtain⟨reads,kv,h1,h2,h3⟩:=h.row;have hne:a≠b:=fun h9=>by rw[h9,hgb]at hf;cases hf
 rw[ab4 (wK h.kV a) blk b (blk a) f]at hmap;have hdm:d≠m:=fun h9=>gJ h.map h1 h9.symm;have hk:∀k,k<w.heap.size->k≠d->k≠m->w2.heap[k]?=w.heap[k]?:=fun k hk h4 h5=>by
  rw[hg2.block k (aW hk hg.size) (by simpa using h5)];exact hg.block k hk (by simpa using h5)
 have hr2:Row w2 d 103 _:=(h1.grown hg (by simpa using hdm)).grown hg2 (by simpa using hdm);have ho:l3 w2 base 3 1 kv D.eW.length (rT D.eW):=h3.eW fun k h9=>hk k (h3.row h9).1.lt (fun h8=>by subst h8;exact eV.2.2.2.1 (dD (h3.row h9).1 h1)) (fun h8=>by subst h8;exact gJ h.map (h3.row h9).1 rfl);have hnb:bO (kN D.files a) b=none:=by rw[iK,aP hne];exact hgb
 have hu:dZ (eC (kN D.files a) b f)=dZ D.files:=by
  have e1:=lB (wK h.kV a) b f;rw[hnb]at e1;obtain⟨e2,e3⟩:=OQ h.kV hf;simp at e1;omega
 have hlen:(eC (kN D.files a) b f).length<=400:=by
  rw[AS hnb];have:=bP5 hf;have:=h.many;omega
 have hsrc:(fun y=>if y=b then blk a else blk y)=fun y=>blk (if y=b then a else y):=by
  funext y;split<;>rfl
 rw[hsrc]at hmap;have hget:∀x g,bO (eC (kN D.files a) b f) x=some g->(x=b/\g=f)\/(x≠b/\x≠a/\bO D.files x=some g):=fun x g hx=>by
  rw[fF]at hx;by_cases e:b=x
  .rw[aV e]at hx;cases hx;exact .inl ⟨e.symm,rfl⟩
  rw[aP e,iK]at hx;split at hx
  .cases hx
  rename_i e2;exact .inr ⟨fun h=>e h.symm,fun h=>e2 h.symm,hx⟩
 refine⟨⟨_,_,h.cC1 (D':={D with files:=eC (kN D.files a) b f}) (fun y=>if y=b then a else y) rfl h.bQ h.left h.kept (by show dZ (eC (kN D.files a) b f)<=D.cap;rw[hu];exact h.used) hlen (vX (wK h.kV a) _ _) (PD (fun p hp=>h.names p (aU4 hp)) hb) ⟨reads,kv,?_,h2,ho⟩ hmap (fun x g hx=>?_) (fun x y g g' hx hy hxy=>?_) hk⟩,gX.of_map h1 h.low (by rw[hg2.os,hg.os]) (by rw[hg2.tape,hg.tape]) (by rw[hg2.output,hg.output]) (aM hg.size hg2.size) hk hr2 (by simp) (by simp) rfl (fun k hd h9=>gJ h.map (n7 hd) h9.symm)⟩
 .show Row _ d _ [_,_,.int .i64 (dZ (eC (kN D.files a) b f):Nat),_,_,_,_,_,_,_];rw[hu];exact hr2
 .rcases hget x g hx with⟨rfl,rfl⟩|⟨e1,e2,e3⟩
  .simpa using hf
  simpa[e1]using e3
 rcases hget x g hx with⟨rfl,rfl⟩|⟨e1,e2,e3⟩
 iterate 2
  .rcases hget y g' hy with⟨rfl,rfl⟩|⟨f1,f2,f3⟩
   .first|exact absurd rfl hxy|simp only[eH,aP e1];exact e2
   first|simp only[eH,aP f1];exact fun h=>f2 h.symm|simp only[aP e1,aP f1];exact hxy
def WC(h:bJ w k n m D K H)(s t:aS)(hs:s<=maxLen)(ht:t<=maxLen)(hb:k<=w):Calls prog 275 #[zp n,s,t] w (rI k n m (D.rename (lb s) (lb t)) w):=by
 have b:=yT h s hs;unfold SA at b;unfold rI aL.rename;rcases X:D.down with _|_
 .rw[X]at b;simp only[bU,dW]at b|-;rcases Z:bO D.files (lb s)with _|f
  .rw[Z]at b;simp only at b|-;have⟨c,E⟩:=aA b h;clear b h;go_in;(go_wp2_with fail);go_call c as e y ⟨rfl,rfl⟩;go_wp2;go_ret;exact⟨rfl,⟨_,_,E⟩,gX.refl _ _ _⟩
  rw[Z]at b;simp only at b|-;have⟨c,l⟩:=aA b (ar2 t w ht);rcases hn:jR (lb t)with _|_
  .have a:=aH l;rw[hn]at a;simp only[eH];have E:=aH h;clear b h l;go_in;(go_wp2_with fail);go_call c as e y ⟨rfl,rfl⟩;(go_wp2_with fail);go_call a as e y ⟨rfl,rfl⟩;go_wp2;go_ret;exact⟨rfl,⟨_,_,E⟩,gX.refl _ _ _⟩
  have a:=aH l;rw[hn]at a;simp only[aE9,dW];have⟨T,Q,A⟩:=aB hn Z (yU h);unfold aL.change;rcases o:D.rU with _|_
  .simp only[bU,dW];have j:=aH o;by_cases g:lb s=lb t
   iterate 2
    .first
      |rw[aP g]
       have e1:(s.toList==t.toList)=false:=by rw[bA];intro O;exact g (by rw[<-jL,<-jL];exact O)
       have W:=aH g;have h4:=keyOf_str s hs;have h5:=keyOf_str t ht;clear b h o l g
      |have L:s=t:=by rw[<-BG s,<-BG t,g]
       rw[aV g];have e1:(s.toList==t.toList)=true:=(by rw[L];simp);clear b h o l L g
     go_in;(go_wp2_with fail);go_call c as e y ⟨rfl,rfl⟩;(go_wp2_with fail);go_call a as e y ⟨rfl,rfl⟩;(go_wp2_with fail);go_call A as e w1 ⟨F,-,N⟩;rw[j.zz]at F;subst F
     first
      |have⟨M,r⟩:=N j
       have⟨P,B⟩:=aA (ar3 M t ht) r;clear N M r;(go_wp2_with fail);go_call P as e w2 ⟨rfl,q,u⟩;have⟨v,C⟩:=aA q (B.trans u);have c3:=q.cells.2.2.2.1;have HO:=aH q.map;have G:bO (kN D.files (lb t)) (lb s)=some f:=(by rw[iK,aP (λh=>W.zz h.symm)];exact Q);have I:bO (kN D.files (lb t)) (lb t)=none:=(by rw[iK,aV rfl]);have⟨z,R⟩:=aA G I;have Y:=aH (λ(w9:aI) (hg:w2.grownBy w9 (some m))=>(show w9.cell? ⟨n,3,none⟩=some (.map (some m))from by
        obtain⟨h7,kv,r1,-⟩:=v.row;exact(r1.grown hg (by simpa using λO=>gJ v.map r1 O.symm)).JF))
       have h6:(kN D.files (lb t)).length<maxLen:=(by have:=q.many;unfold maxLen;have O:(kN D.files (lb t)).length<=400:=this;omega);have HP:=aH (N0 (K (lb s)));clear q u G I;go_wp2_with (first
        |(at_mapUpdate;refine wpList_mapUpdate_own _ rfl _ _ _ 101 rfl 9 107 av3 underlying101 uB m (kN D.files (lb t)).length (lD (kN (kN D.files (lb t)) (lb s)) K) rfl U h6 _ _ (.string (lb t)) rfl rfl h5 (.lit (.int .i64 (K (lb s):Nat))) [] HP ?_;intro w4 p J)
        |(at_delete;refine wpList_delete_own _ rfl _ _ 101 9 rfl 107 av3 underlying101 uB m (kN D.files (lb t)).length (lD (kN D.files (lb t)) K) rfl HO _ _ rfl h4 ?_;intro w3 d i;rw[ab5]at d;have U:=aH d;have x:=i.grown;have S:=aH x;have h8:=Y w3 x;clear d i x))
       have hv:=v.renamed z R T S p J;have HV:=aH hv;clear hv p J
      |have H1:=aH (N j)
       clear N
     go_wp2;go_ret;first|exact⟨rfl,HV.1,C.trans HV.2⟩|exact⟨rfl,⟨_,_,H1.1⟩,H1.2⟩
  simp only[eH];have⟨j,V⟩:=aA o (GW VD VE h hb X);clear b h o l;go_in;go_wp2_with fail
  go_call c as e y ⟨rfl,rfl⟩;go_wp2_with fail
  go_call a as e y ⟨rfl,rfl⟩;go_wp2_with fail
  go_call A as e w1 ⟨F,h0,-⟩;rw[j.zz]at F;subst F;obtain rfl:=h0 j;clear h0;go_wp2_with fail
  go_call V as e w2 ⟨rfl,h2,h3⟩;have⟨H2,H3⟩:=aA h2 h3;clear h2 h3;go_wp2;go_ret;exact⟨rfl,H2,H3⟩
 rw[X]at b;simp only[eH]at b|-;have⟨c,E⟩:=aA b h;clear b h;go_in;go_wp2_with fail
 go_call c as e y ⟨rfl,rfl⟩;go_wp2;go_ret;exact⟨rfl,⟨_,_,E⟩,gX.refl _ _ _⟩
def bp1(v:aN)(l:List Int)(w:aI)(h:Reads w v 1 l (rT l))(u:l.length<=1000000):Calls prog 57 #[v] w λe k=>∃f,e=.returned f/\k.ownsRow w 3 1 f l (rT l)/\aR w w k:=by
 obtain⟨A,c,rfl,m,g,n,p⟩:=h;have i:(l.take l).map (Value.int .i64)=rT l:=(by rw[aT dQ];rfl);rcases A with _|⟨b,d,r⟩
 .have a:l.length=0:=by
   rcases dP l with h|h
   .exact h
   have⟨b,d,h,_⟩:=p h;cases h
  have o:=eG.1 a;subst o;exact(slices_Clone_int_nil 0 c w).mono λe k h=>⟨_,h.1,bM _ _ _ _,by rw[h.2];exact bR _ _⟩
 rcases dP l with a|a
 .have o:=eG.1 a;subst o;exact(slices_Clone_int_zero ⟨b,d,r⟩ c w).mono λe k h=>by obtain⟨f,m,g,-,n⟩:=h;exact⟨f,m,g,n⟩
 obtain⟨_,_,s,-,t⟩:=p a;cases s;refine(slices_Clone_int b d l c l w dQ (by omega) (λj q=>?_)).mono λe k h=>?_
 .rw[t j (by simpa[rT]using q)];simp[rT,List.getD,aJ q]
 obtain⟨f,m,g,-,n⟩:=h;rw[i]at g;exact⟨f,m,g,n⟩
def bo4(h:bJ w k n m D K H)(x:D.bQ<1000000000):Calls prog 48 #[zp n] w (rI k n m D.start w):=by
 have q:=C6 h;obtain⟨-,-,-,-,A,s,-⟩:=h.cells;unfold rI aL.start;rcases u:D.down with _|_
 iterate 2
  .rw[u]at s
   first
    |simp only[eH]
     have⟨b,y,g,t,j⟩:=h.row;have C:=g.frozen 6 (by simp);have c:=g.set 6 false;have z:=c.cell 5 (by simp);have B:=c.frozen 5 (by simp);have o:=c.set 5 ((D.bQ:Int)+1:Int);simp only[fA,dA,oS,oR]at z;have l:∀F,F<w.heap.size->F≠n->((w.setCell (zp n 6) false).setCell (zp n 5) ((D.bQ:Int)+1:Int)).heap[F]?=w.heap[F]?:=(λF _ d=>by rw[aU _ _ _ _ d,aU _ _ _ _ d]);have f:bJ ((w.setCell (zp n 6) false).setCell (zp n 5) ((D.bQ:Int)+1:Int)) k n m {D with down:=false,bQ:=D.bQ+1} K H:=h.bU7 rfl rfl (by show D.bQ+1<=_;omega) h.left h.kept ⟨b,y,o,t,tK (tK j g) c⟩ l;have a:gX k m w ((w.setCell (zp n 6) false).setCell (zp n 5) ((D.bQ:Int)+1:Int)):=(gX.AT g h.low.1 6 _).trans (gX.AT c h.low.1 5 _);have⟨r,i⟩:=aA f a;have v:(D.bQ:Int)<1000000000:=(by omega);clear h g c o f a l j
    |simp only[bU,dW]
     have p:=aH h;clear h
   go_in;(go_wp2_with fail);go_call q as e E ⟨rfl,rfl⟩;go_wp2;go_ret;first|exact⟨rfl,⟨_,_,r⟩,i⟩|exact⟨rfl,⟨_,_,p⟩,gX.refl _ _ _⟩
def bP1(h:bJ w k n m D K H)(V:k<=w)(h1:Int)(N:aN)(a:List Int)(s:Reads w N 1 a (rT a))(L:a.length<=1000000)(M:∀z∈a,-9223372036854775808<=z/\z<=9223372036854775807)(W:-9223372036854775808<=h1/\h1<=9223372036854775807):Calls prog 34 #[zp n,h1,N] w (rI k n m (D.fail h1 a) w):=by
 have f:=yS h;unfold L8 at f;unfold rI aL.fail;rcases J:D.down with _|_
 .rw[J]at f;simp only[bU,dW]at f|-;have⟨l,F,Q,I⟩:=aC f h (bp1 N a w s L) M;have⟨n1,n2⟩:=W;clear f h s M;by_cases A:h1<0
  iterate 2
   ·(first|rw[aV A]|rw[aP A]);go_in;(go_wp2_with fail);go_call l as e w' ⟨rfl,rfl⟩
    try
     (go_wp2_with fail);go_call Q as e y ⟨v9,rfl,d,p⟩;have c:=F.next p;have⟨r,X,t,S,T⟩:=c.row;obtain⟨i,o,rfl,-⟩:=Reads.cX d;have Y:=t.cell 7 (by simp);have f7:=t.frozen 7 (by simp);have v:=t.set 7 true;have Z:=v.cell 8 (by simp);have f8:=v.frozen 8 (by simp);have x:=v.set 8 h1;have q9:=x.cell 9 (by simp);have f9:=x.frozen 9 (by simp);have P:=x.set 9 (.slice i a o);simp only[fA,dA,oS,oR]at Y Z q9;have s:∀h0,h0<y.heap.size->h0≠n->(((y.setCell (zp n 7) true).setCell (zp n 8) h1).setCell (zp n 9) (.slice i a o)).heap[h0]?=y.heap[h0]?:=(λh0 _ q=>by rw[aU _ _ _ _ q,aU _ _ _ _ q,aU _ _ _ _ q]);have O:l3 y k 3 1 (.slice i a o) a (rT a):=.inl (vZ d V);have C:=tK (j:=9) (u:=.slice i a o) (tK (j:=8) (u:=h1) (tK (j:=7) (u:=true) O t) v) x;have B:h1=((h1.toNat:Nat):Int):=(by omega);have E:bJ (((y.setCell (zp n 7) true).setCell (zp n 8) h1).setCell (zp n 9) (.slice i a o)) k n m {D with sC:=true,left:=h1.toNat,eW:=a} K H:=c.bU7 rfl rfl c.bQ (by show h1.toNat<=_;omega) I ⟨r,.slice i a o,by
      show Row _ n _ [_,_,_,_,_,_,_,_,((h1.toNat:Nat):Int),_];rw[<-B];exact P,S,C⟩ s
     have g:gX k m w (((y.setCell (zp n 7) true).setCell (zp n 8) h1).setCell (zp n 9) (.slice i a o)):=((gX.cT p k m).trans ((gX.AT t c.low.1 7 _).trans (gX.AT v c.low.1 8 _))).cK9 x c.low.1 _ (by simp) (λb U=>dH d b U);have⟨R,G⟩:=aA E g;clear c t v x P s O C B E g d p T
    go_wp2;go_ret;first|exact⟨rfl,⟨_,_,F⟩,gX.refl _ _ _⟩|(exact⟨rfl,by have:=R.zz;rw[J]at this;exact⟨_,_,this⟩,G⟩)
 rw[J]at f;simp only[eH]at f|-;have⟨l,F⟩:=aA f h;clear f h s M;go_in;go_wp2_with fail
 go_call l as e w' ⟨rfl,rfl⟩;go_wp2;go_ret;exact⟨rfl,⟨_,_,F⟩,gX.refl _ _ _⟩
def aL.uL(a:Nat):aL:=⟨a,[],0,false,false,0,[]⟩
def ck0(w:aI)(b a:Nat)(i:a<=1048576)(u:b<=w):Calls prog 25 #[a] w λe r=>∃d,e=.returned (.tuple #[zp d,()])/\(∃m j k,bJ r b d m (aL.uL a) j k)/\aR w w r:=by
 have v:=@run_makeMap prog;have y:¬((a:Int)<0):=(by omega);have z:(a:Int)<=1048576:=(by omega);have c:=(World.ownsMap_made (H:=Unit) w prog 9 uB).alloc (.cells #[true,a,(),.map w,(),(),false,false,(),zs] 103);have o:=Row.new (w.alloc (.map #[] 0)) #[true,a,(),.map w,(),(),false,false,(),zs] 103;rw[bD]at o;have g:=((bR w w).alloc dQ (.map #[] 0)).alloc (by simp) (.cells #[true,a,(),.map w,(),(),false,false,(),zs] 103);have q:bJ ((w.alloc (.map #[] 0)).alloc (.cells #[true,a,(),.map w,(),(),false,false,(),zs] 103)) b (w+1) w (aL.uL a) (λ_=>0) (λ_=>.bool false):=
  ⟨⟨0,zs,o,by omega,.inl (bM _ _ _ _)⟩,⟨by omega,u⟩,c,(λn f h=>by cases h),(λn A f x h=>by cases h),List.Pairwise.nil,i,bK _,bK _,bK _,bK _,(λp l=>by cases l),(λp l=>by cases l)⟩
 have⟨t,s⟩:=aA q g;clear q g o c;go_in;go_wp2;go_ret2;exact⟨w.heap.size+1,rfl,⟨_,_,_,t⟩,s⟩
def XJ(D:aL)(blk:bH->Nat)(n:bH)(k:Int):aN:=match bO D.files n with
 |none=>.tuple #[.pointer none,.int .i64 4]
 |some _=>if k<0 then .tuple #[.pointer none,.int .i64 2]else .tuple #[.pointer (some ⟨blk n,0,none⟩),.int .i64 0]
def WA(h:bJ w k n m D K H)(s:aS)(j:s<=maxLen)(p:Int):Calls prog 58 #[zp n,s,p] w λe c=>e=.returned (XJ D K (lb s) p)/\w=c:=by
 have d:=C6 h;obtain⟨-,-,-,o,-⟩:=h.cells;have⟨a,b⟩:=R7 h s j;clear h;unfold XJ;rcases g:bO D.files (lb s)with _|f
 .have l:=b g;clear a b;simp only;go_in;go_wp2_with fail
  go_call d as e c ⟨rfl,rfl⟩;go_wp2;go_ret2;exact⟨rfl,rfl⟩
 have l:=a f g;clear a b;simp only;by_cases i:p<0
 iterate 2
  ·(first|rw[aV i]|rw[aP i]);go_in;(go_wp2_with fail);go_call d as e c ⟨rfl,rfl⟩;go_wp2;go_ret2;exact⟨rfl,rfl⟩
def ck1(h:bJ w k n m D K H)(s:aS)(t:s<=maxLen)(v:Int)(u:-9223372036854775808<=v/\v<=9223372036854775807):Calls prog 36 #[zp n,s,v] w (rI k n m (D.cut (lb s) v) w):=by
 have a:=WA h s t v;unfold XJ at a;unfold rI aL.cut;have j:=aH h;rcases g:bO D.files (lb s)with _|f
 .rw[g]at a;simp only at a|-;have b:=aH a;clear a h;go_in;go_wp2_with fail
  go_call b as e p ⟨rfl,rfl⟩;go_wp2;go_ret;exact⟨rfl,⟨_,_,j⟩,gX.refl _ _ _⟩
 rw[g]at a;simp only at a|-;by_cases d:v<0
 iterate 2
  ·(first|rw[aV d]at a ⊢|(rw[aP d]at a|-;(have q:=aH (ar4 h g v.toNat (by omega) v (by omega)))));have b:=aH a;(first|clear a h|clear a h g);go_in;(go_wp2_with fail);go_call b as e p ⟨rfl,rfl⟩;(try (go_wp2_with fail;go_call q as e p ⟨rfl,l,o,c⟩;have⟨r,i⟩:=aA o c;clear o c));go_wp2;go_ret;first|exact⟨rfl,⟨_,_,j⟩,gX.refl _ _ _⟩|exact⟨rfl,⟨_,_,r⟩,i⟩
section
open Go.Sort
def Reads.UK{w:aI}{A:Option Addr}(h:Reads w (.slice A n k) 1 n X)(f:0<n):∃b a,A=zp b a/\n<=k/\k<=maxLen/\X=n/\∀(e:aI),aR w w e->∀j (h:j<X.length),e.cell? (zp b (a+j))=some X[j]:=by have⟨r,s,q,g,i,t,m⟩:=h;obtain⟨rfl,-,rfl⟩:=eJ q;obtain⟨b,a,rfl,d,c⟩:=m f;exact⟨b,a,rfl,g,i,by omega,λe l j o=>(l.cell (p:=zp b (a+j)) d).trans (c j o)⟩
def UH(l:List bH)(k:Nat):Nat×Bool:=(l.take k).foldl sR (0,true)
def as1{l:List bH}(h:n<l):UH l (n+1)=sR (UH l n) l[n]:=by unfold UH;rw[jO h,mH];rfl
def cl0(l:List bH):UH l l=l.foldl sR (0,true):=by unfold UH;rw[eX]
def cy8(l:List bH):∀k,(UH l k).1<=k:=by
 intro k;induction k with
 |zero=>exact bK _
 |succ k a=>
  by_cases h:k<l
  .rw[as1 h];unfold sR;split
   .split<;>(try dsimp only)<;>omega
   omega
  have:UH l (k+1)=UH l k:=(by unfold UH;rw[aT (by omega),aT (by omega)]);rw[this];omega
def bH0{c:bB}(h:jY s=some (c,n)):n<=999999:=(TX h).2.1
def bK9(h:bJ w k n m D K H):Calls prog 116 #[zp n] w λe w'=>e=.returned (.tuple #[D.count.1,D.count.2])/\aR w w w':=by
 have P:=Q1 VD VE h;have t:=h.many;have j:∀h3∈D.names,h3.length<=12:=λh3 W=>by unfold aL.names at W;obtain⟨p,z,rfl⟩:=dS.1 W;have:=h.names p z;unfold jR at this;simp at this;exact this.2
 have J:D.names.length<=400:=(by unfold aL.names;rw[gK];exact t);unfold aL.count;generalize D.names=l at *;have Q:=aH j;have⟨N,M⟩:=fR l.length;rw[<-cl0,<-M];rw[<-M]at P J;have HL:=aH M;clear h t j M;go_in;go_wp2_with fail
 go_call P as e w1 ⟨v,rfl,y,R⟩;have E:=Reads.cX y;obtain⟨A,c,rfl,h0,S,-⟩:=id E;unfold maxLen at S;have HR:=aH E;clear P y E;go_wp2_with fail
 go_loopw [2,3,5,6,7,8,12] (λL ok _ _ _ _ i wr=>∃h1:Nat,h1<=N/\i=.int .i64 h1/\L=.int .i64 ((UH l h1).1:Nat)/\ok=.bool (UH l h1).2/\aR w w wr/\aR w1 w1 wr) (λ_ _ _ _ _ _ i _=>N-(intOf i).toNat)
 .exact⟨0,bK _,rfl,rfl,rfl,R,iH⟩
 obtain⟨h1,hk,rfl,rfl,rfl,s,g⟩:=hrel;have I:=cy8 l h1;by_cases V:h1<N
 .have i1:(h1:Int)<N:=(by omega);obtain⟨b,X,rfl,-,-,-,d⟩:=HR.UK (by omega);have U:h1<l:=(by rw[<-HL.zz];exact V);have c0:wr.cell? (zp b (X+h1))=some (bs l[h1]):=(d wr g h1 (by simp;omega)).trans (by simp;rfl);have x:(bs l[h1])<=maxLen:=(by rw[eO];have:=Q l[h1] (dC _);unfold maxLen;omega);have o:=as1 U;unfold sR at o;have B:=zZ (bs l[h1]) wr x;rw[gP]at B;generalize bs l[h1]=T at c0 B;generalize UH l h1=q at o I|-;have⟨O,Y⟩:=q;rcases z:jY l[h1]with _|⟨cc,h3⟩
  .rw[z]at B o;simp only at o;have u:=aH o;clear o d x z;(go_wp2_with fail);go_call B as e w2 ⟨rfl,f⟩;unfold xE;have r:=cU s f dQ;have a:=cU g f dQ;go_wp2;go_roundw
   .exact⟨h1+1,by omega,by go_num,by rw[u.zz],by rw[u.zz],r,a⟩
   simp[intOf];omega
  rw[z]at B o;have W:=bH0 z;simp only at o;by_cases C:cc=99
  .subst C;rw[aV rfl]at o;have u:=aH o;clear o d x z;by_cases G:Y=true
   iterate 2
    ·(try simp at G);subst G;(go_wp2_with fail);go_call B as e w2 ⟨rfl,f⟩;unfold xE;have r:=cU s f dQ;have a:=cU g f dQ;go_wp2;go_roundw;(first|(case rel=>exact⟨h1+1,by omega,by go_num,by rw[u.zz];go_num,by rw[u.zz];congr 1;rw[iX];simp;omega,r,a⟩)|(case rel=>exact⟨h1+1,by omega,by go_num,by rw[u.zz];go_num,by rw[u.zz];simp,r,a⟩));simp[intOf];omega
  rw[aP C]at o;have u:=aH o;have c9:=bt1 (c:=cc) (k:=99) (by omega) C;clear o d x z;go_wp2_with fail
  go_call B as e w2 ⟨rfl,f⟩;unfold xE;have r:=cU s f dQ;have a:=cU g f dQ;go_wp2;go_roundw
  .exact⟨h1+1,by omega,by go_num,by rw[u.zz],by rw[u.zz],r,a⟩
  simp[intOf];omega
 obtain rfl:h1=N:=(by omega);obtain⟨⟨O,Y⟩,G⟩:∃q:Nat×Bool,q=UH l h1:=⟨_,rfl⟩;rw[<-G]at I|-;have Z:=aH G;clear G;have i0:¬(h1:Int)<h1:=by omega
 cases Y with
 |false=>go_wp2;go_ret2;exact⟨by rw[<-Z.zz];rfl,s⟩
 |true=>
  by_cases h2:O<=200
  iterate 2
   ·(first|(have i2:(O:Int)<=200:=by omega)|(have i2:¬(O:Int)<=200:=by omega));go_wp2;go_ret2;exact⟨by rw[<-Z.zz];simp[h2],s⟩
end
def uT(n:Nat):lb (lR 99 (n:Int))=iJ n:=by rw[M3,gP];rfl
def bd7(c:bB)(n:Int):(lR c n).size<=7:=by
 rw[M3,eO];unfold M5;split
 .simp
 simp[SF,aU2]
def jV(c:bB)(n:Int):(lR c n)<=maxLen:=aM (bd7 c n) (by unfold maxLen;omega)
def ce2(h:bJ w k n m D K H)(i:D.down=false)(h6:Nat)(W:h6<=1000000):Calls prog 176 #[zp n,h6] w λe J=>e=.returned (.tuple #[bs (D.load h6).1.1,((D.load h6).1.2:Nat),(D.load h6).2])/\bJ J k n m D K H/\gX k m w J:=by
 have F:=λx:aI=>rR (h6:Int) x ⟨by omega,by omega⟩;have y:=λ(x:aI)(t:bJ x k n m D K H)=>uH t (lR 99 (h6:Int)) (jV _ _);have u:=λ(x:aI) (t:bJ x k n m D K H) (h5:Int) S=>wI t (lR 99 (h6:Int)) (jV _ _) 0 h5 ⟨by omega,by omega⟩ S;rw[uT]at y u;have N:=aH h;have C:bO D.files (iJ h6)=none\/∃f,bO D.files (iJ h6)=some f/\f.data.length<=1048576:=by
  rcases c:bO D.files (iJ h6)with _|f
  .exact .inl rfl
  exact .inr ⟨f,rfl,(h.data c).2⟩
 clear h;rcases C with c|⟨f,c,E⟩
 iterate 2
  .first
    |have z:D.size (iJ h6)=(f.data.length,0):=by unfold aL.size;rw[i,c];rfl
     have l:D.read (iJ h6) 0 (f.data.length:Int)=(f.data,0):=by unfold aL.read;rw[i,c];simp
     have G:D.load h6=if cOk f.data h6 then((f.data,aj8 f.data h6),0)else(([],0),63):=by unfold aL.load;rw[c]
    |have z:D.size (iJ h6)=(0,4):=by unfold aL.size;rw[i,c];rfl
     have l:D.load h6=(([],0),4):=by unfold aL.load;rw[c]
   rw[z]at y;first|((have a:=λx t=>u x t (f.data.length:Int) ⟨by omega,by omega⟩);simp only[l]at a;unfold OK at a;(have b:=λx:aI=>WI (bs f.data) (h6:Int) x (by rw[eO];omega) ⟨by omega,by omega⟩);unfold DB at b;rw[gP]at b;have j:=aH G;have⟨h0,I⟩:=fR f.data.length;rw[<-I]at y a;clear u c z l G E I;have⟨T,B⟩:=fR (bs f.data);rw[<-B]at a b;have O:=aH B;clear B)|have L:=aH l;clear u c z l
   go_in;(go_wp2_with fail);go_call F _ as e X ⟨rfl,d⟩;have A:=aH (N.next d);(go_wp2_with fail);go_call y _ A as e V ⟨rfl,rfl⟩
   first
    |go_wp2_with fail
     go_call F _ as e V ⟨rfl,o⟩;have P:=aH (A.next o);(go_wp2_with fail);go_call a _ P as e Y ⟨rfl,s,r⟩;have⟨Q,p⟩:=aA s ((gX.cT d k m).trans ((gX.cT o k m).trans r));clear s r;have j:=j.zz;rcases U:cOk f.data h6 with _|_
     all_goals
      rw[U]at b j;simp only[bU,dW,eH]at j;have M:=aH j;clear j;(go_wp2_with fail);go_call b _ as e Z ⟨v,rfl,-,g⟩;have⟨R,q⟩:=aA (Q.next g) (p.trans (gX.cT g k m));clear g;go_wp2;go_ret3;refine⟨?_,R,q⟩;rw[M.zz];(try rw[O.zz]);try rfl
    |go_wp2
     go_ret3;exact⟨by rw[L.zz];rfl,A,gX.cT d _ _⟩
variable{σ:Type}
section
open Go.Shelf
def runs(s:σ):List (σ->Int×σ)->Int×σ
 |[]=>(0,s)
 |f::fs=>if(f s).1=0 then runs (f s).2 fs else f s
def bD5{b:Type}(s:b)(a:List (b->Int×b))(k:Nat)(h:k<a):runs s (a.drop k)=if(a[k] s).1=0 then runs (a[k] s).2 (a.drop (k+1))else a[k] s:=by rw[gZ h];rfl
def al1(c:σ->aI->Prop)(a:List (σ->Int×σ))(B:Nat->Nat)(first t:Nat->Array aN)(R:Nat)(x:σ)(w:aI)(X:a.length<=100) (r:∀s w,c s w->∀k,k<a.length->w.cell? (zp R k)=some (.func (.func (B k)) (first k) (t k))) (p:∀k,k<a.length->∀o w,(callFunc (B k) o).run prog w=.ok (.enter (B k) o) w) (l:∀k (h:k<a.length),∀s w,c s w->Calls prog (B k) (first k++t k) w λe O=>e=(a[k] s).1/\c (a[k] s).2 O) (Q:c x w) :Calls prog 206 #[.slice (zp R) a a] w λe O=>e=(runs x a).1/\c (runs x a).2 O:=by
 obtain⟨V,A,y,K,I,z,J⟩:=aF Q r p l (λs k h=>bD5 s a k h) (show runs x a=runs x (a.drop 0)from by rw[mQ]) (show∀s:σ,runs s (a.drop a)=(0,s)from λs=>by rw[List.drop_length];rfl);have⟨n,u⟩:=fR a.length;have⟨N,v⟩:=fR (runs x a);rw[<-v];rw[<-v]at z;rw[<-u]at X|-;have P:=aH u;clear Q r p l u v;go_in;go_wp2_with fail
 go_loopw [2,4,5,8] (λ_ _ _ i wr=>∃(k:Nat)(s:σ),k<=n/\i=.int .i64 k/\N=runs s (a.drop k)/\c s wr) (λ_ _ _ i _=>n-(intOf i).toNat)
 .exact⟨0,x,bK _,rfl,z,V⟩
 obtain⟨k,s,Z,rfl,g,b⟩:=hrel;by_cases M:k<n
 .have i1:(k:Int)<n:=(by omega);have m:k<a:=(by rw[<-P.zz];exact M);have L:=A s wr b k m;have W:=y k m;have j:=K k m s wr b;rw[I.zz s k m]at g;have H:=aH g;clear g b;generalize first k=F at L j;generalize t k=C at L j;generalize B k=f at L W j;have⟨q,S⟩:=fR (a[k] s);rw[<-S]at j H;clear S;have⟨T,U⟩:=q;by_cases D:T=0
  iterate 2
   ·(try subst D);(go_wp2_with fail);go_call j as e w2 ⟨rfl,d⟩;have E:=aH d;(try have G:=aH (show N=(T,U)from H.trans (aP D)));clear d;go_wp2;first|(go_roundw;(case rel=>exact⟨k+1,U,by omega,by go_num,H,E⟩);(case measure=>simp[intOf];omega))|go_ret;rw[G.zz];exact⟨rfl,E⟩
 obtain rfl:k=n:=(by omega);obtain⟨G,E⟩:=aA (show N=(0,s)from g.trans (by rw[P.zz];exact J s)) b;clear b g;go_wp2;go_ret;rw[G.zz];exact⟨rfl,E⟩
end
def aO2:aS:=⟨#[110,101,119]⟩
def NJ:lb aO2=dI:=rfl
def C3:aO2<=maxLen:=by show 3<=_;unfold maxLen;omega
def cM6(h:bJ w k n m D K H)(g:k<=w)(B:Nat)(i:w.cell? (zp B)=zp n):Calls prog 279 #[zp B] w (rI k n m (D.create dI) w):=by
 have a:=EX h aO2 C3 g;rw[NJ]at a;generalize D.create dI=r at a|-;unfold rI at a|-;clear h;go_in;go_wp2_with fail
 go_call a as e j ⟨rfl,c,b⟩;have⟨f,d⟩:=aA c b;clear c b;go_wp2;go_ret;exact⟨rfl,f,d⟩
def cM5(h:bJ w k n m D K H)(j:k<=w)(B b:Nat)(T:aS)(i:T.size<=100000000)(l:w.cell? (zp B)=zp n)(o:w.cell? (zp b)=T):Calls prog 280 #[zp B,zp b] w (rI k n m (D.append dI (lb T)) w):=by
 have a:=AH h aO2 T C3 i j;rw[NJ]at a;generalize D.append dI (lb T)=r at a|-;unfold rI at a|-;clear h;go_in;go_wp2_with fail
 go_call a as e p ⟨rfl,d,c⟩;have⟨g,f⟩:=aA d c;clear d c;go_wp2;go_ret;exact⟨rfl,g,f⟩
def cM4(h:bJ w k n m D K H)(g:k<=w)(B:Nat)(i:w.cell? (zp B)=zp n):Calls prog 281 #[zp B] w (rI k n m (D.sync dI) w):=by
 have a:=GX h aO2 C3 g;rw[NJ]at a;generalize D.sync dI=r at a|-;unfold rI at a|-;clear h;go_in;go_wp2_with fail
 go_call a as e j ⟨rfl,c,b⟩;have⟨f,d⟩:=aA c b;clear c b;go_wp2;go_ret;exact⟨rfl,f,d⟩
def cM3(h:bJ w k n m D K H)(j:k<=w)(B b:Nat)(T:aS)(i:T<=maxLen)(l:w.cell? (zp B)=zp n)(o:w.cell? (zp b)=T):Calls prog 282 #[zp B,zp b] w (rI k n m (D.rename dI (lb T)) w):=by
 have a:=WC h aO2 T C3 i j;rw[NJ]at a;generalize D.rename dI (lb T)=r at a|-;unfold rI at a|-;clear h;go_in;go_wp2_with fail
 go_call a as e p ⟨rfl,d,c⟩;have⟨g,f⟩:=aA d c;clear d c;go_wp2;go_ret;exact⟨rfl,g,f⟩
def bq9(n s:bH):List (aL->Int×aL):=[fun D=>D.create dI,fun D=>D.append dI s,fun D=>D.sync dI,fun D=>D.rename dI n]
def bW9(D:aL)(f:aL->Int×aL):runs D [f]=f D:=by
 show(if(f D).1=0 then(0,(f D).2)else f D)=f D;split
 .rename_i h;exact Prod.ext h.symm rfl
 rfl
def bR6(D:aL)(n s:bH):runs D (bq9 n s)=D.GZ n s:=by show kS (D.create dI) (λD=>kS (D.append dI s) λD=>kS (D.sync dI) λD=>runs D [λD=>D.rename dI n])=_;simp only[bW9];rfl
def cI9(k:Nat):Nat:=match k with
 |0=>279
 |1=>280
 |2=>281
 |_=>282
def cA4(b1 b2 b3:Nat)(k:Nat):Array aN:=match k with
 |0=>#[.pointer (some ⟨b1,0,none⟩)]
 |1=>#[.pointer (some ⟨b1,0,none⟩),.pointer (some ⟨b3,0,none⟩)]
 |2=>#[.pointer (some ⟨b1,0,none⟩)]
 |_=>#[.pointer (some ⟨b1,0,none⟩),.pointer (some ⟨b2,0,none⟩)]
def IH:¬(67=103\/67=112\/67=5)/\¬(9=103\/9=112\/9=5)/\¬(76=103\/76=112\/76=5):=by decide
def cm6(h:bJ w k n m D K H)(M:k<=w)(R d j l:Nat)(S T:aS)(J:S<=maxLen)(L:T.size<=100000000) (z:Row w d 67 [zp n]) (A:Row w j 9 [S]) (B:Row w l 9 [T]) (C:Row w R 76 [.func (.func 279) #[] #[zp d],.func (.func 280) #[] #[zp d,zp l],.func (.func 281) #[] #[zp d],.func (.func 282) #[] #[zp d,zp j]]) :Calls prog 206 #[.slice (zp R) 4 4] w (rI k n m (D.GZ (lb S) (lb T)) w):=by
 have g:∀{Q:Nat} {t:cC} {P:List aN},Row w Q t P->Q≠m:=λi a=>gJ h.map i a.symm;have⟨N,F,O⟩:=IH;have r:∀wr,gX k m w wr->wr.cell? ⟨d,0,none⟩=some (.pointer (some ⟨n,0,none⟩)):=λwr b=>(b.row z N (g z)).lO;have G:∀wr,gX k m w wr->wr.cell? ⟨j,0,none⟩=some (.string S):=λwr b=>(b.row A F (g A)).lO;have I:∀wr,gX k m w wr->wr.cell? ⟨l,0,none⟩=some (.string T):=λwr b=>(b.row B F (g B)).lO;have o:=al1 (σ:=aL) (λE wr=>(∃K H,bJ wr k n m E K H)/\gX k m w wr) (bq9 (lb S) (lb T)) cI9 (λ_=>#[]) (cA4 d j l) R D w (by simp[bq9])
  (λE wr u Q p=>by
   have i:=u.2.row C O (g C);have q:Q<4:=p;rcases(show Q=0\/Q=1\/Q=2\/Q=3 from by omega)with rfl|rfl|rfl|rfl
   .exact i.lO
   .exact i.qD
   .exact i.tW
   exact i.JF)
  (λQ p c wr=>by
   have q:Q<4:=p;rcases(show Q=0\/Q=1\/Q=2\/Q=3 from by omega)with rfl|rfl|rfl|rfl
   .exact enters_of func279 (by kernel_rfl) rfl c wr
   .exact enters_of func280 (by kernel_rfl) rfl c wr
   .exact enters_of func281 (by kernel_rfl) rfl c wr
   exact enters_of func282 (by kernel_rfl) rfl c wr)
  (λQ p E wr u=>by
   have q:Q<4:=p;obtain⟨⟨x,y,s⟩,b⟩:=u;have f:k<=wr.heap.size:=aM M b.size;rcases(show Q=0\/Q=1\/Q=2\/Q=3 from by omega)with rfl|rfl|rfl|rfl
   .exact(cM6 s f d (r wr b)).mono λe v a=>⟨a.1,a.2.1,b.trans a.2.2⟩
   .exact(cM5 s f d l T L (r wr b) (I wr b)).mono λe v a=>⟨a.1,a.2.1,b.trans a.2.2⟩
   .exact(cM4 s f d (r wr b)).mono λe v a=>⟨a.1,a.2.1,b.trans a.2.2⟩
   exact(cM3 s f d j S J (r wr b) (G wr b)).mono λe v a=>⟨a.1,a.2.1,b.trans a.2.2⟩)
  ⟨⟨K,H,h⟩,gX.refl _ _ _⟩
 rwa[bR6]at o
def ce3(h:bJ w k n m D K H)(O:k<=w)(S T:aS)(M:S<=maxLen)(N:T.size<=100000000):Calls prog 239 #[zp n,S,T] w (rI k n m (D.GZ (lb S) (lb T)) w):=by
 have P:∀(y:Fn)(first c:Array aN)(w:aI),(Instr.makeFunc y first c).run prog w=.ok (.func y first c) w:=λ_ _ _ _=>rfl;have B:∀(x:aI)(o:Obj),aR x x (x.alloc o):=λx o=>iH.alloc dQ o;have a:Calls prog 206 #[.slice (zp (w+1+1+1)) 4 4] ((((w.alloc (.cells #[zp n] 67)).alloc (.cells #[S] 9)).alloc (.cells #[T] 9)).alloc (.cells #[.func (.func 279) #[] #[zp w],.func (.func 280) #[] #[zp w,zp (w+1+1)],.func (.func 281) #[] #[zp w],.func (.func 282) #[] #[zp w,zp (w+1)]] 76)) (rI k n m (D.GZ (lb S) (lb T)) w):=by have G:=Row.new w #[zp n] 67;have C:=B w (.cells #[zp n] 67);have j:(w.alloc (.cells #[zp n] 67)).heap.size=w+1:=bD _ _;generalize w.alloc (.cells #[zp n] 67)=g at G C j|-;have q:=Row.new g #[S] 9;have E:=B g (.cells #[S] 9);have v:(g.alloc (.cells #[S] 9)).heap.size=g+1:=bD _ _;generalize g.alloc (.cells #[S] 9)=i at q E v|-;have s:=Row.new i #[T] 9;have F:=B i (.cells #[T] 9);have I:(i.alloc (.cells #[T] 9)).heap.size=i+1:=bD _ _;generalize i.alloc (.cells #[T] 9)=u at s F I|-;rw[j]at q;rw[v,j]at s;have t:=Row.new u #[.func (.func 279) #[] #[zp w],.func (.func 280) #[] #[zp w,zp (w+1+1)],.func (.func 281) #[] #[zp w],.func (.func 282) #[] #[zp w,zp (w+1)]] 76;have p:=B u (.cells #[.func (.func 279) #[] #[zp w],.func (.func 280) #[] #[zp w,zp (w+1+1)],.func (.func 281) #[] #[zp w],.func (.func 282) #[] #[zp w,zp (w+1)]] 76);rw[I,v,j]at t;generalize u.alloc _=R at t p|-;have f:=aK F p;have d:=aK E f;have b:=aK C d;refine(cm6 (h.next b) (aM O b.size) _ _ _ _ S T M N (G.next d) (q.next f) (s.next p) t).mono λe Q l=>⟨l.1,l.2.1,(gX.cT b _ _).trans l.2.2⟩
 generalize D.GZ (lb S) (lb T)=r at a|-;unfold rI at a|-;clear h B;go_in;go_wp2_with fail
 go_call a as e Q ⟨rfl,A,z⟩;have⟨L,J⟩:=aA A z;clear A z a;go_wp2;go_ret;exact⟨rfl,L,J⟩
end Go.Proofs.YtpopikndggffaaaGreatDoor
