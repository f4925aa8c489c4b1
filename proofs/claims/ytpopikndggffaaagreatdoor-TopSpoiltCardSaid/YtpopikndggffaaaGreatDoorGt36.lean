/- TOP, part 36. -/
import Derived.Test.YtpopikndggffaaaGreatDoorGt25
import Derived.Test.YtpopikndggffaaaGreatDoorGt35
namespace Go.Proofs.YtpopikndggffaaaGreatDoor
set_option linter.all false
set_option maxRecDepth 100000
set_option maxHeartbeats 16000000
open Go.RowKit Go.Maps Tryz
variable{b:Bool}{F:Gh}{B:List kM}{c d g i j k m n q:Nat}{w:aI}{D:aL}{u v:aN}{S:dV}{o:iL}
def xV.flush{T:List jU}{M:List Nat}(H:xV w n k v u T M m):xV (w.setCell (zp k 2) M) n k v u T M M:=by
 have b:∀g t d,Row w g t d->t≠48->(w.setCell (zp k 2) M).heap[g]?=w.heap[g]?:=λg t d e f=>aU _ _ _ _ (λa=>f (by
  have c:g=k:=a;subst c;exact dD e H.1))
 exact⟨H.1.set 2 _,H.2.1,H.2.2.1.eW λg a=>b _ _ _ (H.2.2.1.row a).1 mT.1,H.2.2.2.1.eW λg a=>b _ _ _ (H.2.2.2.1.row a).1 mT.2.1,H.2.2.2.2⟩
def jH.flush(H:jH w m F k n i j S D o g q v u B d b):jH (w.setCell (zp j 2) ((kZ B):Nat)) m F k n i j S D o g q v u B B b:=by have a:=H.mod.flush;have c:=H.aO5 (Bs':=B) (jI w (zp j 2) ((kZ B):Nat)) a rfl rfl;rwa [show(kZ B).length=B from gK ..]at c|-
def QK(d a c:Int)(b:Bool):Prop:=(c=0/\d=6)\/(c=0/\d=7)\/(c=0/\d=8)\/(c=60/\d=7)\/(c=60/\d=8)\/(c=61/\d=6/\b=true)\/(c=61/\d=7/\b=true)\/(c=61/\d=8/\b=true)\/(c=4/\d=8)\/(c=2/\d=8/\a<0)\/(c=2/\d=8/\¬a<0/\5<=a)
def tF(a:List kM)(S:Nat)(c b:Int):Nat:=if b=0/\c≠8 then a.length else S
def aI3(H:jH w m F k n i j S D o g q v u B d false)(hb:m<=w)(p:Sp)(x:An)(hc:QK p.k p.a x.r D.down):Calls prog 20 #[zp k,.agg p.c,.agg x.v,true] w (sU m F k D o g q B (tF B d p.k x.r) w):=by
 obtain⟨c,h4,Z,-,s,z⟩:=au7 w p.c x.v;have⟨kd,st,a,b,EA,En,Ec,KA,Kn,Kc,tx⟩:=p;have⟨E,hf,A9,k9,c9⟩:=x;dsimp only[Sp.c,An.v]at *;have X:=H.next Z;have G:=jI c ⟨j,2,none⟩ (.int .i64 ((kZ B).length:Nat));have hF:=X.flush;have M:w.heap.size≠j:=λh=>(by have:=H.mod.1.lt;omega);have N:w.heap.size+1≠j:=λh=>(by have:=H.mod.1.lt;omega);have t:=s.of_block (G.block _ s.lt (λh=>M (cJ h)));have f:=z.of_block (G.block _ z.lt (λh=>N (cJ h)));have P:=aH (bf7 j v u _ (kZ B) d c X.mod.r);have W:∀(x:aI)(S':Nat),jH x m F k n i j S D o g q v u B S' false->∀y:dR x,(y.it.cell? ⟨k,0,none⟩=some (.pointer (some ⟨n,0,none⟩)))/\Calls prog 28 #[.pointer (some ⟨n,0,none⟩)] y.it (λe w'=>e=.returned (.pointer (some ⟨S.d,0,none⟩))/\y.it=w')/\Calls prog 29 #[.pointer (some ⟨S.d,0,none⟩)] y.it (λe w'=>e=.returned (.bool (!D.down))/\y.it=w'):=λx S' HX y=>(by have H9:=HX.next y.ok;have⟨h8,ha,hd⟩:=H9.pN.it.eI;exact⟨H9.row.lO,yI H9.pN,BP hd⟩);have L:∀x:aI,aR w.heap.size w x->aR m w x:=λx I=>⟨I.os,I.tape,I.output,I.size,λhe hk=>I.block he (aW hk hb)⟩;have h7:m<=j:=H.mod.2.1;have J:∀y:aI,aR c.heap.size c y->sU m F k D o g q B d w (.returned (.bool true)) y:=λy O=>H.TS hb (aK Z O);have K:∀y:aI,aR (c.setCell ⟨j,2,none⟩ (.int .i64 ((kZ B).length:Nat))).heap.size (c.setCell ⟨j,2,none⟩ (.int .i64 ((kZ B).length:Nat))) y->sU m F k D o g q B B.length w (.returned (.bool true)) y:=λy O=>(by have h1:=hF.next O;have h2:=L c Z;refine⟨rfl,⟨O.os.trans (G.os.trans h2.os),O.tape.trans (G.tape.trans h2.tape),O.output.trans (G.output.trans h2.output),aM h2.size (aM G.size O.size),λhe hk=>?_⟩,n,i,j,S,v,u,h1⟩;have h0:he<c.heap.size:=aW hk (aM hb Z.size);exact(O.block he (aW h0 G.size)).trans ((G.block he h0 (λh=>by have:=cJ h;simp only at this;omega)).trans (h2.block he hk)));have⟨Y,KF,E0,EF⟩:=aC (W c d X) (W _ _ hF) J K;have z1:w.cell? ⟨k,1,none⟩=some (.pointer (some ⟨j,0,none⟩)):=H.row.qD;have lr:=H.row.lt;have C:=aH h4;clear G M N W L J K hF h4;have r:=hc;unfold QK at r;clear hc h7;have⟨R,hR⟩:=fR (sU m F k D o g q B (tF B d kd E) w);rw[<-hR];have T:E=0/\kd≠8->R=sU m F k D o g q B B.length w:=λh=>(by rw[hR];unfold tF;rw[aV h]);have Q:¬(E=0/\kd≠8)->R=sU m F k D o g q B d w:=λh=>(by rw[hR];unfold tF;rw[aP h]);clear hR H Z;have⟨up,h3⟩:=fR (!D.down);have⟨HD,HU⟩:=aA (λy:dR c=>(Y y).2.1) (λy:dR c=>(Y y).2.2);rw[<-h3]at HU;have A:=aH (λ(hh:E=60\/E=61/\D.down=true)(y:aI)=>(show Calls prog 39 #[.int .i64 E,.bool up] y (λe w'=>e=.returned (.bool true)/\y=w')from by
  have h:=RD E up y;rwa[show(decide (E=60)||(decide (E=61)&&!up))=true from by rcases hh with S|⟨S,he⟩<;>simp[*]]at h))
 clear h3;rcases r with⟨rfl,rfl⟩|⟨rfl,rfl⟩|⟨rfl,rfl⟩|⟨rfl,rfl⟩|⟨rfl,rfl⟩|⟨rfl,rfl,V⟩|⟨rfl,rfl,V⟩|⟨rfl,rfl,V⟩|⟨rfl,rfl⟩|⟨rfl,rfl,U⟩|⟨rfl,rfl,U,h5⟩
 iterate 2
  .have HE:=aH (T (by decide));have h6:=P.zz;have y1:=λy:dR (c.setCell ⟨j,2,none⟩ (.int .i64 ((kZ B).length:Nat)))=>(f.next y.ok).lO;have k1:=t.lO;have k2:=f.lO;clear T Q s z t f P Y E0 X HD HU A;go_in;go_wp2_with fail;rw[<-C.zz];clear z1 lr C;go_call h6 as e x1 ⟨rfl,rfl⟩;go_wp2_with fail;refine cI (by kernel_rfl) (by kernel_rfl) ?_
   (repeat go_big_quiet_step (fail));refine wpQuiet_nil ?_;intro _ I;obtain⟨⟨wq,l⟩,rfl⟩:=I;have HQ:=aH (EF _ l);clear l;go_wp2;rw[HE.zz];exact HQ
 all_goals
  try have i1:=bZ U
  try have i1:=bN U
  try have i2:=bZ h5
  try have HR:=aH (A (.inl rfl))
  try have HR:=aH (A (.inr ⟨rfl,V⟩))
  have HE:=aH (Q (by decide));have y1:=λy:dR c=>(z.next y.ok).lO;have y2:=λy:dR c=>(s.next y.ok).lO;have y3:=λy:dR c=>(Y y).1;clear T Q s z t f P KF EF X z1 lr Y A;go_in;go_wp2_with fail;rw[<-C.zz];clear C;refine cI (by kernel_rfl) (by kernel_rfl) ?_
  repeat go_big_quiet_step (first|(go_at_call 28;exact CY _ (HD _))|(go_at_call 29;exact CY _ (HU _))|(go_at_call 39;exact CY _ (HR _)))
  refine wpQuiet_nil ?_;intro _ I;obtain⟨⟨wq,l⟩,rfl⟩:=I;have HQ:=aH (E0 _ l);clear l;go_wp2;rw[HE.zz];exact HQ
variable{I:aZ}{G:cS}
def bK3(a:List kM)(k:Nat):(kZ a).take k=kZ (a.take k):=by unfold kZ;rw[qX]
def cO7(w:aI)(a W:Nat)(q:Nat)(h:dV)(D:aL)(G:cS)(I:aZ)(b d:Nat)(T:List jU)(y:aI)(e:eY)(x:aI):Prop:=∃(A:Option Addr)(c:Nat),e=.returned (.tuple #[.slice A T.length c,.int .i64 0])/\wL x (.slice A T.length c) T/\oH y a W q h (some (G,I)) D (some (G,I)) b d x
def cr1(H:iY w k n i S D (some (G,I)) d g)(P:gW q g m D (some (G,I)) B j)(s:m<90)(o:k<=w):Calls prog 44 #[zp i] w (cO7 w k n i S D G I d g (B.flatMap dO) w):=by have a:oE w k i S D G I d g:=H.it;have⟨f,h,p⟩:=a.sys.eI;have⟨C,l⟩:=P.stP s;go_call al6 a p l o as e x ⟨t,rfl,b,r⟩;obtain⟨A,c,rfl,-⟩:=Reads.cX b;exact⟨A,c,rfl,⟨Reads.cX b,QT P.mU⟩,sM.bu9 H (sM.kept a r) (show(0:Int)≠61 by decide)⟩
def jH.cut{x:aI}(H:jH w m F k n i j S D o q c v u B d b)(p:lG B)(r:g<=B)(J:d<=g){e:eY} (K:aY4 w (B.flatMap dO) (kZ B) d ((B.take g).flatMap dO) e x\/af2 w m j v u (B.flatMap dO) (kZ B) d ((B.take g).flatMap dO) e x) :e=true/\∃a f,jH x m F k n i j S D o q c a f (B.take g) g b:=by
 have⟨y,z⟩:=cH9 p r J;rcases K with⟨-,l,-⟩|⟨L,a,f,C,E,t,h,G,I⟩
 .exact absurd y (l g)
 have A:=z L E;subst A;rw[al2,bK3]at t;exact⟨C,a,f,H.aO5 ⟨h.os,h.tape,h.output,h.size,λg r s=>h.block g r (λl=>s (by rw[l])) (by simp)⟩ t G I⟩
def af5(a:Nat)(F:Gh)(r:Nat)(D:aL)(o:iL)(b c:Nat)(f:List kM)(S:Nat)(w:aI)(e:eY)(d:aI):Prop:=e=.returned (.bool true)/\aR a w d/\UO d a F r D o b c f S false
def av5(H:jH w m F k n i j S D none g q v u B d false)(z:m<=w)(G:Int)(l:Option Addr)(r p:Nat)(b:D.down=true):Calls prog 21 #[zp k,.agg #[(61:Int),G,.slice l r p]] w (af5 m F k D none g q B d w):=by
 have h:=cD w (.cells #[(61:Int),G,.slice l r p] 63);have c:=H.next h;have s:=yI c.pN;have a:=rK c.pN;have o:=(by
  have⟨x,y,A⟩:=c.pN.it.eI;exact BP A:Calls prog 29 #[zp S.d] _ λe f=>e=(!D.down)/\_=f)
 rw[b]at o;have E:w.cell? (zp k)=some (.pointer (some ⟨n,0,none⟩)):=H.row.lO;have C:=H.row.lt;have t:=aH (H.TS z h);unfold sE at a;clear H c h b;go_in;go_wp2_with fail
 go_call s as e f ⟨rfl,rfl⟩;go_wp2_with fail
 go_call o as e f ⟨rfl,rfl⟩;go_wp2_with fail
 go_call a as e f ⟨rfl,rfl⟩;go_wp2;go_ret;exact t
def ah5{p r:Nat}(H:jH w m F k n j d S D (some (G,I)) c p v u B g false)(V:m<=w)(h8:Int)(X:Option Addr)(k9 Z:Nat)(z:lG B)(Q:B.length<=1000)(b:q<=B)(hS:g<=q)(P:gW r p i D (some (G,I)) (B.take q) q)(hs:i<90):Calls prog 21 #[zp k,.agg #[(),h8,.slice X k9 Z]] w (af5 m F k D (some (G,I)) c p (B.take q) q w):=by
 have o:=cD w (.cells #[(),h8,.slice X k9 Z] 63);have E:=H.next o;have M:=rK E.pN;have J:=cr1 E.pN P hs (aM V o.size);have z0:w.cell? (zp k)=some (.pointer (some ⟨n,0,none⟩)):=H.row.lO;have lr:=H.row.lt;have h0:=CR z.uW;have R:=CR P.mU.uW;have h1:(B.take q).length<=1000:=(by rw[b8];omega);have h2:(kZ B).length=B:=gK ..;have t:=YD B;have U:∀h7,JX (kZ B) h7<=(B.flatMap dO):=λh7=>by
  rw[t h7];conv=>rhs;rw[<-bX h7 B]
  rw[eB,aO];omega
 have l:=aH (λ(x:aI) (K:oH (w.alloc (.cells #[(),h8,.slice X k9 Z] 63)) m n j S (some (G,I)) D (some (G,I)) c p x) (A:Option Addr) (h6:Nat) (W:wL x (.slice A ((B.take q).flatMap dO) h6) ((B.take q).flatMap dO))=>show x.cell? (zp k 1)=zp d/\Calls prog 45 #[zp d,.slice A ((B.take q).flatMap dO) h6] x (λe y=>e=true/\af5 m F k D (some (G,I)) c p (B.take q) q w (.returned true) y)from by
  have⟨q',h',Y⟩:=E.to K;have f:=E.pN.ME K;have a:aR m w x:=⟨f.os.trans o.os,f.tape.trans o.tape,f.output.trans o.output,aM o.size f.size,λq b=>(f.block q b).trans (o.block q (aW b V))⟩;refine⟨Y.row.qD,(bF0 Y.mod _ _ W (by omega) (by omega) (by omega) U).mono ?_⟩;intro e y hc;have h:aR m x y:=by
   rcases hc with⟨-,-,C⟩|⟨h7,a1,a2,-,-,-,O,-⟩
   .exact⟨C.os,C.tape,C.output,C.size,λq b=>C.block q (aW b (aM V a.size))⟩
   exact⟨O.os,O.tape,O.output,O.size,λq b=>O.block q (aW b (aM V a.size)) (λC=>by have:=H.mod.2.1;omega) (by simp)⟩
  have⟨e1,h3,h5,H3⟩:=Y.cut z b hS hc;exact⟨e1,rfl,⟨h.os.trans a.os,h.tape.trans a.tape,h.output.trans a.output,aM a.size h.size,λq b=>(h.block q b).trans (a.block q b)⟩,n,q',d,h',h3,h5,H3⟩)
 generalize hT:(B.take q).flatMap dO=T at J l;generalize hN:T=N at l;unfold cO7 at J;rw[hN]at J;unfold sE at M;clear H E o z Q b hS P hs h0 R h1 h2 t U hT hN;have L:=aH J;clear J;go_in;go_wp2_with fail
 go_call M as e w' ⟨rfl,rfl⟩;go_wp2_with fail
 go_call L as e x ⟨A,h6,rfl,W,hK⟩;have⟨c1,s⟩:=l x hK A h6 W;have HC:=aH s;clear hK W s l L;go_wp2_with fail
 go_call HC as e y ⟨rfl,hE⟩;have HE:=aH hE;clear hE;go_wp2;go_ret;exact HE
variable{s:bH}
def aY9(nm d:bH):Prop:=(nm=fE->sB d=false)/\(nm≠fE->kT d=false)
def br5(w:aI)(a:Nat)(F:Gh)(r W g:Nat)(D:aL)(o:iL)(c d:Nat)(l m:aN)(i:List kM)(S:Nat)(h:Bool)(nm:bH)(e:eY)(x:aI):Prop:=∃b:Bool,e=.returned (.bool b)/\(b=false->∀f,bO D.files nm=some f->aY9 nm f.data)/\aR a w x/\∃k j,jH x a F r W k g j D o c d l m i S h
def cC6(nm:aS)(h:lb nm=fE):(nm.toList==[109,97,112])=true:=by rw[jL,h];rfl
def cd1(nm:aS)(h:lb nm≠fE):(nm.toList==[109,97,112])=false:=by rw[jL,bA];exact h
def jH.bx9(H:jH w m F k n i j S D o g q v u B d b){s:bH}{f:fK}(h:bO D.files s=f):f.data.length<=1048576:=by have⟨c,e,a⟩:=H.pN.it.eI;have l:=(TE a.kV h 0).2;have p:=a.used;have r:=a.cap;omega
def jH.size{w:aI}{base n W k g:Nat}{h:dV}{D:aL}{v:aN}{B:List kM}{m:Nat}{b:Bool}(H:jH w base F n W k g h D o i j v u B m b)(nm:aS)(f:nm<=maxLen):Calls prog 30 #[zp h.d,nm] w λe l=>e=.returned (.tuple #[((D.size (lb nm)).1:Nat),(D.size (lb nm)).2])/\w=l:=by have⟨a,c,d⟩:=H.pN.it.eI;exact uH d nm f
def jH.read(H:jH w m F k n i j S D o g q v u B d b)(nm:aS)(y:nm<=maxLen)(C:Nat)(A:C<=1048576):Calls prog 31 #[zp S.d,nm,(),C] w λe h=>e=.returned (.tuple #[bs (D.read (lb nm) 0 C).1,(D.read (lb nm) 0 C).2])/\aR m w h/\∃f c,(c.d=S.d)/\jH h m F k n f j c D o g q v u B d b:=by have⟨l,p,t⟩:=H.pN.it.eI;go_call wI t nm y 0 C (by omega) (by omega) as e h ⟨rfl,z,x⟩;have a:=H.pN.aB6 rfl ⟨_,_,z⟩ x;refine⟨rfl,H.pN.ME a,?_⟩;have⟨f,c,r,s,E⟩:=a;exact⟨f,c,r.1,H.eW s E⟩
def aK2{f:fK}(a:D.down=false)(b:bO D.files s=f):D.size s=(f.data.length,0)/\D.read s 0 (f.data:Int)=(f.data,0):=by unfold aL.size aL.read;rw[a,b];refine⟨rfl,?_⟩;simp
def bD3(a:D.down=false)(b:bO D.files s=none):D.size s=(0,4):=by unfold aL.size;rw[a,b];rfl
def cx8(s:bH):PZ s=0\/PZ s=90:=by unfold PZ;split<;>simp
def cq7(s:bH):yK s=0\/yK s=90:=by unfold yK;split<;>simp
def bD6(H:jH w m F k n i j S D o g q v u B d b)(hb:m<=w)(nm:aS)(hs:nm.size<=1000000)(G:D.down=false):Calls prog 32 #[zp k,nm] w (br5 w m F k n j D o g q v u B d b (lb nm)):=by
 have Z:=yI H.pN;have J:=H.size nm (by unfold maxLen;omega);have z0:=H.row.lO;cases K:bO D.files (lb nm)with
 |none=>
  rw[bD3 G K]at J;have HE:=aH (show br5 w m F k n j D o g q v u B d b (lb nm) (.returned false) w from⟨false,rfl,(λ_ f r=>by rw[K]at r;cases r),iH,i,S,H⟩);clear H hb G K;go_in;go_wp2_with fail
  go_call Z as e w' ⟨rfl,rfl⟩;go_wp2_with fail
  go_call J as e w' ⟨rfl,rfl⟩;go_wp2;go_ret;exact HE
 |some f=>
  have I:=H.bx9 K;have⟨r1,r2⟩:=aK2 G K;have M:=H.read nm (by unfold maxLen;omega) f.data I;rw[r2]at M;rw[r1]at J;simp only at M J;have Q:=λy=>bX9 (bs f.data) y (by rw[eO];omega);have O:=λy=>bY1 (bs f.data) y (by rw[eO];omega);simp only[gP]at Q O;have c:=aH (λ(h2:Bool) (x y:aI) (a:aR m w x) (l:aR x x y) (q':Nat) (h':dV) (Y:jH x m F k n q' j h' D o g q v u B d b) (E:h2=false->aY9 (lb nm) f.data)=>show br5 w m F k n j D o g q v u B d b (lb nm) (.returned h2) y from⟨h2,rfl,λr f' W=>by rw[K]at W;cases W;exact E r,⟨l.os.trans a.os,l.tape.trans a.tape,l.output.trans a.output,aM a.size l.size,λh3 hk=>(l.block h3 (aW hk (aM hb a.size))).trans (a.block h3 hk)⟩,q',h',Y.next l⟩);have E:∀h2:Bool,(lb nm=fE/\h2=decide (PZ f.data=0))\/(lb nm≠fE/\h2=decide (yK f.data=0))->h2=false->aY9 (lb nm) f.data:=by
   intro h2 r T;rcases r with⟨e1,N⟩|⟨e1,N⟩
   .refine⟨λ_=>?_,λh8=>absurd e1 h8⟩;cases hg:sB f.data with
    |false=>rfl
    |true=>rw[cw8 hg,T]at N;cases N
   refine⟨λh8=>absurd h8 e1,λ_=>?_⟩;cases hg:kT f.data with
   |false=>rfl
   |true=>unfold yK at N;rw[hg,T]at N;cases N
  have h:=aH E;have h1:(lb nm=fE/\(nm.toList==[109,97,112])=true)\/(lb nm≠fE/\(nm.toList==[109,97,112])=false):=by
   by_cases r:lb nm=fE
   .exact .inl ⟨r,cC6 nm r⟩
   exact .inr ⟨r,cd1 nm r⟩
  have hE:=cx8 f.data;have R:=cq7 f.data;have⟨n9,L⟩:=fR f.data.length;rw[<-L]at M J I;unfold bs3 at O;generalize PZ f.data=eM at O hE h;generalize yK f.data=eT at Q R h;generalize f.data=X at Q O M c h L;clear E H hb G K r1 r2 L;go_in;go_wp2_with fail
  go_call Z as e w' ⟨rfl,rfl⟩;go_wp2_with fail
  go_call J as e w' ⟨rfl,rfl⟩;go_wp2_with fail
  go_call M as e x ⟨rfl,a,q',h',-,Y⟩;have⟨t,C⟩:=aA a Y;clear a Y J M Z;go_wp2_with fail
  go_call Q _ as e y ⟨v1,rfl,-,U⟩;have P:=aH U;clear U Q;go_wp2_with fail
  go_call O _ as e z ⟨x1,x2,x3,A4,k4,c4,rfl,V⟩;have A:=aH (aK (aK P V) (cD z (.cells #[x1,x2,zu x3,.slice A4 k4 c4] 57)));clear V O P;rcases h1 with⟨s,h0⟩|⟨s,h0⟩
  .have p:=aH s;clear s;rcases hE with rfl|rfl
   .go_wp2;go_ret;exact c true _ _ t A _ _ C (h _ (.inl ⟨p,rfl⟩))
   go_wp2;go_ret;exact c false _ _ t A _ _ C (h _ (.inl ⟨p,rfl⟩))
  have p:=aH s;clear s;rcases R with rfl|rfl
  .go_wp2;go_ret;exact c true _ _ t A _ _ C (h _ (.inr ⟨p,rfl⟩))
  go_wp2;go_ret;exact c false _ _ t A _ _ C (h _ (.inr ⟨p,rfl⟩))
def cm1(H:iY w k n m S D (some (G,I)) i j)(s:Sp)(d:s.k<1\/14<s.k):Calls prog 37 #[zp n,.agg s.c] w (aF0 k m S i j (λg O T l o p=>g=2/\O=0/\T=[]/\l=D/\o=G/\p=I) w):=by have e:oE w k m S D G I i j:=H.it;have⟨q,r,h⟩:=e.sys.eI;have f:=aH (sM.kept (er:=2) e ((lL.start e h).next (aK (cD w (.cells s.c 35)) (cD _ (.cells #[(2:Int),(),zs] 63)))));have⟨c,M,a,b,t,x,u,y,Kn,z,N⟩:=s;dsimp only[Sp.c]at f d|-;obtain⟨A,B,C,E,F,J,K,L⟩:(c==1)=false/\(c==2)=false/\(c==3)=false/\(c==4)=false/\(c==5)=false/\(c==6)=false/\(c==7)=false/\(c==8)=false:=(by simp;omega);clear d H e h;go_in;go_wp2;refine bE (v:=.agg #[(2:Int),(),zs]) (by simp[results,results37,go_sem]) rfl ⟨2,0,none,0,0,[],D,G,I,rfl,⟨rfl,rfl,rfl,rfl,rfl,rfl⟩,bM _ _ _ _,f⟩
end Go.Proofs.YtpopikndggffaaaGreatDoor
