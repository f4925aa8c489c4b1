/- TOP, part 23. -/
import Derived.Test.YtpopikndggffaaaGreatDoorGm21
namespace Go.Proofs.YtpopikndggffaaaGreatDoor
set_option linter.all false
set_option maxRecDepth 100000
set_option maxHeartbeats 16000000
open Go.RowKit Go.Maps Tryz
variable{M:List Nat}{d g i j k m n:Nat}{w x y:aI}{u v z:aN}
def mH(m:iY)(a:aN):List aN:=[.int .i64 (m.next:Nat),.int .i64 (m.check:Nat),.int .u64 (m.aZ:Nat),a]
def aQ7(w:aI)(v:aN)(m:iY):Prop:=∃a,v=.agg (mH m a).toArray/\wH w a m.fC
def aQ7.next{w:aI}{v:aN}{M:iY}(h:aQ7 w v M)(c:aS w.heap.size w x):aQ7 x v M:=by obtain⟨d,a,b⟩:=h;exact⟨d,a,b.next c⟩
structure L0(m:iY):Prop where
 next:m.next<4294967296
 check:m.check<4294967296
 aZ:m.aZ<18446744073709551616
 len:m.fC.length<=1000
 flat:m.fC.flatten.length<=100000
 cz0:∀n∈m.fC.flatten,n<4294967296
def co6{w:aI}(n k B:Nat)(c:w.cell? ⟨B,0,none⟩=some (.int .i64 k)):
 Calls prog 242 #[.int .i64 n,.pointer (some ⟨B,0,none⟩)] w λe b=>e=.returned (.bool (decide (k<=n)))/\w=b:=by
  go_in;by_cases h:k<=n
  .have a:(k:Int)<=n:=(by omega);go_wp2;go_ret;simp[h]
  have a:¬(k:Int)<=n:=(by omega);go_wp2;go_ret;simp
def xI(h:M[n]?=some k)(b:n<(gJ M).length):(gJ M)[n]=.int .i64 k:=by obtain⟨a,rfl⟩:=aR.1 h;simp[gJ,MO]
def aw7(w:aI)(b:Bool)(e:eT)(a:aI):Prop:=(∃i:Int,e=.returned (.int .i64 i)/\(0<=i↔b=true)/\-1<=i/\i<=1000000)/\w=a
def bc4(h:Reads w v 1 M.length (gJ M))(Q:M.length<=100000)(k B:Nat)(I:w.cell? ⟨B,0,none⟩=some (.int .i64 k)):
 Calls prog 284 #[v,.func (.func 242) #[] #[.pointer (some ⟨B,0,none⟩)]] w (aw7 w (M.any λn=>decide (k<=n))):=by
  unfold aw7;obtain⟨A,c,rfl,C,P,-⟩:=id h;have o:=λO=>Reads.W1 h O;have z:=λn=>co6 (w:=w) n k B I;obtain⟨n,E⟩:∃n,n=M.length:=⟨_,rfl⟩;rw[<-E]at Q C o|-;have⟨G,t,l⟩:=aB E o (λ(j x:Nat)(f:M[j]?=some x)(p:k<=x)=>(List.any_eq_true.2 ⟨x,bD f,cJ p⟩:(M.any λn=>decide (k<=n))=true));have d:=aH (λ(q:∀(j x:Nat),M[j]?=some x->¬k<=x)=>(show(M.any λn=>decide (k<=n))=false from by
   rw[List.any_eq_false];intro x f;obtain⟨j,K,rfl⟩:=eS f;simpa using q j _ (aK K)))
  obtain⟨R,J⟩:∃R,R=M.any λn=>decide (k<=n):=⟨_,rfl⟩;rw[<-J]at l d|-;have U:∀g w,(callFunc 242 g).run prog w=.ok (.enter 242 g) w:=λ_ _=>(by kernel_rfl);clear h E o J I;go_in;go_wp2_with fail
  go_loopw [5,8] (λ_ i wr=>∃j:Nat,j<=n/\i=.int .i64 j/\wr=w/\∀i x:Nat,i<j->M[i]?=some x->¬k<=x) (λ_ i _=>n-(intOf i).toNat)
  .exact⟨0,bO _,rfl,rfl,λi x h=>by omega⟩
  obtain⟨j,K,rfl,rfl,r⟩:=hrel;by_cases D:j<n
  .have S:(j:Int)<n:=(by omega);obtain⟨b,T,rfl,-,-,m,a⟩:=t.out (by omega);obtain⟨x,f⟩:∃x,M[j]?=some x:=⟨_,aK (by have:=G.out;omega)⟩;have N:=a wr (aY _ _) j (by rw[m];exact D);rw[xI f]at N;have s:=z x;have⟨L,H⟩:=aA r f;clear r f a m z;by_cases p:k<=x
   iterate 2
    .first|rw[cJ p]at s;have u:=aH (l.out j x H.out p)|rw[cC p]at s
     (go_wp2_with fail);refine s.mono ?_;rintro e W ⟨rfl,rfl⟩;clear s;go_wp2
     first
      |go_ret
       exact⟨⟨j,rfl,⟨λ_=>u.out,λ_=>by omega⟩,by omega,by omega⟩,rfl⟩
      |go_roundw
       .
        refine⟨j+1,by omega,by go_num,trivial,λi y V F=>?_⟩;rcases cR i j with q|q
        .exact L.out i y q F
        obtain rfl:i=j:=(by omega);rw[H.out]at F;cases F;exact p
       simp[intOf];omega
  obtain rfl:j=n:=(by omega);have S:¬(j:Int)<j:=(by omega);have u:=aH (d.out (λi x f=>r i x (by have:=(aR.1 f).1;have:=G.out;omega) f));clear r z;go_wp2;go_ret;exact⟨⟨-1,rfl,⟨λh=>by omega,λh=>by rw[u.out]at h;cases h⟩,by omega,by omega⟩,rfl⟩
def ad5(h:Reads w v 1 M.length (gJ M))(l:M.length<=100000)(k B:Nat)(d:w.cell? ⟨B,0,none⟩=some (.int .i64 k)):
 Calls prog 241 #[v,.func (.func 242) #[] #[.pointer (some ⟨B,0,none⟩)]] w λe m=>e=.returned (.bool (M.any λn=>decide (k<=n)))/\w=m:=by
  have b:=bc4 h l k B d;unfold aw7 at b;obtain⟨A,c,rfl,-⟩:=id h;generalize (M.any λn=>decide (k<=n))=R at b|-;clear h d;go_in;(go_wp2_with fail);refine b.mono ?_;rintro e o ⟨⟨i,rfl,a,g,j⟩,rfl⟩;cases R with
  |true=>have f:(0:Int)<=i:=a.2 rfl;clear b a;go_wp2;go_ret;simp
  |false=>have f:¬(0:Int)<=i:=λh=>(by have:=a.1 h;cases this);clear b a;go_wp2;go_ret;simp;omega
def bO3{M:iY}(h:1000000<M.next):zH M=false:=by unfold zH;rw[cC (by omega)];rfl
def bw9{M:iY}(h:2147483647<M.check):zH M=false:=by unfold zH;rw[cC (by omega)];rfl
def ce7{M:iY}(h:nM M.fC=false):zH M=false:=by unfold zH;rw[h];simp
def ce6{M:iY}(b:M.next<=1000000)(c:M.check<=2147483647)(d:nM M.fC=true):zH M=!(M.fC.flatten.any λn=>decide (M.next<=n)):=by
 unfold zH;rw[cJ ⟨b,c⟩,d,fI,fI,j8];simp only[dL,bH,MZ,List.any_eq_false];constructor
 .intro h x a;have:=h x a;omega
 intro h x a;have:=h x a;omega
def zN(v:aN)(m:iY)(w:aI)(h:aQ7 w v m)(l:L0 m):
 Calls prog 179 #[v] w λe Y=>e=.returned (.bool (zH m))/\aS w.heap.size w Y:=by
  obtain⟨C,rfl,k⟩:=h;have B:=λ(x:aI)(G:aS w.heap.size w x)=>GU C m.fC x (k.next G) l.len l.flat l.cz0;have z:=λ(x:aI)(G:aS w.heap.size w x)=>sK C m.fC x (k.next G) l.len l.flat;have F:=l.flat;obtain⟨T,U,V,-,-,-⟩:=l;have o:=C2 w (.cells (mH m C).toArray 57);have d:=aH o;have p:=@bO3 m;have q:=@bw9 m;have r:=@ce7 m;have s:=@ce6 m;obtain⟨g,u,M,H⟩:=m;simp only[mH]at *;obtain⟨R,L⟩:∃R,R=zH ⟨g,u,M,H⟩:=⟨_,rfl⟩;rw[<-L]at p q r s|-;clear L k;have n0:¬(g:Int)<0:=(by omega);have n1:¬(u:Int)<0:=(by omega);by_cases J:g<=1000000
  .have W:decide ((1000000:Int)<(g:Int))=false:=cC (by omega);by_cases K:u<=2147483647
   .have X:decide ((2147483647:Int)<(u:Int))=false:=cC (by omega);have c:=B _ o;cases t:nM H with
    |false=>
     have E:=aH (r t);rw[t]at c;clear p q r s z B t o;go_in;(go_wp2_with fail);refine c.mono ?_;rintro e O ⟨rfl,a⟩;go_wp2;go_ret;exact⟨by rw[E.out];rfl,dK d.out a (aO _)⟩
    |true=>
     have E:=aH (s J K t);rw[t]at c;have P:=aH z;clear p q r s z B t o;go_in;(go_wp2_with fail);refine c.mono ?_;rintro e O ⟨rfl,a⟩;have b:=dK d.out a (aO _);have A:=P.out O b;have I:=(Row.new w #[.int .i64 g,.int .i64 u,.int .u64 M,C] 57).next a;have Z:=I.cell 3 (by simp);have⟨S,Q,y⟩:=aB I a b;clear I;clear c a b;(go_wp2_with fail);refine A.mono ?_;rintro e w3 ⟨v3,rfl,f,i⟩;have N:=S.out.next i;have j:=ad5 (Reads.dC f) F g w.heap.size (N.cell 0 (by simp));rw[show(H.flatten.any λn=>decide (g<=n))=!R from by rw[E.out];simp]at j;have D:=aH i;clear A f i N;(go_wp2_with fail);refine j.mono ?_;rintro e w4 ⟨rfl,rfl⟩;clear j;go_wp2;go_ret;exact⟨by simp,dK y.out D.out (aO _)⟩
   have X:decide ((2147483647:Int)<(u:Int))=true:=cJ (by omega);have E:=aH (q (by simpa using K));clear p q r s z B o;go_in;go_wp2;go_ret;exact⟨by rw[E.out];rfl,d.out⟩
  have W:decide ((1000000:Int)<(g:Int))=true:=cJ (by omega);have E:=aH (p (by simpa using J));clear p q r s z B o;go_in;go_wp2;go_ret;exact⟨by rw[E.out];rfl,d.out⟩
variable{C:oF}
def wH.take{w:aI}{A:Option Addr}{m n k:Nat}(h:wH w (.slice A n m) C)(e:k<=n):wH w (.slice A k m) (C.take k):=by
 obtain⟨u,g,⟨v,y,q,z,l,B,o⟩,p⟩:=h;obtain⟨rfl,rfl,rfl⟩:=eV q;refine⟨u.take k,by simp[g],⟨A,m,?_,?_,l,by simp[g],λi=>?_⟩,λj x L a c=>?_⟩
 .rw[bJ,fQ e]
 .rw[bJ,fQ e];omega
 .rw[bJ,fQ e]at i;have⟨b,f,r,s,t⟩:=o (by omega);refine⟨b,f,r,s,λj d=>?_⟩;rw[bJ]at d;rw[t j (by omega),rG]
 rw[List.getElem?_take]at a c;split at a
 .rename_i d;rw[aU d]at c;exact p j x L a c
 cases a
def wH.at_(h:wH w v C)(s:C.flatten.length<=100000):∀(j:Nat),j<C->∃A c L x b a,v=.slice A C c/\C[j]?=some L/\A=some ⟨b,a,none⟩/\L.length<=100000/\(∀wr,aS w w wr->Reads wr x 1 L (gJ L)/\wr.cell? (zp b (a+j))=x):=λj p=>by
 have⟨l,q,f,g⟩:=h;obtain⟨A,c,rfl,n,o,-⟩:=id f;obtain⟨b,a,m,-,-,-,d⟩:=f.W1 (by omega);have r:l[j]?=some (l[j]'(by omega)):=aK (by omega);have i:C[j]?=some C[j]:=aK p;refine⟨A,c,_,_,b,a,rfl,i,m,?_,λwr k=>⟨(g j _ _ r i).next k,?_⟩⟩
 .have e:C=C.take j++C[j]::C.drop (j+1):=by rw[gH,bY]
  have:=gQ (λz=>z.flatten.length) e;simp only[iU,gP,aP]at this;omega
 exact d wr k j (by omega)
def R8(w:aI)(l:oF)(e:eT)(b:aI):Prop:=(∃a,e=.returned a/\wH w a (iF l))/\w=b
def Y3(v:aN)(l:oF)(w:aI)(h:wH w v l)(P:l.length<=1000)(G:l.flatten.length<=100000):
 Calls prog 296 #[v] w (R8 w l):=by
  unfold R8;obtain⟨A,c,rfl,e,f⟩:∃A c,v=.slice A l c/\l.length<=c/\c<=maxLen:=by
   obtain⟨vs,Q,⟨A,c,rfl,e,f,-⟩,O⟩:=h;exact⟨A,c,rfl,e,f⟩
  have d:=h.at_ G;have g:=λk B=>h.take (k:=k) B;have r:=λn=>@NC l n;have⟨n,C⟩:=kX l.length;rw[<-C]at e P d g|-;unfold maxLen at f;have⟨E,z,o,p⟩:=aC C d g r;clear h G d g r C;go_in;go_wp2_with fail
  go_loopw [0] (λx wr=>∃k:Nat,k<=n/\x=.slice A k c/\wr=w/\∀i L,k<=i->l[i]?=some L->L=[]) (λx _=>match x with|.slice _ k _=>k|_=>0)
  .exact⟨n,gC,rfl,rfl,λi L N u=>by have:=(aR.1 u).1;have:=E.zz;omega⟩
  obtain⟨k,B,rfl,rfl,y⟩:=hrel;rcases dX k with F|F
  .subst F;have s:=aH y;clear y;go_wp2;go_ret;exact⟨⟨_,rfl,by rw[p.zz 0 (bO _) s.zz (λL h=>absurd rfl h)];exact o 0 (bO _)⟩,rfl⟩
  obtain⟨j,rfl⟩:∃j,k=j+1:=⟨k - 1,by omega⟩;have Y:(0:Int)<((j+1:Nat):Int):=(by omega);have Z:((j+1:Nat):Int)-1=(j:Int):=(by omega);have⟨T,V,L,x,b,S,I,u,J,K,q⟩:=z j (by omega);obtain⟨rfl,-,rfl⟩:=eV I;subst J;have⟨H,W⟩:=q wr mE;obtain⟨U,X,rfl,-⟩:=id H;have⟨s,D⟩:=aA y u;clear y q H I u;by_cases a:L.length=0
  .have R:((L:Int)==0)=true:=(by rw[gG];omega);have hE:=aH (fE.1 a);go_wp2;go_roundw
   .
    refine⟨j,by omega,rfl,trivial,λi M N m=>?_⟩;rcases cR j i with t|t
    .exact s i M t m
    obtain rfl:i=j:=(by omega);rw[D.zz]at m;cases m;exact hE
   simp
  have R:((L:Int)==0)=false:=(by rw[N0,ne_eq,gG];omega);go_wp2;go_ret;refine⟨⟨_,rfl,?_⟩,rfl⟩;rw[p.zz (j+1) (by have:=E.zz;omega) s.zz (λM _ m=>by rw[Nat.add_sub_cancel,D.zz]at m;cases m;intro t;rw[t]at a;exact a rfl)];exact o (j+1) B
def bx1(n k:Nat)(w:aI)(f:n<18446744073709551616)(b:1<=k)(d:k<=8):
 Calls prog 138 #[zu n,k] w λe a=>e=(bs (be k n))/\aS w w a:=by have c:=sI n k w (by omega) (by omega);have e:qL n k=be k n:=(by unfold qL;rw[aQ (by omega)];rfl);rwa[cB,e]at c
def bn9(L:List Nat):(L.flatMap (be 4)).length=4*L:=by
 induction L with
 |nil=>rfl
 |cons x a b=>rw[eC,aP,b,cF,kT];omega
def bQ7(L:List Nat):(sX L).length=L*4+1:=by unfold sX;rw[cF,bn9];omega
def bQ8(l:oF):(l.flatMap sX).length=l+4*l.flatten:=by
 induction l with
 |nil=>rfl
 |cons a l b=>
  have:(a.flatMap (be 4)).length=4*a:=by
   induction a with
   |nil=>rfl
   |cons x a b=>rw[eC,aP,b];simp;omega
  rw[eC,aP,b,cF,gP,aP];unfold sX;rw[cF,this];omega
def bz5(l:oF)(j:Nat):((l.take j).flatMap sX).length<=(l.flatMap sX):=by
 conv=>rhs;rw[<-bY j l,dU,aP]
 omega
def cv1{f fV fT fN fS:FuncId}(hf:(∃_:Fin 1,(f,fV,fT,fN,fS)=(273,179,296,138,202))\/∃_:Fin 2,(f,fV,fT,fN,fS)=(88,132,133,105,131))(v:aN)(m:iY)(w:aI)(h:aQ7 w v m)(hs:L0 m)
 (hV:∀x,aS w.heap.size w x->Calls prog fV #[v] x λe w'=>e=.returned (.bool (zH m))/\aS x.heap.size x w')
 (hT:∀lv x,wH x lv m.fC->Calls prog fT #[lv] x (R8 x m.fC))
 (hN:∀(n k:Nat) x,n<18446744073709551616->1<=k->k<=8->Calls prog fN #[.int .u64 n,.int .i64 k] x λe w'=>e=.returned (.string (bs (be k n)))/\aS x.heap.size x w')
 (r:∀L x,(bs L).size<=1000->Calls prog fS #[.string (bs L)] x λe w'=>e=.returned (.string (bs (kY L)))/\aS x.heap.size x w') :
 Calls prog f #[v] w λe w'=>e=.returned (.tuple #[.string (if zH m then bs (iV m)else⟨#[]⟩),.int .i64 (if zH m then 0 else 2)])/\aS w.heap.size w w':=by
  rcases hf with⟨M,hf⟩|⟨M,hf⟩
  all_goals
   cases hf;obtain⟨lv,rfl,h5⟩:=h;have hT:=λ(x:aI)(hx:aS w.heap.size w x)=>hT lv x (h5.next hx);have b0:=C2 w (.cells (mH m lv).toArray 57);have r0:=Row.new w (mH m lv).toArray 57;have⟨ha,x4⟩:=aA b0 r0;have p:=hV _ b0;have ho:=aH hT;by_cases G:zH m=true
   .rw[G]at p|-;obtain⟨⟨o1,o2⟩,⟨o3,o4,o5⟩,o6⟩:=lW.1 G;have h4:=BC m.fC;have Z:=nN m.fC;have h2:=bQ8 (iF m.fC);have h3:=bz5 (iF m.fC);have O:iV m=kY (VG m):=rfl;have P:VG m=([105,109,97,112]++be 4 m.next++be 4 m.check++be 8 m.aZ++be 1 (iF m.fC).length)++(iF m.fC).flatMap sX:=by
     unfold VG;congr 2;rw[show be 1 (iF m.fC).length=[UInt8.ofNat ((iF m.fC).length)]from by simp[be,ofNat_mod]]
    have xf:=hs.aZ;rw[O,P];have hp:(iF m.fC).flatten.length<=40:=(by rw[Z];exact o4);have a:∀n∈(iF m.fC).flatten,n<4294967296:=(by rw[Z];intro n hn;have:=o6 n hn;omega);obtain⟨mn,mc,ms,ml⟩:=m;simp only[mH]at *;obtain⟨l,hl⟩:∃l,l=iF ml:=⟨_,rfl⟩;rw[<-hl]at h4 hp a h2 h3|-;have hd:=aH hl;obtain⟨n,hn⟩:∃n,n=l.length:=⟨_,rfl⟩;rw[<-hn]at h4 h2|-;have⟨HN,he⟩:=aA hn a;have xo:n<=5:=(by omega);have ht:(l.flatMap sX).length<=165:=(by omega);have⟨T,x6,g⟩:=aB (λj=>aL (h3 j) ht) r hN;clear hN r hV hs hT h5 G o3 o4 o5 o6 Z h2 O P hl hn a b0 r0 h4 h3;have u1:IntKind.u64.wrap (mn:Int)=(mn:Int):=(by rw[eR];omega);have u2:IntKind.u64.wrap (mc:Int)=(mc:Int):=(by rw[eR];omega);have u3:IntKind.u64.wrap (n:Int)=(n:Int):=(by rw[eR];omega);have P1:=λw=>g.out mn 4 w (by omega) (by omega) (by omega);have P2:=λw=>g.out mc 4 w (by omega) (by omega) (by omega);have P3:=λw=>g.out ms 8 w xf (by omega) (by omega);have P4:=λw=>g.out n 1 w (by omega) (by omega) (by omega)
    first
     |(have:=(M:Fin 1);go_in)
     |go_in
    (go_wp2_with fail);refine p.mono ?_;rintro e Q ⟨rfl,o⟩;have r1:=x4.out.next o;have c3:=r1.cell 3 (by simp);have z:=dK ha.out o (aO _);have I:=ho.out _ z;have⟨J,U⟩:=aA z r1;clear p o r1 z;unfold R8 at I;rw[<-hd.out]at I;(go_wp2_with fail);refine I.mono ?_;rintro e w2 ⟨⟨v2,rfl,h8⟩,rfl⟩;obtain⟨A,c,rfl⟩:∃A c,v2=.slice A n c:=by
     obtain⟨vs,xp,⟨A,c,rfl,-⟩,xn⟩:=h8;exact⟨A,c,by rw[HN.out]⟩
    have W:=h8.at_ (by omega);rw[<-HN.out]at W;have hz:=aH W;have z0:∀x:dY Q,x.it.cell? ⟨w.heap.size,0,none⟩=some (.int .i64 mn):=λx=>(U.out.next x.ok).cell 0 (by simp);have z1:∀x:dY Q,x.it.cell? ⟨w.heap.size,1,none⟩=some (.int .i64 mc):=λx=>(U.out.next x.ok).cell 1 (by simp);have z2:∀x:dY Q,x.it.cell? ⟨w.heap.size,2,none⟩=some (.int .u64 ms):=λx=>(U.out.next x.ok).cell 2 (by simp);clear h8 W I c3;(go_wp2_with fail);refine cU (by kernel_rfl) (by kernel_rfl) ?_;(repeat go_big_quiet_step (first|(with_reducible exact eP _ (P1 _))|(with_reducible exact eP _ (P2 _))|(with_reducible exact eP _ (P3 _))|(with_reducible exact eP _ (P4 _))));refine wpQuiet_nil ?_;intro _ hx;obtain⟨⟨w3,X⟩,rfl⟩:=hx;rename_i w3;have xi:=aH (dK J.out X (aO _));obtain⟨H,hH⟩:∃H,H=[105,109,97,112]++be 4 mn++be 4 mc++be 8 ms++be 1 n:=⟨_,rfl⟩;have xm:H.length<=21:=by rw[hH];simp
    have hi:((⟨#[105,109,97,112]⟩:aT)++bs (be 4 mn)++bs (be 4 mc)++bs (be 8 ms)++bs (be 1 n))=bs H:=by rw[hH,show(⟨#[105,109,97,112]⟩:aT)=bs [105,109,97,112]from rfl];simp only[l4]
    rw[hi];have⟨HH,x1⟩:=aA hH X;clear hH hi z0 z1 z2 P1 P2 P3 P4 X hd;go_wp2_with fail
    first
     |(go_loopw [5,7,9,37] (λs _ _ i wr=>∃j:Nat,j<=n/\i=.int .i64 j/\s=.string (bs (H++(l.take j).flatMap sX))/\aS Q.heap.size Q wr) (λ_ _ _ i _=>n-(intOf i).toNat))
     |go_loopw [5,6,7] (λs i _ wr=>∃j:Nat,j<=n/\i=.int .i64 j/\s=.string (bs (H++(l.take j).flatMap sX))/\aS Q.heap.size Q wr) (λ_ i _ _=>n-(intOf i).toNat)
    .exact⟨0,bO _,rfl,by simp,x1.out⟩
    obtain⟨j,hj,rfl,rfl,D⟩:=hrel;by_cases xc:j<n
    .have i1:(j:Int)<n:=(by omega);obtain⟨A',c',L,x,b,xs,hv,hL,hA,x9,h6⟩:=hz.out j xc;obtain⟨rfl,-,rfl⟩:=eV hv;subst hA;obtain⟨hr,c1⟩:=h6 wr D;obtain⟨Ax,cx,rfl,xg,xq,-⟩:=id hr;have u:=λh0=>Reads.W1 hr h0;have xe:=T.out (j+1);have h1:=T.out j;have h7:(l.take (j+1)).flatMap sX=(l.take j).flatMap sX++sX L:=by rw[dQ,hL];simp
     have F:∀y∈L,y<4294967296:=λy hy=>he.out y (wR.2 ⟨L,bD hL,hy⟩);obtain⟨S,r⟩:∃S,S=H++(l.take j).flatMap sX:=⟨_,rfl⟩;have xb:S.length<=186:=(by rw[r,aP];omega);rw[<-r];have x7:=aH (show H++(l.take (j+1)).flatMap sX=S++sX L from by rw[h7,r,bV]);have V:L.length<=41:=by have:=gQ List.length h7;rw[aP]at this;have h9:=bQ7 L;omega
     obtain⟨q,hq⟩:∃q,q=L.length:=⟨_,rfl⟩;rw[<-hq]at x9 V xg u c1;have⟨HQ,hw,t,hg,x3⟩:=aD hq u D h6 F;have P5:=λw=>g.out q 1 w (by omega) (by omega) (by omega);have u4:IntKind.u64.wrap (q:Int)=(q:Int):=(by rw[eR];omega);clear h7 r xe h1 hL h6 hr hv D u hq F;(go_wp2_with fail);refine(P5 _).mono ?_;rintro e w4 ⟨rfl,Y⟩;have⟨x5,hh⟩:=aA (show bs S++bs (be 1 q)=bs (S++be 1 q)from(l4 _ _).symm) (show(S++be 1 q).length<=187 from by rw[aP,kT];omega);have x2:=aH (show S++sX L=(S++be 1 q)++L.flatMap (be 4)from by
      unfold sX;rw[bV,<-HQ.out,show be 1 q=[UInt8.ofNat q]from by simp[be,ofNat_mod]];rfl)
     have⟨xl,hb⟩:=aA (dK t.out Y (aO _)) Y;clear Y P5 c1;have xh:(be 1 q).length=1:=kT _ _;(go_wp2_with fail);obtain⟨wo,rfl⟩:∃x,x=wr:=⟨_,rfl⟩
     first
      |(go_loopw [5,9,49] (λs _ i wi=>∃k:Nat,k<=q/\i=.int .i64 k/\s=.string (bs ((S++be 1 q)++(L.take k).flatMap (be 4)))/\aS wo.heap.size wo wi) (λ_ _ i _=>q-(intOf i).toNat))
      |go_loopw [5,7] (λs i wi=>∃k:Nat,k<=q/\i=.int .i64 k/\s=.string (bs ((S++be 1 q)++(L.take k).flatMap (be 4)))/\aS wo.heap.size wo wi) (λ_ i _=>q-(intOf i).toNat)
     .exact⟨0,bO _,rfl,by rw[x5.out];simp,hb.out⟩
     obtain⟨k,hk,rfl,rfl,C⟩:=hrel;have hc:=aH C;have x8:=(hg.out wr (aJ t.out C)).2;rw[show L.length=q from HQ.out.symm]at x8;by_cases xd:k<q
     .have i2:(k:Int)<q:=(by omega);obtain⟨b2,xk,rfl,-,-,E,d⟩:=hw.out (by omega);obtain⟨y,hy⟩:∃y,L[k]?=some y:=⟨_,aK (by have:=HQ.out;omega)⟩;have c2:=d wr C k (by rw[E];exact xd);rw[xI hy]at c2;have xr:=x3.out y (bD hy);have u5:IntKind.u64.wrap (y:Int)=(y:Int):=(by rw[eR];omega);have P6:=λw=>g.out y 4 w (by omega) (by omega) (by omega);have xa:(S++be 1 q++(L.take k).flatMap (be 4)).length<=400:=(by rw[aP,bn9,bJ];have:=hh.out;omega);have K:=aH (show S++be 1 q++(L.take (k+1)).flatMap (be 4)=(S++be 1 q++(L.take k).flatMap (be 4))++be 4 y from by rw[dQ,hy];simp);obtain⟨S2,hm⟩:∃S2,S2=S++be 1 q++(L.take k).flatMap (be 4):=⟨_,rfl⟩;rw[<-hm]at xa K|-;clear hm d E hy C;have xj:(be 4 y).length=4:=kT _ _;(go_wp2_with fail);refine(P6 _).mono ?_;rintro e w6 ⟨rfl,B⟩;have R:=aH (dK hc.out B (aO _));clear B P6;go_wp2;go_roundw
      .exact⟨k+1,by omega,by go_num,by rw[K.out,l4],R.out⟩
      simp[intOf];omega
     obtain rfl:k=q:=(by omega);have i2:¬(k:Int)<k:=(by omega);have HE:=aH (show S++be 1 k++(L.take k).flatMap (be 4)=S++sX L from by rw[x2.out,aX (by have:=HQ.out;omega)]);clear C;go_wp2;go_roundw
     .exact⟨j+1,by omega,by go_num,by rw[HE.out,x7.out],dK t.out hc.out (aO _)⟩
     simp[intOf];omega
    obtain rfl:j=n:=(by omega);have i1:¬(j:Int)<j:=(by omega);have HE:=aH (show(l.take j)=l from aX (by have:=HN.out;omega));have h1:=T.out j;obtain⟨S,r⟩:∃S,S=H++(l.take j).flatMap sX:=⟨_,rfl⟩;have xb:S.length<=186:=(by rw[r,aP];omega);rw[<-r];have HS:=aH r;have hu:=λw=>x6.out S w (by rw[eK];omega);have t:=aH D;clear r h1 D;(go_wp2_with fail);refine(hu _).mono ?_;rintro e w6 ⟨rfl,B⟩;have R:=aH (dK (dK J.out t.out (aO _)) B (aO _));clear B hu;go_wp2;go_ret2;refine⟨?_,R.out⟩;rw[HS.out,HE.out,HH.out];rfl
   have N:zH m=false:=(by simpa using G);rw[N]at p|-;unfold mH at *;clear hV hs hT ho h5 G N b0 r0
   first
    |(have:=(M:Fin 1);go_in)
    |go_in
   (go_wp2_with fail);refine p.mono ?_;rintro e Q ⟨rfl,o⟩;have x0:=aH (dK ha.out o (aO _));clear p o;go_wp2;go_ret2;exact⟨rfl,x0.out⟩
def MN(v:aN)(m:iY)(w:aI)(h:aQ7 w v m)(a:L0 m):
 Calls prog 273 #[v] w λe f=>e=.returned (.tuple #[.string (if zH m then bs (iV m)else⟨#[]⟩),(if zH m then 0 else 2:Int)])/\aS w w f:=
 cv1 (.inl ⟨0,rfl⟩) v m w h a (λx c=>zN v m x (h.next c) a) (λd x b=>Y3 d m.fC x b a.len a.flat) bx1 (λL x h=>by have:=AV (bs L) x (by omega);rwa [gF]at this)
variable{r:Rdr}
def J0(w:aI)(g:Nat)(r:Rdr):Prop:=∃s:aT,lb s=r.1/\s.size<=1048576/\Row w g 324 [.string s,.bool r.2]
def J0.next{w:aI}{g:Nat}(h:J0 w g r)(d:aS w.heap.size w x):J0 x g r:=by obtain⟨s,a,b,c⟩:=h;exact⟨s,a,b,c.next d⟩
def aP8(w:aI)(g n:Nat)(r:Rdr)(e:eT)(a:aI):Prop:=e=.returned (.int .u64 ((oA n r).1:Nat))/\J0 a g (oA n r).2/\w.grownBy a (some g)
def aB6(h:J0 w n r)(E:Nat)(t:E<=8):
 Calls prog 283 #[.pointer (some ⟨n,0,none⟩),.int .i64 E] w (aP8 w n E r):=by
  unfold aP8;obtain⟨s,j,y,b⟩:=h;obtain⟨C,B⟩:=r;simp only at j b;subst j;have p:=b.cell 0 (by simp);have q:=b.cell 1 (by simp);simp only[bX,bE]at p q;have v:=b.frozen 0 (by simp);have x:=b.frozen 1 (by simp);have z:=b.lt;unfold oA;rw[bN];by_cases c:s.size<E
  .have u:(s.size:Int)<E:=(by omega);rw[aU c];have G:=aH ((jN w ⟨n,0,none⟩ (.string ⟨#[]⟩)).trans (jN (w.setCell ⟨n,0,none⟩ (.string ⟨#[]⟩)) ⟨n,1,none⟩ (.bool false)));have f:J0 ((w.setCell ⟨n,0,none⟩ (.string ⟨#[]⟩)).setCell ⟨n,1,none⟩ (.bool false)) n ([],false):=⟨⟨#[]⟩,rfl,by decide,(b.set 0 (.string ⟨#[]⟩)).set 1 (.bool false)⟩;have d:=aH f;clear b f;go_in;go_wp2;go_ret;exact⟨rfl,d.out,G.out⟩
  have u:¬(s.size:Int)<E:=(by omega);have A:(E:Int)<=s.size:=(by omega);rw[aQ c];have a:=λw=>vR (s.extract 0 E) w (by rw[n8];unfold maxLen;omega);have g:qA (lb (s.extract 0 E))=num ((lb s).take E):=by rw[eB,gF];unfold qA;rw[mA,kJ,tG,RD t]
  have i:lb (s.extract E s.size)=(lb s).drop E:=by rw[eB,gF,aX (by rw[fF,bN];omega)]
  rw[g]at a;have k:(s.extract E s.size).size<=1048576:=(by rw[n8];omega);have⟨m,l,o⟩:=aB b i k;clear b g i k;go_in;(go_wp2_with fail);refine(a _).mono ?_;rintro e D ⟨rfl,rfl⟩;clear a;go_wp2;go_ret;exact⟨rfl,⟨_,l.out,o.out,m.out.set 0 _⟩,jN _ _ _⟩
variable{X:List aN}{s:bK}
def bI8(n:Nat)(r:Rdr):(oA n r).1<256^n:=by
 unfold oA;split
 .exact Nat.pos_of_ne_zero (by simp)
 have:=DY (r.1.take n);exact aW this (gK (by omega) (by simp;omega))
def bB0(h:kP s=false):uI s=false:=by unfold uI;rw[h];rfl
def YM{s:bK}(h:GW (kV s)=false):uI s=false:=by unfold uI;rw[h];simp
def bB1{s:bK}(h:(tD (kV s)).2.2=false):uI s=false:=by unfold uI;rw[h];simp
def bA9{s:bK}(h:(tD (kV s)).2.1≠[]):uI s=false:=by unfold uI;rw[cC h];simp
def bS9{s:bK}(h:zH (tD (kV s)).1=false):uI s=false:=by unfold uI;rw[h];simp
def bA8{s:bK}(h:iV (tD (kV s)).1≠s):uI s=false:=by unfold uI;rw[cC h];simp
def bT0{s:bK}(a:kP s=true)(b:GW (kV s)=true)(c:(tD (kV s)).2.2=true)(d:(tD (kV s)).2.1=[])(e:zH (tD (kV s)).1=true)(f:iV (tD (kV s)).1=s):uI s=true:=by unfold uI;rw[a,b,c,cJ d,e,cJ f];rfl
def AQ(h:aS n w x)(a:x.grownBy y k)(d:n<=x)(e:n<=k):aS n w y:=
 ⟨a.os.trans h.os,a.tape.trans h.tape,a.output.trans h.output,aL h a.size,λf b=>(a.block f (aW b d) (λc=>by have:=cS c;omega)).trans (h.block f b)⟩
def gY{T:cD}{t v:aN}(h:Row w n T [u,z,t,v]):(w.cell? (zp n)=some u/\w.cell? (zp n 1)=some z/\w.cell? (zp n 2)=some t/\w.cell? (zp n 3)=v)/\w.frozen? (zp n)=false/\w.frozen? (zp n 1)=false/\w.frozen? (zp n 2)=false/\w.frozen? (zp n 3)=false:=
 ⟨⟨h.rY,h.xD,h.G8,h.zc3⟩,h.TI,h.J3,h.zf2,h.zf3⟩
structure AT(c wr:aI)(T M d h g j:Nat)(e:aN)(f:List aN)(a:oF):Prop where
 rm:Row wr M 57 (mH ⟨h,g,j,a⟩ e)
 r0:Row wr d 57 [.int .i64 0,.int .i64 0,.int .u64 0,.slice none 0 0]
 own:wr.ownsRow c.heap.size 33 1 e a.length f
 inn:lQ wr c.heap.size f a
 bel:aS c.heap.size c wr
 top:T<=wr.heap.size
 ltm:M<T
 lt0:d<T
 lto:∀k,e.ownBlock=some k->k<T
 lti:∀(i:Nat)(y:aN)(b:Nat),f[i]?=some y->y.ownBlock=some b->b<T
 gem:c.heap.size<=M
 mb:d≠M
def AT.eO{wr w':aI}{Y:List aN}(h:AT w wr n k m i j d v X C)(r:Row wr g 324 Y)(c:∀y,y<n->y≠g->w'.heap[y]?=wr.heap[y]?)(p:aS w w w')(e:n<=w'):AT w w' n k m i j d v X C:=by have a:∀{y:Nat} {t:cD} {u:List aN},Row wr y t u->t≠324->y≠g:=λs e o=>e (dI (o▸s) r);refine⟨h.rm.of_block (c _ h.ltm (a h.rm (by decide))),h.r0.of_block (c _ h.lt0 (a h.r0 (by decide))),fG h.own λq b=>c q (h.lto q b) (a (dZ h.own b) (by decide)),⟨h.inn.len,λy x L f l=>fG (h.inn.own y x L f l) λq b=>c q (h.lti y x q f b) (a (dZ (h.inn.own y x L f l) b) (by decide)),h.inn.apart⟩,p,e,h.ltm,h.lt0,h.lto,h.lti,h.gem,h.mb⟩
def AT.next{w wr:aI}{n k j:Nat}{v:aN}(h:AT w wr n k m i j d v X C)(a:aS wr wr x):AT w x n k m i j d v X C:=
 ⟨h.rm.next a,h.r0.next a,cA h.own a,h.inn.next a,dK h.bel a gC,aL h.top a,h.ltm,h.lt0,h.lto,h.lti,h.gem,h.mb⟩
def AT.up{wr:aI}(h:AT w wr n k m i j d v X C):AT w wr wr k m i j d v X C:=
 ⟨h.rm,h.r0,h.own,h.inn,h.bel,gC,h.rm.lt,h.r0.lt,jG h.own,h.inn.lt,h.gem,h.mb⟩
def AT.take{w wr x:aI}{n k m:Nat}{v:aN}{r:Rdr}(h:AT w wr n k m i j d v X C)(o:J0 wr g r)(f:w<=g)(b:wr.grownBy x g):AT w x n k m i j d v X C:=by obtain⟨s,-,-,a⟩:=o;have p:=h.top;exact h.eO a (λq l c=>b.block q (by omega) (by intro e;exact c (cS e))) (AQ h.bel b h.bel f) (aL h.top b.size)
def AT.E9{wr:aI}{v:aN}(h:AT w wr n k m i j d v X C):wH wr v C:=
 ⟨X,h.inn.len,Reads.dC h.own,λc x L b a=>Reads.dC (h.inn.own c x L b a)⟩
def AT.cg1{wr:aI}(h:AT w wr n k m i j d v X C):aQ7 wr (.agg #[i,j,zu d,v]) ⟨i,j,d,C⟩:=⟨v,rfl,h.E9⟩
def J0.eO{w':aI}(h:J0 w n r)(d:w'.heap[n]?=w.heap[n]?):J0 w' n r:=by have⟨s,a,b,c⟩:=h;exact⟨s,a,b,c.of_block d⟩
def AT.push{W:aI}{j:Nat}(h:AT w x n k m i j d u X C)(c:J0 x g r)(O:x.ownsRow n 3 1 v M (gJ M))(S:w<=n)(D:aS x x y)(N:y.grownBy W u.ownBlock)(a:W.ownsRow w 33 1 z (C+1) (X++[v])):
 Row W k 57 (mH ⟨i,j,d,C⟩ u)/\AT w (W.setCell (zp k 3) z) (W.setCell (zp k 3) z) k m i j d z (X++[v]) (C++[M])/\J0 (W.setCell (zp k 3) z) g r:=by
  have l:∀{V:Nat} {t:cD} {G:List aN},Row x V t G->t≠33->W.heap[V]?=x.heap[V]?:=λc I=>by rw[N.block _ (aW c.lt D) (λH=>I (dI c (dZ h.own H.symm)))];exact D.block _ c.lt
  have o:Row W k 57 (mH ⟨i,j,d,C⟩ u):=h.rm.of_block (l h.rm (by decide));have e:∀{V:Nat} {t:cD} {G:List aN},Row W V t G->t≠57->(W.setCell (zp k 3) z).heap[V]?=W.heap[V]?:=λc I=>aV _ _ _ _ (λH=>by subst H;exact I (dI c o));have b:∀{V:Nat} {t:cD} {G:List aN},Row x V t G->t≠33->t≠57->(W.setCell (zp k 3) z).heap[V]?=x.heap[V]?:=λc K R=>(e (c.of_block (l c K)) R).trans (l c K);have⟨s,T,U,Q⟩:=c;have J:=FD O S;have f:=h.inn.snoc (B:=n) J h.lti (dE O);have A:lQ (W.setCell (zp k 3) z) w (X++[v]) (C++[M]):=
   ⟨f.len,λV Y Z P L=>fG (f.own V Y Z P L) λq E=>b (dZ (f.own V Y Z P L) E) (by decide) (by decide),f.apart⟩
  have F:=h.r0.of_block (l h.r0 (by decide));refine⟨o,⟨o.set 3 z,?_,?_,A,?_,gC,?_,?_,?_,?_,h.gem,h.mb⟩,?_⟩
  .exact F.far (p:=zp k 3) h.mb z
  .rw[aP];exact fG a λq E=>e (dZ a E) (by decide)
  .exact(pH (cA h.own D) (dK h.bel D gC) N (aL h.bel D.size)).setCell h.gem _
  .exact(o.set 3 z).lt
  .exact(F.far (p:=zp k 3) h.mb z).lt
  .exact jG (fG a λq E=>e (dZ a E) (by decide))
  .exact A.lt
  exact⟨s,T,U,Q.of_block (b Q (by decide) (by decide))⟩
def aD5{us:List aN}(h:w.ownsRow n 33 1 v C us)(k:lQ w n us C):zD w n v C:=by
 rcases id h.2 with⟨f,i⟩|⟨g,a,e,rfl,b,m,d,c,j,l⟩
 .exact .inl ⟨fE.1 i,none,f⟩
 exact .inr ⟨g,us,a,rfl,d,c,b,dZ h (by simp[Value.ownBlock]),k⟩
def AT.ret{wr:aI}(h:AT w wr n k m i j d v X C)(p q r s:aN):zD ((((wr.setCell (zp m) p).setCell (zp m 1) q).setCell (zp m 2) r).setCell (zp m 3) s) w v C:=by
 have e:∀{y:Nat} {t:cD} {g:List aN},Row wr y t g->t≠57->((((wr.setCell (zp m) p).setCell (zp m 1) q).setCell (zp m 2) r).setCell (zp m 3) s).heap[y]?=wr.heap[y]?:=fun {y t g} o u=>by have a:y≠m:=λl=>u (dI (l▸o) h.r0);rw[aV _ _ _ _ a,aV _ _ _ _ a,aV _ _ _ _ a,aV _ _ _ _ a]
 exact aD5 (fG h.own λq b=>e (dZ h.own b) (by decide)) ⟨h.inn.len,λy x L f c=>fG (h.inn.own y x L f c) λq b=>e (dZ (h.inn.own y x L f c) b) (by decide),h.inn.apart⟩
def bn3{k:Nat}:∀{l:oF},(∀L∈l,L.length<=k)->l.flatten.length<=l.length*k
 |[],_=>by simp
 |a::l,h=>by
  have c:=h a (by simp);have d:=bn3 (k:=k) (l:=l) (λL b=>h L (by simp[b]));rw[gP,aP,cF,TB];omega
def cw8(w:aI)(a:Nat)(v:aN)(m:iY):Prop:=∃b,v=.agg (mH m b).toArray/\zD w a b m.fC
def WB(w:aI)(L:bK)(e:eT)(a:aI):Prop:=∃v,e=.returned (.tuple #[v,.int .i64 (SR L)])/\cw8 a w.heap.size v (getM L)/\aS w.heap.size w a
def bd2{w x:aI}{s:bK}(h:uI s=false)(a:aS w w x):WB w s (.returned (.tuple #[.agg #[(),(),zu 0,zs],(90:Int)])) x:=
 ⟨_,by unfold SR;rw[h];rfl,by unfold getM;rw[h];exact⟨zs,rfl,.inl ⟨rfl,none,rfl⟩⟩,a⟩
def aJ3{w x:aI}{s:bK}{v:aN}(h:uI s=true)(b:cw8 x w v (tD (kV s)).1)(a:aS w w x):WB w s (.returned (.tuple #[v,()])) x:=
 ⟨_,by unfold SR;rw[h];rfl,by unfold getM;rw[h];exact b,a⟩
def qZ(h:aS n w x)(e:n<=k)(a b c d:aN):aS n w ((((x.setCell (zp k) a).setCell (zp k 1) b).setCell (zp k 2) c).setCell (zp k 3) d):=
 (((h.setCell e _).setCell e _).setCell e _).setCell e _
def bz0(i:Nat)(r:Rdr)(a:oF)(h:r.2=true):yR (i+1) r a=yR i (GS (oA 1 r).1 (oA 1 r).2 []).2 (a++[(GS (oA 1 r).1 (oA 1 r).2 []).1]):=by rw[yR,aQ (by rw[h];simp)]
def bP6(i:Nat)(r:Rdr)(a:List Nat)(h:r.2=true):GS (i+1) r a=GS i (oA 4 r).2 (a++[(oA 4 r).1]):=by rw[GS,aQ (by rw[h];simp)]
def Y5(i:Nat)(r:Rdr)(a:oF)(h:i=0\/r.2=false):yR i r a=(a,r):=by
 cases i with
 |zero=>rfl
 |succ i=>rw[yR,aU (by simpa using h)]
def bz1(i:Nat)(r:Rdr)(a:List Nat)(h:i=0\/r.2=false):GS i r a=(a,r):=by
 cases i with
 |zero=>rfl
 |succ i=>rw[GS,aU (by simpa using h)]
def AU(h:J0 w n r)(f:Nat)(d:f<=8):∃a b,oA f r=(a,b)/\a<256^f/\Calls prog 283 #[zp n,f] w λe c=>e=.returned (zu a)/\J0 c n b/\w.grownBy c n:=
 ⟨_,_,rfl,bI8 f r,aB6 h f d⟩
def ac3(s:aT)(w:aI)(hs:s.size<=1048576):
 Calls prog 240 #[s] w (WB w (lb s)):=by
  have C:=λw=>LJ s w (by omega);have⟨L,hL⟩:=kX (lb s);have⟨T,z9⟩:=aA (λ(w':aI)=>@bd2 w w' L) (λ(w':aI)(v:aN)=>@aJ3 w w' L v);have hv:=C2 w (.cells #[.int .i64 0,.int .i64 0,.int .u64 0,.slice none 0 0] 57);have X:Row (w.alloc (.cells #[.int .i64 0,.int .i64 0,.int .u64 0,.slice none 0 0] 57)) w.heap.size 57 [.int .i64 0,.int .i64 0,.int .u64 0,.slice none 0 0]:=Row.new w #[.int .i64 0,.int .i64 0,.int .u64 0,.slice none 0 0] _;rw[<-hL]at C|-;have ya:=aH hL;have yq:(kV L).length<=1048576:=by
   unfold kV;split
   .rw[bJ,hL,bN];omega
   simp
  have⟨t,ht⟩:=kX (kV L);rw[<-ht]at C yq;have⟨zw,x2,S⟩:=aB ht hv X;rcases V:kP L with _|_
  .rw[V]at C;have Q:=aH (bB0 V);clear hL hv X V ht;go_in;(go_wp2_with fail);go_call C _ as e w1 ⟨rfl,p⟩;obtain⟨⟨Y,r1,r2,r3⟩,f0,f1,f2,f3⟩:=gY (S.next p);have he:=aH (dK x2 p gC);clear C p;go_wp2;refine bG (v:=.tuple #[.agg #[.int .i64 0,.int .i64 0,.int .u64 0,.slice none 0 0],.int .i64 90]) (by simp[results,results240,go_sem,Y,r1,r2,r3]) rfl (T _ Q (qZ he gC _ _ _ _))
  rw[V]at C;have u2:(bs t).size=t.length:=eK _;have zz:(bs t).extract 0 4=bs (t.take 4):=(by rw[eB,gF,mA]);by_cases h4:t.length<4
  .have i1:(t.length:Int)<4:=(by omega);have Q:=aH (YM (s:=L) (by rw[<-ht];unfold GW;simp;omega));clear hL hv X V ht;go_in;(go_wp2_with fail);go_call C _ as e w1 ⟨rfl,p⟩;obtain⟨⟨Y,r1,r2,r3⟩,f0,f1,f2,f3⟩:=gY (S.next p);have he:=aH (dK x2 p gC);clear C p;go_wp2;refine bG (v:=.tuple #[.agg #[.int .i64 0,.int .i64 0,.int .u64 0,.slice none 0 0],.int .i64 90]) (by simp[results,results240,go_sem,Y,r1,r2,r3]) rfl (T _ Q (qZ he gC _ _ _ _))
  have i1:¬(t.length:Int)<4:=(by omega);by_cases hf:t.take 4=[105,109,97,112]
  .have i2:(t.take 4==[105,109,97,112])=true:=(by rw[hf];rfl);have hF:GW (kV L)=true:=(by rw[<-ht];unfold GW;rw[cJ ⟨by omega,hf⟩]);have⟨xl,yd,ye,yf,yg,yh⟩:=aE (@bB1 L) (@bA9 L) (@bS9 L) (@bA8 L) (@bT0 L V hF) (show tD (kV L)=tD t from by rw[ht]);have e4:lb ((bs t).extract 4 t.length)=t.drop 4:=(by rw[eB,gF,gF,aX (by rw[fF];omega)]);have e5:((bs t).extract 4 t.length).size<=1048576:=(by rw[n8,eK];omega);have xd:∀x:aI,J0 (x.alloc (.cells #[.string ((bs t).extract 4 t.length),.bool true] 324)) x.heap.size (t.drop 4,true):=λx=>⟨_,e4,e5,Row.new x #[.string ((bs t).extract 4 t.length),.bool true] 324⟩;have xa:=aH xd;clear hL hv X V ht hF e4 e5 xd hf;go_in;(go_wp2_with fail);go_call C _ as e w1 ⟨rfl,p⟩;have⟨a,ra,ea,la,ka⟩:=AU (xa w1) 4 (by omega);have zl:=aH (xa w1);have x5:=dK x2 p gC;have⟨z0,xm⟩:=aA (x5.alloc x5.size (.cells #[.string ((bs t).extract 4 t.length),.bool true] 324)) ((S.next p).alloc (.cells #[.string ((bs t).extract 4 t.length),.bool true] 324));have hg:=x5.size;have yr:=(S.next p).lt;have EA:=aH ea;clear C p x5 ea;(go_wp2_with fail);go_call ka as e w2 ⟨rfl,h2,x6⟩;have⟨b,rb,eb,zd,kb⟩:=AU h2 4 (by omega);have⟨y2,xn,zq,zm,EB⟩:=aD (AQ z0 x6 (by rw[bC];omega) hg) (xm.grown x6 (by intro G;have:=cS G;omega)) x6.size h2 eb;clear ka h2 x6 eb;(go_wp2_with fail);go_call kb as e w3 ⟨rfl,xv,x7⟩;have⟨c,rc,ec,lc,kc⟩:=AU xv 8 (by omega);have⟨y3,xo,zr,zo,EC⟩:=aD (AQ y2 x7 y2.size hg) (xn.grown x7 (by intro G;have:=cS G;omega)) x7.size xv ec;clear kb xv x7 ec;(go_wp2_with fail);go_call kc as e w4 ⟨rfl,xw,hr⟩;have⟨xj,hl,zv⟩:=aB (AQ y3 hr y3.size hg) (xo.grown hr (by intro G;have:=cS G;omega)) hr.size;have⟨g,xt⟩:=kX w1.heap.size;rw[<-xt]at xw hg hr;rw[<-xt];clear xt;have ys:=hl.lt;have xc:AT w (w4.alloc (.cells #[.int .i64 a,.int .i64 b,.int .u64 c,.slice none 0 0] 57)) (w4.heap.size+1) w4.heap.size w.heap.size a b c (.slice none 0 0) [] []:=
    ⟨Row.new w4 #[.int .i64 a,.int .i64 b,.int .u64 c,.slice none 0 0] _,hl.alloc _,bQ _ _ _ _,lQ.nil _ _,xj.alloc xj.size _,by rw[bC];exact aO _,by omega,by omega,(λk hk=>by simp[Value.ownBlock]at hk),(λi y b hy=>by simp at hy),xj.size,by omega⟩
   have xx:J0 (w4.alloc (.cells #[.int .i64 a,.int .i64 b,.int .u64 c,.slice none 0 0] 57)) g rc:=xw.next (C2 _ _);have⟨q,rq,eq,lq,kq⟩:=AU xx 1 (by omega);have⟨z2,z3,y6,xk⟩:=aC xc xx eq hg;have⟨M,xr⟩:=kX w4.heap.size;clear kc xw hr xc xx eq hg yr ys;(go_wp2_with fail);go_call kq as e w6 ⟨rfl,yu,yo⟩;have⟨y8,z4,HE⟩:=aB (z2.take z3 xk yo).up yu (show yR q rq []=yR (q-0) rq []from rfl);have⟨E,hE⟩:=kX (yR q rq []);rw[<-hE]at HE;have u3:q<256:=(by simpa using lq);have y5:=aH hE;rw[<-xr];rw[<-xr]at y8;clear kq yu yo lq hE xr;(go_wp2_with fail);go_loopw [9,10,11] (λk _ _ wr=>∃(j:Nat)(f:oF)(lv:aN)(us:List aN)(r:Rdr),k=.int .i64 j/\j<=q/\J0 wr g r/\AT w wr wr.heap.size M w.heap.size a b c lv us f/\E=yR (q-j) r f/\f.length=j/\(∀L∈f,L.length<=255/\∀n∈L,n<4294967296)) (λk _ _ _=>q-(intOf k).toNat)
   .exact⟨0,[],_,_,rq,rfl,bO _,z4,y8,HE,rfl,by simp⟩
   obtain⟨j,f,lv,us,r,rfl,hj,I,P,hE,ha,U⟩:=hrel;by_cases u1:j<q
   .have i5:(j:Int)<q:=(by omega);cases l:r.2 with
    |true=>
     have⟨q7,r7,yk,yy,yx⟩:=AU I 1 (by omega);have zi:q7<256:=(by simpa using yy);have hp:(yR (q-j) r f)=yR (q-(j+1)) (GS (oA 1 r).1 (oA 1 r).2 []).2 (f++[(GS (oA 1 r).1 (oA 1 r).2 []).1]):=(by rw[show q-j=(q-(j+1))+1 from by omega,bz0 _ _ _ l]);rw[yk]at hp;simp only at hp;have⟨F,hF⟩:=kX (GS q7 r7 []);rw[<-hF]at hp;have⟨y4,HF⟩:=aA (hE.trans hp) hF;have⟨s8,zg,zh,xz⟩:=id I;rw[l]at xz;have za:=xz.xD;have⟨wo,yw⟩:=kX wr;have⟨o,z6,xi,y1⟩:=aC P I ha U;clear I P hE ha U yk yy hp hF zg zh xz l;(go_wp2_with fail);go_call yx as e w7 ⟨rfl,yv,xs⟩;have⟨y9,z5,z7⟩:=aB (o.take z6 xk xs) yv xs.size;rw[<-yw]at y9 o z7;clear yx yv xs za yw;(go_wp2_with fail);go_loopw [10,11] (λx xq wi=>∃(i:Nat)(r':Rdr)(L':List Nat),xq=.int .i64 i/\i<=255/\J0 wi g r'/\wi.ownsRow wo.heap.size 3 1 x L'.length (gJ L')/\AT w wi wo.heap.size M w.heap.size a b c lv us f/\F=GS i r' L'/\L'.length+i<=255/\∀n∈L',n<4294967296) (λ_ xq _=>(intOf xq).toNat)
     .exact⟨q7,r7,[],rfl,by omega,z5,bQ _ _ _ _,y9,HF,by simp;omega,by simp⟩
     obtain⟨i,r',L',rfl,hi,hc,W,u,x3,ym,x4⟩:=hrel;have⟨s9,J,h3,z⟩:=id hc;have D:=z.xD;obtain⟨A1,c1,rfl,-⟩:=id (Reads.dC W);by_cases x8:0<i/\r'.2=true
     .have⟨u0,h2⟩:=x8;have i6:(0:Int)<i:=(by omega);rw[h2]at D;have⟨y,r9,e9,ly,ky⟩:=AU hc 4 (by omega);have ze:y<4294967296:=(by simpa using ly);have yl:F=GS (i-1) r9 (L'++[y]):=by rw[x3,show i=(i-1)+1 from by omega,bP6 _ _ _ h2,e9];rfl
      have⟨z1,x0,x1,A,K⟩:=aD yl x4 hc W u;have⟨m,hm⟩:=kX L'.length;rw[<-hm]at A ym;rw[<-hm];have⟨HM,yi⟩:=aA hm z;clear hc W u x3 x4 yl e9 ly J z hm h2;(go_wp2_with fail);go_call ky as e hz ⟨rfl,xe,hq⟩;have h7:=bw2 A hq (λk hk G=>by have:=dI (dZ A hk) (by rw[cS G];exact yi);exact absurd this (by decide));have⟨h5,xb,h6⟩:=aB (K.take x1 xk hq) xe h7;have xf:=h5.top;have xg:=o.bel.size;clear ky xe hq h7 D;(go_wp2_with (at_builtin;refine R7 oK underlying33 h6 rfl rfl rfl rfl rfl (by omega) (by omega) ?_;intro yz y0 d B H;have⟨yb,hh⟩:=aA d B;clear d B H));go_roundw
      .
       have O:aS hz.heap.size hz (hz.alloc (.cells #[.int .i64 y] 3)):=C2 _ _;have hx:=cA h6 O;have yp:∀k,k<hz.heap.size->(Value.slice A1 m c1).ownBlock≠some k->y0.heap[k]?=hz.heap[k]?:=λk hk yt=>(hh.block k (aW hk O.size) (λG=>yt G.symm)).trans (O.block k hk);have⟨u5,zj,zk,hw⟩:=id xb;refine⟨i-1,r9,L'++[y],by go_num,by omega,xb.eO (yp g hw.lt (λG=>by have:=dI (dZ h6 G) hw;exact absurd this (by decide))),?_,?_,z1,by rw[aP,<-HM.zz];simp;omega,λn hn=>?_⟩
       .rw[aP,<-HM.zz,BI];exact yb
       .exact h5.eO hw (λk hk yt=>yp k (by omega) (λG=>by have:=dE h6 k G;omega)) (pH (FD hx xg) (dK h5.bel O gC) hh (aL h5.bel.size O.size)) (aL xf (aL O.size hh.size))
       rw[cE,bT]at hn;rcases hn with hn|rfl
       .exact x0 n hn
       exact ze
      simp[intOf];omega
     have y7:=aH (show F=(L',r')from by rw[x3];exact bz1 _ _ _ (by
      by_cases G:0<i
      .exact .inr (by cases h8:r'.2 with|true=>exact absurd ⟨G,h8⟩ x8|false=>rfl)
      exact .inl (by omega)))
     have rM:=(gY u.rm).1;obtain⟨-,-,-,u4⟩:=rM;obtain⟨-,-,-,-,zx⟩:=gY u.rm;obtain⟨A2,c2,rfl,-⟩:=id (Reads.dC u.own);have⟨x0,x1,A,K⟩:=aC x4 hc W u;have xf:=u.top;have xg:=u.bel.size;have xh:=o.bel.size;have zy:f.length<=255:=(by rw[xi.zz];omega);have⟨m,hm⟩:=kX L'.length;rw[<-hm]at ym;rw[<-hm];have HM:=aH hm;have zc:¬0<i\/(0<i/\r'.2=false):=by
      by_cases G:0<i
      .exact .inr ⟨G,by cases h8:r'.2 with|true=>exact absurd ⟨G,h8⟩ x8|false=>rfl⟩
      exact .inl G
     clear hc W u x3 x4 hm x8 J h3 z;rcases zc with G|⟨G,h8⟩
     .have i6:¬(0:Int)<i:=(by omega);clear D;(go_wp2_with (at_builtin;refine R7 FG underlying55 K.own rfl rfl rfl rfl rfl (by omega) (by omega) ?_;intro yz y0 d B H;obtain⟨A3,c3,rfl,-⟩:=id (Reads.dC d);have h0:=aH (K.push x1 (by rw[<-HM.zz]at A|-;exact A) xh (mE.alloc gC _) B d);obtain⟨⟨-,-,-,zf⟩,-,-,-,zb⟩:=gY h0.1;clear d B H));go_roundw
      .exact⟨j+1,f++[L'],_,_,r',by go_num,by omega,h0.2.2,h0.2.1,by rw[y4.zz,y7.zz],by rw[aP,xi.zz];rfl,λZ hZ=>by
       rw[cE,bT]at hZ;rcases hZ with hZ|rfl
       .exact y1 Z hZ
       exact⟨by rw[<-HM.zz];omega,x0⟩⟩
      simp[intOf];omega
     have i6:(0:Int)<i:=(by omega);rw[h8]at D;(go_wp2_with (at_builtin;refine R7 FG underlying55 K.own rfl rfl rfl rfl rfl (by omega) (by omega) ?_;intro yz y0 d B H;obtain⟨A3,c3,rfl,-⟩:=id (Reads.dC d);have h0:=aH (K.push x1 (by rw[<-HM.zz]at A|-;exact A) xh (mE.alloc gC _) B d);obtain⟨⟨-,-,-,zf⟩,-,-,-,zb⟩:=gY h0.1;clear d B H));go_roundw
     .exact⟨j+1,f++[L'],_,_,r',by go_num,by omega,h0.2.2,h0.2.1,by rw[y4.zz,y7.zz],by rw[aP,xi.zz];rfl,λZ hZ=>by
      rw[cE,bT]at hZ;rcases hZ with hZ|rfl
      .exact y1 Z hZ
      exact⟨by rw[<-HM.zz];omega,x0⟩⟩
     simp[intOf];omega
    |false=>
     have h1:E=(f,r):=by rw[hE];exact Y5 _ _ _ (.inr l)
     have h:tD (kV L)=(⟨a,b,c,f⟩,r):=by rw[yh.zz];unfold tD;rw[EA.zz];simp only;rw[EB.zz];simp only;rw[EC.zz];simp only;rw[y6.zz];simp only;rw[<-y5.zz,h1]
     have⟨s9,J,h3,z⟩:=id I;have xp:=z.rY;have D:=z.xD;have⟨o,Q⟩:=aA P (xl (by rw[h];exact l));rw[l]at D;clear I P hE ha U h1 h J h3 z;obtain⟨⟨Y,r1,r2,r3⟩,f0,f1,f2,f3⟩:=gY o.r0;go_wp2;refine bG (v:=.tuple #[.agg #[.int .i64 0,.int .i64 0,.int .u64 0,.slice none 0 0],.int .i64 90]) (by simp[results,results240,go_sem,Y,r1,r2,r3]) rfl (T _ Q (qZ o.bel gC _ _ _ _))
   have i5:¬(j:Int)<q:=(by omega);have h1:E=(f,r):=by rw[hE];exact Y5 _ _ _ (.inl (by omega))
   have h:tD (kV L)=(⟨a,b,c,f⟩,r):=by rw[yh.zz];unfold tD;rw[EA.zz];simp only;rw[EB.zz];simp only;rw[EC.zz];simp only;rw[y6.zz];simp only;rw[<-y5.zz,h1]
   have⟨s9,J,h3,z⟩:=id I;have xp:=z.rY;have D:=z.xD;have o:=aH P;cases l:r.2 with
   |false=>have Q:=aH (xl (by rw[h];exact l));rw[l]at D;clear I P hE ha U h1 h J h3 z;obtain⟨⟨Y,r1,r2,r3⟩,f0,f1,f2,f3⟩:=gY o.r0;go_wp2;refine bG (v:=.tuple #[.agg #[.int .i64 0,.int .i64 0,.int .u64 0,.slice none 0 0],.int .i64 90]) (by simp[results,results240,go_sem,Y,r1,r2,r3]) rfl (T _ Q (qZ o.bel gC _ _ _ _))
   |true=>
    rw[l]at D;by_cases x9:r.1=[]
    .have i6:s9.toList=[]:=(by rw[l3,J,x9]);obtain⟨A2,c2,rfl,-⟩:=id (Reads.dC P.own);obtain⟨⟨m0,m1,m2,m3⟩,n0,n1,n2,n3⟩:=gY o.rm;have xy:L0 ⟨a,b,c,f⟩:=by
      refine⟨by simpa using la,by simpa using zd,by simpa using lc,by show f.length<=1000;omega,?_,λn hn=>?_⟩
      .have:=bn3 (k:=255) (λL hL=>(U L hL).1);show f.flatten.length<=100000;omega
      have⟨Z,hZ,hn⟩:=wR.1 hn;exact(U Z hZ).2 n hn
     have hd:=zN _ _ wr o.cg1 xy;have⟨z8,G5,G6,G7⟩:=aC xy (ye) (yf) (yg);rw[h]at G5 G6 G7;have yj:=aH (λ(w':aI)(v:aN)=>z9 w' v);rw[h]at yj;clear I P hE ha U h1 h J h3 z xy xl yd ye yf yg;cases hu:zH ⟨a,b,c,f⟩with
     |false=>
      rw[hu]at hd;have Q:=aH (G5 hu);(go_wp2_with fail);go_call hd as e w7 ⟨rfl,ho⟩;have N:=aH (o.next ho);clear hd ho m0 m1 m2 m3 n0 n1 n2 n3 xp D;obtain⟨⟨Y,r1,r2,r3⟩,f0,f1,f2,f3⟩:=gY N.r0;go_wp2;refine bG (v:=.tuple #[.agg #[.int .i64 0,.int .i64 0,.int .u64 0,.slice none 0 0],.int .i64 90]) (by simp[results,results240,go_sem,Y,r1,r2,r3]) rfl (T _ Q (qZ N.bel gC _ _ _ _))
     |true=>
      rw[hu]at hd;have yc:=aH hu;clear hu;(go_wp2_with fail);go_call hd as e w7 ⟨rfl,ho⟩;have N:=aH (o.next ho);clear hd ho m0 m1 m2 m3 n0 n1 n2 n3 xp D;obtain⟨⟨m0,m1,m2,m3⟩,n0,n1,n2,n3⟩:=gY N.rm;have xu:=MN _ _ w7 N.cg1 z8;rw[yc.zz,aU rfl,aU rfl]at xu;(go_wp2_with fail);go_call xu as e w8 ⟨rfl,yn⟩;have R:=aH (N.next yn);clear xu yn m0 m1 m2 m3 n0 n1 n2 n3;obtain⟨⟨Y,r1,r2,r3⟩,f0,f1,f2,f3⟩:=gY R.r0;by_cases hb:iV ⟨a,b,c,f⟩=L
      .have Q:=aH (G7 l x9 yc hb);obtain⟨⟨m0,m1,m2,m3⟩,n0,n1,n2,n3⟩:=gY R.rm;have i8:(L==s.toList)=true:=(by rw[l3,<-ya.zz];simp);go_wp2;refine bG (v:=.tuple #[.agg #[.int .i64 a,.int .i64 b,.int .u64 c,.slice A2 f.length c2],.int .i64 0]) (by simp[results,results240,go_sem,Y,r1,r2,r3]) rfl (yj _ _ Q ⟨_,rfl,R.ret _ _ _ _⟩ (qZ R.bel gC _ _ _ _))
      have Q:=aH (G6 hb);have i8:(iV ⟨a,b,c,f⟩==s.toList)=false:=(by rw[l3,<-ya.zz,bI];exact hb);go_wp2;refine bG (v:=.tuple #[.agg #[.int .i64 0,.int .i64 0,.int .u64 0,.slice none 0 0],.int .i64 90]) (by simp[results,results240,go_sem,Y,r1,r2,r3]) rfl (T _ Q (qZ R.bel gC _ _ _ _))
    have i6:¬s9.toList=[]:=(by rw[l3,J];exact x9);have Q:=aH (yd (by rw[h];exact x9));clear I P hE ha U h1 h J h3 z;obtain⟨⟨Y,r1,r2,r3⟩,f0,f1,f2,f3⟩:=gY o.r0;go_wp2;refine bG (v:=.tuple #[.agg #[.int .i64 0,.int .i64 0,.int .u64 0,.slice none 0 0],.int .i64 90]) (by simp[results,results240,go_sem,Y,r1,r2,r3]) rfl (T _ Q (qZ o.bel gC _ _ _ _))
  have i2:(t.take 4==[105,109,97,112])=false:=by rw[N0,ne_eq,gG];exact hf
  have Q:=aH (YM (s:=L) (by rw[<-ht];unfold GW;simp;intro _ G;exact hf G));clear hL hv X V ht;go_in;go_wp2_with fail
  go_call C _ as e w1 ⟨rfl,p⟩;obtain⟨⟨Y,r1,r2,r3⟩,f0,f1,f2,f3⟩:=gY (S.next p);have he:=aH (dK x2 p gC);clear C p;go_wp2;refine bG (v:=.tuple #[.agg #[.int .i64 0,.int .i64 0,.int .u64 0,.slice none 0 0],.int .i64 90]) (by simp[results,results240,go_sem,Y,r1,r2,r3]) rfl (T _ Q (qZ he gC _ _ _ _))
end Go.Proofs.YtpopikndggffaaaGreatDoor
