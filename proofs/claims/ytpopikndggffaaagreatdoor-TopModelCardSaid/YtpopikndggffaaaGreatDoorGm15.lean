/- TOP, part 15. -/
import Derived.Laws.BytesArg
import Derived.Maps.OwnSet
import Derived.StringKeys
import Derived.Test.YtpopikndggffaaaGreatDoorGm13
namespace Go.Proofs.YtpopikndggffaaaGreatDoor
set_option linter.all false
set_option maxRecDepth 100000
set_option maxHeartbeats 16000000
open Go.RowKit Go.Maps Tryz
variable{d g i k m n:Nat}{t:jL}
def ZY(o:Nat)(S:List jL):Prop:=∀(i:Nat)(t:jL),S[i]?=some t->t.2.1=((o+i:Nat):Int)
def ZY.tail{T:List jL}(h:ZY n (t::T)):ZY (n+1) T:=λi x a=>by
 have:=h (i+1) x (by simpa using a);rw[this];congr 1;omega
def YS(a b:Nat):∀(S:List jL)(o:Nat),ZY o S->S.filter (λt=>decide ((a:Int)<=t.2.1)&&decide (t.2.1<(b:Int)))=(S.drop (a-o)).take (b-max a o):=by
 intro S;induction S with
 |nil=>intro o _;simp
 |cons t S i=>
  intro o h;have d:=h 0 t (by simp);have e:=i (o+1) h.tail;rw[wQ]at d;rcases cR o a with f|f
  .have c:(decide ((a:Int)<=t.2.1)&&decide (t.2.1<(b:Int)))=false:=(by rw[d];simp;omega);rw[j7,c];simp only[bU,dP];rw[e,show a-o=(a-(o+1))+1 by omega,ae4,show max a (o+1)=max a o by omega]
  rcases cR o b with g|g
  .have c:(decide ((a:Int)<=t.2.1)&&decide (t.2.1<(b:Int)))=true:=(by rw[d];simp;omega);rw[j7,c];simp only[eE];rw[e,show a-o=0 by omega,show a-(o+1)=0 by omega,mA,mA,show b-max a o=(b-max a (o+1))+1 by omega,xY]
  have c:(decide ((a:Int)<=t.2.1)&&decide (t.2.1<(b:Int)))=false:=(by rw[d];simp;omega);rw[j7,c];simp only[bU,dP];rw[e,show b-max a o=0 by omega,show b-max a (o+1)=0 by omega,C6,C6]
def ce1{T:List jL}(h:ZY 0 T)(a c:Nat):AB T (a:Int) (c:Int) false=(T.drop a).take c:=by have b:=YS a (a+c) T 0 h;rw[show a+c-max a 0=c by omega,tG]at b;rw[<-b];unfold AB;simp only[bU,dP];refine CA λt _=>?_;unfold zO;simp only[bU,dP];rw[j8];simp;omega
def bI7(s:aT)(l:List Ev):∀(f:Int)(i:Nat)(t:jL),(eG s f l)[i]?=some t->t.1=s/\t.2.1=f+i:=by
 induction l with
 |nil=>intro f i t h;simp[eG]at h
 |cons e l a=>
  intro f i t h;rw[eG]at h;cases i with
  |zero=>simp at h;subst h;exact⟨rfl,by simp⟩
  |succ i=>have:=a (f+1) i t (by simpa using h);exact⟨this.1,by rw[this.2];push_cast;omega⟩
def nmL:List aT:=[⟨#[97]⟩,⟨#[98]⟩,⟨#[97,98]⟩,⟨#[255]⟩]
def nm(k:Nat):aT:=nmL.getD k ⟨#[]⟩
def zQ(S:List jL)(f c:Int)(d:Bool)(k:Nat):List jL:=
 if d then(S.reverse.take k).filter (zO f c true)else((S.take k).filter (fun t=>decide (f<=t.2.1))).take c.toNat
def ak7(S:List jL)(f c:Int)(d:Bool):zQ S f c d 0=[]:=by cases d<;>simp[zQ]
def be7{T:List jL}{f c:Int}(h:T[n]?=t)(b:f<=t.2.1)(a:((zQ T f c false n):Int)<c):zQ T f c false (n+1)=zQ T f c false n++[t]:=by unfold zQ at *;simp only[bU,dP]at *;rw[nG h];simp only[j7,b,decide_true,eE,List.filter_nil];rw[bJ]at a;generalize (T.take n).filter (λt=>decide (f<=t.2.1))=X at a|-;have d:X<c.toNat:=(by omega);rw[aX (by rw[aP];simp;omega),aX (by omega)]
def aL4{T:List jL}{e c:Int}(h:T[n]?=t)(a:¬e<=t.2.1):zQ T e c false (n+1)=zQ T e c false n:=by unfold zQ;simp only[bU,dP];rw[nG h];simp[a]
def at9{T:List jL}{f c:Int}(h:T[n]?=t)(a:¬((zQ T f c false n):Int)<c):zQ T f c false (n+1)=zQ T f c false n:=by unfold zQ at *;simp only[bU,dP]at *;rw[nG h];rw[bJ]at a;generalize (T.take n).filter (λt=>decide (f<=t.2.1))=X at a|-;rw[gD (by omega)]
def au0{T:List jL}{f c:Int}(h:T.reverse[n]?=t)(a:zO f c true t=true):zQ T f c true (n+1)=zQ T f c true n++[t]:=by unfold zQ;simp only[eE];rw[nG h];simp[a]
def MU{T:List jL}{f c:Int}(h:T.reverse[n]?=t)(a:zO f c true t=false):zQ T f c true (n+1)=zQ T f c true n:=by unfold zQ;simp only[eE];rw[nG h];simp[a]
def bU8{T:List jL}(h:ZY 0 T){e a:Int}(f:0<=e)(l:1<=a)(d:Bool):zQ T e a d T=AB T e a d:=by
 obtain⟨m,rfl⟩:=dA f;obtain⟨b,rfl⟩:=dA (by omega:0<=a);cases d with
 |false=>
  rw[ce1 h m b];unfold zQ;simp only[bU,dP];rw[aX gC,cB];congr 1;have c:=YS m T T 0 h;rw[tG,aX (by rw[fF];omega)]at c;rw[<-c];refine CA λt j=>?_;obtain⟨i,g,rfl⟩:=eS j;have k:=h i _ (aK g);have:decide (T[i].2.1<(T:Int))=true:=(by rw[k];simp;omega);rw[this,cl9]
 |true=>unfold zQ AB;simp only[eE];rw[aX (by rw[yA];exact aO _),List.filter_reverse]
def bt5(g:Nat)(vL vM:aN)(T:List jL)(M:List Nat)(P:Nat)(s:aT)(f c:Int)(d:Bool)(w:aI)(h:ZR w g vL vM T M P)(ha:T.length<=800000)(hs:s<=maxLen)(hf:-9223372036854775808<=f/\f<=9223372036854775807)(hc:-9223372036854775808<=c/\c<=9223372036854775807)
 (N:∀t∈dF T s,0<=t.2.1/\t.2.1<=1073741824) :
 Calls prog 40 #[zp g,s,f,c,d] w λe w'=>
  (IY s f c=true->e=.returned (.tuple #[zs,(2:Int)])/\w=w')/\(IY s f c=false->cw3 w (zQ (dF T s) f c d (dF T s)) e w'):=by
   have HO:=TW s w hs;have HS:=JF g vL vM T M P s w h ha;have E:=yI T s;have F:∀t∈dF T s,okT t:=λt y=>h.2.1.2 t (eW.1 y).1;rcases x:iK s with _|_
   .have O:IY s f c=true:=(by unfold IY;rw[x];rfl);rw[x]at HO;have I:=aH O;clear h HS x O E N F hf hc;go_in;(go_wp2_with fail);go_call HO as e w' ⟨rfl,rfl⟩;go_wp2;go_ret2;rw[I.zz];exact⟨λ_=>⟨rfl,rfl⟩,λh=>by cases h⟩
   rw[x]at HO;by_cases h1:f<0\/c<1
   .have O:IY s f c=true:=(by unfold IY;rw[x];simpa using h1);have I:=aH O;clear h HS x O E N F hf hc;rcases(show f<0\/(¬f<0/\c<1)from by omega)with h2|⟨h2,h3⟩
    all_goals
     clear h1;go_in;(go_wp2_with fail);go_call HO as e w' ⟨rfl,rfl⟩;go_wp2;go_ret2;rw[I.zz];exact⟨λ_=>⟨rfl,rfl⟩,λh=>by cases h⟩
   have O:IY s f c=false:=(by unfold IY;rw[x];simp;omega);have h2:¬f<0:=(by omega);have h3:¬c<1:=(by omega);have⟨I,HF,HC⟩:=aB O hf hc;generalize dF T s=S at *;have⟨n,hn⟩:=kX S.length;rw[<-hn]at E;have ho:n<=800000:=(by omega);have⟨Q,h4,hh⟩:=aB hn N F;have⟨i0,h8,hd,he,hg⟩:=info_parts K8;clear h x O E N F hf hc h1 ha hn;go_in;(go_wp2_with fail);go_call HO as e w' ⟨rfl,rfl⟩;clear HO;(go_wp2_with fail);go_call HS as e w1 ⟨vt,rfl,C,h6⟩;clear HS;have U:vA w1 vt S:=⟨Reads.dC C,hh⟩;obtain⟨A,ca,rfl,-⟩:=id U.1;have HB:=aH (λh0=>U.later h0);rw[show S.length=n from Q.zz.symm]at C|-;have h5:=aH h6;clear U C h6;(go_wp2_with fail);go_loopw [13,14] (λo i wr=>∃k m:Nat,k<=n/\m<=k/\i=.int .i64 k/\wr.ownsRow w1 133 5 o m (fH (zQ S f c d k))/\(zQ S f c d k)=m/\aS w1 w1 wr) (λ_ i _=>n-(intOf i).toNat)
   .exact⟨0,0,by omega,by omega,rfl,by rw[ak7];exact bQ _ _ _ _,by rw[ak7];rfl,mE⟩
   obtain⟨k,m,hk,hm,rfl,p,u,G⟩:=hrel;by_cases hl:k<n
   .have⟨b,hr,hA,hi,r⟩:=HB (by have:=Q.zz;omega);subst hA;obtain⟨ov,hj,rfl,-⟩:=Reads.dC p;have⟨v,j,l⟩:=aB u p G;have i1:(k:Int)<n:=(by omega);have i2:(n:Int)-1-(k:Int)=((n-1-k:Nat):Int):=(by omega);have i3:((n-1-k:Nat):Int)<n:=(by omega);cases d with
    |false=>
     obtain⟨t,y⟩:∃t,S[k]?=some t:=⟨_,aK (by have:=Q.zz;omega)⟩;have⟨c0,c1,c2,c3,c4⟩:=r k t y wr G;have K:=h4 t (bD y);have⟨Y,H,Z,t4,t5⟩:=t;dsimp only at c0 c1 c2 c3 c4 K;have B:aS wr wr (wr.alloc (.cells (oJ (Y,H,Z,t4,t5)) 133)):=cI wr _;have J:=EW wr (Y,H,Z,t4,t5);have⟨q,R⟩:=aA B J;clear r B J K p G;by_cases g1:f<=H
     .by_cases g2:(m:Int)<c
      iterate 2
       ·(first|(have a:=aH (be7 (c:=c) y g1 (by rw[u];exact g2)))|(have a:=aH (at9 (f:=f) (c:=c) y (by rw[u];exact g2))));clear u y;(try ((go_wp2_with (first|(at_builtin;refine iZ _ rfl _ _ 46 rfl w1 133 i0 _ 5 64 underlying46 h8 hd he hg rfl (by decide) _ m _ rfl (cA j q) _ 1 (fH [(Y,H,Z,t4,t5)]) rfl R (sC _) (by unfold maxLen;omega) (by omega) (aJ l q).size ?_;intro v3 w3 D W)));have V:=(aJ l q).grown W (aJ l q).size (dE j)));go_wp2;go_roundw;(first|(case rel=>exact⟨k+1,m+1,by omega,by omega,by go_num,by rw[a.zz,rK];exact D,by rw[a.zz,aP,v.zz];rfl,V⟩)|(case rel=>exact⟨k+1,m,by omega,by omega,by go_num,by rw[a.zz];exact j,by rw[a.zz];exact v,l⟩));simp[intOf];omega
     have a:=aH (aL4 (c:=c) y g1);clear u y;go_wp2;go_roundw
     .exact⟨k+1,m,by omega,by omega,by go_num,by rw[a.zz];exact j,by rw[a.zz];exact v,l⟩
     simp[intOf];omega
    |true=>
     obtain⟨t,y⟩:∃t,S.reverse[k]?=some t:=⟨_,aK (by rw[yA];have:=Q.zz;omega)⟩;have X:S[n-1-k]?=some t:=by rw[cu2 (by have:=Q.zz;omega)]at y;rw[Q.zz];exact y
     have⟨c0,c1,c2,c3,c4⟩:=r (n-1-k) t X wr G;have K:=h4 t (bD X);have⟨Y,H,Z,t4,t5⟩:=t;dsimp only at c0 c1 c2 c3 c4 K;have⟨e9,h7⟩:=kX (n-1-k);rw[<-h7]at c0 c1 c2 c3 c4 i2 i3;have B:aS wr wr (wr.alloc (.cells (oJ (Y,H,Z,t4,t5)) 133)):=cI wr _;have J:=EW wr (Y,H,Z,t4,t5);have⟨q,R⟩:=aA B J;have⟨z,hz⟩:=kX (f-H);have hp:IntKind.i64.wrap (f-H)=z:=(by rw[dM];have:=HF.zz;omega);have hq:wrap64 (f-H)=z:=(by unfold wrap64;have:=HF.zz;omega);have HZ:=aH hz;clear r B J K p G X h7 hz;by_cases g1:H<=f
     .by_cases g2:z<c
      iterate 2
       ·(first|(have a:=aH (au0 (f:=f) (c:=c) y (by have:=HZ.zz;unfold zO;simp;omega)))|(have a:=aH (MU (f:=f) (c:=c) y (by have:=HZ.zz;unfold zO;simp;omega))));clear u y;(try ((go_wp2_with (first|(at_builtin;refine iZ _ rfl _ _ 46 rfl w1 133 i0 _ 5 64 underlying46 h8 hd he hg rfl (by decide) _ m _ rfl (cA j q) _ 1 (fH [(Y,H,Z,t4,t5)]) rfl R (sC _) (by unfold maxLen;omega) (by omega) (aJ l q).size ?_;intro v3 w3 D W)));have V:=(aJ l q).grown W (aJ l q).size (dE j)));go_wp2;go_roundw;(first|(case rel=>exact⟨k+1,m+1,by omega,by omega,by go_num,by rw[a.zz,rK];exact D,by rw[a.zz,aP,v.zz];rfl,V⟩)|(case rel=>exact⟨k+1,m,by omega,by omega,by go_num,by rw[a.zz];exact j,by rw[a.zz];exact v,l⟩));simp[intOf];omega
     have a:=aH (MU (f:=f) (c:=c) y (by have:=HZ.zz;unfold zO;simp;omega));clear u y;go_wp2;go_roundw
     .exact⟨k+1,m,by omega,by omega,by go_num,by rw[a.zz];exact j,by rw[a.zz];exact v,l⟩
     simp[intOf];omega
   obtain rfl:k=n:=(by omega);have⟨j,v⟩:=aA p u;clear p u;go_wp2;go_ret2;rw[I.zz];refine⟨(λh=>by cases h),λ_=>⟨_,rfl,?_,aJ h5 G⟩⟩;have h9:=FD j h5.size;rwa[<-v.zz,Q.zz]at h9
variable{M:List Nat}{X Y:List aN}{w x y:aI}{u v z:aN}{T U e:cD}
def aR1(w:aI)(a:Nat)(e:cD)(c:Nat)(v:aN)(n:Nat)(d:List aN):Prop:=∃b,v=.slice (some ⟨b,0,none⟩) n n/\a<=b/\Row w b e d/\d.length=n*c/\n<=maxLen
def lK(w:aI)(a:Nat)(e:cD)(b:Nat)(v:aN)(n:Nat)(c:List aN):Prop:=w.ownsRow a e b v n c\/aR1 w a e b v n c
def lK.reads(h:lK w n T k v m X):Reads w v k m X:=by
 rcases h with h|⟨b,rfl,e,a,c,d⟩
 .exact Reads.dC h
 exact Reads.DX a c (aO _) d
def lK.row{n:Nat}(h:lK w k T m v n X)(a:v.ownBlock=some i):Row w i T X/\k<=i:=by
 rcases h with h|⟨b,rfl,c,d,e,f⟩
 .exact⟨dZ h a,dE h i a⟩
 simp[Value.ownBlock]at a;subst a;exact⟨d,c⟩
def lK.eO{w':aI}(h:lK w n T k v m X)(a:∀g,v.ownBlock=some g->w'.heap[g]?=w.heap[g]?):lK w' n T k v m X:=by
 rcases h with h|⟨b,rfl,c,d,e,f⟩
 .exact .inl (fG h a)
 exact .inr ⟨b,rfl,c,d.of_block (a b (by simp[Value.ownBlock])),e,f⟩
def lK.next{w:aI}{base k n:Nat}{e:cD}{v:aN}(h:lK w base e k v n X)(a:aS w.heap.size w x):lK x base e k v n X:=
 h.eO λc b=>a.block c (h.row b).1.lt
def wO(w:aI)(a g:Nat)(c d:aN)(T:List jL)(M:List Nat)(b:Nat):Prop:=
 Row w g 48 [c,d,.int .i64 (b:Nat)]/\a<=g/\lK w a 133 5 c T.length (fH T)/\lK w a 3 1 d M.length (qQ M)/\∀t∈T,okT t
def wO.next{w:aI}{base g:Nat}{v u:aN}{T:List jL}{n:Nat}(h:wO w base g v u T M n)(a:aS w.heap.size w x):wO x base g v u T M n:=
 ⟨h.1.next a,h.2.1,h.2.2.1.next a,h.2.2.2.1.next a,h.2.2.2.2⟩
def wO.r{w:aI}{base g:Nat}{v u:aN}{T:List jL}{n:Nat}(h:wO w base g v u T M n):ZR w g v u T M n:=
 ⟨h.1,⟨h.2.2.1.reads,h.2.2.2.2⟩,h.2.2.2.1.reads⟩
def mC:(133:cD)≠48/\(3:cD)≠48/\(3:cD)≠133:=⟨by decide,by decide,by decide⟩
def FU(w:aI)(a:Nat)(e:cD)(b:Nat)(v:aN)(n:Nat)(c:List aN)(r:Option Nat):Prop:=r=none\/(r=v.ownBlock/\w.ownsRow a e b v n c)
def FU.ne{r:Option Nat}(h:FU w n T k v m X r){i:Nat}{U:cD}{Y:List aN}(c:Row w i U Y)(a:T≠U):some i≠r:=by
 rcases h with rfl|⟨rfl,h⟩
 .exact λh=>by cases h
 exact λb=>bw1 h c a i b.symm rfl
def FU.next{w:aI}{base k n:Nat}{e:cD}{v:aN}{r:Option Nat}(h:FU w base e k v n X r)(a:aS w.heap.size w x):FU x base e k v n X r:=by
 rcases h with rfl|⟨rfl,h⟩
 .exact .inl rfl
 exact .inr ⟨rfl,cA h a⟩
def YE{wr:aI}{g:Nat}{r:Option Nat}(d:FU wr k T m v n X r)(b:aS wr.heap.size wr w)(a:w.grownBy x r)(j:Nat)(u:aN):jZ wr (x.setCell ⟨g,j,none⟩ u) g v.ownBlock:=by
 refine jZ.trans (jZ.cQ b g v.ownBlock) (jZ.trans ?_ (jZ.DV j _ _));rcases d with rfl|⟨rfl,-⟩
 .exact⟨a.os,a.tape,a.output,a.size,λe c _ _=>a.block e c (by simp)⟩
 exact jZ.bO5 a g
def uB(e:Row w n T X)(c:Row w k U Y)(b:U≠T)(j:Nat)(u:aN):(w.setCell ⟨n,j,none⟩ u).heap[k]?=w.heap[k]?:=
 aV _ _ _ _ (λd=>by
  have a:k=n:=d;subst a;exact b (dI c e))
def aB0{wr w:aI}{g:Nat}{T:List jL}{r:Option Nat}(h:wO wr n g v u T M k)(o:FU wr n 133 5 v T.length (fH T) r)(l:aS wr.heap.size wr w)(m:w.grownBy x r)
 (b:x.ownsRow n 133 5 z (T.length+1) (fH T++fH [t])) (p:okT t):wO (x.setCell ⟨g,0,none⟩ z) n g z u (T++[t]) M k:=by
  have e:=h.next l;have d:=o.next l;have a:Row x g 48 [v,u,.int .i64 k]:=e.1.grown m (d.ne e.1 mC.1);refine⟨a.set 0 z,h.2.1,.inl ?_,?_,λs i=>?_⟩
  .rw[aP,rK];exact fG b (λq c=>uB a (dZ b c) mC.1 0 z)
  .have j:lK x n 3 1 u M.length (qQ M):=e.2.2.2.1.eO λq c=>m.block q (e.2.2.2.1.row c).1.lt (d.ne (e.2.2.2.1.row c).1 (λh=>mC.2.2 h.symm));exact j.eO λq c=>uB a (j.row c).1 mC.2.1 0 z
  rcases cE.1 i with f|f
  .exact h.2.2.2.2 s f
  rw[bT.1 f];exact p
def ag7{wr:aI}{g:Nat}{T:List jL}{r:Option Nat}(h:wO wr n g v u T M k)(l:FU wr n 3 1 u M.length (qQ M) r)(i:aS wr.heap.size wr w)(j:w.grownBy x r)
 (b:x.ownsRow n 3 1 z (M.length+1) (qQ M++qQ [m])):wO (x.setCell ⟨g,1,none⟩ z) n g v z T (M++[m]) k:=by
  have e:=h.next i;have d:=l.next i;have a:Row x g 48 [v,u,.int .i64 k]:=e.1.grown j (d.ne e.1 mC.2.1);refine⟨a.set 1 z,h.2.1,?_,.inl ?_,h.2.2.2.2⟩
  .have f:lK x n 133 5 v T.length (fH T):=e.2.2.1.eO λo c=>j.block o (e.2.2.1.row c).1.lt (d.ne (e.2.2.1.row c).1 mC.2.2);exact f.eO λo c=>uB a (f.row c).1 mC.1 1 z
  rw[aP,show qQ (M++[m])=qQ M++qQ [m]from by simp[qQ]];exact fG b (λo c=>uB a (dZ b c) mC.2.1 1 z)
def jZ.trans'{o d:Option Nat}(a:jZ w x n o)(b:jZ x y n d)(c:d=o\/∀k,d=some k->w.heap.size<=k):jZ w y n o:=
 ⟨b.os.trans a.os,b.tape.trans a.tape,b.output.trans a.output,aL a.size b.size,λk h g f=>(b.block k (aW h a.size) g (λe=>by
  rcases c with rfl|c
  .exact f e
  have:=c k e.symm;omega)).trans (a.block k h g f)⟩
def oK:(prog.info? 3).map (λi=>(i.zero,i.size,i.bytes))=some (some (.int .i64 0),1,8):=by kernel_rfl
def SI(M:List Nat):∀u∈qQ M,u.oneCell'=true:=by intro u a;obtain⟨n,-,rfl⟩:=dR.1 a;rfl
def bD8(w:aI)(m:Nat):Reads (w.alloc (.cells #[.int .i64 m] 3)) (.slice (some ⟨w.heap.size,0,none⟩) 1 1) 1 1 (qQ [m]):=
 Reads.DX (size:=1) (n:=1) (cap:=1) (Row.new w #[.int .i64 m] 3) rfl (aO _) (by unfold maxLen;omega)
variable{a:List MemPlace}{s:bK}{l:bZ}{f:fM}
abbrev Du:=DataW Unit
def sU(v:aN):Option (Du×List MemPlace):=match v with
 |.pointer none=>some (.lit (.int .i64 (-1)),[])
 |.pointer (some ⟨b,0,none⟩)=>some (.lit (.int .i64 (b:Int)),[])
 |_=>none
def S8:sU (.pointer none)=some (.lit (.int .i64 (-1)),[]):=rfl
def LM(b:Nat):sU (.pointer (some ⟨b,0,none⟩))=some (.lit (.int .i64 b),[]):=rfl
def XE(h:sU v=some (.lit (.int .i64 n),a)):v=.pointer (some ⟨n,0,none⟩):=by
 unfold sU at h;split at h
 .simp at h
 .rename_i c;simp at h;have:c=n:=(by omega);rw[this]
 cases h
def aC7(h:sU v=some (.lit (.int .i64 (-1)),a)):v=.pointer none:=by
 unfold sU at h;split at h
 .rfl
 .simp at h
 cases h
def sk(a n:bK):(Lit.string a).sameKey (.string n)=(a==n):=rfl
def T6(a b:bK):bytesBefore a b=true↔a<b:=by
 induction a generalizing b with
 |nil=>cases b with
  |nil=>simp[bytesBefore]
  |cons y s=>simp[bytesBefore]
 |cons x r c=>cases b with
  |nil=>simp[bytesBefore]
  |cons y s=>rw[bytesBefore,zJ,bL,cu3,c s];simp
def kR(l:bZ)(a:bK->Nat):Du:=.map (l.map fun p=>(.string p.1,.lit (.int .i64 (a p.1:Int))))
def be1(l:bZ)(a:bK->Nat)(n:bK):has (kR l a) (.string n)=(bR l n).isSome:=by
 unfold kR has;induction l with
 |nil=>rfl
 |cons p l b=>
  rw[dN,bR];simp only[List.any_cons];by_cases h:p.1=n
  .simp[h,Lit.sameKey]
  simp only[h,dP];rw[<-b];simp[Lit.sameKey,h]
def ak0(h:bR l s=some f)(a:bK->Nat)(z:Du):(kR l a).atKey (.string s) z=.lit (.int .i64 (a s:Int)):=by
 unfold kR DataW.atKey;induction l with
 |nil=>cases h
 |cons p l d=>
  rw[bR]at h;by_cases b:p.1=s
  .have c:(Lit.string p.1).sameKey (.string s)=true:=(by rw[sk];simpa using b);simp only[dN,bG4,c];rw[b]
  rw[aQ b]at h;have c:(Lit.string p.1).sameKey (.string s)=false:=(by rw[sk];simpa using b);simp only[dN,bG4,c];exact d h
def bC1(h:bR l s=none)(a:bK->Nat)(z:Du):(kR l a).atKey (.string s) z=z:=by
 unfold kR DataW.atKey;induction l with
 |nil=>rfl
 |cons p l d=>
  rw[bR]at h;by_cases b:p.1=s
  .rw[aU b]at h;cases h
  rw[aQ b]at h;have c:(Lit.string p.1).sameKey (.string s)=false:=(by rw[sk];simpa using b);simp only[dN,bG4,c];exact d h
def YU(l:bZ)(a:bK->Nat)(n:bK):(kR l a).del (.string n)=kR (jX l n) a:=by
 unfold kR jX;show DataW.map ((l.map λp=>((Lit.string p.1,DataW.lit (.int .i64 (a p.1:Int))):Lit×Du)).filter λp=>!p.1.sameKey (.string n))=_;rw[List.filter_map];congr 2;apply CA;intro p _;show(!(p.1==n))=!decide (p.1=n);rw[cu4]
def YT(z:rZ l)(a:bK->Nat)(n:bK)(b:Nat)(f:fM):(kR l a).put (.string n) (.lit (.int .i64 b))=kR (eH l n f) (λm=>if m=n then b else a m):=by
 unfold kR;show DataW.map (DataW.insert (.string n,.lit (.int .i64 b)) ((l.map λp=>((Lit.string p.1,DataW.lit (.int .i64 (a p.1:Int))):Lit×Du)).filter λp=>!p.1.sameKey (.string n)))=_;congr 1;induction l with
 |nil=>simp[eH,DataW.insert]
 |cons p l u=>
  obtain⟨m,g⟩:=p;obtain⟨s,v⟩:=dD.1 z;have u:=u v;rw[eH];have i:∀d:bZ,(∀q∈d,q.1≠n)->(d.map λp=>((Lit.string p.1,DataW.lit (.int .i64 (a p.1:Int))):Lit×Du))=d.map λp=>(Lit.string p.1,DataW.lit (.int .i64 ((if p.1=n then b else a p.1:Nat):Int))):=λd h=>IQ λq j=>by rw[aQ (h q j)]
  have e:∀d:bZ,(∀q∈d,q.1≠n)->((d.map λp=>((Lit.string p.1,DataW.lit (.int .i64 (a p.1:Int))):Lit×Du)).filter λp=>!p.1.sameKey (.string n))=d.map λp=>(Lit.string p.1,DataW.lit (.int .i64 (a p.1:Int))):=λd h=>by rw[pN];intro q j;obtain⟨p,y,rfl⟩:=dR.1 j;simp[Lit.sameKey,h p y]
  by_cases k:m=n
  .subst k;have c:∀q∈l,q.1≠m:=λq j h=>by have r:=s q j;rw[h]at r;exact lY _ r
   rw[aU rfl,dN,j7];rw[aQ (by show¬((!(Lit.string m).sameKey (.string m))=true);rw[sk];simp),dN,e l c];simp only[eE];rw[<-i l c];cases l with
   |nil=>rfl
   |cons q d=>have:bytesBefore m q.1=true:=(T6 _ _).2 (s q (by simp));simp[DataW.insert,Lit.before,this]
  rw[aQ k,dN,j7];have x:(!(Lit.string m).sameKey (.string n))=true:=(by simp[Lit.sameKey,k]);rw[aU x,DataW.insert];by_cases o:n<m
  .have t:(Lit.string n).before (.string m)=true:=(T6 _ _).2 o;have c:∀q∈l,q.1≠n:=λq j h=>by have r:=s q j;rw[h]at r;exact lY _ (xT o r)
   rw[aU o,aU t,e l c,dN,dN,<-i l c];simp[k]
  have t:(Lit.string n).before (.string m)=false:=by
   cases w:(Lit.string n).before (.string m)with
   |false=>rfl
   |true=>exact absurd ((T6 _ _).1 w) o
  rw[aQ o,t,dN,<-u];simp[k]
def DF(l:bZ)(a:bK->Nat):Maps.size (kR l a)=l.length:=by unfold kR Maps.size;simp
variable{A:Program}{D:aM}{R:aN->Option (Du×List MemPlace)}{K:bK->Nat}{H:bK->aN}
def CD(w:aI)(k:Nat):Prop:=∃C t a,w.heap[k]?=some (.cells C t a)/\(t=103\/t=112\/t=5)
def CI(w:aI)(k:Nat):Prop:=∃C a,w.heap[k]?=some (.cells C 103 a)
def OwnAt(w:aI)(k b:Nat):Prop:=∃v,w.cell? ⟨k,9,none⟩=some v/\v.ownBlock=some b
def kC{n:Nat}(h:x.heap[k]?=w.heap[k]?):CI w k->CI x k/\∀b,b<n->OwnAt x k b->OwnAt w k b:=λ⟨C,c,f⟩=>
 ⟨⟨C,c,h.trans f⟩,λb _ ⟨v,d,e⟩=>⟨v,(dH (a:=⟨k,9,none⟩) h).symm.trans d,e⟩⟩
def mV{n:Nat}(h:CI w n):Row w n 103 []:=by obtain⟨C,a,b⟩:=h;exact⟨C,a,b,by simp,λj c=>by simp at c⟩
def oT{n:Nat}(h:CI w n)(e:Row w k T X)(f:T≠103):n≠k:=λd=>by
 obtain⟨C,i,b⟩:=h;obtain⟨g,c,a,-⟩:=e;rw[d,a]at b;cases b;exact f rfl
def JZ(r:Row w n 103 X)(c:Row x n 103 Y)(i:9<X.length)(j:9<Y.length)(g:∀b,b<k->Y[9].ownBlock=some b->X[9].ownBlock=some b):CI w n->CI x n/\∀b,b<k->OwnAt x n b->OwnAt w n b:=λ_=>by
 obtain⟨C,d,h,-⟩:=id c;refine⟨⟨C,d,h⟩,λb f ⟨v,a,e⟩=>⟨X[9],r.cell 9 i,g b f ?_⟩⟩;rw[c.cell 9 j]at a;cases a;exact e
structure gS(c m:Nat)(w a:aI):Prop where
 os:a.os=w.os
 tape:a.tape=w.tape
 output:a.output=w.output
 size:w.heap.size<=a.heap.size
 block:∀k,k<w.heap.size->(k<c\/(k≠m/\¬CD w k))->a.heap[k]?=w.heap[k]?
 kept:∀k,CI w k->CI a k/\∀b,b<w.heap.size->OwnAt a k b->OwnAt w k b
def gS.refl(base m:Nat)(w:aI):gS base m w w:=⟨rfl,rfl,rfl,aO _,λ_ _ _=>rfl,λk h=>⟨h,λ_ _ h=>h⟩⟩
def gS.cQ(h:aS w.heap.size w x)(a m:Nat):gS a m w x:=⟨h.os,h.tape,h.output,h.size,λk c _=>h.block k c,λk b=>kC (h.block k (mV b).lt) b⟩
def gS.trans{n:Nat}{a w x:aI}(b:gS n k a w)(c:gS n k w x):gS n k a x:=
 ⟨c.os.trans b.os,c.tape.trans b.tape,c.output.trans b.output,aL b.size c.size,λp i h=>by
  have e:=b.block p i h;refine(c.block p (aW i b.size) (h.imp id λf=>⟨f.1,λ⟨C,t,j,l,m⟩=>f.2 ⟨C,t,j,by rw[<-e];exact l,m⟩⟩)).trans e,λp d=>⟨(c.kept p (b.kept p d).1).1,λw g o=>(b.kept p d).2 w g ((c.kept p (b.kept p d).1).2 w (aW g b.size) o)⟩⟩
def gS.below(a:aS n y x)(h:gS n k x w)(c:n<=y.heap.size):aS n y w:=
 ⟨h.os.trans a.os,h.tape.trans a.tape,h.output.trans a.output,aL a.size h.size,λd b=>(h.block d (by have:=a.size;omega) (.inl b)).trans (a.block d b)⟩
def pK(h:Row w n T X)(c:T=103\/T=112\/T=5):CD w n:=by obtain⟨C,a,b,-⟩:=h;exact⟨C,T,a,b,c⟩
def gS.row{n:Nat}{w':aI}(h:gS n k w w')(a:Row w m T X)(g:¬(T=103\/T=112\/T=5))(f:m≠k):Row w' m T X:=by refine a.of_block (h.block m a.lt (.inr ⟨f,λ⟨C,l,j,b,d⟩=>?_⟩));obtain⟨i,c,e,-⟩:=a;rw[e]at b;cases b;exact g d
structure RI(w:aI)(a b:Nat)(v:aN)(f:fM):Prop where
 row:Row w b 112 [v,.int .i64 (f.sync:Nat)]
 low:a<=b
 own:lK w a 5 1 v f.data.length (dS f.data)
 sync:f.sync<=f.data.length
def xA(l:List Int):List aN:=l.map fun n=>.int .i64 n
structure bM(w:aI)(b d m:Nat)(D:aM)(c:bK->Nat)(e:bK->aN):Prop where
 row:∃(a:Int)(h:aN),Row w d 103 [.bool true,.int .i64 (D.cap:Nat),.int .i64 (dT D.files:Nat),.map (some m),.int .i64 a,.int .i64 (D.bP:Nat),.bool D.down,.bool D.tB,.int .i64 (D.left:Nat),h]/\(-9223372036854775808<=a/\a<=9223372036854775807)/\lK w b 3 1 h D.eO.length (xA D.eO)
 low:b<=d/\b<=m
 map:w.ownsMap prog 9 sU m D.files.length (kR D.files c)
 files:∀n f,bR D.files n=some f->RI w b (c n) (e n) f
 apart:∀n g f i,bR D.files n=some f->bR D.files g=some i->n≠g->c n≠c g/\∀k,(e n).ownBlock=some k->(e g).ownBlock≠some k
 kO:rZ D.files
 cap:D.cap<=1048576
 used:dT D.files<=D.cap
 many:D.files.length<=400
 bP:D.bP<=1000000000
 left:D.left<=9223372036854775807
 names:∀p∈D.files,jH p.1=true
 kept:∀n∈D.eO,-9223372036854775808<=n/\n<=9223372036854775807
def RI.next{w:aI}{base b:Nat}{v:aN}{f:fM}(h:RI w base b v f)(a:aS w.heap.size w x):RI x base b v f:=⟨h.row.next a,h.low,h.own.next a,h.sync⟩
def GO{D:Du}(h:w.ownsMap A T R k n D)(a:aS w.heap.size w x):x.ownsMap A T R k n D:=
 h.kept (row:=none) ⟨a.os,a.tape,a.output,a.size,λT b _=>a.block T b⟩ (by simp)
def bM.next{w:aI}{base n k:Nat}(h:bM w base n k D K H)(b:aS w.heap.size w x):bM x base n k D K H:=by obtain⟨a,i,c,d,e⟩:=h.row;exact⟨⟨a,i,c.next b,d,e.next b⟩,h.low,GO h.map b,λj f g=>(h.files j f g).next b,h.apart,h.kO,h.cap,h.used,h.many,h.bP,h.left,h.names,h.kept⟩
def bM.lt{n:Nat}(h:bM w k n m D K H):n<w.heap.size/\m<w.heap.size:=by obtain⟨a,c,b,-⟩:=h.row;exact⟨b.lt,h.map.lt⟩
def bM.cells{w:aI}{base n k:Nat}{H:bK->aN}(h:bM w base n k D K H):w.cell? ⟨n,0,none⟩=some (.bool true)/\w.cell? ⟨n,1,none⟩=some (.int .i64 (D.cap:Nat))/\w.cell? ⟨n,2,none⟩=some (.int .i64 (dT D.files:Nat))/\w.cell? ⟨n,3,none⟩=some (.map (some k))/\w.cell? ⟨n,5,none⟩=some (.int .i64 (D.bP:Nat))/\w.cell? ⟨n,6,none⟩=some (.bool D.down)/\w.cell? ⟨n,7,none⟩=some (.bool D.tB)/\w.cell? ⟨n,8,none⟩=some (.int .i64 (D.left:Nat)):=by obtain⟨b,c,a,-⟩:=h.row;exact⟨a.cell 0 (by simp),a.cell 1 (by simp),a.cell 2 (by simp),a.cell 3 (by simp),a.cell 5 (by simp),a.cell 6 (by simp),a.cell 7 (by simp),a.cell 8 (by simp)⟩
def ao0:Keyed prog 9:=string_keyed underlying9
def ae7(w:aI):(zeroValue 107).run prog w=.ok (.pointer none) w:=by kernel_rfl
def keyOf_str(s:aT)(a:s.size<=maxLen):keyOf prog 9 (.string s)=some (.string (lb s)):=Go.WideMaps.keyOf_string_mk underlying9 a
def FM(h:bM w k n m D K H):
 Calls prog 75 #[.pointer (some ⟨n,0,none⟩)] w λe a=>e=.returned (.bool false)/\w=a:=by
  obtain⟨b,-⟩:=h.cells;clear h;go_in;go_wp2;go_ret;exact⟨rfl,rfl⟩
def NK(D:aM):Int:=if D.down then 61 else 0
def BU(h:bM w k n m D K H):
 Calls prog 51 #[.pointer (some ⟨n,0,none⟩)] w λe a=>e=.returned (.int .i64 (NK D))/\w=a:=by
  obtain⟨f,-,-,-,-,c,-⟩:=h.cells;have b:=FM h;clear h;unfold NK;rcases d:D.down with _|_
  all_goals
   rw[d]at c;go_in;(go_wp2_with fail);refine b.mono ?_;rintro e a ⟨rfl,rfl⟩;go_wp2;go_ret;exact⟨rfl,rfl⟩
def HY(h:bM w k n m D K H):
 Calls prog 29 #[.pointer (some ⟨n,0,none⟩)] w λe c=>e=.returned (.bool (!D.down))/\w=c:=by
  have a:=BU h;clear h;unfold NK at a;rcases d:D.down with _|_
  all_goals
   rw[d]at a;simp only[bU,dP,eE]at a;have b:=aH a;clear a;go_in;(go_wp2_with fail);refine b.out.mono ?_;rintro e c ⟨rfl,rfl⟩;go_wp2;go_ret;exact⟨rfl,rfl⟩
def ak8(s:aT)(w:aI)(d:s.size<=maxLen):
 Calls prog 259 #[.string s] w λe g=>e=.returned (.bool (jH (lb s)))/\w=g:=by
  unfold maxLen at d;by_cases z:s.size=0
  .have c:(s.toList==[])=true:=(by rw[toList_nil z];rfl);have a:jH (lb s)=false:=(by unfold jH;simp;intro h;exact absurd (fE.1 (by rw[bN];exact z)) h);rw[a];clear a;go_in;go_wp2;go_ret;exact⟨rfl,rfl⟩
  have c:(s.toList==[])=false:=(by rw[bI];exact EX z);have b:lb s≠[]:=λh=>z (by rw[<-bN,h];rfl);by_cases i:s.size<=12
  iterate 2
   ·(first|(have f:(s.size:Int)<=12:=by omega)|(have f:¬(s.size:Int)<=12:=by omega));(first|(have a:jH (lb s)=true:=by unfold jH;simp;exact⟨b,by omega⟩)|(have a:jH (lb s)=false:=by unfold jH;simp;intro _;omega));rw[a];clear a b;go_in;go_wp2;go_ret;exact⟨rfl,rfl⟩
def eU:(112:cD)≠103/\(5:cD)≠103/\(5:cD)≠112/\(3:cD)≠103/\(3:cD)≠112/\(3:cD)≠5:=⟨by decide,by decide,by decide,by decide,by decide,by decide⟩
def fP{D:Du}(h:w.ownsMap A U R n m D)(d:Row w k T X):n≠k:=by rintro rfl;obtain⟨e,a,b,-⟩:=h;obtain⟨C,f,c,-⟩:=d;rw[c]at b;cases b
def nO{D:Du}(h:w.ownsMap A T R k n D)(e:x.heap[k]?=w.heap[k]?):x.ownsMap A T R k n D:=by obtain⟨b,a,c,d⟩:=h;exact⟨b,a,e.trans c,d⟩
def RI.eO{w':aI}(h:RI w n k v f)(a:∀d t c,Row w d t c->t=112\/t=5->w'.heap[d]?=w.heap[d]?):RI w' n k v f:=
 ⟨h.row.of_block (a _ _ _ h.row (.inl rfl)),h.low,h.own.eO λd b=>a _ _ _ (h.own.row b).1 (.inr rfl),h.sync⟩
def bM.cb6{D':aM}(h:bM w k n m D K H)(b:D'.files=D.files)(j:D'.cap=D.cap)(v:D'.bP<=1000000000)(u:D'.left<=9223372036854775807)(e:∀C∈D'.eO,-9223372036854775808<=C/\C<=9223372036854775807)
 (d:∃(a:Int)(g:aN),Row x n 103 [.bool true,.int .i64 (D'.cap:Nat),.int .i64 (dT D'.files:Nat),.map (some m),.int .i64 a,.int .i64 (D'.bP:Nat),.bool D'.down,.bool D'.tB,.int .i64 (D'.left:Nat),g]/\(-9223372036854775808<=a/\a<=9223372036854775807)/\lK x k 3 1 g D'.eO.length (xA D'.eO))
 (l:∀B,B<w.heap.size->B≠n->x.heap[B]?=w.heap[B]?):bM x k n m D' K H:=by
  obtain⟨a,g,i,-⟩:=h.row;refine⟨d,h.low,?_,λC f c=>?_,λC z f p q r=>h.apart C z f p (by rw[<-b];exact q) (by rw[<-b];exact r),by rw[b];exact h.kO,by rw[j];exact h.cap,by rw[b,j];exact h.used,by rw[b];exact h.many,v,u,by rw[b];exact h.names,e⟩
  .rw[b];exact nO h.map (l m h.map.lt (fP h.map i))
  rw[b]at c;refine(h.files C f c).eO λB t A o y=>l B o.lt (λs=>?_);subst s;have:=dI o i;rcases y with rfl|rfl
  .exact eU.1 this
  exact eU.2.1 this
def gS.DV(e:Row w n 103 X)(p:k<=n)(j:Nat)(u:aN)(g:9<X.length:=by simp)(l:j≠9:=by decide):gS k m w (w.setCell ⟨n,j,none⟩ u):=by
 have a:=jN w ⟨n,j,none⟩ u;refine⟨a.os,a.tape,a.output,a.size,λq o i=>a.block q o (λc=>?_),λq f=>?_⟩;case refine_2=>
  by_cases h:q=n
  .subst h;exact JZ e (e.set j u) g (by simpa using g) (λb _ c=>by rwa [cy5 l]at c) f
  exact kC (aV _ _ _ _ h) f
 have d:q=n:=(by simpa using c);subst d;rcases i with h|⟨-,h⟩
 .omega
 exact h (pK e (.inl rfl))
def ag1(w:aI)(d j:Nat)(u:aN):∀k,k<w.heap.size->k≠d->(w.setCell ⟨d,j,none⟩ u).heap[k]?=w.heap[k]?:=λk b a=>aV _ _ _ _ a
def CR(h:lK w k 3 1 u m X)(b:Row w n 103 Y):lK (w.setCell ⟨n,i,none⟩ v) k 3 1 u m X:=
 h.eO λc a=>uB b (h.row a).1 eU.2.2.2.1 i v
def bM.tick(h:bM w k n m D K H):bM (w.setCell ⟨n,8,none⟩ (.int .i64 ((D.left - 1:Nat):Int))) k n m D.tick K H/\gS k m w (w.setCell ⟨n,8,none⟩ (.int .i64 ((D.left - 1:Nat):Int))):=by obtain⟨a,e,b,c,d⟩:=h.row;have f:=h.left;refine⟨h.cb6 (D':=D.tick) rfl rfl h.bP (by show D.left-1<=_;omega) h.kept ⟨a,e,b.set 8 _,c,CR d b⟩ (ag1 w n 8 _),gS.DV b h.low.1 8 _⟩
def WZ(h:bM w k n m D K H)(s:aT)(d:s.size<=maxLen):
 (∀f,bR D.files (lb s)=some f->(Instr.lookup 101 (.map (some m)) (.string s) true).run prog w=.ok (.tuple #[.pointer (some ⟨K (lb s),0,none⟩),.bool true]) w)/\
 (bR D.files (lb s)=none->(Instr.lookup 101 (.map (some m)) (.string s) true).run prog w=.ok (.tuple #[.pointer none,.bool false]) w):=by
  obtain⟨v,e,a,c⟩:=h.map.look_ok ao0 underlying101 (ae7 w) S8 (keyOf_str s d);rw[be1]at a;constructor
  .intro f b;rw[ak0 b]at c;rw[a,b,XE c];rfl
  intro b;rw[bC1 b]at c;rw[a,b,aC7 c];rfl
def QK(D:aM)(blk:bK->Nat)(n:bK):aN:=if D.down then .tuple #[.pointer none,.int .i64 61]else match bR D.files n with
 |none=>.tuple #[.pointer none,.int .i64 4]
 |some _=>.tuple #[.pointer (some ⟨blk n,0,none⟩),.int .i64 0]
def xP(h:bM w k n m D K H)(s:aT)(l:s.size<=maxLen):
 Calls prog 52 #[.pointer (some ⟨n,0,none⟩),.string s] w λe g=>e=.returned (QK D K (lb s))/\w=g:=by
  have a:=BU h;obtain⟨-,-,-,p,-⟩:=h.cells;obtain⟨c,d⟩:=WZ h s l;clear h;unfold NK at a;unfold QK;rcases i:D.down with _|_
  .rw[i]at a;simp only[bU,dP]at a|-;have b:=aH a;clear a;rcases j:bR D.files (lb s)with _|f
   iterate 2
    ·(first|have o:=d j|have o:=c f j);clear c d;simp only;go_in;(go_wp2_with fail);refine b.out.mono ?_;rintro e g ⟨rfl,rfl⟩;go_wp2;go_ret2;exact⟨rfl,rfl⟩
  rw[i]at a;simp only[eE]at a|-;have b:=aH a;clear a c d;go_in;(go_wp2_with fail);refine b.out.mono ?_;rintro e g ⟨rfl,rfl⟩;go_wp2;go_ret2;exact⟨rfl,rfl⟩
def bY9(a d m:Nat)(D:aM)(b:bK->Nat)(c:bK->aN)(w:aI)(e:eT)(f:aI):Prop:=
 e=.returned (.bool D.qT)/\(D.qT=true->w=f)/\(D.qT=false->bM f a d m D.tick b c/\gS a m w f)
def xQ(h:bM w k n m D K H):
 Calls prog 173 #[.pointer (some ⟨n,0,none⟩)] w (bY9 k n m D K H w):=by
  obtain⟨-,-,-,-,-,-,e,i⟩:=h.cells;obtain⟨g,r,j,-⟩:=h.row;have l:=j.frozen 8 (by simp);have f:=h.left;have a:=aH h.tick;clear h j;unfold bY9;by_cases d:D.left=0
  .have b:D.qT=D.tB:=(by unfold aM.qT;rw[cJ d,cl9]);rw[b];rw[d]at i a;rcases c:D.tB with _|_
   .rw[c]at e;go_in;go_wp2;go_ret;exact⟨rfl,λh=>(by cases h),λ_=>a.out⟩
   rw[c]at e;clear a;go_in;go_wp2;go_ret;exact⟨rfl,λ_=>rfl,λh=>by cases h⟩
  have b:D.qT=false:=(by unfold aM.qT;rw[cC d,bZ3]);rw[b];obtain⟨q,p⟩:∃q,D.left=q+1:=⟨D.left - 1,by omega⟩;rw[p]at i a f;have o:(((q+1:Nat):Int)==0)=false:=(by rw[bI];omega);rcases c:D.tB with _|_
  all_goals
   rw[c]at e;clear d b;go_in;go_wp2;go_ret;exact⟨rfl,λh=>(by cases h),λ_=>by have:=a.out;simpa using this⟩
def ah5(h:bR l s=some f)(k:rZ l)(b:fM):(eH l s b).map (·.1)=l.map (·.1):=by
 induction l with
 |nil=>cases h
 |cons p l n=>
  obtain⟨m,g⟩:=p;obtain⟨c,d⟩:=dD.1 k;rw[bR]at h;rw[eH];by_cases e:m=s
  .rw[aU e,dN,dN,e]
  rw[aQ e]at h;have a:¬s<m:=λj=>by have i:=c _ (xN h);exact lY _ (xT j i)
  rw[aQ e,aQ a,dN,dN,n h d]
def UH(l:bZ)(a:bK->Nat):kR l a=.map ((l.map (·.1)).map λn=>(.string n,.lit (.int .i64 (a n:Int)))):=by unfold kR;rw[C7];rfl
def aK1(h:bR l s=some f)(c:rZ l)(b:fM)(a:bK->Nat):kR (eH l s b) a=kR l a:=by rw[UH,UH,ah5 h c]
def TZ(h:bR l s=some f)(b:rZ l)(a:fM):(eH l s a).length=l.length:=by have:=gQ List.length (ah5 h b a);simpa using this
def NO(h:∀p∈l,jH p.1=true)(b:jH s=true):∀p∈eH l s f,jH p.1=true:=by
 intro p a;rcases aC5 a with rfl|a
 .exact b
 exact h p a
def fileName(h:bM w k n m D K H){s:bK}{f:fM}(a:bR D.files s=some f):jH s=true:=h.names _ (xN a)
def bM.aW4{d:Nat}{D':aM}(h:bM w n d k D K H){s:bK}{f G:fM}(r:bR D.files s=some f){v':aN}(A:D'.files=eH D.files s G)(Q:D'.cap=D.cap)(S:D'.bP<=1000000000)(R:D'.left<=9223372036854775807)(L:∀s∈D'.eO,-9223372036854775808<=s/\s<=9223372036854775807)(T:dT D'.files<=D'.cap)
 (E:∃(c:Int)(M:aN),Row x d 103 [.bool true,.int .i64 (D'.cap:Nat),.int .i64 (dT D'.files:Nat),.map (some k),.int .i64 c,.int .i64 (D'.bP:Nat),.bool D'.down,.bool D'.tB,.int .i64 (D'.left:Nat),M]/\(-9223372036854775808<=c/\c<=9223372036854775807)/\lK x n 3 1 M D'.eO.length (xA D'.eO))
 (t:RI x n (K s) v' G) (O:∀U,v'.ownBlock=some U->(H s).ownBlock=some U\/w.heap.size<=U)
 (J:∀U,U<w.heap.size->U≠d->U≠K s->(H s).ownBlock≠some U->x.heap[U]?=w.heap[U]?):bM x n d k D' K (λV=>if V=s then v' else H V):=by
  obtain⟨c,M,I,-⟩:=h.row;have F:=h.files s f r;have l:∀V g,bR D'.files V=some g->(V=s/\g=G)\/(V≠s/\bR D.files V=some g):=λV g o=>by
   rw[A,fK]at o;by_cases e:s=V
   .rw[aU e]at o;cases o;exact .inl ⟨e.symm,rfl⟩
   rw[aQ e]at o;exact .inr ⟨λh=>e h.symm,o⟩
  have B:∀V g,bR D.files V=some g->∀U,(H V).ownBlock=some U->U<w.heap.size:=λV g o U b=>((h.files V g o).own.row b).1.lt;refine⟨E,h.low,?_,λV g o=>?_,λV y g v o P j=>?_,by rw[A];exact uS h.kO _ _,by rw[Q];exact h.cap,T,by rw[A,TZ r h.kO];exact h.many,S,R,by rw[A];exact NO h.names (fileName h r),L⟩
  .rw[A,TZ r h.kO,aK1 r h.kO];exact nO h.map (J k h.map.lt (fP h.map I) (fP h.map F.row) (λb=>fP h.map (F.own.row b).1 rfl))
  .rcases l V g o with⟨rfl,rfl⟩|⟨j,m⟩
   .simpa using t
   show RI x n (K V) (if V=s then v' else H V) g;rw[aQ j];have p:=h.files V g m;have a:=h.apart V s g f m r j;refine⟨p.row.of_block (J _ p.row.lt (λb=>?_) a.1 (λb=>?_)),p.low,p.own.eO λU b=>J U (p.own.row b).1.lt (λi=>?_) (λi=>?_) (λi=>?_),p.sync⟩
   .have N:=p.row;rw[b]at N;exact eU.1 (dI N I)
   .exact eU.2.2.1 (dI (F.own.row b).1 p.row)
   .subst i;exact eU.2.1 (dI (p.own.row b).1 I)
   .subst i;exact eU.2.2.1 (dI (p.own.row b).1 F.row)
   exact a.2 U b i
  rcases l V g o with⟨rfl,rfl⟩|⟨C,m⟩
  .rcases l y v P with⟨rfl,rfl⟩|⟨u,q⟩
   .exact absurd rfl j
   have a:=h.apart V y f v r q j;refine⟨a.1,λU i b=>?_⟩;simp only[eE]at i;simp only[aQ u]at b;rcases O U i with z|z
   .exact a.2 U z b
   have:=B y v q U b;omega
  rcases l y v P with⟨rfl,rfl⟩|⟨u,q⟩
  .have a:=h.apart V y g f m r j;refine⟨a.1,λU i b=>?_⟩;simp only[aQ C]at i;simp only[eE]at b;rcases O U b with z|z
   .exact a.2 U i z
   have:=B V g m U i;omega
  have a:=h.apart V y g v m q j;refine⟨a.1,λU i b=>?_⟩;simp only[aQ C]at i;simp only[aQ u]at b;exact a.2 U i b
def bM.BO(h:bM w m k i D K H){n:bK}{f:fM}(a:bR D.files n=some f):w.cell? ⟨K n,0,none⟩=some (H n)/\w.cell? ⟨K n,1,none⟩=some (.int .i64 (f.sync:Nat))/\w.frozen? ⟨K n,0,none⟩=false/\w.frozen? ⟨K n,1,none⟩=false:=
 ⟨(h.files n f a).row.cell 0 (by simp),(h.files n f a).row.cell 1 (by simp),(h.files n f a).row.frozen 0 (by simp),(h.files n f a).row.frozen 1 (by simp)⟩
def bM.data{d:Nat}(h:bM w k d m D K H){n:bK}{f:fM}(b:bR D.files n=some f):Reads w (H n) 1 f.data.length (dS f.data)/\f.data.length<=1048576:=by refine⟨(h.files n f b).own.reads,?_⟩;have a:=kZ h.kO n ⟨[],0⟩;rw[b]at a;simp at a;have:=h.used;have:=h.cap;omega
def uX(h:bM w k n m D K H)(s:aT)(o:s.size<=maxLen):
 Calls prog 30 #[.pointer (some ⟨n,0,none⟩),.string s] w λe g=>e=.returned (.tuple #[.int .i64 ((D.size (lb s)).1:Nat),.int .i64 (D.size (lb s)).2])/\w=g:=by
  have a:=xP h s o;unfold QK at a;unfold aM.size;rcases j:D.down with _|_
  .rw[j]at a;simp only[bU,dP]at a|-;rcases d:bR D.files (lb s)with _|f
   iterate 2
    .rw[d]at a;simp only at a|-;(try (obtain⟨l,-⟩:=h.BO d;obtain⟨A,c,i,-⟩:=id (h.data d).1;rw[i]at l));have b:=aH a;(first|clear a h|clear a h i);go_in;(go_wp2_with fail);refine b.out.mono ?_;rintro e g ⟨rfl,rfl⟩;go_wp2;go_ret2;exact⟨rfl,rfl⟩
  rw[j]at a;simp only[eE]at a|-;have b:=aH a;clear a h;go_in;(go_wp2_with fail);refine b.out.mono ?_;rintro e g ⟨rfl,rfl⟩;go_wp2;go_ret2;exact⟨rfl,rfl⟩
def SU(h:bM w k n m D K H):
 Calls prog 258 #[.pointer (some ⟨n,0,none⟩)] w λe b=>e=.returned (.int .i64 D.free)/\aS w.heap.size w b:=by
  have c:=FM h;have o:∀x:dY w,x.it.cell? ⟨n,1,none⟩=some (.int .i64 (D.cap:Nat)):=λx=>(h.next x.ok).cells.2.1;have p:∀x:dY w,x.it.cell? ⟨n,2,none⟩=some (.int .i64 (dT D.files:Nat)):=λx=>(h.next x.ok).cells.2.2.1;have d:=h.cap;have f:=h.used;unfold aM.free;generalize dT D.files=U at *;generalize D.cap=C at *;have i:(U:Int)<=C:=(by omega);have g:(C:Int)<=1048576:=(by omega);clear h d f;go_in;(go_wp2_with fail);refine c.mono ?_;rintro e b ⟨rfl,rfl⟩;(go_wp2_with fail);refine cU (by kernel_rfl) (by kernel_rfl) ?_;repeat go_big_quiet_step (fail)
  refine wpQuiet_nil ?_;intro _ j;obtain⟨⟨l,a⟩,rfl⟩:=j;go_wp2;go_ret;exact⟨rfl,a⟩
def KM(h:bM w k n m D K H):
 Calls prog 117 #[.pointer (some ⟨n,0,none⟩)] w λe a=>e=.returned (.int .i64 (D.bP:Nat))/\w=a:=by
  have b:=FM h;obtain⟨-,-,-,-,c,-⟩:=h.cells;clear h;go_in;(go_wp2_with fail);refine b.mono ?_;rintro e a ⟨rfl,rfl⟩;go_wp2;go_ret;exact⟨rfl,rfl⟩
variable{Q:List bB}
def ap0{A:Option Addr}(h:Reads w (.slice A n k) 1 Q.length (dS Q))(a c m:Nat)(x:a<=c)(y:c<=Q.length)(z:c<=m)(B:m<=k):Reads w (Go.sliced A a c m 1) 1 ((Q.drop a).take (c - a)).length (dS ((Q.drop a).take (c - a))):=by
 obtain⟨t,u,s,q,r,i,d⟩:=h;obtain⟨rfl,rfl,rfl⟩:=eV s;have e:((Q.drop a).take (c-a)).length=c-a:=(by simp;omega);rw[e];refine⟨_,m-a,rfl,by omega,by omega,by simp[e],λv=>?_⟩;obtain⟨b,g,rfl,f,l⟩:=d (by omega);refine⟨b,g+a,?_,f,λj o=>?_⟩
 .rw[aQ (by omega)];simp[Addr.add]
 have p:j<c-a:=(by simpa[e]using o);have:=l (a+j) (by simp;omega);rw[fL,this];congr 1;simp[dS]
def bf3{P:Program}{d:cD}(h:Reads w v 1 Q.length (dS Q))(m:P.underlying U=some (.slice T))(k:P.underlying T=some (.int .u8))(i:P.underlying d=some .string):
 (convert U d v).run P w=.ok (.string (bs Q)) w:=by
  obtain⟨A,t,rfl,r,s,l,c⟩:=h;cases A with
  |none=>
   have q:Q.length=0:=by
    rcases dX Q.length with f|f
    .exact f
    obtain⟨b,e,g,-⟩:=c f;cases g
   rw[run_convert_bytes_nil w U T m k _ _ d i,fE.1 q];rfl
  |some a=>
   refine run_convert_bytes_back w U d T a _ Q m k i λj p=>?_;obtain⟨b,e,g,-,o⟩:=c (by omega);cases g;have:=o j (by simpa using p);have n:(Addr.mk b e none).add j=⟨b,e+j,none⟩:=by
    unfold Addr.add;split
    .rename_i f;subst f;rfl
    rfl
   rw[n,this];simp[dS]
def bM.cj7(h:bM w k n m D K H):∃a:Int,w.cell? ⟨n,4,none⟩=some (.int .i64 a)/\w.frozen? ⟨n,4,none⟩=false/\(-9223372036854775808<=a/\a<=9223372036854775807)/\∀b:Int,(-9223372036854775808<=b/\b<=9223372036854775807)->bM (w.setCell ⟨n,4,none⟩ (.int .i64 b)) k n m D K H/\gS k m w (w.setCell ⟨n,4,none⟩ (.int .i64 b)):=by obtain⟨a,g,c,d,e⟩:=h.row;exact⟨a,c.cell 4 (by simp),c.frozen 4 (by simp),d,λb f=>⟨h.cb6 rfl rfl h.bP h.left h.kept ⟨b,g,c.set 4 _,f,CR e c⟩ (ag1 w n 4 _),gS.DV c h.low.1 4 _⟩⟩
def wrap64_in(x:Int):-9223372036854775808<=wrap64 x/\wrap64 x<=9223372036854775807:=by unfold wrap64;omega
def MW(a d m:Nat)(D:aM)(b:bK->Nat)(c:bK->aN)(w:aI)(r:bK×Int)(e:eT)(f:aI):Prop:=
 e=.returned (.tuple #[.string (bs r.1),.int .i64 r.2])/\bM f a d m D b c/\gS a m w f
def AY(h:bM w k n m D K H)(s:aT)(S:s.size<=maxLen)(p h0:Int)(Z:-9223372036854775808<=p/\p<=9223372036854775807)(X:-9223372036854775808<=h0/\h0<=9223372036854775807):
 Calls prog 31 #[.pointer (some ⟨n,0,none⟩),.string s,.int .i64 p,.int .i64 h0] w (MW k n m D K H w (D.read (lb s) p h0)):=by
  have l:=BU h;unfold NK at l;unfold MW aM.read;rcases F:D.down with _|_
  .rw[F]at l;simp only[bU,dP]at l|-;obtain⟨v,c4,W,g,r⟩:=h.cj7;obtain⟨y,C⟩:=r (wrap64 (v+1)) (wrap64_in _);have b:=xP y s S;unfold QK at b;rw[F]at b;simp only[bU,dP]at b;have⟨i,u,t⟩:=aB l y C;clear l r y C g;rcases G:bR D.files (lb s)with _|f
   .rw[G]at b;simp only at b|-;have d:=aH b;clear b h;go_in;(go_wp2_with fail);refine i.out.mono ?_;rintro e x ⟨rfl,rfl⟩;(go_wp2_with fail);refine d.out.mono ?_;rintro e x ⟨rfl,rfl⟩;go_wp2;go_ret2;exact⟨rfl,u.out,t.out⟩
   rw[G]at b;simp only at b|-;obtain⟨O,-⟩:=u.out.BO G;obtain⟨g,N⟩:=u.out.data G;obtain⟨A,c,R,M,z,-⟩:=id g;rw[R]at O g;have⟨d,J⟩:=aA b g;obtain⟨h6,I⟩:∃h6,h6=f.data.length:=⟨_,rfl⟩;have T:=aH I;rw[<-I]at M N O;have Y:(h6:Int)<=1048576:=(by omega);have V:c<=9223372036854775807:=(by unfold maxLen at z;omega);obtain⟨p1,p2⟩:=Z;obtain⟨k1,k2⟩:=X;rw[show f.data.length=h6 from I.symm];clear b h R g I z;by_cases o:p<0\/h0<0\/(h6:Int)<p\/(h6:Int)-p<h0
   .rw[aU o];rcases(show p<0\/(¬p<0/\h0<0)\/(¬p<0/\¬h0<0/\(h6:Int)<p)\/(¬p<0/\¬h0<0/\¬(h6:Int)<p/\(h6:Int) - p<h0)from by omega)with L|⟨L,y⟩|⟨L,y,Q⟩|⟨L,y,Q,U⟩
    all_goals
     clear o;go_in;(go_wp2_with fail);refine i.out.mono ?_;rintro e x ⟨rfl,rfl⟩;(go_wp2_with fail);refine d.out.mono ?_;rintro e x ⟨rfl,rfl⟩;go_wp2;go_ret2;exact⟨rfl,u.out,t.out⟩
   rw[aQ o];obtain⟨a,rfl⟩:=dA (a:=p) (by omega);obtain⟨q,rfl⟩:=dA (a:=h0) (by omega);have Q:¬(h6:Int)<a:=(by omega);have U:¬(h6:Int)-a<q:=(by omega);have h5:a+q<=h6:=(by omega);have E:=ap0 J.out a (a+q) c (by omega) (by rw[<-T.out];omega) (by omega) (aO _);have j:=bf3 (P:=prog) E underlying110 underlying5 underlying9;rw[show a+q-a=q from by omega]at j;unfold Go.sliced at j;rw[show a+q-a=q from by omega]at j;rw[cB,cB];clear o p1 p2 k1 k2 E;by_cases B:c=a
   iterate 2
    .first|subst B;rw[aU rfl,gM]at j|rw[aQ B,rD]at j
     go_in;(go_wp2_with fail);refine i.out.mono ?_;rintro e x ⟨rfl,rfl⟩;(go_wp2_with fail);refine d.out.mono ?_;rintro e x ⟨rfl,rfl⟩;go_wp2;go_ret2;exact⟨rfl,u.out,t.out⟩
  rw[F]at l;simp only[eE]at l|-;have b:=xP h s S;unfold QK at b;rw[F]at b;simp only[eE]at b;have⟨i,d,u⟩:=aB l b h;clear l b h;go_in;(go_wp2_with fail);refine i.out.mono ?_;rintro e x ⟨rfl,rfl⟩;(go_wp2_with fail);refine d.out.mono ?_;rintro e x ⟨rfl,rfl⟩;go_wp2;go_ret2;exact⟨rfl,u.out,gS.refl _ _ _⟩
def aA3(h:Row w n T X)(k:Nat):Row w n T (X.take k):=by
 have⟨C,a,c,e,b⟩:=h;refine⟨C,a,c,?_,λj d=>b j (by rw[bJ]at d;omega)⟩;have:=gQ (List.take (X.take k)) e;rw[kJ,fQ (by rw[bJ];exact bh8 _ _)]at this;rw[this,bJ];rcases ct2 k X with h|h
 .rw[fQ h]
 rw[RD h,aX gC,aX h]
def lK.cr9(h:lK w n T 1 v k X)(x:Nat)(u:x<=k):∃A c,v=.slice A k c/\k<=c/\c<=maxLen/\(A=none\/∃b,A=some ⟨b,0,none⟩)/\lK w n T 1 (.slice A x x) x (X.take x):=by
 rcases h with h|⟨b,rfl,l,m,o,p⟩
 .rcases h.2 with⟨rfl,rfl⟩|⟨g,a,j,rfl,d,r,s,e,q,f⟩
  .have t:X=[]:=gW (by simpa using h.1);obtain rfl:x=0:=(by omega);subst t;exact⟨none,0,rfl,gC,by unfold maxLen;omega,.inl rfl,.inl (bQ _ _ _ _)⟩
  have i:=h.1;refine⟨_,a,rfl,s,e,.inr ⟨g,rfl⟩,.inr ⟨g,rfl,d,aA3 (dZ h rfl) x,by rw[bJ,i];omega,by omega⟩⟩
 refine⟨_,k,rfl,gC,p,.inr ⟨b,rfl⟩,.inr ⟨b,rfl,l,aA3 m x,by rw[bJ,o];omega,by omega⟩⟩
def mQ(f:fM)(k:Nat):fM:=⟨f.data.take k,min f.sync (min k f.data.length)⟩
def ae9(c:rZ l){s:bK}{f:fM}(h:bR l s=f)(k:Nat):dT (eH l s (mQ f k))=dT l-(f.data-min k f.data)/\f.data<=dT l:=by have a:=kZ c s (mQ f k);have b:=kZ c s ⟨[],0⟩;have d:(mQ f k).data=min k f.data:=(by simp[mQ]);rw[h,d]at a;rw[h]at b;simp only[tX,nW,jU]at a b;omega
def aN0(l:List bB)(k:Nat):dS (l.take k)=(dS l).take k:=by simp[dS,uC]
def bM.cr8(h:bM w k n m D K H){s:bK}{f:fM}(C:bR D.files s=f)(V:Nat){A:Option Addr}{i:Nat}(O:H s=.slice A f.data i)(e:lK w k 5 1 (.slice A (min V f.data) (min V f.data)) (min V f.data) ((dS f.data).take (min V f.data)))(u y:Int)(Q:u=((dT D.files-(f.data-min V f.data):Nat):Int))(R:y=((min f.sync (min V f.data):Nat):Int)):
 ∃r,bM ((((w.setCell (zp n 2) u).drew).setCell (zp (K s)) (.slice A (min V f.data) (min V f.data))).setCell (zp (K s) 1) y) k n m {D with files:=eH D.files s (mQ f V)} K r/\gS k m w ((((w.setCell (zp n 2) u).drew).setCell (zp (K s)) (.slice A (min V f.data) (min V f.data))).setCell (zp (K s) 1) y):=by
  have g:=h.files s f C;have⟨o,F,p,N,x⟩:=h.row;have⟨I,T⟩:=ae9 h.kO C V;have d:n≠K s:=λa=>by have E:=g.row;rw[<-a]at E;exact eU.1 (dI E p)
  have G:Row (w.setCell (zp n 2) u).drew n 103 _:=(p.set 2 _).drew;have J:Row (w.setCell (zp n 2) u).drew (K s) 112 _:=(g.row.of_block (w':=w.setCell (zp n 2) u) (aV _ _ _ _ (λa=>d a.symm))).drew;have L:=J.set 0 (.slice A (min V f.data) (min V f.data));have M:=L.set 1 y;have c:∀q,q≠n->q≠K s->((((w.setCell (zp n 2) u).drew).setCell (zp (K s)) (.slice A (min V f.data) (min V f.data))).setCell (zp (K s) 1) y).heap[q]?=w.heap[q]?:=λq z v=>by rw[aV _ _ _ _ v,aV _ _ _ _ v];exact aV _ _ _ _ z
  have S:lK ((((w.setCell (zp n 2) u).drew).setCell (zp (K s)) (.slice A (min V f.data) (min V f.data))).setCell (zp (K s) 1) y) k 3 1 F D.eO (xA D.eO):=x.eO λq a=>c q (λl=>by subst l;exact eU.2.2.2.1 (dI (x.row a).1 p)) (λl=>by subst l;exact eU.2.2.2.2.1 (dI (x.row a).1 g.row));have t:(mQ f V).data=min V f.data:=(by simp[mQ]);refine⟨_,h.aW4 (D':={D with files:=eH D.files s (mQ f V)}) (v':=.slice A (min V f.data) (min V f.data)) C rfl rfl h.bP h.left h.kept (by show dT (eH D.files s (mQ f V))<=D.cap;have:=h.used;omega) ⟨o,F,?_,N,S⟩ ⟨?_,g.low,?_,?_⟩ (λq a=>.inl ?_) (λq P z v U=>c q z v),⟨rfl,rfl,rfl,by simp[World.drew],λq P j=>c q (λa=>?_) (λa=>?_),λq B=>?_⟩⟩
  .show Row _ n _ [_,_,(dT (eH D.files s (mQ f V)):Nat),_,_,_,_,_,_,_];rw[I,<-Q];exact(G.of_block (aV _ _ _ _ d)).of_block (aV _ _ _ _ d)
  .rw[show(mQ f V).sync=min f.sync (min V f.data)from rfl,<-R];exact M
  .rw[t,show dS (mQ f V).data=(dS f.data).take (min V f.data)from by
    show dS (f.data.take V)=_;rw[aN0];rcases ct2 V f.data with a|a
    .rw[fQ a]
    rw[RD a,aX (by simpa using a),aX (by simp)]]
   exact e.eO λq a=>c q (λl=>by subst l;exact eU.2.1 (dI (e.row a).1 p)) (λl=>by subst l;exact eU.2.2.1 (dI (e.row a).1 g.row))
  .rw[t];exact bh8 _ _
  .rw[O];cases A<;>simpa[Value.ownBlock]using a
  .subst a;rcases j with j|⟨-,j⟩
   .have:=h.low.1;omega
   exact j (pK p (.inl rfl))
  .subst a;rcases j with j|⟨-,j⟩
   .have:=g.low;omega
   exact j (pK g.row (.inr (.inl rfl)))
  by_cases a:q=n
  .subst a;exact JZ p ((G.of_block (aV _ _ _ _ d)).of_block (aV _ _ _ _ d)) (by simp) (by simp) (λb _ h=>by simpa using h) B
  exact kC (c q a (oT B g.row (by decide))) B
def bV4{w:World}{H:bK->Value}(h:bM w k n m D K H){s:bK}{f:fM}(g:bR D.files s=f)(h5:Nat)(hk:h5<=9223372036854775807):
 Calls prog 56 #[zp n,zp (K s),h5] w λe R=>e=zt/\∃i,bM R k n m {D with files:=eH D.files s (mQ f h5)} K i/\gS k m w R:=by
  have o:=h.files s f g;have⟨A,c,C,J,r,l,a⟩:=o.own.cr9 (min h5 f.data) (bh8 _ _);have d:=aH (h.cr8 g h5 C a);obtain⟨-,-,c2,-⟩:=h.cells;obtain⟨Q,kv,G,-⟩:=h.row;have f2:=G.zf2;have⟨V,Z,h0,h2⟩:=h.BO g;rw[C]at V;have x:K s≠n:=λI=>by have X:=o.row;rw[I]at X;exact eU.1 (dI X G)
  have⟨e1,e2⟩:=ae9 h.kO g h5;have t:=h.used;have M:=h.cap;have N:=(h.data g).2;have y:=o.sync;have HH:=aH h;have⟨L,p⟩:=kX f.data.length;have⟨q,W⟩:=kX (min h5 L);have⟨U,F⟩:=kX (dT D.files);have⟨S,E⟩:=kX f.sync;rw[<-p,<-F,<-E,<-W]at d;rw[<-p,<-F]at e2;rw[<-p]at V N y J;rw[<-E]at y Z;rw[<-F]at c2 t;have h3:c<=9223372036854775807:=(by unfold maxLen at r;omega);have O:(h5<=L/\q=h5)\/(L<h5/\q=L):=(by rcases ct2 h5 L with I|I<;>omega);have h4:q<=L:=by omega
  have z:∀u:Int,((w.setCell (zp n 2) u).drew).cell? (zp (K s))=some (.slice A L c)/\((w.setCell (zp n 2) u).drew).frozen? (zp (K s))=false/\∀v,(((w.setCell (zp n 2) u).drew).setCell (zp (K s)) v).cell? (zp (K s) 1)=S/\(((w.setCell (zp n 2) u).drew).setCell (zp (K s)) v).frozen? (zp (K s) 1)=false:=λu=>by have j:Row (w.setCell (zp n 2) u).drew (K s) 112 _:=(o.row.of_block (w':=w.setCell (zp n 2) u) (aV _ _ _ _ x)).drew;rw[C,<-p,<-E]at j;exact⟨j.rY,j.TI,λv=>⟨(j.set 0 v).xD,(j.set 0 v).J3⟩⟩
  have T:=aH z;have i3:(U:Int)<=1048576:=(by omega);have i2:(L:Int)<=U:=(by omega);clear z h G o C a e1 M p F E W r g x t;rcases O with⟨g1,rfl⟩|⟨g1,rfl⟩
  .have i1:(q:Int)<=L:=(by omega);have⟨z0,zf,B⟩:=T ((U:Int)-((L:Int)-(q:Int)));have⟨y0,yf⟩:=B (.slice A q q);clear B;rcases l with rfl|⟨b,rfl⟩
   all_goals
    by_cases P:S<=q
    iterate 2
     ·(first|(have Y:(S:Int)<=q:=by omega)|(have Y:¬(S:Int)<=q:=by omega));go_in;(go_wp2_with fail);go_region;go_wp2;go_end0;refine⟨rfl,d _ _ ?_ ?_⟩<;>omega
  have i1:¬(h5:Int)<=q:=(by omega);have⟨z0,zf,B⟩:=T ((U:Int)-((q:Int)-(q:Int)));have⟨y0,yf⟩:=B (.slice A q q);clear B;rcases l with rfl|⟨b,rfl⟩
  all_goals
   by_cases P:S<=q
   .have Y:(S:Int)<=q:=(by omega);go_in;(go_wp2_with fail);go_region;go_wp2;go_end0;refine⟨rfl,d _ _ ?_ ?_⟩<;>omega
   omega
end Go.Proofs.YtpopikndggffaaaGreatDoor
