/- TOP, part 14. -/
import Derived.Laws.BytesArg
import Derived.Maps.OwnSet
import Derived.StringKeys
import Derived.Test.YtpopikndggffaaaGreatDoorGt13
namespace Go.Proofs.YtpopikndggffaaaGreatDoor
set_option linter.all false
set_option maxRecDepth 100000
set_option maxHeartbeats 16000000
open Go.RowKit Go.Maps Tryz
def dJ(T:List jU)(s:aS):List jU:=T.filter (ofT s)
def zO(T:List jU)(s:aS):(dJ T s).length<=T:=jE _ _
def L0(g:Nat)(vL vM:aN)(T:List jU)(M:List Nat)(G:Nat)(s:aS)(w:aI)(h:af1 w g vL vM T M G)(U:T.length<=800000):Calls prog 69 #[zp g,s] w λe C=>∃v',e=.returned v'/\C.ownsRow w 133 5 v' (dJ T s) (fU (dJ T s))/\aR w w C:=by
 obtain⟨A,c,rfl,-⟩:=id h.2.1.1;have⟨n,L⟩:=fR T.length;have⟨O,HB⟩:=aA L (λh0=>h.2.1.later h0);have D:∀C,aR w w C->C.cell? (zp g)=some (.slice A n c):=λC hb=>by have:=(h.next hb).cells.1;rwa[<-L]at this
 rw[<-L]at U;have N:=aH D;have⟨i0,S,X,Y,Z⟩:=info_parts LW;unfold dJ;clear h L D;go_in;go_wp2_with fail
 go_loopw [5,6] (λo i wr=>∃k m:Nat,k<=n/\m<=k/\i=.int .i64 k/\wr.ownsRow w 133 5 o m (fU ((T.take k).filter (ofT s)))/\((T.take k).filter (ofT s))=m/\aR w w wr) (λ_ i _=>n-(intOf i).toNat)
 .exact⟨0,0,by omega,by omega,rfl,bM _ _ _ _,rfl,iH⟩
 obtain⟨k,m,hk,hm,rfl,d,q,f⟩:=hrel;have z0:=N _ f;by_cases h2:k<n
 .obtain⟨t,W⟩:∃t,T[k]?=some t:=⟨_,aJ (by have:=O.zz;omega)⟩;have F:=nV (p:=ofT s) W;have⟨b,h3,hA,h1,j⟩:=HB (by have:=O.zz;omega);subst hA;have⟨c0,c1,c2,c3,c4⟩:=j k t W wr f;have⟨r,H,I,J,K⟩:=t;dsimp only at c0 c1 c2 c3 c4;have i1:(k:Int)<n:=(by omega);have⟨x,v,a,u⟩:=aC F q d f;have z:aR wr wr (wr.alloc (.cells (pB (r,H,I,J,K)) 133)):=cD wr _;have E:=GC wr (r,H,I,J,K);have⟨y,P⟩:=aA z E;clear W j F q d f z E;by_cases V:r=s
  .subst V;have e1:(r.toList==r.toList)=true:=(by simp);have l:ofT r (r,H,I,J,K)=true:=(by simp[ofT]);go_wp2_with (first
    |(at_builtin;refine iF _ rfl _ _ 46 rfl w 133 i0 _ 5 64 underlying46 S X Y Z rfl (by decide) _ m _ rfl (bY a y) _ 1 (fU [(r,H,I,J,K)]) rfl P (tE _) (by unfold maxLen;omega) (by omega) (cU u y dQ).size ?_;intro v3 w3 B R))
   have Q:=(cU u y dQ).grown R (cU u y dQ).size (dH a);go_wp2;go_roundw
   .
    refine⟨k+1,m+1,by omega,by omega,by go_num,?_,?_,Q⟩
    .rw[x.zz,sN];simpa[l]using B
    rw[x.zz,aO,v.zz];simp[l]
   simp[intOf];omega
  have e1:(r.toList==s.toList)=false:=(by rw[bA,Ne,toList_inj];exact V);have l:ofT s (r,H,I,J,K)=false:=(by simp[ofT,V]);go_wp2;go_roundw
  .
   refine⟨k+1,m,by omega,by omega,by go_num,?_,?_,u⟩
   .rw[x.zz];simpa[l]using a.zz
   rw[x.zz];simpa[l]using v.zz
  simp[intOf];omega
 obtain rfl:k=n:=(by omega);rw[aT (by rw[<-O.zz];exact cV _)]at d q;have⟨a,v⟩:=aA d q;clear d q;go_wp2;go_ret;have h9:=a.zz;rw[<-v.zz]at h9;exact⟨_,rfl,h9,f⟩
def bE9(g:Nat)(m n:aN)(T:List jU)(M:List Nat)(b:Nat)(s:aS)(w:aI)(h:af1 w g m n T M b)(j:T.length<=800000)(p:s<=maxLen):Calls prog 41 #[zp g,s] w λe o=>e=.returned (if iZ s then .tuple #[(((dJ T s):Int)-1:Int),()]else .tuple #[(-1:Int),(2:Int)])/\aR w w o:=by
 have k:=VG s w p;have l:=L0 g m n T M b s w h j;have f:=zO T s;rcases c:iZ s with _|_
 iterate 2
  .rw[c]at k;(first|clear h c|clear h l c);go_in;(go_wp2_with fail);go_call k as e o ⟨rfl,rfl⟩;(try (go_wp2_with fail;go_call l as e v ⟨u,rfl,a,d⟩;obtain⟨r,t,rfl,-⟩:=Reads.cX a;(have q:((dJ T s):Int)<=800000:=by omega);have i:=aH d;clear a d f));go_wp2;go_ret2;first|exact⟨rfl,i⟩|exact⟨rfl,iH⟩
def bf7(g:Nat)(d f:aN)(T:List jU)(M:List Nat)(a:Nat)(w:aI)(h:af1 w g d f T M a):Calls prog 43 #[zp g] w λe i=>e=zt/\i=w.setCell (zp g 2) M:=by obtain⟨A,c,rfl,-⟩:=id h.2.2;have⟨j,k,l⟩:=h.cells;have b:=h.1.QP;clear h;go_in;go_wp2;go_end0;exact⟨rfl,rfl⟩
variable{d g i k m n:Nat}{t:jU}
def af9(o:Nat)(S:List jU):Prop:=∀(i:Nat)(t:jU),S[i]?=some t->t.2.1=((o+i:Nat):Int)
def af9.tail{T:List jU}(h:af9 n (t::T)):af9 (n+1) T:=λi x a=>by have:=h (i+1) x (by simpa using a);rw[this];congr 1;omega
def ab3(a b:Nat):∀(S:List jU)(o:Nat),af9 o S->S.filter (λt=>decide ((a:Int)<=t.2.1)&&decide (t.2.1<(b:Int)))=(S.drop (a-o)).take (b-max a o):=by
 intro S;induction S with
 |nil=>intro o _;simp
 |cons t S i=>
  intro o h;have d:=h 0 t (by simp);have e:=i (o+1) h.tail;rw[xX]at d;rcases cK o a with f|f
  .have c:(decide ((a:Int)<=t.2.1)&&decide (t.2.1<(b:Int)))=false:=(by rw[d];simp;omega);rw[jK,c];simp only[bU,dW];rw[e,show a-o=(a-(o+1))+1 by omega,ak4,show max a (o+1)=max a o by omega]
  rcases cK o b with g|g
  .have c:(decide ((a:Int)<=t.2.1)&&decide (t.2.1<(b:Int)))=true:=(by rw[d];simp;omega);rw[jK,c];simp only[eH];rw[e,show a-o=0 by omega,show a-(o+1)=0 by omega,mQ,mQ,show b-max a o=(b-max a (o+1))+1 by omega,zC]
  have c:(decide ((a:Int)<=t.2.1)&&decide (t.2.1<(b:Int)))=false:=(by rw[d];simp;omega);rw[jK,c];simp only[bU,dW];rw[e,show b-max a o=0 by omega,show b-max a (o+1)=0 by omega,DE,DE]
def cs8{T:List jU}(h:af9 0 T)(a c:Nat):BE T (a:Int) (c:Int) false=(T.drop a).take c:=by have b:=ab3 a (a+c) T 0 h;rw[show a+c-max a 0=c by omega,uN]at b;rw[<-b];unfold BE;simp only[bU,dW];refine DG λt _=>?_;unfold AX;simp only[bU,dW];rw[iX];simp;omega
def bU9(s:aS)(l:List Ev):∀(f:Int)(i:Nat)(t:jU),(eQ s f l)[i]?=t->t.1=s/\t.2.1=f+i:=by
 induction l with
 |nil=>intro f i t h;simp[eQ]at h
 |cons e l a=>
  intro f i t h;rw[eQ]at h;cases i with
  |zero=>simp at h;subst h;exact⟨rfl,by simp⟩
  |succ i=>have:=a (f+1) i t (by simpa using h);exact⟨this.1,by rw[this.2];push_cast;omega⟩
def nmL:List aS:=[⟨#[97]⟩,⟨#[98]⟩,⟨#[97,98]⟩,⟨#[255]⟩]
def nm(k:Nat):aS:=nmL.getD k ⟨#[]⟩
def AY(S:List jU)(f c:Int)(d:Bool)(k:Nat):List jU:=if d then(S.reverse.take k).filter (AX f c true)else((S.take k).filter (fun t=>decide (f<=t.2.1))).take c.toNat
def ar1(S:List jU)(f c:Int)(d:Bool):AY S f c d 0=[]:=by cases d<;>simp[AY]
def bo3{T:List jU}{f c:Int}(h:T[n]?=t)(b:f<=t.2.1)(a:((AY T f c false n):Int)<c):AY T f c false (n+1)=AY T f c false n++[t]:=by unfold AY at *;simp only[bU,dW]at *;rw[nV h];simp only[jK,b,decide_true,eH,List.filter_nil];rw[b8]at a;generalize (T.take n).filter (λt=>decide (f<=t.2.1))=X at a|-;have d:X<c.toNat:=(by omega);rw[aT (by rw[aO];simp;omega),aT (by omega)]
def aU1{T:List jU}{e c:Int}(h:T[n]?=t)(a:¬e<=t.2.1):AY T e c false (n+1)=AY T e c false n:=by unfold AY;simp only[bU,dW];rw[nV h];simp[a]
def aB3{T:List jU}{f c:Int}(h:T[n]?=t)(a:¬((AY T f c false n):Int)<c):AY T f c false (n+1)=AY T f c false n:=by unfold AY at *;simp only[bU,dW]at *;rw[nV h];rw[b8]at a;generalize (T.take n).filter (λt=>decide (f<=t.2.1))=X at a|-;rw[gE (by omega)]
def aB4{T:List jU}{f c:Int}(h:T.reverse[n]?=t)(a:AX f c true t=true):AY T f c true (n+1)=AY T f c true n++[t]:=by unfold AY;simp only[eH];rw[nV h];simp[a]
def OH{T:List jU}{f c:Int}(h:T.reverse[n]?=t)(a:AX f c true t=false):AY T f c true (n+1)=AY T f c true n:=by unfold AY;simp only[eH];rw[nV h];simp[a]
def cj3{T:List jU}(h:af9 0 T){e a:Int}(f:0<=e)(l:1<=a)(d:Bool):AY T e a d T=BE T e a d:=by
 obtain⟨m,rfl⟩:=cR f;obtain⟨b,rfl⟩:=cR (by omega:0<=a);cases d with
 |false=>
  rw[cs8 h m b];unfold AY;simp only[bU,dW];rw[aT dQ,bW];congr 1;have c:=ab3 m T T 0 h;rw[uN,aT (by rw[eK];omega)]at c;rw[<-c];refine DG λt j=>?_;obtain⟨i,g,rfl⟩:=fH j;have k:=h i _ (aJ g);have:decide (T[i].2.1<(T:Int))=true:=(by rw[k];simp;omega);rw[this,au4]
 |true=>unfold AY BE;simp only[eH];rw[aT (by rw[zF];exact cV _),List.filter_reverse]
def bE8(g:Nat)(vL vM:aN)(T:List jU)(M:List Nat)(P:Nat)(s:aS)(f c:Int)(d:Bool)(w:aI)(h:af1 w g vL vM T M P)(ha:T.length<=800000)(hs:s<=maxLen)(hf:-9223372036854775808<=f/\f<=9223372036854775807)(hc:-9223372036854775808<=c/\c<=9223372036854775807) (N:∀t∈dJ T s,0<=t.2.1/\t.2.1<=1073741824) :Calls prog 40 #[zp g,s,f,c,d] w λe w'=>(KC s f c=true->e=.returned (.tuple #[zs,(2:Int)])/\w=w')/\(KC s f c=false->cN1 w (AY (dJ T s) f c d (dJ T s)) e w'):=by
 have HO:=VG s w hs;have HS:=L0 g vL vM T M P s w h ha;have E:=zO T s;have F:∀t∈dJ T s,okT t:=λt y=>h.2.1.2 t (fL.1 y).1;rcases x:iZ s with _|_
 .have O:KC s f c=true:=(by unfold KC;rw[x];rfl);rw[x]at HO;have I:=aH O;clear h HS x O E N F hf hc;go_in;go_wp2_with fail
  go_call HO as e w' ⟨rfl,rfl⟩;go_wp2;go_ret2;rw[I.zz];exact⟨λ_=>⟨rfl,rfl⟩,λh=>by cases h⟩
 rw[x]at HO;by_cases h1:f<0\/c<1
 .have O:KC s f c=true:=(by unfold KC;rw[x];simpa using h1);have I:=aH O;clear h HS x O E N F hf hc;rcases(show f<0\/(¬f<0/\c<1)from by omega)with h2|⟨h2,h3⟩
  all_goals
   clear h1;go_in;(go_wp2_with fail);go_call HO as e w' ⟨rfl,rfl⟩;go_wp2;go_ret2;rw[I.zz];exact⟨λ_=>⟨rfl,rfl⟩,λh=>by cases h⟩
 have O:KC s f c=false:=(by unfold KC;rw[x];simp;omega);have h2:¬f<0:=(by omega);have h3:¬c<1:=(by omega);have⟨I,HF,HC⟩:=aB O hf hc;generalize dJ T s=S at *;have⟨n,hn⟩:=fR S.length;rw[<-hn]at E;have ho:n<=800000:=(by omega);have⟨Q,h4,hh⟩:=aB hn N F;have⟨i0,h8,hd,he,hg⟩:=info_parts LW;clear h x O E N F hf hc h1 ha hn;go_in;go_wp2_with fail
 go_call HO as e w' ⟨rfl,rfl⟩;clear HO;go_wp2_with fail
 go_call HS as e w1 ⟨vt,rfl,C,h6⟩;clear HS;have U:wL w1 vt S:=⟨Reads.cX C,hh⟩;obtain⟨A,ca,rfl,-⟩:=id U.1;have HB:=aH (λh0=>U.later h0);rw[show S.length=n from Q.zz.symm]at C|-;have h5:=aH h6;clear U C h6;go_wp2_with fail
 go_loopw [13,14] (λo i wr=>∃k m:Nat,k<=n/\m<=k/\i=.int .i64 k/\wr.ownsRow w1 133 5 o m (fU (AY S f c d k))/\(AY S f c d k)=m/\aR w1 w1 wr) (λ_ i _=>n-(intOf i).toNat)
 .exact⟨0,0,by omega,by omega,rfl,by rw[ar1];exact bM _ _ _ _,by rw[ar1];rfl,iH⟩
 obtain⟨k,m,hk,hm,rfl,p,u,G⟩:=hrel;by_cases hl:k<n
 .have⟨b,hr,hA,hi,r⟩:=HB (by have:=Q.zz;omega);subst hA;obtain⟨ov,hj,rfl,-⟩:=Reads.cX p;have⟨v,j,l⟩:=aB u p G;have i1:(k:Int)<n:=(by omega);have i2:(n:Int)-1-(k:Int)=((n-1-k:Nat):Int):=(by omega);have i3:((n-1-k:Nat):Int)<n:=by omega
  cases d with
  |false=>
   obtain⟨t,y⟩:∃t,S[k]?=some t:=⟨_,aJ (by have:=Q.zz;omega)⟩;have⟨c0,c1,c2,c3,c4⟩:=r k t y wr G;have K:=h4 t (bC y);have⟨Y,H,Z,t4,t5⟩:=t;dsimp only at c0 c1 c2 c3 c4 K;have B:aR wr wr (wr.alloc (.cells (pB (Y,H,Z,t4,t5)) 133)):=cD wr _;have J:=GC wr (Y,H,Z,t4,t5);have⟨q,R⟩:=aA B J;clear r B J K p G;by_cases g1:f<=H
   .by_cases g2:(m:Int)<c
    iterate 2
     ·(first|(have a:=aH (bo3 (c:=c) y g1 (by rw[u];exact g2)))|(have a:=aH (aB3 (f:=f) (c:=c) y (by rw[u];exact g2))));clear u y;(try ((go_wp2_with (first|(at_builtin;refine iF _ rfl _ _ 46 rfl w1 133 i0 _ 5 64 underlying46 h8 hd he hg rfl (by decide) _ m _ rfl (bY j q) _ 1 (fU [(Y,H,Z,t4,t5)]) rfl R (tE _) (by unfold maxLen;omega) (by omega) (aK l q).size ?_;intro v3 w3 D W)));have V:=(aK l q).grown W (aK l q).size (dH j)));go_wp2;go_roundw;(first|(case rel=>exact⟨k+1,m+1,by omega,by omega,by go_num,by rw[a.zz,sN];exact D,by rw[a.zz,aO,v.zz];rfl,V⟩)|(case rel=>exact⟨k+1,m,by omega,by omega,by go_num,by rw[a.zz];exact j,by rw[a.zz];exact v,l⟩));simp[intOf];omega
   have a:=aH (aU1 (c:=c) y g1);clear u y;go_wp2;go_roundw
   .exact⟨k+1,m,by omega,by omega,by go_num,by rw[a.zz];exact j,by rw[a.zz];exact v,l⟩
   simp[intOf];omega
  |true=>
   obtain⟨t,y⟩:∃t,S.reverse[k]?=some t:=⟨_,aJ (by rw[zF];have:=Q.zz;omega)⟩;have X:S[n-1-k]?=some t:=by rw[cK5 (by have:=Q.zz;omega)]at y;rw[Q.zz];exact y
   have⟨c0,c1,c2,c3,c4⟩:=r (n-1-k) t X wr G;have K:=h4 t (bC X);have⟨Y,H,Z,t4,t5⟩:=t;dsimp only at c0 c1 c2 c3 c4 K;have⟨e9,h7⟩:=fR (n-1-k);rw[<-h7]at c0 c1 c2 c3 c4 i2 i3;have B:aR wr wr (wr.alloc (.cells (pB (Y,H,Z,t4,t5)) 133)):=cD wr _;have J:=GC wr (Y,H,Z,t4,t5);have⟨q,R⟩:=aA B J;have⟨z,hz⟩:=fR (f-H);have hp:IntKind.i64.wrap (f-H)=z:=(by rw[cQ];have:=HF.zz;omega);have hq:wrap64 (f-H)=z:=(by unfold wrap64;have:=HF.zz;omega);have HZ:=aH hz;clear r B J K p G X h7 hz;by_cases g1:H<=f
   .by_cases g2:z<c
    iterate 2
     ·(first|(have a:=aH (aB4 (f:=f) (c:=c) y (by have:=HZ.zz;unfold AX;simp;omega)))|(have a:=aH (OH (f:=f) (c:=c) y (by have:=HZ.zz;unfold AX;simp;omega))));clear u y;(try ((go_wp2_with (first|(at_builtin;refine iF _ rfl _ _ 46 rfl w1 133 i0 _ 5 64 underlying46 h8 hd he hg rfl (by decide) _ m _ rfl (bY j q) _ 1 (fU [(Y,H,Z,t4,t5)]) rfl R (tE _) (by unfold maxLen;omega) (by omega) (aK l q).size ?_;intro v3 w3 D W)));have V:=(aK l q).grown W (aK l q).size (dH j)));go_wp2;go_roundw;(first|(case rel=>exact⟨k+1,m+1,by omega,by omega,by go_num,by rw[a.zz,sN];exact D,by rw[a.zz,aO,v.zz];rfl,V⟩)|(case rel=>exact⟨k+1,m,by omega,by omega,by go_num,by rw[a.zz];exact j,by rw[a.zz];exact v,l⟩));simp[intOf];omega
   have a:=aH (OH (f:=f) (c:=c) y (by have:=HZ.zz;unfold AX;simp;omega));clear u y;go_wp2;go_roundw
   .exact⟨k+1,m,by omega,by omega,by go_num,by rw[a.zz];exact j,by rw[a.zz];exact v,l⟩
   simp[intOf];omega
 obtain rfl:k=n:=(by omega);have⟨j,v⟩:=aA p u;clear p u;go_wp2;go_ret2;rw[I.zz];refine⟨(λh=>by cases h),λ_=>⟨_,rfl,?_,aK h5 G⟩⟩;have h9:=vZ j h5.size;rwa[<-v.zz,Q.zz]at h9
variable{M:List Nat}{X Y:List aN}{w x y:aI}{u v z:aN}{T U e:cC}
def aZ5(w:aI)(a:Nat)(e:cC)(c:Nat)(v:aN)(n:Nat)(d:List aN):Prop:=∃b,v=.slice (some ⟨b,0,none⟩) n n/\a<=b/\Row w b e d/\d.length=n*c/\n<=maxLen
def l3(w:aI)(a:Nat)(e:cC)(b:Nat)(v:aN)(n:Nat)(c:List aN):Prop:=w.ownsRow a e b v n c\/aZ5 w a e b v n c
def l3.reads(h:l3 w n T k v m X):Reads w v k m X:=by
 rcases h with h|⟨b,rfl,e,a,c,d⟩
 .exact Reads.cX h
 exact Reads.FH a c dQ d
def l3.row{n k:Nat}{xs:List aN}(h:l3 w m T i v n xs)(a:v.ownBlock=k):Row w k T xs/\m<=k:=by
 rcases h with h|⟨b,rfl,c,d,e,f⟩
 .exact⟨dX h a,dH h k a⟩
 simp[Value.ownBlock]at a;subst a;exact⟨d,c⟩
def l3.eW{w':aI}(h:l3 w n T k v m X)(a:∀g,v.ownBlock=some g->w'.heap[g]?=w.heap[g]?):l3 w' n T k v m X:=by
 rcases h with h|⟨b,rfl,c,d,e,f⟩
 .exact .inl (eS h a)
 exact .inr ⟨b,rfl,c,d.of_block (a b (by simp[Value.ownBlock])),e,f⟩
def l3.next{w:aI}{base k n:Nat}{e:cC}{v:aN}(h:l3 w base e k v n X)(a:aR w w x):l3 x base e k v n X:=h.eW λc b=>a.block c (h.row b).1.lt
def xV(w:aI)(a g:Nat)(c d:aN)(T:List jU)(M:List Nat)(b:Nat):Prop:=Row w g 48 [c,d,.int .i64 (b:Nat)]/\a<=g/\l3 w a 133 5 c T.length (fU T)/\l3 w a 3 1 d M.length (rQ M)/\∀t∈T,okT t
def xV.next{w:aI}{base g:Nat}{v u:aN}{T:List jU}{n:Nat}(h:xV w base g v u T M n)(a:aR w w x):xV x base g v u T M n:=⟨h.1.next a,h.2.1,h.2.2.1.next a,h.2.2.2.1.next a,h.2.2.2.2⟩
def xV.r{w:aI}{base g:Nat}{v u:aN}{T:List jU}{n:Nat}(h:xV w base g v u T M n):af1 w g v u T M n:=⟨h.1,⟨h.2.2.1.reads,h.2.2.2.2⟩,h.2.2.2.1.reads⟩
def mT:(133:cC)≠48/\(3:cC)≠48/\(3:cC)≠133:=⟨by decide,by decide,by decide⟩
def I8(w:aI)(a:Nat)(e:cC)(b:Nat)(v:aN)(n:Nat)(c:List aN)(r:Option Nat):Prop:=r=none\/(r=v.ownBlock/\w.ownsRow a e b v n c)
def I8.ne{r:Option Nat}(h:I8 w n T k v m X r){i:Nat}{U:cC}{Y:List aN}(c:Row w i U Y)(a:T≠U):some i≠r:=by
 rcases h with rfl|⟨rfl,h⟩
 .exact λh=>by cases h
 exact λb=>bH4 h c a i b.symm rfl
def I8.next{w:aI}{base k n:Nat}{e:cC}{v:aN}{r:Option Nat}(h:I8 w base e k v n X r)(a:aR w w x):I8 x base e k v n X r:=by
 rcases h with rfl|⟨rfl,h⟩
 .exact .inl rfl
 exact .inr ⟨rfl,bY h a⟩
def ZY{wr:aI}{g:Nat}{r:Option Nat}(d:I8 wr k T m v n X r)(b:aR wr wr w)(a:w.grownBy x r)(j:Nat)(u:aN):kP wr (x.setCell (zp g j) u) g v.ownBlock:=by
 refine kP.trans (kP.cT b g v.ownBlock) (kP.trans ?_ (kP.AT j _ _));rcases d with rfl|⟨rfl,-⟩
 .exact⟨a.os,a.tape,a.output,a.size,λe c _ _=>a.block e c (by simp)⟩
 exact kP.cc1 a g
def vF(e:Row w n T X)(c:Row w k U Y)(b:U≠T)(j:Nat)(u:aN):(w.setCell (zp n j) u).heap[k]?=w.heap[k]?:=aU _ _ _ _ (λd=>by have a:k=n:=d;subst a;exact b (dD c e))
def aJ2{wr:aI}{g:Nat}{T:List jU}{r:Option Nat}(h:xV wr n g v u T M k)(o:I8 wr n 133 5 v T (fU T) r)(l:aR wr wr w)(m:w.grownBy x r) (b:x.ownsRow n 133 5 z (T+1) (fU T++fU [t])) (p:okT t):xV (x.setCell (zp g) z) n g z u (T++[t]) M k:=by
 have e:=h.next l;have d:=o.next l;have a:Row x g 48 [v,u,k]:=e.1.grown m (d.ne e.1 mT.1);refine⟨a.set 0 z,h.2.1,.inl ?_,?_,λs i=>?_⟩
 .rw[aO,sN];exact eS b (λq c=>vF a (dX b c) mT.1 0 z)
 .have j:l3 x n 3 1 u M (rQ M):=e.2.2.2.1.eW λq c=>m.block q (e.2.2.2.1.row c).1.lt (d.ne (e.2.2.2.1.row c).1 (λh=>mT.2.2 h.symm));exact j.eW λq c=>vF a (j.row c).1 mT.2.1 0 z
 rcases cB.1 i with f|f
 .exact h.2.2.2.2 s f
 rw[bP.1 f];exact p
def am5{wr:aI}{g:Nat}{T:List jU}{r:Option Nat}(h:xV wr n g v u T M k)(l:I8 wr n 3 1 u M (rQ M) r)(i:aR wr wr w)(j:w.grownBy x r) (b:x.ownsRow n 3 1 z (M+1) (rQ M++rQ [m])):xV (x.setCell (zp g 1) z) n g v z T (M++[m]) k:=by
 have e:=h.next i;have d:=l.next i;have a:Row x g 48 [v,u,k]:=e.1.grown j (d.ne e.1 mT.2.1);refine⟨a.set 1 z,h.2.1,?_,.inl ?_,h.2.2.2.2⟩
 .have f:l3 x n 133 5 v T (fU T):=e.2.2.1.eW λo c=>j.block o (e.2.2.1.row c).1.lt (d.ne (e.2.2.1.row c).1 mT.2.2);exact f.eW λo c=>vF a (f.row c).1 mT.1 1 z
 rw[aO,show rQ (M++[m])=rQ M++rQ [m]from by simp[rQ]];exact eS b (λo c=>vF a (dX b c) mT.2.1 1 z)
def kP.trans'{o d:Option Nat}(a:kP w x n o)(b:kP x y n d)(c:d=o\/∀k,d=some k->w.heap.size<=k):kP w y n o:=⟨b.os.trans a.os,b.tape.trans a.tape,b.output.trans a.output,aM a.size b.size,λk h g f=>(b.block k (aW h a.size) g (λe=>by
 rcases c with rfl|c
 .exact f e
 have:=c k e.symm;omega)).trans (a.block k h g f)⟩
def nH:(prog.info? 3).map (λi=>(i.zero,i.size,i.bytes))=some (some (.int .i64 0),1,8):=by kernel_rfl
def U2(M:List Nat):∀u∈rQ M,u.oneCell'=true:=by intro u a;obtain⟨n,-,rfl⟩:=dS.1 a;rfl
def bP7(w:aI)(m:Nat):Reads (w.alloc (.cells #[m] 3)) (.slice (zp w) 1 1) 1 1 (rQ [m]):=Reads.FH (size:=1) (n:=1) (cap:=1) (Row.new w #[m] 3) rfl dQ (by unfold maxLen;omega)
variable{a:List MemPlace}{s:bH}{l:cA}{f:fK}
abbrev Du:=DataW Unit
def uB(v:aN):Option (Du×List MemPlace):=match v with
 |.pointer none=>some (.lit (.int .i64 (-1)),[])
 |.pointer (some ⟨b,0,none⟩)=>some (.lit (.int .i64 (b:Int)),[])
 |_=>none
def TV:uB (.pointer none)=some (.lit (.int .i64 (-1)),[]):=rfl
def N0(b:Nat):uB (zp b)=some (.lit (.int .i64 b),[]):=rfl
def YX(h:uB v=some (.lit (.int .i64 n),a)):v=zp n:=by
 unfold uB at h;split at h
 .simp at h
 .rename_i c;simp at h;have:c=n:=(by omega);rw[this]
 cases h
def aL2(h:uB v=some (.lit (.int .i64 (-1)),a)):v=.pointer none:=by
 unfold uB at h;split at h
 .rfl
 .simp at h
 cases h
def sk(a n:bH):(Lit.string a).sameKey (.string n)=(a==n):=rfl
def UJ(a b:bH):bytesBefore a b=true↔a<b:=by
 induction a generalizing b with
 |nil=>cases b with
  |nil=>simp[bytesBefore]
  |cons y s=>simp[bytesBefore]
 |cons x r c=>cases b with
  |nil=>simp[bytesBefore]
  |cons y s=>rw[bytesBefore,vD,bL,cK6,c s];simp
def lD(l:cA)(a:bH->Nat):Du:=.map (l.map fun p=>(.string p.1,.lit (.int .i64 (a p.1:Int))))
def bn7(l:cA)(a:bH->Nat)(n:bH):has (lD l a) (.string n)=(bO l n).isSome:=by
 unfold lD has;induction l with
 |nil=>rfl
 |cons p l b=>
  rw[dU,bO];simp only[List.any_cons];by_cases h:p.1=n
  .simp[h,Lit.sameKey]
  simp only[h,dW];rw[<-b];simp[Lit.sameKey,h]
def aq4(h:bO l s=f)(a:bH->Nat)(z:Du):(lD l a).atKey (.string s) z=.lit (.int .i64 (a s:Int)):=by
 unfold lD DataW.atKey;induction l with
 |nil=>cases h
 |cons p l d=>
  rw[bO]at h;by_cases b:p.1=s
  .have c:(Lit.string p.1).sameKey (.string s)=true:=(by rw[sk];simpa using b);simp only[dU,bS5,c];rw[b]
  rw[aP b]at h;have c:(Lit.string p.1).sameKey (.string s)=false:=(by rw[sk];simpa using b);simp only[dU,bS5,c];exact d h
def bN9(h:bO l s=none)(a:bH->Nat)(z:Du):(lD l a).atKey (.string s) z=z:=by
 unfold lD DataW.atKey;induction l with
 |nil=>rfl
 |cons p l d=>
  rw[bO]at h;by_cases b:p.1=s
  .rw[aV b]at h;cases h
  rw[aP b]at h;have c:(Lit.string p.1).sameKey (.string s)=false:=(by rw[sk];simpa using b);simp only[dU,bS5,c];exact d h
def ab5(l:cA)(a:bH->Nat)(n:bH):(lD l a).del (.string n)=lD (kN l n) a:=by unfold lD kN;show DataW.map ((l.map λp=>((Lit.string p.1,DataW.lit (.int .i64 (a p.1:Int))):Lit×Du)).filter λp=>!p.1.sameKey (.string n))=_;rw[List.filter_map];congr 2;apply DG;intro p _;show(!(p.1==n))=!decide (p.1=n);rw[cK7]
def ab4(z:tB l)(a:bH->Nat)(n:bH)(b:Nat)(f:fK):(lD l a).put (.string n) (.lit (.int .i64 b))=lD (eC l n f) (λm=>if m=n then b else a m):=by
 unfold lD;show DataW.map (DataW.insert (.string n,.lit (.int .i64 b)) ((l.map λp=>((Lit.string p.1,DataW.lit (.int .i64 (a p.1:Int))):Lit×Du)).filter λp=>!p.1.sameKey (.string n)))=_;congr 1;induction l with
 |nil=>simp[eC,DataW.insert]
 |cons p l u=>
  have⟨m,g⟩:=p;have⟨s,v⟩:=dG.1 z;have u:=u v;rw[eC];have i:∀d:cA,(∀q∈d,q.1≠n)->(d.map λp=>((Lit.string p.1,DataW.lit (.int .i64 (a p.1:Int))):Lit×Du))=d.map λp=>(Lit.string p.1,DataW.lit (.int .i64 ((if p.1=n then b else a p.1:Nat):Int))):=λd h=>JT λq j=>by rw[aP (h q j)]
  have e:∀d:cA,(∀q∈d,q.1≠n)->((d.map λp=>((Lit.string p.1,DataW.lit (.int .i64 (a p.1:Int))):Lit×Du)).filter λp=>!p.1.sameKey (.string n))=d.map λp=>(Lit.string p.1,DataW.lit (.int .i64 (a p.1:Int))):=λd h=>by rw[qM];intro q j;obtain⟨p,y,rfl⟩:=dS.1 j;simp[Lit.sameKey,h p y]
  by_cases k:m=n
  .subst k;have c:∀q∈l,q.1≠m:=λq j h=>by have r:=s q j;rw[h]at r;exact mO _ r
   rw[aV rfl,dU,jK];rw[aP (by show¬((!(Lit.string m).sameKey (.string m))=true);rw[sk];simp),dU,e l c];simp only[eH];rw[<-i l c];cases l with
   |nil=>rfl
   |cons q d=>have:bytesBefore m q.1=true:=(UJ _ _).2 (s q (by simp));simp[DataW.insert,Lit.before,this]
  rw[aP k,dU,jK];have x:(!(Lit.string m).sameKey (.string n))=true:=(by simp[Lit.sameKey,k]);rw[aV x,DataW.insert];by_cases o:n<m
  .have t:(Lit.string n).before (.string m)=true:=(UJ _ _).2 o;have c:∀q∈l,q.1≠n:=λq j h=>by have r:=s q j;rw[h]at r;exact mO _ (yX o r)
   rw[aV o,aV t,e l c,dU,dU,<-i l c];simp[k]
  have t:(Lit.string n).before (.string m)=false:=by
   cases w:(Lit.string n).before (.string m)with
   |false=>rfl
   |true=>exact absurd ((UJ _ _).1 w) o
  rw[aP o,t,dU,<-u];simp[k]
def EW(l:cA)(a:bH->Nat):Maps.size (lD l a)=l:=by unfold lD Maps.size;simp
variable{A:Program}{D:aL}{R:aN->Option (Du×List MemPlace)}{K:bH->Nat}{H:bH->aN}
def DK(w:aI)(k:Nat):Prop:=∃C t a,w.heap[k]?=some (.cells C t a)/\(t=103\/t=112\/t=5)
def DT(w:aI)(k:Nat):Prop:=∃C a,w.heap[k]?=some (.cells C 103 a)
def OwnAt(w:aI)(k b:Nat):Prop:=∃v,w.cell? ⟨k,9,none⟩=some v/\v.ownBlock=some b
def jW{n:Nat}(h:x.heap[k]?=w.heap[k]?):DT w k->DT x k/\∀b,b<n->OwnAt x k b->OwnAt w k b:=λ⟨C,c,f⟩=>
 ⟨⟨C,c,h.trans f⟩,λb _ ⟨v,d,e⟩=>⟨v,(dK (a:=zp k 9) h).symm.trans d,e⟩⟩
def n7{n:Nat}(h:DT w n):Row w n 103 []:=by have⟨C,a,b⟩:=h;exact⟨C,a,b,by simp,λj c=>by simp at c⟩
def oP{n:Nat}(h:DT w n)(e:Row w k T X)(f:T≠103):n≠k:=λd=>by have⟨C,i,b⟩:=h;obtain⟨g,c,a,-⟩:=e;rw[d,a]at b;cases b;exact f rfl
def LV(r:Row w n 103 X)(c:Row x n 103 Y)(i:9<X.length)(j:9<Y.length)(g:∀b,b<k->Y[9].ownBlock=b->X[9].ownBlock=b):DT w n->DT x n/\∀b,b<k->OwnAt x n b->OwnAt w n b:=λ_=>by obtain⟨C,d,h,-⟩:=id c;refine⟨⟨C,d,h⟩,λb f ⟨v,a,e⟩=>⟨X[9],r.cell 9 i,g b f ?_⟩⟩;rw[c.cell 9 j]at a;cases a;exact e
structure gX(c m:Nat)(w a:aI):Prop where
 os:a.os=w.os
 tape:a.tape=w.tape
 output:a.output=w.output
 size:w.heap.size<=a.heap.size
 block:∀k,k<w.heap.size->(k<c\/(k≠m/\¬DK w k))->a.heap[k]?=w.heap[k]?
 kept:∀k,DT w k->DT a k/\∀b,b<w.heap.size->OwnAt a k b->OwnAt w k b
def gX.refl(base m:Nat)(w:aI):gX base m w w:=⟨rfl,rfl,rfl,dQ,λ_ _ _=>rfl,λk h=>⟨h,λ_ _ h=>h⟩⟩
def gX.cT(h:aR w w x)(a m:Nat):gX a m w x:=⟨h.os,h.tape,h.output,h.size,λk c _=>h.block k c,λk b=>jW (h.block k (n7 b).lt) b⟩
def gX.trans{n:Nat}{a w x:aI}(b:gX n k a w)(c:gX n k w x):gX n k a x:=⟨c.os.trans b.os,c.tape.trans b.tape,c.output.trans b.output,aM b.size c.size,λp i h=>by have e:=b.block p i h;refine(c.block p (aW i b.size) (h.imp id λf=>⟨f.1,λ⟨C,t,j,l,m⟩=>f.2 ⟨C,t,j,by rw[<-e];exact l,m⟩⟩)).trans e,λp d=>⟨(c.kept p (b.kept p d).1).1,λw g o=>(b.kept p d).2 w g ((c.kept p (b.kept p d).1).2 w (aW g b.size) o)⟩⟩
def gX.below(a:aR n y x)(h:gX n k x w)(c:n<=y):aR n y w:=⟨h.os.trans a.os,h.tape.trans a.tape,h.output.trans a.output,aM a.size h.size,λd b=>(h.block d (by have:=a.size;omega) (.inl b)).trans (a.block d b)⟩
def oF(h:Row w n T X)(c:T=103\/T=112\/T=5):DK w n:=by obtain⟨C,a,b,-⟩:=h;exact⟨C,T,a,b,c⟩
def gX.row{n k:Nat}{w':aI}(h:gX n m w w')(a:Row w k T X)(g:¬(T=103\/T=112\/T=5))(f:k≠m):Row w' k T X:=by refine a.of_block (h.block k a.lt (.inr ⟨f,λ⟨C,l,j,b,d⟩=>?_⟩));obtain⟨i,c,e,-⟩:=a;rw[e]at b;cases b;exact g d
structure MS(w:aI)(a b:Nat)(v:aN)(f:fK):Prop where
 row:Row w b 112 [v,.int .i64 (f.sync:Nat)]
 low:a<=b
 own:l3 w a 5 1 v f.data.length (dM f.data)
 sync:f.sync<=f.data.length
def rT(l:List Int):List aN:=l.map fun n=>.int .i64 n
structure bJ(w:aI)(b d m:Nat)(D:aL)(c:bH->Nat)(e:bH->aN):Prop where
 row:∃(a:Int)(h:aN),Row w d 103 [.bool true,.int .i64 (D.cap:Nat),.int .i64 (dZ D.files:Nat),.map (some m),.int .i64 a,.int .i64 (D.bQ:Nat),.bool D.down,.bool D.sC,.int .i64 (D.left:Nat),h]/\(-9223372036854775808<=a/\a<=9223372036854775807)/\l3 w b 3 1 h D.eW.length (rT D.eW)
 low:b<=d/\b<=m
 map:w.ownsMap prog 9 uB m D.files.length (lD D.files c)
 files:∀n f,bO D.files n=some f->MS w b (c n) (e n) f
 apart:∀n g f i,bO D.files n=some f->bO D.files g=some i->n≠g->c n≠c g/\∀k,(e n).ownBlock=some k->(e g).ownBlock≠some k
 kV:tB D.files
 cap:D.cap<=1048576
 used:dZ D.files<=D.cap
 many:D.files.length<=400
 bQ:D.bQ<=1000000000
 left:D.left<=9223372036854775807
 names:∀p∈D.files,jR p.1=true
 kept:∀n∈D.eW,-9223372036854775808<=n/\n<=9223372036854775807
def MS.next{w:aI}{base b:Nat}{v:aN}{f:fK}(h:MS w base b v f)(a:aR w w x):MS x base b v f:=⟨h.row.next a,h.low,h.own.next a,h.sync⟩
def IQ{D:Du}(h:w.ownsMap A T R k n D)(a:aR w w x):x.ownsMap A T R k n D:=h.kept (row:=none) ⟨a.os,a.tape,a.output,a.size,λT b _=>a.block T b⟩ (by simp)
def bJ.next{w:aI}{base n k:Nat}(h:bJ w base n k D K H)(b:aR w w x):bJ x base n k D K H:=by have⟨a,i,c,d,e⟩:=h.row;exact⟨⟨a,i,c.next b,d,e.next b⟩,h.low,IQ h.map b,λj f g=>(h.files j f g).next b,h.apart,h.kV,h.cap,h.used,h.many,h.bQ,h.left,h.names,h.kept⟩
def bJ.lt{n:Nat}(h:bJ w k n m D K H):n<w/\m<w:=by obtain⟨a,c,b,-⟩:=h.row;exact⟨b.lt,h.map.lt⟩
def bJ.cells{w:aI}{base n k:Nat}{H:bH->aN}(h:bJ w base n k D K H):w.cell? (zp n)=true/\w.cell? (zp n 1)=D.cap/\w.cell? (zp n 2)=(dZ D.files:Nat)/\w.cell? (zp n 3)=some (.map k)/\w.cell? (zp n 5)=D.bQ/\w.cell? (zp n 6)=D.down/\w.cell? (zp n 7)=D.sC/\w.cell? (zp n 8)=D.left:=by obtain⟨b,c,a,-⟩:=h.row;exact⟨a.lO,a.qD,a.tW,a.JF,a.zc5,a.zc6,a.zc7,a.zc8⟩
def av3:Keyed prog 9:=string_keyed underlying9
def ak7(w:aI):(zeroValue 107).run prog w=.ok (.pointer none) w:=by kernel_rfl
def keyOf_str(s:aS)(a:s<=maxLen):keyOf prog 9 s=some (.string (lb s)):=Go.WideMaps.keyOf_string_mk underlying9 a
def C6(h:bJ w k n m D K H):Calls prog 75 #[zp n] w λe a=>e=false/\w=a:=by obtain⟨b,-⟩:=h.cells;clear h;go_in;go_wp2;go_ret;exact⟨rfl,rfl⟩
def L8(D:aL):Int:=if D.down then 61 else 0
def yS(h:bJ w k n m D K H):Calls prog 51 #[zp n] w λe a=>e=(L8 D)/\w=a:=by
 obtain⟨f,-,-,-,-,c,-⟩:=h.cells;have b:=C6 h;clear h;unfold L8;rcases d:D.down with _|_
 all_goals
  rw[d]at c;go_in;go_wp2_with fail
  go_call b as e a ⟨rfl,rfl⟩;go_wp2;go_ret;exact⟨rfl,rfl⟩
def BP(h:bJ w k n m D K H):Calls prog 29 #[zp n] w λe c=>e=(!D.down)/\w=c:=by
 have a:=yS h;clear h;unfold L8 at a;rcases d:D.down with _|_
 all_goals
  rw[d]at a;simp only[bU,dW,eH]at a;have b:=aH a;clear a;go_in;go_wp2_with fail
  go_call b as e c ⟨rfl,rfl⟩;go_wp2;go_ret;exact⟨rfl,rfl⟩
def ar2(s:aS)(w:aI)(d:s<=maxLen):Calls prog 259 #[s] w λe g=>e=(jR (lb s))/\w=g:=by
 unfold maxLen at d;by_cases z:s.size=0
 .have c:(s.toList==[])=true:=(by rw[toList_nil z];rfl);have a:jR (lb s)=false:=(by unfold jR;simp;intro h;exact absurd (eG.1 (by rw[bI];exact z)) h);rw[a];clear a;go_in;go_wp2;go_ret;exact⟨rfl,rfl⟩
 have c:(s.toList==[])=false:=(by rw[bA];exact GD z);have b:lb s≠[]:=λh=>z (by rw[<-bI,h];rfl);by_cases i:s.size<=12
 iterate 2
  ·(first|(have f:(s.size:Int)<=12:=by omega)|(have f:¬(s.size:Int)<=12:=by omega));(first|(have a:jR (lb s)=true:=by unfold jR;simp;exact⟨b,by omega⟩)|(have a:jR (lb s)=false:=by unfold jR;simp;intro _;omega));rw[a];clear a b;go_in;go_wp2;go_ret;exact⟨rfl,rfl⟩
def eV:(112:cC)≠103/\(5:cC)≠103/\(5:cC)≠112/\(3:cC)≠103/\(3:cC)≠112/\(3:cC)≠5:=⟨by decide,by decide,by decide,by decide,by decide,by decide⟩
def gJ{D:Du}(h:w.ownsMap A U R n m D)(d:Row w k T X):n≠k:=by rintro rfl;obtain⟨e,a,b,-⟩:=h;obtain⟨C,f,c,-⟩:=d;rw[c]at b;cases b
def oB{D:Du}(h:w.ownsMap A T R k n D)(e:x.heap[k]?=w.heap[k]?):x.ownsMap A T R k n D:=by have⟨b,a,c,d⟩:=h;exact⟨b,a,e.trans c,d⟩
def MS.eW{w':aI}(h:MS w n k v f)(a:∀d t c,Row w d t c->t=112\/t=5->w'.heap[d]?=w.heap[d]?):MS w' n k v f:=⟨h.row.of_block (a _ _ _ h.row (.inl rfl)),h.low,h.own.eW λd b=>a _ _ _ (h.own.row b).1 (.inr rfl),h.sync⟩
def bJ.bU7{D':aL}(h:bJ w k n m D K H)(b:D'.files=D.files)(j:D'.cap=D.cap)(v:D'.bQ<=1000000000)(u:D'.left<=9223372036854775807)(e:∀C∈D'.eW,-9223372036854775808<=C/\C<=9223372036854775807) (d:∃(a:Int)(g:aN),Row x n 103 [true,D'.cap,(dZ D'.files:Nat),.map m,a,D'.bQ,D'.down,D'.sC,D'.left,g]/\(-9223372036854775808<=a/\a<=9223372036854775807)/\l3 x k 3 1 g D'.eW (rT D'.eW)) (l:∀B,B<w.heap.size->B≠n->x.heap[B]?=w.heap[B]?):bJ x k n m D' K H:=by
 obtain⟨a,g,i,-⟩:=h.row;refine⟨d,h.low,?_,λC f c=>?_,λC z f p q r=>h.apart C z f p (by rw[<-b];exact q) (by rw[<-b];exact r),by rw[b];exact h.kV,by rw[j];exact h.cap,by rw[b,j];exact h.used,by rw[b];exact h.many,v,u,by rw[b];exact h.names,e⟩
 .rw[b];exact oB h.map (l m h.map.lt (gJ h.map i))
 rw[b]at c;refine(h.files C f c).eW λB t A o y=>l B o.lt (λs=>?_);subst s;have:=dD o i;rcases y with rfl|rfl
 .exact eV.1 this
 exact eV.2.1 this
def gX.AT(e:Row w n 103 X)(p:k<=n)(j:Nat)(u:aN)(g:9<X.length:=by simp)(l:j≠9:=by decide):gX k m w (w.setCell ⟨n,j,none⟩ u):=by
 have a:=jI w ⟨n,j,none⟩ u;refine⟨a.os,a.tape,a.output,a.size,λq o i=>a.block q o (λc=>?_),λq f=>?_⟩;case refine_2=>
  by_cases h:q=n
  .subst h;exact LV e (e.set j u) g (by simpa using g) (λb _ c=>by rwa [cP3 l]at c) f
  exact jW (aU _ _ _ _ h) f
 have d:q=n:=(by simpa using c);subst d;rcases i with h|⟨-,h⟩
 .omega
 exact h (oF e (.inl rfl))
def gX.cK9(h:gX m i w x)(y:Row x k 103 X)(F:m<=k)(u:aN)(E:9<X.length)(D:∀b,u.ownBlock=some b->w.heap.size<=b):gX m i w (x.setCell (zp k 9) u):=by
 have l:=jI x (zp k 9) u;refine⟨l.os.trans h.os,l.tape.trans h.tape,l.output.trans h.output,aM h.size l.size,λG s r=>?_,λG A=>?_⟩
 .have q:G≠k:=λj=>by
   rcases r with f|⟨f,g⟩
   .omega
   have e:=h.block G s (.inr ⟨f,g⟩);subst j;have⟨C,t,o,a,d⟩:=oF y (.inl rfl);exact g ⟨C,t,o,by rw[<-e];exact a,d⟩
  rw[aU _ _ _ _ q];exact h.block G s r
 have⟨f,g⟩:=h.kept G A;by_cases j:G=k
 .subst j;have z:=y.set 9 u;obtain⟨C,o,p,-⟩:=id z;refine⟨⟨C,o,p⟩,λb c ⟨v,a,d⟩=>?_⟩;rw[z.cell 9 (by simpa using E)]at a;rw[cK3]at a;cases a;have:=D b d;omega
 have⟨a,d⟩:=jW (n:=w.heap.size) (aU x (zp k 9) u G j) f;exact⟨a,λb c B=>g b c (d b c B)⟩
def al9(w:aI)(d j:Nat)(u:aN):∀k,k<w.heap.size->k≠d->(w.setCell (zp d j) u).heap[k]?=w.heap[k]?:=λk b a=>aU _ _ _ _ a
def tK{j:Nat}{u:aN}(h:l3 w k 3 1 v m X)(b:Row w n 103 Y):l3 (w.setCell (zp n j) u) k 3 1 v m X:=h.eW λc a=>vF b (h.row a).1 eV.2.2.2.1 j u
def bJ.tick(h:bJ w k n m D K H):bJ (w.setCell (zp n 8) ((D.left-1:Nat):Int)) k n m D.tick K H/\gX k m w (w.setCell (zp n 8) ((D.left-1:Nat):Int)):=by have⟨a,e,b,c,d⟩:=h.row;have f:=h.left;refine⟨h.bU7 (D':=D.tick) rfl rfl h.bQ (by show D.left-1<=_;omega) h.kept ⟨a,e,b.set 8 _,c,tK d b⟩ (al9 w n 8 _),gX.AT b h.low.1 8 _⟩
def R7(h:bJ w k n m D K H)(s:aS)(d:s<=maxLen):(∀f,bO D.files (lb s)=some f->(Instr.lookup 101 (.map m) s true).run prog w=.ok (.tuple #[zp (K (lb s)),true]) w)/\(bO D.files (lb s)=none->(Instr.lookup 101 (.map m) s true).run prog w=.ok (.tuple #[.pointer none,false]) w):=by
 have⟨v,e,a,c⟩:=h.map.look_ok av3 underlying101 (ak7 w) TV (keyOf_str s d);rw[bn7]at a;constructor
 .intro f b;rw[aq4 b]at c;rw[a,b,YX c];rfl
 intro b;rw[bN9 b]at c;rw[a,b,aL2 c];rfl
def SA(D:aL)(blk:bH->Nat)(n:bH):aN:=if D.down then .tuple #[.pointer none,.int .i64 61]else match bO D.files n with
 |none=>.tuple #[.pointer none,.int .i64 4]
 |some _=>.tuple #[.pointer (some ⟨blk n,0,none⟩),.int .i64 0]
def yT(h:bJ w k n m D K H)(s:aS)(l:s<=maxLen):Calls prog 52 #[zp n,s] w λe g=>e=.returned (SA D K (lb s))/\w=g:=by
 have a:=yS h;obtain⟨-,-,-,p,-⟩:=h.cells;have⟨c,d⟩:=R7 h s l;clear h;unfold L8 at a;unfold SA;rcases i:D.down with _|_
 .rw[i]at a;simp only[bU,dW]at a|-;have b:=aH a;clear a;rcases j:bO D.files (lb s)with _|f
  iterate 2
   ·(first|have o:=d j|have o:=c f j);clear c d;simp only;go_in;(go_wp2_with fail);go_call b as e g ⟨rfl,rfl⟩;go_wp2;go_ret2;exact⟨rfl,rfl⟩
 rw[i]at a;simp only[eH]at a|-;have b:=aH a;clear a c d;go_in;go_wp2_with fail
 go_call b as e g ⟨rfl,rfl⟩;go_wp2;go_ret2;exact⟨rfl,rfl⟩
def cn5(a d m:Nat)(D:aL)(b:bH->Nat)(c:bH->aN)(w:aI)(e:eY)(f:aI):Prop:=e=.returned (.bool D.rU)/\(D.rU=true->w=f)/\(D.rU=false->bJ f a d m D.tick b c/\gX a m w f)
def yU(h:bJ w k n m D K H):Calls prog 173 #[zp n] w (cn5 k n m D K H w):=by
 obtain⟨-,-,-,-,-,-,e,i⟩:=h.cells;obtain⟨g,r,j,-⟩:=h.row;have l:=j.zf8;have f:=h.left;have a:=aH h.tick;clear h j;unfold cn5;by_cases d:D.left=0
 .have b:D.rU=D.sC:=(by unfold aL.rU;rw[bZ d,au4]);rw[b];rw[d]at i a;rcases c:D.sC with _|_
  .rw[c]at e;go_in;go_wp2;go_ret;exact⟨rfl,λh=>(by cases h),λ_=>a⟩
  rw[c]at e;clear a;go_in;go_wp2;go_ret;exact⟨rfl,λ_=>rfl,λh=>by cases h⟩
 have b:D.rU=false:=(by unfold aL.rU;rw[bN d,ag2]);rw[b];obtain⟨q,p⟩:∃q,D.left=q+1:=⟨D.left - 1,by omega⟩;rw[p]at i a f;have o:(((q+1:Nat):Int)==0)=false:=(by rw[bA];omega);rcases c:D.sC with _|_
 all_goals
  rw[c]at e;clear d b;go_in;go_wp2;go_ret;exact⟨rfl,λh=>(by cases h),λ_=>by have:=a.zz;simpa using this⟩
def an3(h:bO l s=f)(k:tB l)(b:fK):(eC l s b).map (·.1)=l.map (·.1):=by
 induction l with
 |nil=>cases h
 |cons p l n=>
  have⟨m,g⟩:=p;have⟨c,d⟩:=dG.1 k;rw[bO]at h;rw[eC];by_cases e:m=s
  .rw[aV e,dU,dU,e]
  rw[aP e]at h;have a:¬s<m:=λj=>by have i:=c _ (yQ h);exact mO _ (yX j i)
  rw[aP e,aP a,dU,dU,n h d]
def W4(l:cA)(a:bH->Nat):lD l a=.map ((l.map (·.1)).map λn=>(.string n,.lit (.int .i64 (a n:Int)))):=by unfold lD;rw[DF];rfl
def aS7(h:bO l s=f)(c:tB l)(b:fK)(a:bH->Nat):lD (eC l s b) a=lD l a:=by rw[W4,W4,an3 h c]
def VJ(h:bO l s=f)(b:tB l)(a:fK):(eC l s a).length=l:=by have:=gQ List.length (an3 h b a);simpa using this
def PD(h:∀p∈l,jR p.1=true)(b:jR s=true):∀p∈eC l s f,jR p.1=true:=by
 intro p a;rcases aL0 a with rfl|a
 .exact b
 exact h p a
def fileName(h:bJ w k n m D K H){s:bH}{f:fK}(a:bO D.files s=f):jR s=true:=h.names _ (yQ a)
def bJ.aw0{d:Nat}{D':aL}(h:bJ w n d k D K H){s:bH}{f G:fK}(r:bO D.files s=f){v':aN}(A:D'.files=eC D.files s G)(Q:D'.cap=D.cap)(S:D'.bQ<=1000000000)(R:D'.left<=9223372036854775807)(L:∀s∈D'.eW,-9223372036854775808<=s/\s<=9223372036854775807)(T:dZ D'.files<=D'.cap) (E:∃(c:Int)(M:aN),Row x d 103 [true,D'.cap,(dZ D'.files:Nat),.map k,c,D'.bQ,D'.down,D'.sC,D'.left,M]/\(-9223372036854775808<=c/\c<=9223372036854775807)/\l3 x n 3 1 M D'.eW (rT D'.eW)) (t:MS x n (K s) v' G) (O:∀U,v'.ownBlock=some U->(H s).ownBlock=U\/w.heap.size<=U) (J:∀U,U<w.heap.size->U≠d->U≠K s->(H s).ownBlock≠some U->x.heap[U]?=w.heap[U]?):bJ x n d k D' K (λV=>if V=s then v' else H V):=by
 obtain⟨c,M,I,-⟩:=h.row;have F:=h.files s f r;have l:∀V g,bO D'.files V=some g->(V=s/\g=G)\/(V≠s/\bO D.files V=some g):=λV g o=>by
  rw[A,fF]at o;by_cases e:s=V
  .rw[aV e]at o;cases o;exact .inl ⟨e.symm,rfl⟩
  rw[aP e]at o;exact .inr ⟨λh=>e h.symm,o⟩
 have B:∀V g,bO D.files V=some g->∀U,(H V).ownBlock=some U->U<w.heap.size:=λV g o U b=>((h.files V g o).own.row b).1.lt;refine⟨E,h.low,?_,λV g o=>?_,λV y g v o P j=>?_,by rw[A];exact vX h.kV _ _,by rw[Q];exact h.cap,T,by rw[A,VJ r h.kV];exact h.many,S,R,by rw[A];exact PD h.names (fileName h r),L⟩
 .rw[A,VJ r h.kV,aS7 r h.kV];exact oB h.map (J k h.map.lt (gJ h.map I) (gJ h.map F.row) (λb=>gJ h.map (F.own.row b).1 rfl))
 .rcases l V g o with⟨rfl,rfl⟩|⟨j,m⟩
  .simpa using t
  show MS x n (K V) (if V=s then v' else H V) g;rw[aP j];have p:=h.files V g m;have a:=h.apart V s g f m r j;refine⟨p.row.of_block (J _ p.row.lt (λb=>?_) a.1 (λb=>?_)),p.low,p.own.eW λU b=>J U (p.own.row b).1.lt (λi=>?_) (λi=>?_) (λi=>?_),p.sync⟩
  .have N:=p.row;rw[b]at N;exact eV.1 (dD N I)
  .exact eV.2.2.1 (dD (F.own.row b).1 p.row)
  .subst i;exact eV.2.1 (dD (p.own.row b).1 I)
  .subst i;exact eV.2.2.1 (dD (p.own.row b).1 F.row)
  exact a.2 U b i
 rcases l V g o with⟨rfl,rfl⟩|⟨C,m⟩
 .rcases l y v P with⟨rfl,rfl⟩|⟨u,q⟩
  .exact absurd rfl j
  have a:=h.apart V y f v r q j;refine⟨a.1,λU i b=>?_⟩;simp only[eH]at i;simp only[aP u]at b;rcases O U i with z|z
  .exact a.2 U z b
  have:=B y v q U b;omega
 rcases l y v P with⟨rfl,rfl⟩|⟨u,q⟩
 .have a:=h.apart V y g f m r j;refine⟨a.1,λU i b=>?_⟩;simp only[aP C]at i;simp only[eH]at b;rcases O U b with z|z
  .exact a.2 U i z
  have:=B V g m U i;omega
 have a:=h.apart V y g v m q j;refine⟨a.1,λU i b=>?_⟩;simp only[aP C]at i;simp only[aP u]at b;exact a.2 U i b
def bJ.CS(h:bJ w m k i D K H){n:bH}{f:fK}(a:bO D.files n=f):w.cell? (zp (K n))=some (H n)/\w.cell? (zp (K n) 1)=f.sync/\w.frozen? (zp (K n))=false/\w.frozen? (zp (K n) 1)=false:=⟨(h.files n f a).row.lO,(h.files n f a).row.qD,(h.files n f a).row.NV,(h.files n f a).row.JE⟩
def bJ.data{d:Nat}(h:bJ w k d m D K H){n:bH}{f:fK}(b:bO D.files n=f):Reads w (H n) 1 f.data (dM f.data)/\f.data.length<=1048576:=by refine⟨(h.files n f b).own.reads,?_⟩;have a:=lB h.kV n ⟨[],0⟩;rw[b]at a;simp at a;have:=h.used;have:=h.cap;omega
def uH(h:bJ w k n m D K H)(s:aS)(o:s<=maxLen):Calls prog 30 #[zp n,s] w λe g=>e=.returned (.tuple #[((D.size (lb s)).1:Nat),(D.size (lb s)).2])/\w=g:=by
 have a:=yT h s o;unfold SA at a;unfold aL.size;rcases j:D.down with _|_
 .rw[j]at a;simp only[bU,dW]at a|-;rcases d:bO D.files (lb s)with _|f
  iterate 2
   .rw[d]at a;simp only at a|-;(try (obtain⟨l,-⟩:=h.CS d;obtain⟨A,c,i,-⟩:=id (h.data d).1;rw[i]at l));have b:=aH a;(first|clear a h|clear a h i);go_in;(go_wp2_with fail);go_call b as e g ⟨rfl,rfl⟩;go_wp2;go_ret2;exact⟨rfl,rfl⟩
 rw[j]at a;simp only[eH]at a|-;have b:=aH a;clear a h;go_in;go_wp2_with fail
 go_call b as e g ⟨rfl,rfl⟩;go_wp2;go_ret2;exact⟨rfl,rfl⟩
def UD(h:bJ w k n m D K H):Calls prog 258 #[zp n] w λe b=>e=D.free/\aR w w b:=by
 have c:=C6 h;have o:∀x:dR w,x.it.cell? (zp n 1)=some D.cap:=λx=>(h.next x.ok).cells.2.1;have p:∀x:dR w,x.it.cell? (zp n 2)=some (dZ D.files:Nat):=λx=>(h.next x.ok).cells.2.2.1;have d:=h.cap;have f:=h.used;unfold aL.free;generalize dZ D.files=U at *;generalize D.cap=C at *;have i:(U:Int)<=C:=(by omega);have g:(C:Int)<=1048576:=(by omega);clear h d f;go_in;go_wp2_with fail
 go_call c as e b ⟨rfl,rfl⟩;(go_wp2_with fail);refine cI (by kernel_rfl) (by kernel_rfl) ?_;repeat go_big_quiet_step (fail)
 refine wpQuiet_nil ?_;intro _ j;obtain⟨⟨l,a⟩,rfl⟩:=j;go_wp2;go_ret;exact⟨rfl,a⟩
def WB(h:bJ w k n m D K H):Calls prog 117 #[zp n] w λe a=>e=D.bQ/\w=a:=by
 have b:=C6 h;obtain⟨-,-,-,-,c,-⟩:=h.cells;clear h;go_in;go_wp2_with fail
 go_call b as e a ⟨rfl,rfl⟩;go_wp2;go_ret;exact⟨rfl,rfl⟩
variable{Q:List bB}
def aw6{A:Option Addr}(h:Reads w (.slice A n k) 1 Q (dM Q))(a c m:Nat)(x:a<=c)(y:c<=Q)(z:c<=m)(B:m<=k):Reads w (Go.sliced A a c m 1) 1 ((Q.drop a).take (c - a)) (dM ((Q.drop a).take (c - a))):=by
 have⟨t,u,s,q,r,i,d⟩:=h;obtain⟨rfl,rfl,rfl⟩:=eJ s;have e:((Q.drop a).take (c-a))=c-a:=(by simp;omega);rw[e];refine⟨_,m-a,rfl,by omega,by omega,by simp[e],λv=>?_⟩;obtain⟨b,g,rfl,f,l⟩:=d (by omega);refine⟨b,g+a,?_,f,λj o=>?_⟩
 .rw[aP (by omega)];simp[Addr.add]
 have p:j<c-a:=(by simpa[e]using o);have:=l (a+j) (by simp;omega);rw[gC,this];congr 1;simp[dM]
def bo9{P:Program}{d:cC}(h:Reads w v 1 Q (dM Q))(m:P.underlying U=some (.slice T))(k:P.underlying T=some (.int .u8))(i:P.underlying d=some .string):(convert U d v).run P w=.ok (bs Q) w:=by
 obtain⟨A,t,rfl,r,s,l,c⟩:=h;cases A with
 |none=>
  have q:Q.length=0:=by
   rcases dP Q with f|f
   .exact f
   obtain⟨b,e,g,-⟩:=c f;cases g
  rw[run_convert_bytes_nil w U T m k _ _ d i,eG.1 q];rfl
 |some a=>
  refine run_convert_bytes_back w U d T a _ Q m k i λj p=>?_;obtain⟨b,e,g,-,o⟩:=c (by omega);cases g;have:=o j (by simpa using p);have n:(Addr.mk b e none).add j=⟨b,e+j,none⟩:=by
   unfold Addr.add;split
   .rename_i f;subst f;rfl
   rfl
  rw[n,this];simp[dM]
def bJ.cy7(h:bJ w k n m D K H):∃a:Int,w.cell? (zp n 4)=a/\w.frozen? (zp n 4)=false/\(-9223372036854775808<=a/\a<=9223372036854775807)/\∀b:Int,(-9223372036854775808<=b/\b<=9223372036854775807)->bJ (w.setCell (zp n 4) b) k n m D K H/\gX k m w (w.setCell (zp n 4) b):=by have⟨a,g,c,d,e⟩:=h.row;exact⟨a,c.zc4,c.zf4,d,λb f=>⟨h.bU7 rfl rfl h.bQ h.left h.kept ⟨b,g,c.set 4 _,f,tK e c⟩ (al9 w n 4 _),gX.AT c h.low.1 4 _⟩⟩
def wrap64_in(x:Int):-9223372036854775808<=wrap64 x/\wrap64 x<=9223372036854775807:=by unfold wrap64;omega
def OK(a d m:Nat)(D:aL)(b:bH->Nat)(c:bH->aN)(w:aI)(r:bH×Int)(e:eY)(f:aI):Prop:=e=.returned (.tuple #[.string (bs r.1),.int .i64 r.2])/\bJ f a d m D b c/\gX a m w f
def wI(h:bJ w k n m D K H)(s:aS)(S:s<=maxLen)(p h0:Int)(Z:-9223372036854775808<=p/\p<=9223372036854775807)(X:-9223372036854775808<=h0/\h0<=9223372036854775807):Calls prog 31 #[zp n,s,p,h0] w (OK k n m D K H w (D.read (lb s) p h0)):=by
 have l:=yS h;unfold L8 at l;unfold OK aL.read;rcases F:D.down with _|_
 .rw[F]at l;simp only[bU,dW]at l|-;have⟨v,c4,W,g,r⟩:=h.cy7;have⟨y,C⟩:=r (wrap64 (v+1)) (wrap64_in _);have b:=yT y s S;unfold SA at b;rw[F]at b;simp only[bU,dW]at b;have⟨i,u,t⟩:=aB l y C;clear l r y C g;rcases G:bO D.files (lb s)with _|f
  .rw[G]at b;simp only at b|-;have d:=aH b;clear b h;go_in;(go_wp2_with fail);go_call i as e x ⟨rfl,rfl⟩;(go_wp2_with fail);go_call d as e x ⟨rfl,rfl⟩;go_wp2;go_ret2;exact⟨rfl,u,t⟩
  rw[G]at b;simp only at b|-;obtain⟨O,-⟩:=u.CS G;have⟨g,N⟩:=u.data G;obtain⟨A,c,R,M,z,-⟩:=id g;rw[R]at O g;have⟨d,J⟩:=aA b g;have⟨h6,I⟩:=fR f.data.length;have T:=aH I;rw[<-I]at M N O;have Y:(h6:Int)<=1048576:=(by omega);have V:c<=9223372036854775807:=(by unfold maxLen at z;omega);have⟨p1,p2⟩:=Z;have⟨k1,k2⟩:=X;rw[show f.data.length=h6 from I.symm];clear b h R g I z;by_cases o:p<0\/h0<0\/(h6:Int)<p\/(h6:Int)-p<h0
  .rw[aV o];rcases(show p<0\/(¬p<0/\h0<0)\/(¬p<0/\¬h0<0/\(h6:Int)<p)\/(¬p<0/\¬h0<0/\¬(h6:Int)<p/\(h6:Int) - p<h0)from by omega)with L|⟨L,y⟩|⟨L,y,Q⟩|⟨L,y,Q,U⟩
   all_goals
    clear o;go_in;(go_wp2_with fail);go_call i as e x ⟨rfl,rfl⟩;(go_wp2_with fail);go_call d as e x ⟨rfl,rfl⟩;go_wp2;go_ret2;exact⟨rfl,u,t⟩
  rw[aP o];obtain⟨a,rfl⟩:=cR (a:=p) (by omega);obtain⟨q,rfl⟩:=cR (a:=h0) (by omega);have Q:¬(h6:Int)<a:=(by omega);have U:¬(h6:Int)-a<q:=(by omega);have h5:a+q<=h6:=(by omega);have E:=aw6 J a (a+q) c (by omega) (by rw[<-T.zz];omega) (by omega) dQ;have j:=bo9 (P:=prog) E underlying110 underlying5 underlying9;rw[show a+q-a=q from by omega]at j;unfold Go.sliced at j;rw[show a+q-a=q from by omega]at j;rw[bW,bW];clear o p1 p2 k1 k2 E;by_cases B:c=a
  iterate 2
   .first|subst B;rw[aV rfl,iM]at j|rw[aP B,sG]at j
    go_in;(go_wp2_with fail);go_call i as e x ⟨rfl,rfl⟩;(go_wp2_with fail);go_call d as e x ⟨rfl,rfl⟩;go_wp2;go_ret2;exact⟨rfl,u,t⟩
 rw[F]at l;simp only[eH]at l|-;have b:=yT h s S;unfold SA at b;rw[F]at b;simp only[eH]at b;have⟨i,d,u⟩:=aB l b h;clear l b h;go_in;go_wp2_with fail
 go_call i as e x ⟨rfl,rfl⟩;go_wp2_with fail
 go_call d as e x ⟨rfl,rfl⟩;go_wp2;go_ret2;exact⟨rfl,u,gX.refl _ _ _⟩
end Go.Proofs.YtpopikndggffaaaGreatDoor
