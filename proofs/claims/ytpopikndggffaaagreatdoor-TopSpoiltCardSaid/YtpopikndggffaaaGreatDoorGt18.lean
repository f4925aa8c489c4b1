/- TOP, part 18. -/
import Derived.Deep.AppendSrc
import Derived.Maps.RangeWalk
import Derived.Sort.KeysCollected
import Derived.Sort.OwnSorted
import Derived.Test.YtpopikndggffaaaGreatDoorGt15
import Derived.Test.YtpopikndggffaaaGreatDoorGt17
namespace Go.Proofs.YtpopikndggffaaaGreatDoor
set_option linter.all false
set_option maxRecDepth 100000
set_option maxHeartbeats 16000000
open Go.RowKit Go.Maps Tryz
variable{X:List aN}{d i j k m n:Nat}{w x:aI}{D:aL}{v:aN}{K:bH->Nat}{H:bH->aN}{l:cA}{T:cC}
def aI5(h:Row w n T X)(k:Nat):Row w n T (X.take k):=by
 have⟨C,a,c,e,b⟩:=h;refine⟨C,a,c,?_,λj d=>b j (by rw[b8]at d;omega)⟩;have:=gQ (List.take (X.take k)) e;rw[l5,fX (by rw[b8];exact br7 _ _)]at this;rw[this,b8];rcases UQ k X with h|h
 .rw[fX h]
 rw[xW h,aT dQ,aT h]
def l3.cI3(h:l3 w n T 1 v k X)(x:Nat)(u:x<=k):∃A c,v=.slice A k c/\k<=c/\c<=maxLen/\(A=none\/∃b,A=some ⟨b,0,none⟩)/\l3 w n T 1 (.slice A x x) x (X.take x):=by
 rcases h with h|⟨b,rfl,l,m,o,p⟩
 .rcases h.2 with⟨rfl,rfl⟩|⟨g,a,j,rfl,d,r,s,e,q,f⟩
  .have t:X=[]:=gF (by simpa using h.1);obtain rfl:x=0:=(by omega);subst t;exact⟨none,0,rfl,dQ,by unfold maxLen;omega,.inl rfl,.inl (bM _ _ _ _)⟩
  have i:=h.1;refine⟨_,a,rfl,s,e,.inr ⟨g,rfl⟩,.inr ⟨g,rfl,d,aI5 (dX h rfl) x,by rw[b8,i];omega,by omega⟩⟩
 refine⟨_,k,rfl,dQ,p,.inr ⟨b,rfl⟩,.inr ⟨b,rfl,l,aI5 m x,by rw[b8,o];omega,by omega⟩⟩
def nC(f:fK)(k:Nat):fK:=⟨f.data.take k,min f.sync (min k f.data.length)⟩
def TE(c:tB l){s:bH}{f:fK}(h:bO l s=f)(k:Nat):dZ (eC l s (nC f k))=dZ l-(f.data-min k f.data)/\f.data<=dZ l:=by have a:=lB c s (nC f k);have b:=lB c s ⟨[],0⟩;have d:(nC f k).data=min k f.data:=(by simp[nC]);rw[h,d]at a;rw[h]at b;simp only[pZ,lX,kG]at a b;omega
def aV5(l:List bB)(k:Nat):dM (l.take k)=(dM l).take k:=by simp[dM,qX]
def bJ.cI2(h:bJ w k n m D K H){s:bH}{f:fK}(C:bO D.files s=f)(V:Nat){A:Option Addr}{i:Nat}(O:H s=.slice A f.data i)(e:l3 w k 5 1 (.slice A (min V f.data) (min V f.data)) (min V f.data) ((dM f.data).take (min V f.data)))(u y:Int)(Q:u=((dZ D.files-(f.data-min V f.data):Nat):Int))(R:y=((min f.sync (min V f.data):Nat):Int)):∃r,bJ ((((w.setCell (zp n 2) u).drew).setCell (zp (K s)) (.slice A (min V f.data) (min V f.data))).setCell (zp (K s) 1) y) k n m {D with files:=eC D.files s (nC f V)} K r/\gX k m w ((((w.setCell (zp n 2) u).drew).setCell (zp (K s)) (.slice A (min V f.data) (min V f.data))).setCell (zp (K s) 1) y):=by
 have g:=h.files s f C;have⟨o,F,p,N,x⟩:=h.row;have⟨I,T⟩:=TE h.kV C V;have d:n≠K s:=λa=>by have E:=g.row;rw[<-a]at E;exact eV.1 (dD E p)
 have G:Row (w.setCell (zp n 2) u).drew n 103 _:=(p.set 2 _).drew;have J:Row (w.setCell (zp n 2) u).drew (K s) 112 _:=(g.row.of_block (w':=w.setCell (zp n 2) u) (aU _ _ _ _ (λa=>d a.symm))).drew;have L:=J.set 0 (.slice A (min V f.data) (min V f.data));have M:=L.set 1 y;have c:∀q,q≠n->q≠K s->((((w.setCell (zp n 2) u).drew).setCell (zp (K s)) (.slice A (min V f.data) (min V f.data))).setCell (zp (K s) 1) y).heap[q]?=w.heap[q]?:=λq z v=>by rw[aU _ _ _ _ v,aU _ _ _ _ v];exact aU _ _ _ _ z
 have S:l3 ((((w.setCell (zp n 2) u).drew).setCell (zp (K s)) (.slice A (min V f.data) (min V f.data))).setCell (zp (K s) 1) y) k 3 1 F D.eW (rT D.eW):=x.eW λq a=>c q (λl=>by subst l;exact eV.2.2.2.1 (dD (x.row a).1 p)) (λl=>by subst l;exact eV.2.2.2.2.1 (dD (x.row a).1 g.row));have t:(nC f V).data=min V f.data:=(by simp[nC]);refine⟨_,h.aw0 (D':={D with files:=eC D.files s (nC f V)}) (v':=.slice A (min V f.data) (min V f.data)) C rfl rfl h.bQ h.left h.kept (by show dZ (eC D.files s (nC f V))<=D.cap;have:=h.used;omega) ⟨o,F,?_,N,S⟩ ⟨?_,g.low,?_,?_⟩ (λq a=>.inl ?_) (λq P z v U=>c q z v),⟨rfl,rfl,rfl,by simp[World.drew],λq P j=>c q (λa=>?_) (λa=>?_),λq B=>?_⟩⟩
 .show Row _ n _ [_,_,(dZ (eC D.files s (nC f V)):Nat),_,_,_,_,_,_,_];rw[I,<-Q];exact(G.of_block (aU _ _ _ _ d)).of_block (aU _ _ _ _ d)
 .rw[show(nC f V).sync=min f.sync (min V f.data)from rfl,<-R];exact M
 .rw[t,show dM (nC f V).data=(dM f.data).take (min V f.data)from by
   show dM (f.data.take V)=_;rw[aV5];rcases UQ V f.data with a|a
   .rw[fX a]
   rw[xW a,aT (by simpa using a),aT (by simp)]]
  exact e.eW λq a=>c q (λl=>by subst l;exact eV.2.1 (dD (e.row a).1 p)) (λl=>by subst l;exact eV.2.2.1 (dD (e.row a).1 g.row))
 .rw[t];exact br7 _ _
 .rw[O];cases A<;>simpa[Value.ownBlock]using a
 .subst a;rcases j with j|⟨-,j⟩
  .have:=h.low.1;omega
  exact j (oF p (.inl rfl))
 .subst a;rcases j with j|⟨-,j⟩
  .have:=g.low;omega
  exact j (oF g.row (.inr (.inl rfl)))
 by_cases a:q=n
 .subst a;exact LV p ((G.of_block (aU _ _ _ _ d)).of_block (aU _ _ _ _ d)) (by simp) (by simp) (λb _ h=>by simpa using h) B
 exact jW (c q a (oP B g.row (by decide))) B
def cj9{w:World}{H:bH->Value}(h:bJ w k n m D K H){s:bH}{f:fK}(g:bO D.files s=f)(h5:Nat)(hk:h5<=9223372036854775807):Calls prog 56 #[zp n,zp (K s),h5] w λe R=>e=zt/\∃i,bJ R k n m {D with files:=eC D.files s (nC f h5)} K i/\gX k m w R:=by
 have o:=h.files s f g;have⟨A,c,C,J,r,l,a⟩:=o.own.cI3 (min h5 f.data) (br7 _ _);have d:=aH (h.cI2 g h5 C a);obtain⟨-,-,c2,-⟩:=h.cells;obtain⟨Q,kv,G,-⟩:=h.row;have f2:=G.QP;have⟨V,Z,h0,h2⟩:=h.CS g;rw[C]at V;have x:K s≠n:=λI=>by have X:=o.row;rw[I]at X;exact eV.1 (dD X G)
 have⟨e1,e2⟩:=TE h.kV g h5;have t:=h.used;have M:=h.cap;have N:=(h.data g).2;have y:=o.sync;have HH:=aH h;have⟨L,p⟩:=fR f.data.length;have⟨q,W⟩:=fR (min h5 L);have⟨U,F⟩:=fR (dZ D.files);have⟨S,E⟩:=fR f.sync;rw[<-p,<-F,<-E,<-W]at d;rw[<-p,<-F]at e2;rw[<-p]at V N y J;rw[<-E]at y Z;rw[<-F]at c2 t;have h3:c<=9223372036854775807:=(by unfold maxLen at r;omega);have O:(h5<=L/\q=h5)\/(L<h5/\q=L):=(by rcases UQ h5 L with I|I<;>omega);have h4:q<=L:=by omega
 have z:∀u:Int,((w.setCell (zp n 2) u).drew).cell? (zp (K s))=some (.slice A L c)/\((w.setCell (zp n 2) u).drew).frozen? (zp (K s))=false/\∀v,(((w.setCell (zp n 2) u).drew).setCell (zp (K s)) v).cell? (zp (K s) 1)=S/\(((w.setCell (zp n 2) u).drew).setCell (zp (K s)) v).frozen? (zp (K s) 1)=false:=λu=>by have j:Row (w.setCell (zp n 2) u).drew (K s) 112 _:=(o.row.of_block (w':=w.setCell (zp n 2) u) (aU _ _ _ _ x)).drew;rw[C,<-p,<-E]at j;exact⟨j.lO,j.NV,λv=>⟨(j.set 0 v).qD,(j.set 0 v).JE⟩⟩
 have T:=aH z;have i3:(U:Int)<=1048576:=(by omega);have i2:(L:Int)<=U:=(by omega);clear z h G o C a e1 M p F E W r g x t;rcases O with⟨g1,rfl⟩|⟨g1,rfl⟩
 .have i1:(q:Int)<=L:=(by omega);have⟨z0,zf,B⟩:=T ((U:Int)-((L:Int)-(q:Int)));have⟨y0,yf⟩:=B (.slice A q q);clear B;rcases l with rfl|⟨b,rfl⟩
  all_goals
   by_cases P:S<=q
   iterate 2
    ·(first|(have Y:(S:Int)<=q:=by omega)|(have Y:¬(S:Int)<=q:=by omega));go_in;(go_wp2_with fail);go_region;go_wp2;go_end0;refine⟨rfl,d _ _ ?_ ?_⟩<;>omega
 have i1:¬(h5:Int)<=q:=(by omega);have⟨z0,zf,B⟩:=T ((U:Int)-((q:Int)-(q:Int)));have⟨y0,yf⟩:=B (.slice A q q);clear B;rcases l with rfl|⟨b,rfl⟩
 all_goals
  by_cases P:S<=q
  .have Y:(S:Int)<=q:=(by omega);go_in;(go_wp2_with fail);go_region;go_wp2;go_end0;refine⟨rfl,d _ _ ?_ ?_⟩<;>omega
  omega
section
open Go.Sort
def bz0:Prop:=∀(a b d:Nat) (c:List (List bB)) (w:aI),Holds encStr w a b c.toArray->a<w.heap.size->c.length<4611686018427387904->
 Calls prog 89 #[.slice (some ⟨a,b,none⟩) c.length d] w fun e g=>e=.returned (.tuple #[])/\∃n f,g=grow (putRow encStr (Sort.ahead w n) a b (c.mergeSort fun x y=>decide (x<=y)).toArray) f
def bz1:Prop:=∀(w:aI),Calls prog 89 #[.slice none 0 0] w fun e a=>e=.returned (.tuple #[])/\aR w.heap.size w a
def ah1(l:cA)(a:bH->Nat):strKeys (lD l a)=l.map (·.1):=by unfold lD;show(l.map λp=>((Lit.string p.1,DataW.lit (.int .i64 (a p.1:Int))):Lit×Du)).map (λp=>strOf p.1)=_;rw[DF];rfl
def ax7(c:tB l){a:List (List bB)}{K:bH->Nat}(h:a.Perm (strKeys (lD l K))):(a.mergeSort λx y=>decide (x<=y))=l.map (·.1):=by rw[ah1]at h;have b:=mergeSort_of_perm h;show a.mergeSort leB=_;rw[b];refine List.mergeSort_of_pairwise ?_;refine mF.2 (c.imp λh=>?_);simp only[leB,bG];exact List.le_of_lt h
def ay8:(prog.info? 9).map (λi=>(i.zero,i.size,i.bytes))=some (some (.string ⟨#[]⟩),1,16):=by kernel_rfl
def Q1(hsort:bz0)(hsortN:bz1){w:aI}{base d m:Nat}{D:aL}{blk:bH->Nat}{dat:bH->aN}(h:bJ w base d m D blk dat):Calls prog 55 #[zp d] w λe w'=>∃v,e=.returned v/\w'.ownsRow w 9 1 v D.names (D.names.map encStr)/\aR w w w':=by
 have HN:=C6 h;obtain⟨-,-,-,c3,-⟩:=h.cells;have hown:=h.map;have hbl:=hown.lt;have hmany:=h.many;have hris:=h.kV;have hsz:=EW D.files blk;have⟨i0,hi,hz0,hz1,hz2⟩:=info_parts ay8;unfold aL.names;generalize D.files=l at hown hmany hris hsz|-;have⟨HR,HSZ,HSO,HSN⟩:=aC hris hsz hsort hsortN;clear h hris hsz hsort hsortN;go_in;go_wp2_with fail
 go_call HN as e w' ⟨rfl,rfl⟩;clear HN;go_wp2_with (first
  |(at_range;refine wpList_range_own _ rfl _ 101 rfl 9 107 av3 underlying101 uB m l (lD l blk) rfl hown ?_;intro w0 hrg0 hg0 hs0))
 clear hs0 c3
 go_frame
 go_loopw [3,4] (λv _ wr=>∃(left:Lit->Bool) (cnt:Nat) (ss:List (List bB)),wr.ranges prog 9 uB m w l (lD l blk) left cnt/\ss+cnt<=l/\wr.ownsRow w 9 1 v ss (ss.map encStr)/\Collected (lD l blk) left ss/\aR w w wr)
  (λ_ _ wr=>wr.rangeLeft m w)
 .exact⟨_,_,[],hrg0,by rw[HSZ.zz];simp,bM _ _ _ _,Collected.start _,iH.grown hg0 dQ (λj hj=>by cases hj)⟩
 have⟨left,cnt,ss,hrg,hcs,hrow,hC,hnx⟩:=hrel;go_wp2_with (first
  |(at_next;refine wpList_next_ranges _ rfl _ rfl 9 av3 uB encStr Value.pointer (λkey kl hk=>by have⟨x,hx,_⟩:=Maps.keyOf_str underlying9 hk;exact⟨x,hx⟩) (λv y hv=>by unfold uB at hv;split at hv;exact⟨_,rfl⟩;exact⟨_,rfl⟩;cases hv) m w l _ _ _ rfl hrg ?_ ?_))
 .intro hc0 hl0;have hp:=hC.perm hown av3 underlying9 hl0;have hsr:=ax7 HR hp;have hll:ss.length=l:=by have:=gQ List.length hsr;simpa using this
  have⟨HSR,HLL,HNX⟩:=aB hsr hll hnx;clear hp hsr hll;rcases hrow.2 with⟨rfl,hn0⟩|⟨g,cap,cur,rfl,hbase,hb,h1,h2,h3,h4⟩
  .have hl0':l.length=0:=(by have:=HLL.zz;omega);(go_wp2_with (go_at_call 89;go_call HSN _ as e w' ⟨rfl,hb9⟩));have HB9:=aH hb9;clear hb9;go_wp2;go_ret;have hln:=eG.1 hl0';rw[hln];exact⟨_,rfl,bM _ _ _ _,aK HNX HB9⟩
  have hH:Holds encStr wr g 0 ss.toArray:=holds_of_block hb (by simpa using h4);have hgl:g<wr:=(fG.1 hb).1;have hc:=HSO g 0 cap ss wr hH hgl (by have:=HLL.zz;omega);obtain⟨HO9,HC⟩:=aA (λnn os=>ownsRow_sorted (base:=w.heap.size) (w:=wr) (n:=nn) (os:=os) (ss:=ss) (ts:=ss.mergeSort λx y=>decide (x<=y)) (by simp) hbase hb h1 h2 h3) hc;clear hc hH hrow h1 h2 h3 h4;(go_wp2_with (go_at_call 89;go_call HC as e w' ⟨rfl,nn,os,rfl⟩));go_ret;have h9:=HO9 nn os;rw[<-HSR.zz,List.length_mergeSort];refine⟨_,rfl,h9,?_⟩;have:=HNX.grown (grownBy_sorted (n:=nn) (os:=os) (ss.mergeSort λx y=>decide (x<=y)).toArray) HNX.size (λj hj=>by cases hj;exact hbase);exact this
 intro x c kl yd yp w2 cnt2 hkey hlk hv hat hrg2 hlt hg2 hs2 hen;obtain⟨x',ex,rfl,_⟩:=Maps.keyOf_str underlying9 hkey;obtain rfl:x=x':=encStr_inj ex;have hrow2:=hrow.kept hg2 (Or.inr (row_ne_iter hrow hrg).symm);clear hs2;go_wp2_with (first
  |(at_builtin;refine wpList_append_own _ rfl _ _ 118 rfl w 9 i0 zn 1 16 underlying118 hi hz0 hz1 hz2 rfl (by decide) _ _ _ rfl (hrow2.alloc _) (zp w2) 1 1 [encStr x] rfl rfl (cell_one_new _ _ _) (by simp[Value.oneCell',encStr]) (by unfold maxLen at *;omega) (by omega) (by have:=hnx.size;have:=hg2.size;simp;omega) ?_;intro v' w' hown' hg3 hnil3;go_frame))
 have hrg3:=(hrg2.alloc _).kept hg3 (row_ne_low hrow2 hbl) (row_ne_iter hrow2 hrg2);go_roundw
 .refine⟨_,cnt2,ss++[x],hrg3,by simp;omega,by simpa using hown',hC.step hlk hat,?_⟩;exact((hnx.grown hg2 hnx.size (λj hj=>by cases hj;exact cV _)).alloc (by have:=hnx.size;have:=hg2.size;omega) _).grown hg3 (by have:=hnx.size;have:=hg2.size;simp;omega) (λj hj=>(hrow2.lt j hj).1)
 rw[hrg3.left_eq,hrg.left_eq];exact hlt
end
variable{a:List Int}{p:bH×fK}
def ca5(j:tB l):∀{k:Nat} {n:bH} {g:fK},l[k]?=some (n,g)->∀f,eC l n f=l.set k (n,f):=by
 induction l with
 |nil=>intro k n g h;simp at h
 |cons p l o=>
  have⟨m,q⟩:=p;have⟨e,i⟩:=dG.1 j;intro k n g h f;cases k with
  |zero=>simp at h;rw[eC,aV h.1,oR]
  |succ k=>have d:l[k]?=some (n,g):=(by simpa using h);have a:=e _ (bC d);have c:m≠n:=λb=>(by subst b;exact mO _ a);rw[eC,aP c,aP (λb=>mO _ (yX b a)),oS,o i d]
def cx0(a:tB l){n:Nat}{s:bH}{g:fK}(h:l[n]?=some (s,g)):bO l s=g:=RZ a (bC h)
def bg8(f:tB l)(n:bH)(a b:fK):eC (eC l n a) n b=eC l n b:=by
 induction l with
 |nil=>simp[eC]
 |cons p l h=>
  have⟨m,g⟩:=p;have⟨i,d⟩:=dG.1 f;rw[eC,eC];by_cases e:m=n
  .rw[aV e,aV e,eC,aV rfl]
  rw[aP e,aP e];by_cases c:n<m
  .rw[aV c,aV c,eC,aV rfl]
  rw[aP c,aP c,eC,aP e,aP c,h d]
def lP(l:cA)(a:List Int)(k:Nat):cA:=(eR l a).take k++l.drop k
def qK(l:cA)(a:List Int):(eR l a).length=l:=by simp[eR]
def OI(h:l[n]?=p):(eR l a)[n]?=some (p.1,sQ (FM a n) p.2):=by unfold eR;rw[IC,h];rfl
def aB8(l:cA)(a:List Int):lP l a 0=l:=by simp[lP]
def aU8(l:cA)(a:List Int):lP l a l=eR l a:=by unfold lP;rw[aT (by rw[qK];exact cV _),iR dQ,gM]
def ac7{eW:List Int}(h:l[n]?=p):(lP l eW n)[n]?=p:=by have a:=(aQ.1 h).1;unfold lP;rw[eF (by rw[b8,qK];omega),b8,qK,fX (by omega),iM,aE4];simpa using h
def aB9(h:l[n]?=p):lP l a (n+1)=(lP l a n).set n (p.1,sQ (FM a n) p.2):=by have c:=(aQ.1 h).1;have b:((eR l a).take n)=n:=(by rw[b8,qK];omega);unfold lP;rw[kC _ _ (by omega),b,iM,dL,OI h,bT];congr 1;rw[gZ c];first|done|rfl
def XC(l:cA)(a:List Int):(eR l a).map (·.1)=l.map (·.1):=by
 apply pS;intro k;rw[pR,pR];rcases h:l[k]? with _|p
 .have:(eR l a)[k]?=none:=by rw[List.getElem?_eq_none_iff]at h|-;rw[qK];exact h
  rw[this]
 rw[OI h];rfl
def bD9{f:cA}(h:f.map (·.1)=l.map (·.1))(b:tB l):tB f:=by have a:(l.map (·.1)).Pairwise (·<·):=mF.2 b;rw[<-h]at a;exact mF.1 a
def aC1(l:cA)(a:List Int)(k:Nat):(lP l a k).map (·.1)=l.map (·.1):=by unfold lP;rw[iC,qX,XC,List.map_drop,bX]
def aC0(b:tB l)(a:List Int)(k:Nat):tB (lP l a k):=bD9 (aC1 l a k) b
def Q7(d:tB l){eW:List Int}{n:Nat}{s:bH}{f:fK}(h:l[n]?=some (s,f))(q:Nat)(c:q=f.sync+min (FM eW n) (f.data-f.sync))(e:f.sync<=f.data):eC (eC (lP l eW n) s (nC f q)) s ⟨(nC f q).data,(nC f q).data⟩=lP l eW (n+1):=by
 have a:=aC0 d eW n;rw[bg8 a,ca5 a (ac7 h),aB9 h];have b:q<=f.data:=by omega
 congr 2;unfold nC sQ;rw[<-c];simp;omega
variable{s:bH}{f:fK}
def gX.ct5{d:Nat}(e:Row w n 112 X)(l:k<=n)(j:Nat)(u:aN):gX k m w (w.setCell (zp n j) u):=by
 have a:=jI w (zp n j) u;refine⟨a.os,a.tape,a.output,a.size,λo i g=>a.block o i (λf=>?_),λo c=>jW (aU _ _ _ _ (oP c e (by decide))) c⟩;have b:o=n:=(by simpa using f);subst b;rcases g with h|⟨-,h⟩
 .omega
 exact h (oF e (.inr (.inl rfl)))
def bb1{a:fK}(b:tB l)(h:bO l s=f)(c:a.data.length=f.data):dZ (eC l s a)=dZ l:=by have:=lB b s a;rw[h]at this;simp at this;omega
def bJ.synced(h:bJ w m k i D K H){n:bH}{f:fK}(e:bO D.files n=f)(z:Nat)(s:z<=f.data):bJ (w.setCell (zp (K n) 1) z) m k i {D with files:=eC D.files n ⟨f.data,z⟩} K (λx=>if x=n then H n else H x)/\gX m i w (w.setCell (zp (K n) 1) z):=by
 have a:=h.files n f e;have⟨c,t,g,q,l⟩:=h.row;have p:dZ (eC D.files n ⟨f.data,z⟩)=dZ D.files:=bb1 h.kV e rfl;have d:k≠K n:=λb=>by have o:=a.row;rw[<-b]at o;exact eV.1 (dD o g)
 refine⟨h.aw0 (D':={D with files:=eC D.files n ⟨f.data,z⟩}) e rfl rfl h.bQ h.left h.kept (by show dZ (eC D.files n ⟨f.data,z⟩)<=D.cap;rw[p];exact h.used) ⟨c,t,?_,q,?_⟩ ⟨?_,a.low,?_,s⟩ (λz b=>.inl b) (λj y u r v=>aU _ _ _ _ r),gX.ct5 (d:=k) a.row a.low 1 _⟩
 .show Row _ k _ [_,_,(dZ (eC D.files n ⟨f.data,z⟩):Nat),_,_,_,_,_,_,_];rw[p];exact g.of_block (aU _ _ _ _ d)
 .exact l.eW λz b=>vF a.row (l.row b).1 eV.2.2.2.2.1 1 _
 .have:=a.row.set 1 z;exact this
 exact a.own.eW λz b=>vF a.row (a.own.row b).1 eV.2.2.1 1 _
variable{e:Int}{A P:Program}
def rI(a d m:Nat)(r:Int×aL)(w:aI)(e:eY)(f:aI):Prop:=e=.returned (.int .i64 r.1)/\(∃b c,bJ f a d m r.2 b c)/\gX a m w f
def bX1(h:bJ w k n m D K H)(s:aS)(d:s<=maxLen){f:fK}(c:bO D.files (lb s)=f):(Instr.lookup 101 (.map m) s false).run prog w=.ok (zp (K (lb s))) w:=by have⟨v,e,a,b⟩:=h.map.lookup av3 underlying101 (ak7 w) TV (keyOf_str s d);rw[aq4 c]at b;rw[a,YX b]
def cv8(h:a[n]?=e):FM a n=e.toNat:=by unfold FM;rw[h];rfl
def cg0(h:a<=n):FM a n=0:=by unfold FM;rw[kD h];rfl
def bJ.cH8(h:bJ w k n m D K H):bJ ((((w.setCell (zp n 6) true).setCell (zp n 7) false).setCell (zp n 8) ()).setCell (zp n 9) zs) k n m {D with down:=true,sC:=false,left:=0,eW:=[]} K H/\gX k m w ((((w.setCell (zp n 6) true).setCell (zp n 7) false).setCell (zp n 8) ()).setCell (zp n 9) zs):=by
 have⟨c,r,f,o,q⟩:=h.row;have l:=(((f.set 6 true).set 7 false).set 8 ()).set 9 zs;have i:∀s,s<w.heap.size->s≠n->((((w.setCell (zp n 6) true).setCell (zp n 7) false).setCell (zp n 8) ()).setCell (zp n 9) zs).heap[s]?=w.heap[s]?:=λs _ a=>by rw[aU _ _ _ _ a,aU _ _ _ _ a,aU _ _ _ _ a,aU _ _ _ _ a]
 refine⟨h.bU7 (D':={D with down:=true,sC:=false,left:=0,eW:=[]}) rfl rfl h.bQ (by show 0<=_;omega) (λt p=>by cases p) ⟨c,zs,l,o,.inl (bM _ _ _ _)⟩ i,rfl,rfl,rfl,by simp,λs j e=>i s j (λd=>?_),λs g=>?_⟩;case refine_2=>
  by_cases d:s=n
  .subst d;exact LV f l (by simp) (by simp) (λb _ h=>by simp[Value.ownBlock]at h) g
  exact jW (i s (n7 g).lt d) g
 subst d;rcases e with e|⟨-,e⟩
 .have:=h.low.1;omega
 exact e (oF f (.inl rfl))
def gX.own{k:Nat}{U:cC}{R:aN->Option (Du×List MemPlace)}{nm:Nat}{d:Du}(h:gX k m w x)(a:w.ownsRow n T i v j X)(p:¬(T=103\/T=112\/T=5))(o:w.ownsMap A U R m nm d):x.ownsRow n T i v j X:=eS a λt b=>h.block t (jN a t b) (.inr ⟨λg=>gJ o (dX a b) g.symm,λ⟨C,s,r,c,f⟩=>by
 obtain⟨q,e,l,-⟩:=dX a b;rw[l]at c;cases c;exact p f⟩)
def bC2:¬((9:cC)=103\/(9:cC)=112\/(9:cC)=5):=by decide
def ar4(h:bJ w k n m D K H){s:bH}{f:fK}(c:bO D.files s=f)(q:Nat)(d:q<=9223372036854775807)(z:Int)(g:z=(q:Int)):Calls prog 56 #[zp n,zp (K s),z] w λe b=>e=zt/\∃a,bJ b k n m {D with files:=eC D.files s (nC f q)} K a/\gX k m w b:=by subst g;exact cj9 h c q d
def bA1(S L:Nat)(a:S<=L)(b:L<=1048576):IntKind.i64.wrap ((L:Int)-(S:Int))=((L-S:Nat):Int):=by rw[cQ];omega
def aF5(S q:Nat)(a:S<=1048576)(b:q<=1048576):IntKind.i64.wrap ((S:Int)+(q:Int))=((S+q:Nat):Int):=by rw[cQ];omega
def ar9(S L m:Nat)(a:S<=L)(b:L<=1048576):IntKind.i64.wrap ((S:Int)+if IntKind.i64.wrap ((L:Int)-(S:Int))<(m:Int)then IntKind.i64.wrap ((L:Int)-(S:Int))else(m:Int))=((S+min m (L-S):Nat):Int):=by
 rw[bA1 S L a b];split
 .rename_i h;rw[aF5 S (L-S) (by omega) (by omega),xW (by omega)]
 rename_i h;rw[aF5 S m (by omega) (by omega),fX (by omega)]
def ac6(S L:Nat)(a:S<=L)(b:L<=1048576):IntKind.i64.wrap ((S:Int)+if IntKind.i64.wrap ((L:Int)-(S:Int))<0 then IntKind.i64.wrap ((L:Int)-(S:Int))else 0)=((S+min 0 (L-S):Nat):Int):=ar9 S L 0 a b
def ac0(F:bz0)(t:bz1){w:aI}{k n m:Nat}{D:aL}{K:bH->Nat}{H:bH->aN}(h:bJ w k n m D K H)(hb:k<=w)(A:Option Addr)(c:Nat)(a:List Int)(hk:∀G,gX k m w G->Reads G (.slice A a c) 1 a (rT a))(hr:∀xd∈a,-9223372036854775808<=xd/\xd<=9223372036854775807):Calls prog 33 #[zp n,.slice A a c] w (rI k n m (D.kJ a) w):=by
 have W:=yS h;unfold L8 at W;unfold rI aL.kJ;rcases hd:D.down with _|_
 .rw[hd]at W;simp only[bU,dW]at W|-;have⟨h5,hs,HH,HK,hu⟩:=aD W (Q1 F t h) h hk hr;have x9:a.length<=9223372036854775807:=by obtain⟨A9,c9,e9,h1,h2,-⟩:=hk w (gX.refl _ _ _);unfold maxLen at h2;omega
  clear W h hk hr F t;go_in;go_wp2_with fail
  go_call h5 as e G ⟨rfl,rfl⟩;go_wp2_with fail
  go_call hs as e w1 ⟨vn,rfl,Q,Y⟩;obtain⟨An,cn,rfl,-⟩:=Reads.cX Q;have⟨hf,hc⟩:=aA (HH.next Y) (gX.cT Y k m);have h8:D.names.length=D.files:=(by unfold aL.names;rw[gK]);rw[h8]at Q;rw[h8];have⟨N,hN⟩:=fR D.files.length;have HN:=aH hN;have hy:N<=400:=(by rw[hN];exact HH.many);rw[<-hN]at Q;rw[show D.files.length=N from hN.symm];have⟨ht,x5⟩:=aA Q Y.size;clear h8 hN Q Y;go_wp2_with fail
  go_loopw [6,7,8,9,18] (λ_ _ _ _ i wr=>∃(xc:Nat)(h3:bH->aN),xc<=N/\i=.int .i64 xc/\bJ wr k n m {D with files:=lP D.files a xc} K h3/\gX k m w1 wr) (λ_ _ _ _ i _=>N - (intOf i).toNat)
  .exact⟨0,H,by omega,rfl,by rw[aB8];exact hf,gX.refl _ _ _⟩
  obtain⟨xc,h3,x8,rfl,E,P⟩:=hrel;by_cases xa:xc<N
  .obtain⟨⟨xd,f⟩,hp⟩:∃p,D.files[xc]?=some p:=⟨_,aJ (by have:=HN.zz;omega)⟩;have s:=cx0 E.kV (ac7 (eW:=a) hp);have i1:(xc:Int)<N:=(by omega);have R:=P.own ht bC2 hf.map;obtain⟨g,c7,e7,-,-⟩:∃g h7,(Value.slice An N cn)=.slice (zp g) N h7/\w.heap.size<=g/\g<wr.heap.size:=by
    rcases R.2 with⟨_,h0⟩|⟨g,h7,x6,b,x0,x1,_⟩
    .omega
    exact⟨g,h7,b,x0,(fG.1 x1).1⟩
   cases e7;have hx:=R.cellAt xc (by omega);have hi:(D.names.map encStr)[xc]?=some (bs xd):=by unfold aL.names;rw[pR,pR,hp];rfl
   rw[hi]at hx;have hj:(bs xd)<=maxLen:=by have h9:=fileName E s;unfold jR at h9;rw[eO];unfold maxLen;simp at h9;omega
   have x2:=bX1 E (bs xd) hj (f:=f) (by rw[gP];exact s);rw[gP]at x2;have x7:=E.cells.2.2.2.1;have hh:=(E.data s).2;have ha:=(E.files xd f s).sync;have⟨HS,HA⟩:=aA (λ(G:aI)(hb:aR wr wr G)=>(E.next hb).CS s) (E.data s).1;obtain⟨A8,c8,e8,-⟩:=id (E.data s).1;have⟨ho,M,HV,U,HP,x4⟩:=aE e8 (λ(G:aI) (hb:aR wr wr G) (q:Nat) (hq:q<=9223372036854775807) (z:Int) (hz:z=(q:Int))=>ar4 (E.next hb) s q hq z hz) E P hp s;clear R E P hp s hi hj e8;have⟨L,hL⟩:=fR f.data.length;have⟨S,hS⟩:=fR f.sync;have⟨V,X⟩:=aA hL hS;have I:=aH (λ(G:aI)(hb:aR wr wr G)=>(show G.cell? (zp (K xd))=some (.slice A8 L c8)/\G.cell? (zp (K xd) 1)=some S from⟨by have:=(HS G hb).1;rw[ho.zz]at this;rw[V.zz];exact this,by rw[X.zz];exact(HS G hb).2.1⟩));have T:S<=L:=(by rw[hS,hL];exact ha);have O:L<=1048576:=(by rw[hL];exact hh);have h6:=aH ha;have i6:(0:Int)<=(L:Int)-S:=(by omega);have i7:(L:Int)<=1048576:=(by omega);have i8:(S:Int)<=L:=(by omega);clear hL hS ha hh;rcases(show a<=xc\/xc<a from by omega)with J|J
   .have i2:¬(xc:Int)<a:=(by omega);(go_wp2_with fail);have z0:∀x:dR wr,x.it.cell? (zp (K xd))=some (.slice A8 L c8):=λx=>(I x.it x.ok).1;have z1:∀x:dR wr,x.it.cell? (zp (K xd) 1)=some S:=λx=>(I x.it x.ok).2;refine nT (by kernel_rfl) (by kernel_rfl) (by kernel_rfl) (by kernel_rfl) ?_;simp only[List.dropLast,List.drop,List.length,zA];(repeat (first|go_big_quiet_skip|(go_big_quiet_want;go_big_quiet_op;go_big_quiet_on)));refine wpQuiet_nil ?_;rintro _ ⟨⟨wq,C⟩,rfl⟩;clear z0 z1;go_wp2_with (go_at_call 56;go_call M _ C (S+min 0 (L - S)) (by omega) _ (by first|exact ac6 S L T O|omega) as e w9 ⟨rfl,h4,b,j⟩;have o:bO (eC (lP D.files a xc) xd (nC f (S+min 0 (L-S)))) xd=some (nC f (S+min 0 (L-S))):=(by rw[fF,aV rfl]);have⟨t0,t1,hm,hn⟩:=b.CS o;obtain⟨A6,c6,v,-⟩:=id (b.data o).1;rw[v]at t0;clear v)
    all_goals
     have⟨l,d⟩:=b.synced o (nC f (S+min 0 (L-S))).data dQ;have B:=Q7 HH.kV (eW:=a) HP (S+min 0 (L-S)) (by rw[cg0 J,X.zz,V.zz]) h6;rw[show eC ({D with files:=eC (lP D.files a xc) xd (nC f (S+min 0 (L - S)))}:aL).files xd ⟨(nC f (S+min 0 (L - S))).data,(nC f (S+min 0 (L - S))).data⟩=lP D.files a (xc+1)from B]at l;have⟨u,r⟩:=aA l (U.trans ((gX.cT C k m).trans (j.trans d)));clear b j l d o B;go_wp2;go_roundw
     .exact⟨xc+1,_,by omega,by go_num,u,r⟩
     simp[intOf];omega
   have i2:(xc:Int)<a:=(by omega);obtain⟨z,hz⟩:∃z,a[xc]?=some z:=⟨_,aJ J⟩;have xb:=hu z (bC hz);obtain⟨A5,c5,e5,-,-,-,Z⟩:=HK wr (hc.trans U);cases e5;obtain⟨b5,o5,rfl,-,Z⟩:=Z (by omega);have k0:=Z xc (by simp[rT];exact J);have k1:(rT a)[xc]'(by simp[rT];exact J)=.int .i64 z:=by
    unfold rT;rw[tT];congr 1;exact cJ ((aJ J).symm.trans hz)
   rw[k1]at k0;have hg:=aH (cv8 hz);clear Z k1 hz;rcases(show z<0\/0<=z from by omega)with hl|hl
   .have i3:¬0<z:=(by omega);(go_wp2_with fail);have z0:∀x:dR wr,x.it.cell? (zp (K xd))=some (.slice A8 L c8):=λx=>(I x.it x.ok).1;have z1:∀x:dR wr,x.it.cell? (zp (K xd) 1)=some S:=λx=>(I x.it x.ok).2;refine nT (by kernel_rfl) (by kernel_rfl) (by kernel_rfl) (by kernel_rfl) ?_;simp only[List.dropLast,List.drop,List.length,zA];(repeat (first|go_big_quiet_skip|(go_big_quiet_want;go_big_quiet_op;go_big_quiet_on)));refine wpQuiet_nil ?_;rintro _ ⟨⟨wq,C⟩,rfl⟩;clear z0 z1;go_wp2_with (go_at_call 56;go_call M _ C (S+min 0 (L - S)) (by omega) _ (by first|exact ac6 S L T O|omega) as e w9 ⟨rfl,h4,b,j⟩;have o:bO (eC (lP D.files a xc) xd (nC f (S+min 0 (L-S)))) xd=some (nC f (S+min 0 (L-S))):=(by rw[fF,aV rfl]);have⟨t0,t1,hm,hn⟩:=b.CS o;obtain⟨A6,c6,v,-⟩:=id (b.data o).1;rw[v]at t0;clear v)
    all_goals
     have⟨l,d⟩:=b.synced o (nC f (S+min 0 (L-S))).data dQ;have B:=Q7 HH.kV (eW:=a) HP (S+min 0 (L-S)) (by rw[hg.zz,X.zz,V.zz,Int.toNat_of_nonpos (by omega)]) h6;rw[show eC ({D with files:=eC (lP D.files a xc) xd (nC f (S+min 0 (L - S)))}:aL).files xd ⟨(nC f (S+min 0 (L - S))).data,(nC f (S+min 0 (L - S))).data⟩=lP D.files a (xc+1)from B]at l;have⟨u,r⟩:=aA l (U.trans ((gX.cT C k m).trans (j.trans d)));clear b j l d o B;go_wp2;go_roundw
     .exact⟨xc+1,_,by omega,by go_num,u,r⟩
     simp[intOf];omega
   obtain⟨y,rfl⟩:=cR hl;(go_wp2_with fail);have z0:∀x:dR wr,x.it.cell? (zp (K xd))=some (.slice A8 L c8):=λx=>(I x.it x.ok).1;have z1:∀x:dR wr,x.it.cell? (zp (K xd) 1)=some S:=λx=>(I x.it x.ok).2;refine nT (by kernel_rfl) (by kernel_rfl) (by kernel_rfl) (by kernel_rfl) ?_;simp only[List.dropLast,List.drop,List.length,zA];(repeat (first|go_big_quiet_skip|(go_big_quiet_want;go_big_quiet_op;go_big_quiet_on)));refine wpQuiet_nil ?_;rintro _ ⟨⟨wq,C⟩,rfl⟩;clear z0 z1;go_wp2_with (go_at_call 56;go_call M _ C (S+min y (L - S)) (by omega) _ (by first|exact ar9 S L y T O|omega) as e w9 ⟨rfl,h4,b,j⟩;have o:bO (eC (lP D.files a xc) xd (nC f (S+min y (L-S)))) xd=some (nC f (S+min y (L-S))):=(by rw[fF,aV rfl]);have⟨t0,t1,hm,hn⟩:=b.CS o;obtain⟨A6,c6,v,-⟩:=id (b.data o).1;rw[v]at t0;clear v)
   all_goals
    have⟨l,d⟩:=b.synced o (nC f (S+min y (L-S))).data dQ;have B:=Q7 HH.kV (eW:=a) HP (S+min y (L-S)) (by rw[hg.zz,X.zz,V.zz,bW]) h6;rw[show eC ({D with files:=eC (lP D.files a xc) xd (nC f (S+min y (L - S)))}:aL).files xd ⟨(nC f (S+min y (L - S))).data,(nC f (S+min y (L - S))).data⟩=lP D.files a (xc+1)from B]at l;have⟨u,r⟩:=aA l (U.trans ((gX.cT C k m).trans (j.trans d)));clear b j l d o B;go_wp2;go_roundw
    .exact⟨xc+1,_,by omega,by go_num,u,r⟩
    simp[intOf];omega
  obtain rfl:xc=N:=(by omega);rw[show lP D.files a xc=eR D.files a from by rw[HN.zz];exact aU8 _ _]at E;have⟨b,j⟩:=E.cH8;obtain⟨x3,kv,r1,-⟩:=E.row;have q6:=r1.zc6;have f6:=r1.zf6;have r2:=r1.set 6 true;have q7:=r2.zc7;have f7:=r2.zf7;have r3:=r2.set 7 false;have q8:=r3.zc8;have f8:=r3.zf8;have r4:=r3.set 8 ();have q9:=r4.zc9;have f9:=r4.zf9;simp only[fA,dA,oS,oR]at q6 q7 q8 q9;have⟨hw,he⟩:=aA b (hc.trans (P.trans j));clear r1 r2 r3 r4 E P b j;go_wp2;go_ret;exact⟨rfl,⟨_,_,hw⟩,he⟩
 rw[hd]at W;simp only[eH]at W|-;have⟨h5,HH⟩:=aA W h;clear W h hk hr F t;go_in;go_wp2_with fail
 go_call h5 as e G ⟨rfl,rfl⟩;go_wp2;go_ret;exact⟨rfl,⟨_,_,HH⟩,gX.refl _ _ _⟩
def GW(f:bz0)(b:bz1){w:aI}{k n m:Nat}{D:aL}{K:bH->Nat}{H:bH->aN}(h:bJ w k n m D K H)(B:k<=w)(E:D.down=false):Calls prog 174 #[zp n] w (rI k n m (61,D.sink) w):=by
 obtain⟨p,M,s,-,a⟩:=h.row;have J:=s.zc9;obtain⟨A,c,rfl,-⟩:=id a.reads;have x:=aH (ac0 f b h B A c D.eW (λt l=>by
  have G:l3 t k 3 1 (.slice A D.eW c) D.eW (rT D.eW):=a.eW λO o=>l.block O (a.row o).1.lt (.inr ⟨λz=>gJ h.map (a.row o).1 z.symm,λ⟨C,N,L,r,d⟩=>by
   obtain⟨I,y,F,-⟩:=(a.row o).1;rw[F]at r;cases r;rcases d with d|d|d
   .exact eV.2.2.2.1 d
   .exact eV.2.2.2.2.1 d
   exact eV.2.2.2.2.2 d⟩)
  exact G.reads) h.kept)
 have g:D.kJ D.eW=(0,D.sink):=(by unfold aL.kJ aL.sink;rw[E];rfl);have i:=aH g;clear h s a g;go_in;go_wp2_with fail
 go_call x as e t ⟨rfl,j,q⟩;rw[i.zz]at j;have⟨u,v⟩:=aA j q;clear j q;go_wp2;go_ret;exact⟨rfl,u,v⟩
structure cM9 where
 kind:Int
 name:aS
 a:Int
 b:Int
 l:List Ev
 eW:List Int
 text:aS
abbrev wN:=(aN×aN)×cM9
def BD(p:wN):List aN:=[.int .i64 p.2.kind,.string p.2.name,.int .i64 p.2.a,.int .i64 p.2.b,p.1.1,p.1.2,.string p.2.text]
def cB8(p:wN):Array aN:=#[.int .i64 p.2.kind,.string p.2.name,.int .i64 p.2.a,.int .i64 p.2.b,p.1.1,p.1.2,.string p.2.text]
def DI(z:Int):Prop:=-9223372036854775808<=z/\z<=9223372036854775807
structure QG(w:aI)(p:wN):Prop where
 ev:Y2 w p.1.1 p.2.l
 kp:Reads w p.1.2 1 p.2.eW.length (rT p.2.eW)
 kr:∀z∈p.2.eW,DI z
 kind:DI p.2.kind
 name:p.2.name.size<=maxLen
 a:DI p.2.a
 b:DI p.2.b
 text:p.2.text.size<=maxLen
def J8(w:aI)(v:aN)(X:List wN):Prop:=Reads w v 7 X.length (X.flatMap BD)/\∀p∈X,QG w p
def QG.next{w:aI}{p:wN}(h:QG w p)(a:aR w w x):QG x p:=⟨h.ev.next a,h.kp.next a,h.kr,h.kind,h.name,h.a,h.b,h.text⟩
def J8.next{w:aI}{v:aN}{X:List wN}(h:J8 w v X)(a:aR w w x):J8 x v X:=⟨h.1.next a,λp b=>(h.2 p b).next a⟩
structure UN(p:wN):Prop where
 name:p.2.name.size<=300
 l:p.2.l.length<=20
 text:p.2.text.size<=300
 eW:p.2.eW.length<=60
def ae5{P:Program}(w:aI)(d:Nat)(t u D e:cC)(i:TypeInfo)(z:aN)(C:P.underlying t=some (.slice e))(J:P.underlying u=some .string)(G:P.info? e=i)(K:i.zero=z)(b:i.size=1)(m:i.bytes=1)(r:z.cells.size=1) (A:Option Addr) (n c:Nat) (g:List aN) (B:Reads w (.slice A n c) 1 n g) (E:∀x∈g,x.oneCell'=true) (s:aS) (F:c<n+s) (L:n+s<=1000000000) (f:d<=w) :∃v y,(Builtin.append_ #[t,u] D #[.slice A n c,s]).run P w=.ok v y/\y.ownsRow d e 1 v (n+s) (g++byteCells s)/\w.grownBy y none/\v.ownBlock=w:=by
 have I:Src P i.size u s s.size (byteCells s) w:=(by rw[b];exact Src.ofString w J s);have q:g=n*1:=B.choose_spec.choose_spec.2.2.2.1;have h:(Builtin.firstCells i.size n (.slice A n c)).run P w.drew=.ok g.toArray w.drew:=by rw[b];exact(B.src C E).cellsD
 have p:=grownCap_ge w (n+s.size) c e;have o:grownCap w (n+s.size) c e<=maxLen:=grownCap_le_maxLen w (n+s.size) c e (by unfold maxLen;omega);have j:=run_append_grow_src (P:=P) w t u D e i z C G K A n c g h s s.size (byteCells s) I F (by omega) (by rw[m];exact growslice_fits (by omega) (by omega));have l:(byteCells s)=s.size:=byteCells_length s;have a:(g++byteCells s).length=(n+s.size)*1:=(by rw[aO,q,l];omega);refine⟨_,_,j,⟨a,.inr ⟨w,_,_,rfl,f,heap_alloc_new w.drew _,p,o,?_,?_⟩⟩,⟨rfl,rfl,rfl,by simp,λk H _=>n8 w.drew _ k H⟩,rfl⟩
 .simp only[DO,sH,size_zeroCells,r,a];omega
 simp only[ak5];rw[<-a];exact mP
def cm2{P:Program}(w:aI)(f:Nat)(t u E e:cC)(i:TypeInfo)(D:P.underlying t=some (.slice e))(z:P.underlying u=some .string)(B:P.info? e=i)(a:i.size=1) (g n b:Nat) (c:Array aN) (o:List aN) (v:o=n*1) (p:f<=g) (y:w.heap[g]?=some (.cells c e (0,0))) (q:b<=maxLen) (A:c=b*1) (l:c.toList.take (n*1)=o) (s:aS) (d:n+s<=b) :∃x,(Builtin.append_ #[t,u] E #[.slice (zp g) n b,s]).run P w=.ok (.slice (zp g) (n+s) b) x/\x.ownsRow f e 1 (.slice (zp g) (n+s) b) (n+s) (o++byteCells s)/\w.grownBy x g:=by
 have r:Src P i.size u s s.size (byteCells s) w:=(by rw[a];exact Src.ofString w z s);have j:(byteCells s)=s.size:=byteCells_length s;have m:=run_storeCells_at P g (n*i.size) e (byteCells s) 0 c w y (by rw[j,a];omega) r.one;simp only[xX]at m;have h:(o++byteCells s).length=(n+s.size)*1:=(by rw[aO,v,j];omega);refine⟨w.setRow g (c.toList.take (n*i.size)++byteCells s++c.toList.drop (n*i.size+(byteCells s))).toArray,?_,⟨h,.inr ⟨g,b,_,rfl,p,setRow_heap w g c _ e _ y,d,q,?_,?_⟩⟩,⟨rfl,rfl,rfl,by simp,λk _ C=>setRow_other w g k _ (λe=>C (by simp[e]))⟩⟩
 .simp[Builtin.append_,run_underlying D,run_underlying z,sizeOf,typeInfo,B,r.len,d,r.cells,Addr.add_lit,m]
 .simp only[sH,aO,b8,eK,ak6,a,j];omega
 rw[a,l,<-h];exact mP
def bq6{P:Program}(w:aI)(a:Nat)(t u G e:cC)(i:TypeInfo)(z:aN)(K:P.underlying t=some (.slice e))(L:P.underlying u=some .string)(I:P.info? e=i)(W:i.zero=z)(d:i.size=1)(q:i.bytes=1)(C:z.cells.size=1) (v:aN) (n:Nat) (F:List aN) (h:l3 w a e 1 v n F) (O:∀x∈F,x.oneCell'=true) (s:aS) (V:n+s<=1000000000) (j:a<=w) :∃m l,(Builtin.append_ #[t,u] G #[v,s]).run P w=.ok m l/\l3 l a e 1 m (n+s) (F++byteCells s)/\w.grownBy l v.ownBlock/\(m.ownBlock=v.ownBlock\/m.ownBlock=w):=by
 have X:Src P i.size u s s.size (byteCells s) w:=(by rw[d];exact Src.ofString w L s);have R:(byteCells s)=s.size:=byteCells_length s;have o:=h.reads;by_cases B:s.size=0
 .have H:byteCells s=[]:=eG.1 (by rw[R];exact B);obtain⟨A,c,rfl,S,-⟩:=id o;rw[B,H]at X;refine⟨_,w,?_,by rw[B,H,gM];exact h,⟨rfl,rfl,rfl,dQ,λ_ _ _=>rfl⟩,.inl rfl⟩;exact run_append_nothing w t u G e i K I A n c S s X
 rcases h with h|⟨b,rfl,h2,h3,h4,h5⟩
 .rcases h.2 with⟨rfl,rfl⟩|⟨g,p,N,rfl,Q,Y,Z,T,U,y⟩
  .have⟨m,l,D,E,f,M⟩:=ae5 (P:=P) w a t u G e i z K L I W d q C none 0 0 F o O s (by omega) V j;exact⟨m,l,D,.inl E,⟨f.os,f.tape,f.output,f.size,λk J _=>f.block k J (by simp)⟩,.inr M⟩
  by_cases r:n+s<=p
  .have⟨l,D,E,f⟩:=cm2 (P:=P) w a t u G e i K L I d g n p N F h.1 Q Y T U y s r;exact⟨_,l,D,.inl E,f,.inl rfl⟩
  have⟨m,l,D,E,f,M⟩:=ae5 (P:=P) w a t u G e i z K L I W d q C _ n p F o O s (by omega) V j;exact⟨m,l,D,.inl E,⟨f.os,f.tape,f.output,f.size,λk J _=>f.block k J (by simp)⟩,.inr M⟩
 have⟨m,l,D,E,f,M⟩:=ae5 (P:=P) w a t u G e i z K L I W d q C _ n n F o O s (by omega) V j;exact⟨m,l,D,.inl E,⟨f.os,f.tape,f.output,f.size,λk J _=>f.block k J (by simp)⟩,.inr M⟩
def DU(w:aI){j:Array Oper}{c:List Oper}{o:Oper}{a:Act}{Q:Exit->Act->aI->Prop}(q:o.guard=none)(y x:Operand)(t u:cC) (F:o.op=.call {callee:=.builtin .append,args:=#[y,x],argTypes:=#[t,u]}) (b:Nat) (e:cC) (i:TypeInfo) (z:aN) (H:A.underlying t=some (.slice e)) (I:A.underlying u=some .string) (D:A.info? e=i) (L:i.zero=z) (f:i.size=1) (p:i.bytes=1) (r:z.cells.size=1) (v:aN) (n:Nat) (l:List aN) (G:a.eval y=v) (h:l3 w b e 1 v n l) (B:∀x∈l,x.oneCell'=true) (s:aS) (J:a.eval x=s) (E:n+s<=1000000000) (d:b<=w) (C:∀g k,l3 k b e 1 g (n+s) (l++byteCells s)->w.grownBy k v.ownBlock->(g.ownBlock=v.ownBlock\/g.ownBlock=w)->wpList A j Q c (a.put o.dst g) k):wpList A j Q (o::c) a w:=by have⟨g,k,M,N,O,P⟩:=bq6 (P:=A) w b t u o.type e i z H I D L f p r v n l h B s E d;refine wpList_plain q λK m=>?_;unfold Oper.wp execOp;simp only[F,resolve,invoke,builtin,Sem.run_bind,Sem.run_pure,Result.andThen_ok,G4,dU,xY,G,J,M];exact m _ _ (C g k N O P)
def L2(R:List lW)(a:Int):Option bH:=(R.find? fun r=>decide ((r.1:Int)=a)).map (·.2)
def xL(R:List lW)(s:aS)(e:dB):Option jU:=match L2 R e.2.2 with
 |none=>none
 |some p=>if(lH p).1=s/\0<=e.2.1-(lH p).2.1/\e.2.1-(lH p).2.1<(lH p).2.2.length then some (s,e.2.1,(lH p).2.2.getD (e.2.1-(lH p).2.1).toNat ev0)else none
def nI(R:List lW)(I:aZ)(a:Nat)(s:aS)(f t:Int):List jU:=(FE I (mA a (lb s)) f t).filterMap (xL R s)
def AZ(R:List lW):List jU:=R.flatMap fun r=>dO (lH r.2)
variable{B:List kM}{R:List lW}{I:aZ}{t:jU}
def zM(s:aS):∀(f:Int)(l:List Ev)(t:jU),t∈eQ s f l↔∃i,i<l.length/\t=(s,f+(i:Int),l.getD i ev0):=by
 intro f l;induction l generalizing f with
 |nil=>intro t;simp[eQ]
 |cons a l c=>
  intro t;rw[eQ,cY,c];constructor
  .rintro (rfl|⟨i,b,rfl⟩)
   .exact⟨0,by simp,by simp⟩
   refine⟨i+1,by simpa using b,?_⟩;rw[cP4,show f+1+(i:Int)=f+((i+1:Nat):Int)from by omega]
  rintro ⟨i,b,rfl⟩;cases i with
  |zero=>left;simp
  |succ i=>right;refine⟨i,by simpa using b,?_⟩;rw[cP4,show f+1+(i:Int)=f+((i+1:Nat):Int)from by omega]
def br6(c:List kM):Prop:=c.Pairwise fun a b=>a.1=b.1->a.2.1+(a.2.2.length:Int)<=b.2.1
def yZ(R:List lW):List kM:=R.map fun r=>lH r.2
def NU(R:List lW):AZ R=(yZ R).flatMap dO:=by unfold AZ yZ;rw[List.flatMap_map]
def aP0:t∈AZ R↔∃r∈R,t∈dO (lH r.2):=by simp[AZ,lY]
def av1(b:kM):(dO b).Pairwise λx y=>x.2.1<y.2.1:=by
 unfold dO;have:∀(l:List Ev)(f:Int),(eQ b.1 f l).Pairwise λx y=>x.2.1<y.2.1:=by
  intro l;induction l with
  |nil=>intro f;exact List.Pairwise.nil
  |cons a l d=>intro f;rw[eQ];refine dG.2 ⟨λt c=>?_,d (f+1)⟩;have:=(wZ c).2.1;simp only;omega
 exact this _ _
def ah0(h:br6 B)(s:aS):(dJ (B.flatMap dO) s).Pairwise λx y=>x.2.1<y.2.1:=by
 induction B with
 |nil=>exact List.Pairwise.nil
 |cons b B i=>have⟨j,k⟩:=dG.1 h;rw[eN];unfold dJ at i|-;rw[jA];refine pH.2 ⟨(av1 b).filter _,i k,λx m y n=>?_⟩;have⟨e,a⟩:=fL.1 m;have⟨f,d⟩:=fL.1 n;have⟨c,l,g⟩:=lY.1 f;have⟨o,q,r,_⟩:=wZ e;have⟨p,t,u,_⟩:=wZ g;unfold ofT at a d;rw[bG]at a d;have:=j c l (by rw[<-o,<-p,a,d]);omega
def aG0{T S:List jU}(k:T.Pairwise λx y=>x.2.1<y.2.1)(l:S.Pairwise λx y=>x.2.1<y.2.1)(h:∀x,x∈T↔x∈S):T=S:=by
 induction T generalizing S with
 |nil=>cases S with
  |nil=>rfl
  |cons y S=>exact absurd ((h y).2 (by simp)) (by simp)
 |cons x T m=>cases S with
  |nil=>exact absurd ((h x).1 (by simp)) (by simp)
  |cons y S=>
   have⟨f,i⟩:=dG.1 k;have⟨g,j⟩:=dG.1 l;have e:x=y:=by
    have c:=(h x).1 (by simp);have d:=(h y).2 (by simp);rcases cY.1 c with rfl|c
    .rfl
    rcases cY.1 d with rfl|d
    .rfl
    have:=g _ c;have:=f _ d;omega
   subst e;rw[m i j λz=>?_];have:=h z;simp only[cY]at this;constructor
   .intro a;rcases this.1 (.inr a)with rfl|b
    .exact absurd (f _ a) (by omega)
    exact b
   intro a;rcases this.2 (.inr a)with rfl|b
   .exact absurd (g _ a) (by omega)
   exact b
def am9(c:B8 R){r:lW}(h:r∈R):L2 R (r.1:Int)=r.2:=by
 unfold L2;have:R.find? (λx=>decide ((x.1:Int)=(r.1:Int)))=some r:=by
  induction R with
  |nil=>cases h
  |cons x R d=>
   have⟨a,b⟩:=dG.1 c;rcases cY.1 h with rfl|h
   .rw[US (by simp)]
   have:=a r h;rw[List.find?_cons_of_neg (by simp;omega)];exact d b h
 rw[this];rfl
def P8(h:L2 R e=s):∃r∈R,r.2=s/\(r.1:Int)=e:=by
 unfold L2 at h;cases a:R.find? (λr=>decide ((r.1:Int)=e))with
 |none=>rw[a]at h;cases h
 |some r=>rw[a]at h;have b:=cp2 a;have c:=List.find?_some a;exact⟨r,b,cJ h,by simpa using c⟩
def av8(m:B8 R)(e:br6 (yZ R)){x y:lW}(g:x∈R)(h:y∈R)(b:x.1<y.1):(lH x.2).1=(lH y.2).1->(lH x.2).2.1+((lH x.2).2.2:Int)<=(lH y.2).2.1:=by
 unfold yZ br6 at e;rw[mF]at e;induction R with
 |nil=>cases g
 |cons r R n=>
  have⟨i,j⟩:=dG.1 m;have⟨k,l⟩:=dG.1 e;rcases cY.1 g with f|c
  .rcases cY.1 h with d|a
   .rw[f,d]at b;omega
   rw[f];exact k y a
  rcases cY.1 h with d|a
  .have:=i x c;rw[d]at b;omega
  exact n j l c a
def MD(h:sK l I k n R m)(K:B8 R)(J:br6 (yZ R))(w:aS)(f t:Int):nI R I k w f t=(dJ (AZ R) w).filter λx=>decide (max f 0<=x.2.1)&&decide (x.2.1<=min t 1073741824):=by
 have⟨C,z⟩:=TU h (mA k (lb w)) f t;have v:=ah0 J w;rw[<-NU]at v;refine aG0 ?_ (v.filter _) λx=>?_
 .unfold nI;rw[cD9];unfold fD at C;rw[bG]at C;refine C.imp_of_mem fun {a b} M N D x c y j=>?_;have⟨Q,S,T⟩:=(z a).1 M;have⟨U,V,W⟩:=(z b).1 N;rw[qC]at D;unfold xL at c j;cases o:L2 R a.2.2 with
  |none=>rw[o]at c;cases c
  |some p=>cases s:L2 R b.2.2 with
   |none=>rw[s]at j;cases j
   |some q=>
    rw[o]at c;rw[s]at j;simp only at c j;split at c
    .rename_i A;split at j
     .rename_i L;cases c;cases j;obtain⟨Y,F,rfl,G⟩:=P8 o;obtain⟨Z,u,rfl,d⟩:=P8 s;simp only;rcases Int.lt_trichotomy a.2.1 b.2.1 with E|E|E
      .exact E
      .exfalso;have:=av8 K J F u (by omega) (A.1.trans L.1.symm);omega
      omega
     cases j
    cases c
 unfold nI dJ;rw[aE3,fL,fL,aP0];simp only[bL,bG];constructor
 .rintro ⟨e,O,g⟩;have⟨F,X,G⟩:=(z e).1 O;unfold xL at g;cases c:L2 R e.2.2 with
  |none=>rw[c]at g;cases g
  |some p=>
   rw[c]at g;simp only at g;split at g
   .rename_i A;cases g;obtain⟨r,u,rfl,d⟩:=P8 c;refine⟨⟨⟨r,u,?_⟩,by simp[ofT]⟩,G⟩;unfold dO;rw[zM];refine⟨(e.2.1-(lH r.2).2.1).toNat,by omega,?_⟩;rw[A.1];refine Prod.ext rfl (Prod.ext ?_ rfl);simp only;omega
   cases g
 rintro ⟨⟨⟨r,u,B⟩,d⟩,H⟩;unfold ofT at d;rw[bG]at d;unfold dO at B;rw[zM]at B;obtain⟨i,P,rfl⟩:=B;simp only at d H;refine⟨(mA k (lb w),(lH r.2).2.1+(i:Int),(r.1:Int)),(z _).2 ⟨oC.2 ⟨r,u,?_⟩,rfl,H⟩,?_⟩
 .unfold uY;refine dS.2 ⟨i,gB.2 P,?_⟩;rw[d]
 unfold xL;simp only;rw[am9 K u];simp only;have e:(lH r.2).2.1+(i:Int)-(lH r.2).2.1=(i:Int):=(by omega);rw[e,aV ⟨d,by omega,by omega⟩,d];rfl
def ap6{L:List dB}(o:fD L=true){h:Nat}{t:Int}:(kO L h t=none->∀e∈L,e.1=h->¬e.2.1<=t)/\(∀x,kO L h t=some x->(x∈L/\x.1=h/\x.2.1<=t)/\∀e∈L,e.1=h->e.2.1<=t->e.2.1<=x.2.1):=by
 unfold kO;have r:(L.filter (mI h t)).Pairwise (λa b=>iB a b=true):=by unfold fD at o;rw[bG]at o;exact o.filter _
 have c:∀e,e∈L.filter (mI h t)↔e∈L/\e.1=h/\e.2.1<=t:=λe=>(by unfold mI;rw[fL,bG]);generalize L.filter (mI h t)=m at r c;constructor
 .intro q e l g j;rw[cp3]at q;have:=(c e).2 ⟨l,g,j⟩;rw[q]at this;cases this
 intro x p;have f:=IA p;refine⟨(c x).1 f,λe l g j=>?_⟩;have n:=(c e).2 ⟨l,g,j⟩;obtain⟨i,rfl⟩:∃i,m=i++[x]:=by
  have d:m≠[]:=(by rintro rfl;cases f);refine⟨m.dropLast,?_⟩;have:=gL d;rw[oY d]at p;rw[<-cJ p];exact this.symm
 rcases cB.1 n with k|k
 .have:=(pH.1 r).2.2 e k x (by simp);rw[qC]at this;have:=((c x).1 (by simp)).2.1;omega
 rw[bP.1 k];exact Int.le_refl _
def bL8(h:sK l I k n R m)(hR:∀e∈fZ k R,qF e=true)(h2:Nat)(u:Int):(yE I h2 u=-1/\∀e∈fZ k R,e.1=h2->¬e.2.1<=min u 1073741824)\/(∃e∈fZ k R,e.1=h2/\e.2.1=yE I h2 u/\0<=e.2.1/\e.2.1<=min u 1073741824/\∀x∈fZ k R,x.1=h2->x.2.1<=min u 1073741824->x.2.1<=e.2.1):=by
 let Q:List (List dB)->Int->Prop:=λY o=>(o=-1/\∀L∈Y,∀e∈L,e.1=h2->¬e.2.1<=min u 1073741824)\/(∃L∈Y,∃e∈L,e.1=h2/\e.2.1=o/\e.2.1<=min u 1073741824/\∀M∈Y,∀x∈M,x.1=h2->x.2.1<=min u 1073741824->x.2.1<=o)
 have B:∀(f d:List (List dB)) (o:Int),Q d o->(∀L∈f,fD L=true)->(∀L∈d,∀e∈L,0<=e.2.1)->(∀L∈f,∀e∈L,0<=e.2.1)->Q (d++f) (f.foldl (λo l=>match kO l h2 (min u 1073741824)with|some e=>max o e.2.1|none=>o) o):=by
  intro f;induction f with
  |nil=>intro d o K _ _ _;simpa using K
  |cons L f ih=>
   intro d o K hs W A;rw[nZ,show d++L::f=(d++[L])++f from by simp];have⟨C,Z⟩:=ap6 (hs L (by simp)) (h:=h2) (t:=min u 1073741824);refine ih (d++[L]) _ ?_ (λM j=>hs M (by simp[j])) (λM j=>?_) (λM j=>A M (by simp[j]))
   .cases F:kO L h2 (min u 1073741824)with
    |none=>
     have C:=C F;simp only;rcases K with⟨v,r⟩|⟨M,j,e,a,v,r,G,H⟩
     .refine .inl ⟨v,λN b e a=>?_⟩;rcases cB.1 b with b|b
      .exact r N b e a
      rw[bP.1 b]at a;exact C e a
     refine .inr ⟨M,by simp[j],e,a,v,r,G,λN b x c g s=>?_⟩;rcases cB.1 b with b|b
     .exact H N b x c g s
     rw[bP.1 b]at c;exact absurd s (C x c g)
    |some y=>
     obtain⟨⟨J,O,P⟩,S⟩:=Z y F;have h0:=A L (by simp) y J;simp only;right;rcases K with⟨v,r⟩|⟨M,j,e,a,v,r,G,H⟩
     .refine⟨L,by simp,y,J,O,by omega,P,λN b x c g s=>?_⟩;rcases cB.1 b with b|b
      .exact absurd s (r N b x c g)
      rw[bP.1 b]at c;have:=S x c g s;omega
     have hb:∀N∈d++[L],∀x∈N,x.1=h2->x.2.1<=min u 1073741824->x.2.1<=max o y.2.1:=λN b x c g s=>by
      rcases cB.1 b with b|b
      .have:=H N b x c g s;omega
      rw[bP.1 b]at c;have:=S x c g s;omega
     rcases Int.le_total o y.2.1 with U|U
     .exact⟨L,by simp,y,J,O,by omega,P,hb⟩
     exact⟨M,by simp[j],e,a,v,by omega,G,hb⟩
   rcases cB.1 j with j|j
   .exact W M j
   rw[bP.1 j];exact A L (by simp)
 have q:∀e∈fZ k R,0<=e.2.1:=λe a=>(by have:=hR e a;unfold qF at this;simp at this;exact this.1);have V:∀e∈I.mem,0<=e.2.1:=λe a=>q e ((h.all e).1 (.inl a));have X:∀L∈(I.cZ.fP.flatten.map λh3=>(I.fI h3).getD []),∀e∈L,0<=e.2.1:=λL i e a=>by obtain⟨h3,w,rfl⟩:=dS.1 i;have⟨L,g,_⟩:=h.fI h3 w;rw[g]at a;exact q e ((h.all e).1 (.inr ⟨h3,w,L,g,a⟩))
 have z:Q [I.mem] (match kO I.mem h2 (min u 1073741824)with|some e=>e.2.1|none=>-1):=by
  have⟨C,Z⟩:=ap6 h.PQ (h:=h2) (t:=min u 1073741824);cases F:kO I.mem h2 (min u 1073741824)with
  |none=>refine .inl ⟨rfl,λL i e a=>?_⟩;rw[bP.1 i]at a;exact C F e a
  |some y=>obtain⟨⟨J,O,P⟩,S⟩:=Z y F;refine .inr ⟨I.mem,by simp,y,J,O,rfl,P,λM j x c=>?_⟩;rw[bP.1 j]at c;exact S x c
 have E:=B (I.cZ.fP.flatten.map λh3=>(I.fI h3).getD []) [I.mem] _ z (λL i=>by obtain⟨h3,w,rfl⟩:=dS.1 i;exact h.lists h3 w) (λL i=>by rw[bP.1 i];exact V) X;have p:∀e,(∃L∈[I.mem]++(I.cZ.fP.flatten.map λh3=>(I.fI h3).getD []),e∈L)↔e∈fZ k R:=λe=>by
  rw[<-h.all e];constructor
  .rintro ⟨L,i,a⟩;rcases cB.1 i with i|i
   .rw[bP.1 i]at a;exact .inl a
   obtain⟨h3,w,rfl⟩:=dS.1 i;have⟨L,g,_⟩:=h.fI h3 w;rw[g]at a;exact .inr ⟨h3,w,L,g,a⟩
  rintro (T|⟨h3,w,L,g,T⟩)
  .exact⟨I.mem,by simp,T⟩
  exact⟨L,FC _ (dS.2 ⟨h3,w,by rw[g];rfl⟩),T⟩
 have c:yE I h2 u=(I.cZ.fP.flatten.map λh3=>(I.fI h3).getD []).foldl (λo l=>match kO l h2 (min u 1073741824)with|some e=>max o e.2.1|none=>o) (match kO I.mem h2 (min u 1073741824)with|some e=>e.2.1|none=>-1):=rfl;rw[c];rcases E with⟨v,r⟩|⟨L,i,e,a,v,r,G,H⟩
 .refine .inl ⟨v,λe a=>?_⟩;have⟨L,i,a⟩:=(p e).2 a;exact r L i e a
 have D:=(p e).1 ⟨L,i,a⟩;refine .inr ⟨e,D,v,r,q e D,G,λx c g s=>?_⟩;have⟨M,j,c⟩:=(p x).2 c;rw[r];exact H M j x c g s
variable{M:List Nat}
def JX(M:List Nat)(k:Nat):Nat:=(M.take k).foldl (·+·) 0
def al4(M:List Nat):JX M 0=0:=by simp[JX]
def al5(h:M[n]?=k):JX M (n+1)=JX M n+k:=by unfold JX;rw[dL,h,mH];rfl
def T7(T:List jU)(M:List Nat)(a:Nat)(l:List jU)(k:Nat):Prop:=k<=M.length/\a<=k/\JX M k=l.length/\T.take l.length=l
def aY4(w:aI)(T:List jU)(M:List Nat)(a:Nat)(l:List jU)(e:eY)(b:aI):Prop:=e=.returned (.bool false)/\(∀k,¬T7 T M a l k)/\aR w.heap.size w b
def af2(w:aI)(a g:Nat)(c d:aN)(T:List jU)(M:List Nat)(b:Nat)(l:List jU)(e:eY)(i:aI):Prop:=∃k f h,e=.returned (.bool true)/\T7 T M b l k/\xV i a g f h (T.take l.length) (M.take k) k/\kP w i g none/\f.ownBlock=c.ownBlock/\h.ownBlock=d.ownBlock
def NC(A:Option Addr)(n c b a:Nat):(Value.slice A n c).ownBlock=(Value.slice A b a).ownBlock:=by cases A<;>rfl
def aa8{m:Nat}(c:n<=k)(a:Row w k T X)(e:i*j<=X)(d:i<=maxLen):aZ5 w n T j (.slice (zp k) i i) i (X.take (i*j)):=by have b:X=X.take (i*j)++X.drop (i*j):=(bX _ _).symm;rw[b]at a;exact⟨k,rfl,c,a.less,by rw[b8];omega,d⟩
def IS{A:Option Addr}(h:l3 w n T j (.slice A i d) i X)(o:k<=i)(t:i<=1000000):l3 w n T j (.slice A k k) k (X.take (k*j)):=by
 have p:k*j<=i*j:=af6 _ o;rcases h with h|⟨b,a,l,r,q,-⟩
 .have q:=h.1;rcases id h.2 with⟨a,u⟩|⟨b,f,g,a,c,-⟩
  .obtain⟨rfl,s,rfl⟩:=eJ a;have e:k=0:=(by omega);subst e;rw[cJ4,DE];exact .inl (bM _ _ _ _)
  obtain⟨rfl,-,rfl⟩:=eJ a;exact .inr (aa8 (m:=0) c (dX h (by simp[Value.ownBlock])) (by omega) (by unfold maxLen;omega))
 obtain⟨rfl,-,rfl⟩:=eJ a;exact .inr (aa8 (m:=0) l r (by omega) (by unfold maxLen;omega))
def VC(T:List jU)(k:Nat):(fU T).take (k*5)=fU (T.take k):=by
 induction T generalizing k with
 |nil=>simp[fU]
 |cons t T a=>
  cases k with
  |zero=>simp[fU]
  |succ k=>rw[zC];show(E8 t++fU T).take ((k+1)*5)=E8 t++fU (T.take k);rw[<-a,show(k+1)*5=(E8 t)+k*5 from by rw[al0];omega,bT5]
def ZI(M:List Nat)(k:Nat):(rQ M).take (k*1)=rQ (M.take k):=by unfold rQ;rw[sG,qX]
def cs0{k a:Nat}{A B:Option Addr}{T:List jU}(H:xV w n m (.slice A T i) (.slice B M j) T M d)(l:aR w w x)(v:k<=M)(u:a<=T)(s:T.length<=1000000)(r:M.length<=1000000):xV (((x.setCell (zp m) (.slice A a a)).setCell (zp m 1) (.slice B k k)).setCell (zp m 2) k) n m (.slice A a a) (.slice B k k) (T.take a) (M.take k) k/\kP w (((x.setCell (zp m) (.slice A a a)).setCell (zp m 1) (.slice B k k)).setCell (zp m 2) k) m none:=by
 have h:=H.next l;have c:∀q,q≠m->(((x.setCell (zp m) (.slice A a a)).setCell (zp m 1) (.slice B k k)).setCell (zp m 2) k).heap[q]?=x.heap[q]?:=λq g=>by rw[aU _ _ _ _ g,aU _ _ _ _ g,aU _ _ _ _ g]
 have b:∀q e o,Row x q e o->e≠48->q≠m:=λq e o y b p=>by subst p;exact b (dD y h.1)
 refine⟨⟨((h.1.set 0 _).set 1 _).set 2 _,H.2.1,?_,?_,λt z=>H.2.2.2.2 t (lM z)⟩,kP.trans (kP.cT l m none) (kP.trans (kP.AT 0 _ _) (kP.trans (kP.AT 1 _ _) (kP.AT 2 _ _)))⟩
 .have f:=IS h.2.2.1 u s;rw[VC]at f;rw[show(T.take a).length=a from by rw[b8];omega];exact f.eW λq g=>c q (b q _ _ (f.row g).1 mT.1)
 have f:=IS h.2.2.2.1 v r;rw[ZI]at f;rw[show(M.take k).length=k from by rw[b8];omega];exact f.eW λq g=>c q (b q _ _ (f.row g).1 mT.2.1)
structure lG(a:List kM):Prop where
 uW:∀b∈a,uV b
 row:∀s,af9 0 (dJ (a.flatMap dO) s)
 ord:br6 a
def YE(h:lG B){s:aS}{t:jU}(b:t∈dJ (B.flatMap dO) s):0<=t.2.1/\t.2.1<((dJ (B.flatMap dO) s):Int):=by obtain⟨i,a,rfl⟩:=fH b;have:=h.row s i _ (aJ a);rw[this];omega
def bc7(s a:aS)(f:Int)(l:List Ev):dJ (eQ s f l) a=if s=a then eQ s f l else[]:=by
 unfold dJ;by_cases h:s=a
 iterate 2
  ·(first|rw[aV h,qM]|rw[aP h,iD]);intro t b;simp[ofT,(wZ b).1,h]
def bq5(h:lG B){s:aS}{l:List Ev}(m:uV (s,((dJ (B.flatMap dO) s):Int),l)):lG (B++[(s,((dJ (B.flatMap dO) s):Int),l)]):=by
 refine⟨λb d=>?_,λf i t c=>?_,?_⟩
 .rcases cB.1 d with d|d
  .exact h.uW b d
  rw[bP.1 d];exact m
 .have e:dJ ((B++[(s,((dJ (B.flatMap dO) s):Int),l)]).flatMap dO) f=dJ (B.flatMap dO) f++dJ (eQ s ((dJ (B.flatMap dO) s):Int) l) f:=by rw[eB];unfold dJ;rw[jA];simp[dO]
  rw[e,bc7]at c;by_cases n:i<(dJ (B.flatMap dO) f)
  .rw[fO n]at c;exact h.row f i t c
  rw[eF (by omega)]at c;by_cases g:s=f
  .subst g;rw[aV rfl]at c;have:=(bU9 s l _ _ t c).2;rw[this];omega
  rw[aP g]at c;simp at c
 unfold br6;refine pH.2 ⟨h.ord,T4 _ _,λa k b d=>?_⟩;rw[bP.1 d];intro g;simp only at g|-;have j:=h.uW a k;have⟨_,_,o,_,_⟩:=j8 j.2;have c:(a.1,a.2.1+((a.2.2.length-1:Nat):Int),a.2.2.getD (a.2.2-1) ev0)∈dJ (B.flatMap dO) s:=by unfold dJ;rw[fL];refine⟨lY.2 ⟨a,k,?_⟩,by simp[ofT,g]⟩;unfold dO;rw[zM];exact⟨a.2.2.length-1,by omega,rfl⟩
 have:=(YE h c).2;simp only at this;omega
def WN(h:lG B)(k:Nat):lG (B.take k):=by
 refine⟨λb c=>h.uW b (lM c),λs i t a=>?_,h.ord.sublist (aZ1 _ _)⟩;have e:dJ (B.flatMap dO) s=dJ ((B.take k).flatMap dO) s++dJ ((B.drop k).flatMap dO) s:=by
  conv=>lhs;rw[<-bX k B]
  rw[eB];unfold dJ;rw[jA]
 refine h.row s i t ?_;rw[e,fO (aQ.1 a).1];exact a
def cz6(h:lG B){C:List (List bH)}(f:C.flatten=B.map jG):yZ (dF C)=B/\AZ (dF C)=B.flatMap dO:=by
 have e:yZ (dF C)=B:=by
  have:yZ (dF C)=((dF C).map (·.2)).map lH:=(by unfold yZ;rw[DF];rfl);rw[this,tZ,f,DF];have:∀l:List kM,(∀b∈l,uV b)->l.map (lH ∘ jG)=l:=by
   intro l;induction l with
   |nil=>intro _;rfl
   |cons b l i=>intro d;rw[dU,i (λc g=>d c (by simp[g]))];have a:=d b (by simp);show lH (jG b)::l=_;rw[(az7 a.2 a.1).1]
  exact this B h.uW
 exact⟨e,by rw[NU,e]⟩
def rG{Bs:List kM}(h:∀b∈Bs,uV b):cB2 (Bs.map jG):=λp d=>by obtain⟨b,c,rfl⟩:=dS.1 d;have a:=h b c;have:=YL a.2 a.1 [];rw[gM]at this;exact⟨by rw[this];rfl,(aL1 a.2).2⟩
def cp9{R:List lW}{aX:Nat}{s:aS}{t:jU}(h:t∈dJ (AZ R) s):∃e∈fZ aX R,e.1=mA aX (lb s)/\e.2.1=t.2.1:=by unfold dJ at h;have⟨c,a⟩:=fL.1 h;have⟨r,f,b⟩:=aP0.1 c;unfold ofT at a;rw[bG]at a;unfold dO at b;rw[zM]at b;obtain⟨i,d,rfl⟩:=b;simp only at a;refine⟨(mA aX (lb s),(lH r.2).2.1+(i:Int),(r.1:Int)),oC.2 ⟨r,f,?_⟩,rfl,rfl⟩;unfold uY;exact dS.2 ⟨i,gB.2 d,by rw[a]⟩
variable{C:List (List bH)}{G:cS}
def GP(c:VW s):aO1 s:=by
 rintro ⟨k,b⟩;have⟨d,a⟩:=tJ b;rcases a with a|a|a
 .exact ax4 d (a.1▸c)
 .exact absurd a.2 (by decide)
 exact absurd a.2 (by decide)
def sK.cB9{f:cA}(h:sK l I k n R m)(d:iW aO1 l f):sK f I k n R m:=by
 have e:iW VW l f:=d.mono λo b=>GP b;refine⟨h.cZ,h.zQ,h.next,h.check,λo b=>?_,h.eqT,h.PQ,h.eqM,λj c a=>?_,h.eI.stay e⟩
 .have⟨L,c,a⟩:=h.fI o b;exact⟨L,c,a.stay (xK h o b).2 e⟩
 have⟨g,i⟩:=h.free j c a;exact⟨d.no (LL a) g,d.no (IT a) i⟩
def sK.append{P k:Nat}(h:sK l I m n R P)(a:P<=i)(c:i<=k):sK l {I with mem:=(uY m (k,s)).foldl pW I.mem} m n (R++[(k,s)]) i:=by
 have b:=h.check;have d:(R++[(k,s)]).filter (λr=>decide (r.1<I.cZ.check))=R.filter λr=>decide (r.1<I.cZ.check):=TP (aM a c) _ b;have f:(R++[(k,s)]).filter (λr=>!decide (r.1<I.cZ.check))=(R.filter λr=>!decide (r.1<I.cZ.check))++[(k,s)]:=by
  rw[jA];congr 1;rw[jK,aV (by simp;omega)];rfl
 refine⟨h.cZ,h.zQ,h.next,aM b a,h.fI,λe=>?_,ER _ h.PQ,λe=>?_,h.free,h.eI.same (TP (aM a c)) a dQ⟩
 .simp only;rw[d];exact h.eqT e
 simp only;rw[f,LN,ai9,cB,h.eqM e];simp[fZ]
structure cQ7(b a s:Nat)(D:aL)(G:cS)(I:aZ)(B:List bH)(S:Nat)(p:bH)(r:Int×Nat×cS×aL):Prop where
 tA:r.2.2.2.cap=D.cap
 bQ:r.2.2.2.bQ=D.bQ
 it:(r=(60,0,G,D)/\(200<=G.bV.length\/D.cap<dZ D.files+p.length+24+6000))\/(r.1=0/\r.2.1<1000000/\jJ b a s r.2.2.2 r.2.2.1 {I with mem:=(uY a (r.2.1,p)).foldl pW I.mem} (B++[p]) S)\/(r.1=61/\r.2.1=0/\r.2.2.2.down=true/\kK b a s r.2.2.2.files (B++[p]) S)
def S9(h:dF C=R):C.flatten=R.map (·.2):=by rw[<-h,tZ]
def SU{B:List bH}(h:jJ n m k D G I B i){s:bH}(L:s.length<=2000):cQ7 n m k D G I B i s (iE G D s):=by
 have⟨C,P,E,t,p⟩:=h.st;have x:=bq7 h.up h.tA (cV 98) h.sys E L;have z:(dF C).map (·.2)=B:=(by rw[tZ,t]);rcases x with⟨x,y⟩|⟨a,b,c,d,e,f,g,w,M,F,q,j,v,H,J⟩|⟨a,b,c,d,e,f⟩
 .rw[x];exact⟨rfl,rfl,.inl ⟨rfl,y.imp (λh=>by rw[E.bV];simpa using h) id⟩⟩
 .have l:=q.log;have o:=l.ok;have u:(iE G D s).2.1<1000000:=by have:=GM (r:=((iE G D s).2.1,s)) o (by rw[j];simp);have:=o.1;simp only at *;omega
  refine⟨c,d,.inr (.inl ⟨a,u,b,c.trans h.tA,e,w,F,?_,?_,?_⟩)⟩
  .exact⟨l.less v,q.whole,q.bV,q.new⟩
  .rw[S9 j,iC,z];rfl
  rw[j];exact(p.cB9 f).append H J
 refine⟨d,e,.inr (.inr ⟨a,b,c,f.sys,?_⟩)⟩;have⟨w,q,j⟩:=f.log;have A:iW VW D.files (iE G D s).2.2.2.files:=f.stay.mono λO K=>GP K;refine⟨w,P,q,?_,?_⟩
 .rcases j with j|⟨N,j,v⟩
  .rw[j,t];exact List.prefix_append _ _
  rw[S9 j,iC,z];exact oT _
 rcases j with j|⟨N,j,v⟩
 .rw[j];exact p.eI.stay A
 rw[j];exact(p.eI.stay A).same (TP v) dQ dQ
def jJ.less{B:List bH}(h:jJ n k m D G I B i)(d:j<=i):jJ n k m D G I B j:=by have⟨C,P,a,b,c⟩:=h.st;exact⟨h.up,h.tA,h.sys,C,P,⟨a.log.less d,a.whole,a.bV,a.new⟩,b,c⟩
def kK.less{B:List bH}(h:kK n k m l B i)(e:j<=i):kK n k m l B j:=by have⟨a,C,P,b,c,d⟩:=h;exact⟨a,C,P,b.less e,c,d⟩
def jJ.more{B:List bH}(h:jJ n k m D G I B j)(d:m<=i):jJ n k i D G I B j:=by have⟨C,P,c,a,b⟩:=h.st;exact⟨h.up,h.tA,h.sys,C,P,c,a,b.same dQ d⟩
def kK.more{B:List bH}(h:kK n k m l B j)(e:m<=i):kK n k i l B j:=by have⟨a,C,P,b,c,d⟩:=h;exact⟨a,C,P,b,c,d.same (sS.refl _ _) dQ e⟩
def kK.cG7{B a:List bH}(h:kK n k m l B i)(f:B <+: a):kK n k m l a i:=by have⟨b,C,P,c,d,e⟩:=h;exact⟨b,C,P,c,d.trans f,e⟩
def MX{B:List bH}(h:jJ n m k D G I B i):(gO G D).2.2.cap=D.cap/\(gO G D).2.2.bQ=D.bQ/\(((gO G D).1=0/\jJ n m k (gO G D).2.2 (gO G D).2.1 I B B)\/((gO G D).1=61/\(gO G D).2.2.down=true/\kK n m k (gO G D).2.2.files B i)):=by
 have⟨C,P,v,e,f⟩:=h.st;have s:=TM h.up h.tA h.sys v (Ok:=λl=>l=C) rfl;have p:=aB1 v.log;rcases s with⟨a,u,c,t,w,r,g,q,A,j⟩|⟨a,b,x,d,o⟩
 .refine⟨c,t,.inl ⟨a,u,c.trans h.tA,r,C,kF (fB C),?_,e,?_⟩⟩
  .rw[<-e];exact q
  have:=f.cB9 g;exact this.same p dQ
 refine⟨x,d,.inr ⟨a,b,o.sys,?_⟩⟩;obtain⟨l,y,rfl⟩:=o.log;exact⟨l,P,y,by rw[e];exact oT _,f.eI.stay (o.stay.mono λE z=>GP z)⟩
def vH(h:lG B){s:aS}{t:jU}(c:t∈dJ (B.flatMap dO) s):0<=t.2.1/\t.2.1<1073741824:=by unfold dJ at c;have⟨d,_⟩:=fL.1 c;have⟨b,e,a⟩:=lY.1 d;unfold dO at a;rw[zM]at a;obtain⟨i,j,rfl⟩:=a;have⟨_,_,_,_,f,g,_⟩:=j8 (h.uW b e).2;simp only;omega
def cx3(h:sK l I k n R m)(g:B8 R){B:List kM}(c:lG B)(b:yZ R=B)(d:aS){a e:Int}(o:0<=a)(j:1<=e):nI R I k d a (a+min e 1073741824-1)=BE (dJ (B.flatMap dO) d) a e false:=by have f:AZ R=B.flatMap dO:=(by rw[NU,b]);rw[MD h g (by rw[b];exact c.ord),f];unfold BE;rw[aP (by simp)];apply DG;intro t i;have:=vH c i;unfold AX;rw[aP (by simp),iX];simp only[bL,bG];omega
def cz1(h:sK l I k n R m)(g:B8 R){B:List kM}(c:lG B)(b:yZ R=B)(d:aS){a e:Int}(o:0<=a)(j:1<=e):(nI R I k d (a-e+1) a).reverse=BE (dJ (B.flatMap dO) d) a e true:=by have f:AZ R=B.flatMap dO:=(by rw[NU,b]);rw[MD h g (by rw[b];exact c.ord),f];unfold BE;rw[aV rfl];congr 1;apply DG;intro t i;have:=vH c i;unfold AX;rw[aV rfl,iX];simp only[bL,bG];omega
def cx5(b:lG B)(d:aS){e a:Int}(f:1073741824<e):BE (dJ (B.flatMap dO) d) e a false=[]:=by unfold BE;rw[aP (by simp),iD];intro t c;have:=vH b c;unfold AX;rw[aP (by simp)];simp only[bL,bG];omega
def TI{a:List (List bH)}(h:JQ C a n k):a.flatten <+: C.flatten/\n<=a.flatten:=by have⟨r,b,d,c,f⟩:=h;have e:a.flatten=C.flatten.take r:=(by rw[<-tZ,b,qX,tZ]);refine⟨by rw[e];exact br8 _ _,?_⟩;rw[e,b8];rw[sA]at c;omega
def U0(a:VW s):aO0 s:=⟨GP a,λe=>PI (e▸a)⟩
def bI1{aX s:Nat}(m:D.down=false)(i:D.cap=n)(x:n<=1048576){B:List bH}{k:Nat}(h:kK n aX s D.files B k):(kB D).2.2.cap=D.cap/\(kB D).2.2.bQ=D.bQ/\(((kB D).1=61/\(kB D).2.2.down=true/\kK n aX s (kB D).2.2.files B k)\/∃f o,(kB D).1=0/\(kB D).2.1=some ⟨fB f,kF (fB f)⟩/\(kB D).2.2.down=false/\Sys n 98 (kB D).2.2.files/\wQ (kB D).2.2.files ⟨fB f,kF (fB f)⟩ f f.flatten o/\BV (kB D).2.2.files aX s (dF f) o/\f.flatten <+: B/\k<=f.flatten/\iW VW D.files (kB D).2.2.files):=by
 have⟨v,C,P,u,q,j⟩:=h;rcases bH9 m i (cV 98) v u with⟨a,b,c,d,f,r,g⟩|⟨a,b,c,d,e⟩
 .refine⟨c,d,.inr ⟨f,kF (fB f),a,r,b,g.sys,g.open,?_,(TI g.bU8).1.trans q,(TI g.bU8).2,g.stay.mono λy l=>U0 l⟩⟩;exact(j.stay (g.stay.mono λy l=>U0 l)).same (YM g.bU8) g.le.2 dQ
 refine⟨c,d,.inl ⟨a,b,e.sys,?_⟩⟩;have⟨f,t,w,p⟩:=e.log;exact⟨f,P,t,(TI p).1.trans q,(j.stay (e.stay.mono λy l=>U0 l)).same (YM p) dQ dQ⟩
def iN(C:List (List bH)):Nat->List lW:=fun k=>(dF C).filter fun r=>!decide (r.1<k)
def bZ4{aX s:Nat}(l:D.down=false)(i:D.cap=n)(o:n<=1048576)(p:Sys n 98 D.files){G:cS}{C:List (List bH)}{k:Nat}(m:wQ D.files G C C.flatten k)(j:BV D.files aX s (dF C) k):(fY D G aX (iN C)).2.2.cap=D.cap/\(fY D G aX (iN C)).2.2.bQ=D.bQ/\((∃I,(fY D G aX (iN C)).1=0/\(fY D G aX (iN C)).2.1=some I/\jJ n aX s (fY D G aX (iN C)).2.2 G I C.flatten C.flatten)\/((fY D G aX (iN C)).1=61/\(fY D G aX (iN C)).2.1=none/\(fY D G aX (iN C)).2.2.down=true/\kK n aX s (fY D G aX (iN C)).2.2.files C.flatten C.flatten)):=by
 have h:=VH l o p m j;change let r:=fY D G aX (iN C);_ at h
 simp only at h;rcases h with⟨I,a,b,c,d,e,f,g,q⟩|⟨a,b,c,d,e,f⟩
 .exact⟨d,e,.inl ⟨I,a,b,c,d.trans i,f,C,k,g,rfl,q⟩⟩
 exact⟨d,e,.inr ⟨a,b,c,f.sys,C,k,m.log.stay f.stay,oT _,f.idx⟩⟩
structure QH(f g:fK):Prop where
 len:g.data.length<=f.data.length
 sync:g.sync<=g.data.length
 sure:f.data.length<=f.sync->g.data.length<=g.sync
def bD0(l s:bH){n:Nat}(a:n<l):(qH l s n).length=l:=by unfold qH;simp only[aO,b8,eK];omega
def bd3(h:f.sync<=f.data)(s:bH){n:Nat}(a:n<f.data):QH f ⟨qH f.data s n,f.sync⟩:=by have:=bD0 f.data s a;exact⟨by simp only;omega,by simp only;omega,by simp only;omega⟩
def bd4(k:Nat):QH f ⟨f.data.take k,min f.sync (min k f.data)⟩:=⟨by simp only[b8];omega,by simp only[b8];omega,by simp only[b8];omega⟩
def Sys.spoilt(h:Sys n k l){s:bH}{f g:fK}(a:bO l s=f)(b:QH f g):Sys n k (eC l s g):=by have c:=h.room;refine h.put (h.names s f a) b.sync ?_;rw[a];have:=b.len;simp only[pZ,lX];omega
def BV.spoilt(h:BV l k n R m){s:bH}{f g:fK}(I:bO l s=f)(J:QH f g)(M:isT s->kT g.data=true->g.data=f.data)(L:s=fE->sB g.data=true->g.data=f.data):BV (eC l s g) k n R m:=λD p=>by
 rw[fF]at p;have G:∃v,bO l fE=some v/\(v.data.length<=v.sync->D.data.length<=D.sync)/\(sB D.data=true->D.data=v.data):=by
  split at p
  .rename_i B;cases p;exact⟨f,by rw[<-B];exact I,J.sure,L B⟩
  exact⟨D,p,id,λ_=>rfl⟩
 have⟨v,N,O,P⟩:=G;have⟨T,U⟩:=h v N;refine⟨O T,λo C=>?_⟩;have e:=P o;rw[e]at o C|-;have E:=U o C;have F:=CP o;have A:∀j∈(getM v.data).fP.flatten,∀a,bO (eC l s g) (nN j)=some a->∃c,bO l (nN j)=some c/\(c.data.length<=c.sync->a.data.length<=a.sync)/\(kT a.data=true->a.data=c.data):=λj b a r=>by
  rw[fF]at r;split at r
  .rename_i B;cases r;exact⟨f,by rw[<-B];exact I,J.sure,λK=>M (by rw[B];exact⟨j,rD (F j b)⟩) K⟩
  exact⟨a,r,id,λ_=>rfl⟩
 have d:∀j,bO l (nN j)≠none->∃a,bO (eC l s g) (nN j)=some a:=λj b=>by
  rw[fF];split
  .exact⟨g,rfl⟩
  exact Option.ne_none_iff_exists'.1 b
 refine⟨E.next,E.check,λj b=>?_,λy x=>?_⟩
 .have⟨c,t,z⟩:=E.on j b;have⟨a,i⟩:=d j (by rw[t];simp);have⟨H,u,Q,_⟩:=A j b a i;rw[t]at u;cases u;exact⟨a,i,Q z⟩
 have w:∀j∈(getM v.data).fP.flatten,∀c,bO l (nN j)=some c->∃a,bO (eC l s g) (nN j)=some a/\a.data=c.data:=λj b c q=>by
  have⟨a,i⟩:=d j (by rw[q];simp);have⟨H,u,_,S⟩:=A j b a i;rw[q]at u;cases u;exact⟨a,i,S (y j b a i)⟩
 rw[<-E.eq (λj b c q=>by
  have⟨a,t,z⟩:=w j b c q;rw[<-z];exact y j b a t) x]
 constructor
 .rintro ⟨j,b,a,t,z⟩;have⟨c,i,_,u⟩:=A j b a t;exact⟨j,b,c,i,by rw[<-u (y j b a t)];exact z⟩
 rintro ⟨j,b,c,t,z⟩;have⟨a,i,u⟩:=w j b c t;exact⟨j,b,a,i,by rw[u];exact z⟩
def kK.spoilt{B:List bH}(h:kK n m k l B i){s:bH}{f g:fK}(a:bO l s=f)(b:QH f g)(o:¬isC s)(q:isT s->kT g.data=true->g.data=f.data)(p:s=fE->sB g.data=true->g.data=f.data):kK n m k (eC l s g) B i:=by have⟨c,C,P,d,e,j⟩:=h;exact⟨c.spoilt a b,C,P,d.stay (iW.put o _),e,j.spoilt a b q p⟩
def bx3(h:isB s):¬isC s/\¬VW s/\s≠dI:=by
 have⟨k,c⟩:=h;have⟨b,a⟩:=tJ c;have e:s=wE k:=by
  rcases a with a|a|a
  .exact absurd a.2 (by decide)
  .exact absurd a.2 (by decide)
  exact a.1
 subst e;exact⟨IT b,ZB b,ZE b⟩
def jJ.spoilt{B:List bH}(h:jJ n m k D G I B i){s:bH}{f g:fK}(q:bO D.files s=f)(A:QH f g)(y:isB s):jJ n m k {D with files:=eC D.files s g} G I B i:=by
 have⟨C,P,u,l,a⟩:=h.st;have⟨E,F,H⟩:=bx3 y;have b:∀J,J≠s->bO (eC D.files s g) J=bO D.files J:=λJ b=>(by rw[fF,aP (λe=>b e.symm)]);have p:iW VW D.files (eC D.files s g):=iW.put F _;refine⟨h.up,h.tA,h.sys.spoilt q A,C,P,u.stay (λJ _ z=>b J (λe=>E (e▸z))) (by rw[b _ (λe=>H e.symm)];exact u.new),l,?_⟩;refine⟨a.cZ,a.zQ,a.next,a.check,λj r=>?_,a.eqT,a.PQ,a.eqM,λJ c d=>?_,a.eI.stay p⟩
 .have⟨L,c,d⟩:=a.fI j r;exact⟨L,c,d.stay (xK a j r).2 p⟩
 have⟨v,w⟩:=a.free J c d;have t:∀x,bO D.files x=none->bO (eC D.files s g) x=none:=λx o=>by rw[b x (λe=>by rw[e,q]at o;cases o)];exact o
 exact⟨t _ v,t _ w⟩
def kZ(a:List kM):List Nat:=a.map fun b=>b.2.2.length
def zG(s:aS)(l:List Ev):∀f:Int,(eQ s f l).length=l:=by
 induction l with
 |nil=>intro f;rfl
 |cons e l a=>intro f;simp only[eQ,cE];rw[a]
def YD(a:List kM):∀k,JX (kZ a) k=((a.take k).flatMap dO):=by
 intro k;induction k with
 |zero=>rw[al4];simp
 |succ k b=>
  rcases cK k a.length with h|h
  .have c:(kZ a)[k]?=some a[k].2.2.length:=(by unfold kZ;rw[pR,aJ h];rfl);rw[al5 c,b,jO h,eB,aO];congr 1;show _=([a[k]].flatMap dO).length;simp[dO,zG]
  have e:JX (kZ a) (k+1)=JX (kZ a) k:=by unfold JX kZ;rw[aT (by simp;omega),aT (by simp;omega)]
  rw[e,b,aT h,aT (by omega)]
def al2(a:List kM)(k:Nat):(a.flatMap dO).take ((a.take k).flatMap dO)=(a.take k).flatMap dO:=by
 conv=>lhs;arg 2;rw[<-bX k a]
 rw[eB,mP]
def W1(h:lG B){n k:Nat}(c:n<k)(f:k<=B):((B.take n).flatMap dO).length<((B.take k).flatMap dO):=by
 have e:B.take k=B.take n++(B.drop n).take (k-n):=by
  conv=>lhs;rw[<-bX n B]
  rw[T3,b8,aT (by rw[b8];omega),show k-min n B=k-n from by omega]
 rw[e,eB,aO];have a:n<B:=by omega
 have b:(B.drop n).take (k-n)=B[n]::((B.drop (n+1)).take (k-n-1)):=by rw[<-gT a,show k-n=(k-n-1)+1 from by omega,zC];simp
 rw[b,eN,aO];have:=(j8 (h.uW _ (dC a)).2).2.2.1;have d:(dO B[n])=B[n].2.2.length:=zG _ _ _;omega
def cH9(h:lG B){n k:Nat}(c:n<=B)(d:k<=n):T7 (B.flatMap dO) (kZ B) k ((B.take n).flatMap dO) n/\∀j,T7 (B.flatMap dO) (kZ B) k ((B.take n).flatMap dO) j->j=n:=by
 refine⟨⟨by simpa[kZ]using c,d,YD B n,al2 B n⟩,λj e=>?_⟩;have⟨b,_,f,_⟩:=e;rw[YD]at f;have b:j<=B.length:=(by simpa[kZ]using b);rcases DC j n with a|a|a
 .have:=W1 h a c;omega
 .exact a
 have:=W1 h a b;omega
def cb1{a:List bH}(h:a <+: B.map jG):a=(B.take a).map jG/\a.length<=B:=by have:=cD8.1 h;refine⟨by rw[qX];exact this,by have:=h.length_le;simpa using this⟩
def bc6{l:List Nat}{M:Nat}(h:∀x∈l,x<=M):l.sum<=l.length*M:=by
 induction l with
 |nil=>simp
 |cons a l c=>have d:=h a (by simp);have e:=c λx b=>h x (by simp[b]);rw[l6,cE,UP];omega
end Go.Proofs.YtpopikndggffaaaGreatDoor
