/- TOP, part 17. -/
import Derived.Deep.AppendSrc
import Derived.Maps.RangeWalk
import Derived.Sort.KeysCollected
import Derived.Sort.OwnSorted
import Derived.Test.YtpopikndggffaaaGreatDoorGm15
namespace Go.Proofs.YtpopikndggffaaaGreatDoor
set_option linter.all false
set_option maxRecDepth 100000
set_option maxHeartbeats 16000000
open Go.RowKit Go.Maps Tryz
section
variable {w:aI}{g:Nat}{e:cD}{l:List aN}{a0 a1 a2 a3 a4 a5 a6 a7 a8 a9:aN}
def Row.zf3(h:Row w g e (a0::a1::a2::a3::l)):w.frozen? ⟨g,3,none⟩=false:=h.frozen 3 (by simp)
def Row.zf4(h:Row w g e (a0::a1::a2::a3::a4::l)):w.frozen? ⟨g,4,none⟩=false:=h.frozen 4 (by simp)
def Row.zf6(h:Row w g e (a0::a1::a2::a3::a4::a5::a6::l)):w.frozen? ⟨g,6,none⟩=false:=h.frozen 6 (by simp)
def Row.zf7(h:Row w g e (a0::a1::a2::a3::a4::a5::a6::a7::l)):w.frozen? ⟨g,7,none⟩=false:=h.frozen 7 (by simp)
def Row.zf8(h:Row w g e (a0::a1::a2::a3::a4::a5::a6::a7::a8::l)):w.frozen? ⟨g,8,none⟩=false:=h.frozen 8 (by simp)
def Row.zf9(h:Row w g e (a0::a1::a2::a3::a4::a5::a6::a7::a8::a9::l)):w.frozen? ⟨g,9,none⟩=false:=h.frozen 9 (by simp)
def Row.zc7(h:Row w g e (a0::a1::a2::a3::a4::a5::a6::a7::l)):w.cell? ⟨g,7,none⟩=some a7:=h.cell 7 (by simp)
def Row.zc8(h:Row w g e (a0::a1::a2::a3::a4::a5::a6::a7::a8::l)):w.cell? ⟨g,8,none⟩=some a8:=h.cell 8 (by simp)
def Row.zc9(h:Row w g e (a0::a1::a2::a3::a4::a5::a6::a7::a8::a9::l)):w.cell? ⟨g,9,none⟩=some a9:=h.cell 9 (by simp)
end
variable{l:bZ}
section
open Go.Sort
def bo4:Prop:=∀(a b d:Nat) (c:List (List bB)) (w:aI),Holds encStr w a b c.toArray->a<w.heap.size->c.length<4611686018427387904->
 Calls prog 89 #[.slice (some ⟨a,b,none⟩) c.length d] w fun e g=>e=.returned (.tuple #[])/\∃n f,g=grow (putRow encStr (Sort.ahead w n) a b (c.mergeSort fun x y=>decide (x<=y)).toArray) f
def bo5:Prop:=∀(w:aI),Calls prog 89 #[.slice none 0 0] w fun e a=>e=.returned (.tuple #[])/\aS w.heap.size w a
def ab2(l:bZ)(a:bK->Nat):strKeys (kR l a)=l.map (·.1):=by unfold kR;show(l.map λp=>((Lit.string p.1,DataW.lit (.int .i64 (a p.1:Int))):Lit×Du)).map (λp=>strOf p.1)=_;rw[C7];rfl
def aq3(c:rZ l){a:List (List bB)}{K:bK->Nat}(h:a.Perm (strKeys (kR l K))):(a.mergeSort λx y=>decide (x<=y))=l.map (·.1):=by rw[ab2]at h;have b:=mergeSort_of_perm h;show a.mergeSort leB=_;rw[b];refine List.mergeSort_of_pairwise ?_;refine lO.2 (c.imp λh=>?_);simp only[leB,bH];exact List.le_of_lt h
def ar2:(prog.info? 9).map (λi=>(i.zero,i.size,i.bytes))=some (some (.string ⟨#[]⟩),1,16):=by kernel_rfl
def OE (hsort:bo4) (hsortN:bo5) {w:aI} {base d m:Nat} {D:aM} {blk:bK→Nat} {dat:bK→aN} (h:bM w base d m D blk dat) :
 Calls prog 55 #[.pointer (some ⟨d,0,none⟩)] w fun e w'=>∃v,e=.returned v∧w'.ownsRow w.heap.size 9 1 v D.names.length (D.names.map encStr)∧aS w.heap.size w w':=by
 have HN:=FM h;obtain⟨-,-,-,c3,-⟩:=h.cells;have hown:=h.map;have hbl:=hown.lt;have hmany:=h.many;have hris:=h.kO;have hsz:=DF D.files blk;obtain⟨i0,hi,hz0,hz1,hz2⟩:=info_parts ar2;unfold aM.names;generalize D.files=l at hown hmany hris hsz ⊢;have HR:=aH hris;have HSZ:=aH hsz;have HSO:=aH hsort;have HSN:=aH hsortN;clear h hris hsz hsort hsortN;go_in;go_wp2_with fail
 refine HN.mono ?_;rintro e w' ⟨rfl,rfl⟩;clear HN;go_wp2_with (first
  |(at_range;refine wpList_range_own _ rfl _ 101 rfl 9 107 ao0 underlying101 sU m l.length (kR l blk) rfl hown ?_;intro w0 hrg0 hg0 hs0))
 clear hs0 c3
 go_frame
 go_loopw [3,4] (fun v _ wr=>∃(left:Lit→Bool) (cnt:Nat) (ss:List (List bB)),wr.ranges prog 9 sU m w.heap.size l.length (kR l blk) left cnt∧ss.length+cnt≤l.length∧wr.ownsRow w.heap.size 9 1 v ss.length (ss.map encStr)∧Collected (kR l blk) left ss∧aS w.heap.size w wr)
  (fun _ _ wr=>wr.rangeLeft m w.heap.size)
 case atStart=>
  exact⟨_,_,[],hrg0,by rw[HSZ.out];simp,bQ _ _ _ _,Collected.start _,(aY _ _).grown hg0 (aO _) (fun j hj=>by cases hj)⟩
 case round=>
  obtain⟨left,cnt,ss,hrg,hcs,hrow,hC,hnx⟩:=hrel;go_wp2_with (first
   |(at_next;refine wpList_next_ranges _ rfl _ rfl 9 ao0 sU encStr Value.pointer (fun key kl hk=>by obtain⟨x,hx,_⟩:=Maps.keyOf_str underlying9 hk;exact⟨x,hx⟩) (fun v y hv=>by unfold sU at hv;split at hv;exact⟨_,rfl⟩;exact⟨_,rfl⟩;cases hv) m w.heap.size l.length _ _ _ rfl hrg ?_ ?_))
  ·intro hc0 hl0;have hp:=hC.perm hown ao0 underlying9 hl0;have hsr:=aq3 HR.out hp;have hll:ss.length=l.length:=by
    have:=gQ List.length hsr;simpa using this
   have HSR:=aH hsr;have HLL:=aH hll;have HNX:=aH hnx;clear hp hsr hll;rcases hrow.2 with⟨rfl,hn0⟩|⟨g,cap,cur,rfl,hbase,hb,h1,h2,h3,h4⟩
   ·have hl0':l.length=0:=by have:=HLL.out;omega
    (go_wp2_with (go_at_call 89;refine(HSN.out _).mono ?_;rintro e w' ⟨rfl,hb9⟩));have HB9:=aH hb9;clear hb9;go_wp2;go_ret;have hln:=fE.1 hl0';rw[hln];exact⟨_,rfl,bQ _ _ _ _,aJ HNX.out HB9.out⟩
   have hH:Holds encStr wr g 0 ss.toArray:=holds_of_block hb (by simpa using h4);have hgl:g<wr.heap.size:=(eN.1 hb).1;have hc:=HSO.out g 0 cap ss wr hH hgl (by have:=HLL.out;omega);have HO9:=aH (fun nn os=>ownsRow_sorted (base:=w.heap.size) (w:=wr) (n:=nn) (os:=os) (ss:=ss) (ts:=ss.mergeSort fun x y=>decide (x≤y)) (by simp) hbase hb h1 h2 h3);have HC:=aH hc;clear hc hH hrow h1 h2 h3 h4;(go_wp2_with (go_at_call 89;refine HC.out.mono ?_;rintro e w' ⟨rfl,nn,os,rfl⟩));go_ret;have h9:=HO9.out nn os;rw[←HSR.out,List.length_mergeSort];refine⟨_,rfl,h9,?_⟩;have:=HNX.out.grown (grownBy_sorted (n:=nn) (os:=os) (ss.mergeSort fun x y=>decide (x≤y)).toArray) HNX.out.size (fun j hj=>by cases hj;exact hbase);exact this
  intro x c kl yd yp w2 cnt2 hkey hlk hv hat hrg2 hlt hg2 hs2 hen;obtain⟨x',ex,rfl,_⟩:=Maps.keyOf_str underlying9 hkey;obtain rfl:x=x':=encStr_inj ex;have hrow2:=hrow.kept hg2 (Or.inr (row_ne_iter hrow hrg).symm);clear hs2;go_wp2_with (first
   |(at_builtin;refine wpList_append_own _ rfl _ _ 118 rfl w.heap.size 9 i0 (.string ⟨#[]⟩) 1 16 underlying118 hi hz0 hz1 hz2 rfl (by decide) _ _ _ rfl (hrow2.alloc _) ⟨w2.heap.size,0,none⟩ 1 1 [encStr x] rfl rfl (cell_one_new _ _ _) (by simp[Value.oneCell',encStr]) (by unfold maxLen at *;omega) (by omega) (by have:=hnx.size;have:=hg2.size;simp;omega) ?_;intro v' w' hown' hg3 hnil3;go_frame))
  have hrg3:=(hrg2.alloc _).kept hg3 (row_ne_low hrow2 hbl) (row_ne_iter hrow2 hrg2);go_roundw;case rel=>
   refine⟨_,cnt2,ss++[x],hrg3,by simp;omega,by simpa using hown',hC.step hlk hat,?_⟩;exact((hnx.grown hg2 hnx.size (fun j hj=>by cases hj;exact aO _)).alloc (by have:=hnx.size;have:=hg2.size;omega) _).grown hg3 (by have:=hnx.size;have:=hg2.size;simp;omega) (fun j hj=>(hrow2.lt j hj).1)
  case measure=>rw[hrg3.left_eq,hrg.left_eq];exact hlt
end
variable{a:List Int}{d i j k m n:Nat}{p:bK×fM}
def bM8(j:rZ l):∀{k:Nat} {n:bK} {g:fM},l[k]?=some (n,g)->∀f,eH l n f=l.set k (n,f):=by
 induction l with
 |nil=>intro k n g h;simp at h
 |cons p l o=>
  obtain⟨m,q⟩:=p;obtain⟨e,i⟩:=dD.1 j;intro k n g h f;cases k with
  |zero=>simp at h;rw[eH,aU h.1,nY]
  |succ k=>have d:l[k]?=some (n,g):=(by simpa using h);have a:=e _ (bD d);have c:m≠n:=λb=>(by subst b;exact lY _ a);rw[eH,aQ c,aQ (λb=>lY _ (xT b a)),nZ,o i d]
def ci3(a:rZ l){n:Nat}{s:bK}{g:fM}(h:l[n]?=some (s,g)):bR l s=some g:=QF a (bD h)
def aX5(f:rZ l)(n:bK)(a b:fM):eH (eH l n a) n b=eH l n b:=by
 induction l with
 |nil=>simp[eH]
 |cons p l h=>
  obtain⟨m,g⟩:=p;obtain⟨i,d⟩:=dD.1 f;rw[eH,eH];by_cases e:m=n
  .rw[aU e,aU e,eH,aU rfl]
  rw[aQ e,aQ e];by_cases c:n<m
  .rw[aU c,aU c,eH,aU rfl]
  rw[aQ c,aQ c,eH,aQ e,aQ c,h d]
def lA(l:bZ)(a:List Int)(k:Nat):bZ:=(eI l a).take k++l.drop k
def pL(l:bZ)(a:List Int):(eI l a).length=l.length:=by simp[eI]
def MV(h:l[n]?=some p):(eI l a)[n]?=some (p.1,rP (ED a n) p.2):=by unfold eI;rw[FZ,h];rfl
def au2(l:bZ)(a:List Int):lA l a 0=l:=by simp[lA]
def aM2(l:bZ)(a:List Int):lA l a l.length=eI l a:=by unfold lA;rw[aX (by rw[pL];exact aO _),kB (aO _),fU]
def Z6{eO:List Int}(h:l[n]?=some p):(lA l eO n)[n]?=some p:=by have a:=(aR.1 h).1;unfold lA;rw[eA (by rw[bJ,pL];omega),bJ,pL,fQ (by omega),gM,aw6];simpa using h
def au3(h:l[n]?=some p):lA l a (n+1)=(lA l a n).set n (p.1,rP (ED a n) p.2):=by
 have c:=(aR.1 h).1;have b:((eI l a).take n).length=n:=(by rw[bJ,pL];omega);unfold lA;rw[jR _ _ (by omega),b,gM,dQ,MV h,bV];congr 1;rw[gO c];first|done|rfl
def VL(l:bZ)(a:List Int):(eI l a).map (·.1)=l.map (·.1):=by
 apply p7;intro k;rw[oZ,oZ];rcases h:l[k]? with _|p
 .have:(eI l a)[k]?=none:=by rw[List.getElem?_eq_none_iff]at h|-;rw[pL];exact h
  rw[this]
 rw[MV h];rfl
def bs8{f:bZ}(h:f.map (·.1)=l.map (·.1))(b:rZ l):rZ f:=by have a:(l.map (·.1)).Pairwise (·<·):=lO.2 b;rw[<-h]at a;exact lO.1 a
def au5(l:bZ)(a:List Int)(k:Nat):(lA l a k).map (·.1)=l.map (·.1):=by unfold lA;rw[iJ,uC,VL,List.map_drop,bY]
def au4(b:rZ l)(a:List Int)(k:Nat):rZ (lA l a k):=bs8 (au5 l a k) b
def OH(d:rZ l){eO:List Int}{n:Nat}{s:bK}{f:fM}(h:l[n]?=some (s,f))(q:Nat)(c:q=f.sync+min (ED eO n) (f.data.length-f.sync))(e:f.sync<=f.data.length):
 eH (eH (lA l eO n) s (mQ f q)) s ⟨(mQ f q).data,(mQ f q).data.length⟩=lA l eO (n+1):=by
  have a:=au4 d eO n;rw[aX5 a,bM8 a (Z6 h),au3 h];have b:q<=f.data.length:=by omega
  congr 2;unfold mQ rP;rw[<-c];simp;omega
variable{X:List aN}{w x:aI}{D:aM}{K:bK->Nat}{H:bK->aN}
def gS.cf0{d:Nat}(e:Row w k 112 X)(l:n<=k)(j:Nat)(u:aN):gS n m w (w.setCell ⟨k,j,none⟩ u):=by
 have a:=jN w ⟨k,j,none⟩ u;refine⟨a.os,a.tape,a.output,a.size,λo i g=>a.block o i (λf=>?_),λo c=>kC (aV _ _ _ _ (oT c e (by decide))) c⟩;have b:o=k:=(by simpa using f);subst b;rcases g with h|⟨-,h⟩
 .omega
 exact h (pK e (.inr (.inl rfl)))
def aS7{s:bK}{f a:fM}(b:rZ l)(h:bR l s=some f)(c:a.data.length=f.data.length):dT (eH l s a)=dT l:=by have:=kZ b s a;rw[h]at this;simp at this;omega
def bM.synced(h:bM w m k i D K H){n:bK}{f:fM}(e:bR D.files n=some f)(z:Nat)(s:z<=f.data.length):
 bM (w.setCell ⟨K n,1,none⟩ (.int .i64 z)) m k i {D with files:=eH D.files n ⟨f.data,z⟩} K (λx=>if x=n then H n else H x)/\gS m i w (w.setCell ⟨K n,1,none⟩ (.int .i64 z)):=by
  have a:=h.files n f e;obtain⟨c,t,g,q,l⟩:=h.row;have p:dT (eH D.files n ⟨f.data,z⟩)=dT D.files:=aS7 h.kO e rfl;have d:k≠K n:=λb=>by have o:=a.row;rw[<-b]at o;exact eU.1 (dI o g)
  refine⟨h.aW4 (D':={D with files:=eH D.files n ⟨f.data,z⟩}) e rfl rfl h.bP h.left h.kept (by show dT (eH D.files n ⟨f.data,z⟩)<=D.cap;rw[p];exact h.used) ⟨c,t,?_,q,?_⟩ ⟨?_,a.low,?_,s⟩ (λz b=>.inl b) (λj y u r v=>aV _ _ _ _ r),gS.cf0 (d:=k) a.row a.low 1 _⟩
  .show Row _ k _ [_,_,.int .i64 (dT (eH D.files n ⟨f.data,z⟩):Nat),_,_,_,_,_,_,_];rw[p];exact g.of_block (aV _ _ _ _ d)
  .exact l.eO λz b=>uB a.row (l.row b).1 eU.2.2.2.2.1 1 _
  .have:=a.row.set 1 (.int .i64 z);exact this
  exact a.own.eO λz b=>uB a.row (a.own.row b).1 eU.2.2.1 1 _
variable{v:aN}
def rI(a d m:Nat)(r:Int×aM)(w:aI)(e:eT)(f:aI):Prop:=e=.returned (.int .i64 r.1)/\(∃b c,bM f a d m r.2 b c)/\gS a m w f
def bK5(h:bM w k n m D K H)(s:aT)(d:s<=maxLen){f:fM}(c:bR D.files (lb s)=f):
 (Instr.lookup 101 (.map m) s false).run prog w=.ok (zp (K (lb s))) w:=by have⟨v,e,a,b⟩:=h.map.lookup ao0 underlying101 (ae7 w) S8 (keyOf_str s d);rw[ak0 c]at b;rw[a,XE b]
def ch3{e:Int}(h:a[n]?=e):ED a n=e.toNat:=by unfold ED;rw[h];rfl
def bR9(h:a<=n):ED a n=0:=by unfold ED;rw[jS h];rfl
def bM.cr4(h:bM w k n m D K H):
 bM ((((w.setCell (zp n 6) true).setCell (zp n 7) false).setCell (zp n 8) ()).setCell (zp n 9) zs) k n m {D with down:=true,tB:=false,left:=0,eO:=[]} K H/\gS k m w ((((w.setCell (zp n 6) true).setCell (zp n 7) false).setCell (zp n 8) ()).setCell (zp n 9) zs):=by
  have⟨c,r,f,o,q⟩:=h.row;have l:=(((f.set 6 true).set 7 false).set 8 ()).set 9 zs;have i:∀s,s<w.heap.size->s≠n->((((w.setCell (zp n 6) true).setCell (zp n 7) false).setCell (zp n 8) ()).setCell (zp n 9) zs).heap[s]?=w.heap[s]?:=λs _ a=>by rw[aV _ _ _ _ a,aV _ _ _ _ a,aV _ _ _ _ a,aV _ _ _ _ a]
  refine⟨h.cb6 (D':={D with down:=true,tB:=false,left:=0,eO:=[]}) rfl rfl h.bP (by show 0<=_;omega) (λt p=>by cases p) ⟨c,zs,l,o,.inl (bQ _ _ _ _)⟩ i,rfl,rfl,rfl,by simp,λs j e=>i s j (λd=>?_),λs g=>?_⟩;case refine_2=>
   by_cases d:s=n
   .subst d;exact JZ f l (by simp) (by simp) (λb _ h=>by simp[Value.ownBlock]at h) g
   exact kC (i s (mV g).lt d) g
  subst d;rcases e with e|⟨-,e⟩
  .have:=h.low.1;omega
  exact e (pK f (.inl rfl))
def gS.own{k:Nat}{T:cD}{A:Program}{U:cD}{R:aN->Option (Du×List MemPlace)}{nm:Nat}{d:Du}(h:gS k m w x)(a:w.ownsRow n T i v j X)(p:¬(T=103\/T=112\/T=5))(o:w.ownsMap A U R m nm d):x.ownsRow n T i v j X:=
 fG a λt b=>h.block t (jG a t b) (.inr ⟨λg=>fP o (dZ a b) g.symm,λ⟨C,s,r,c,f⟩=>by
  obtain⟨q,e,l,-⟩:=dZ a b;rw[l]at c;cases c;exact p f⟩)
def br7:¬((9:cD)=103\/(9:cD)=112\/(9:cD)=5):=by decide
def bD2(h:bM w k n m D K H){s:bK}{f:fM}(c:bR D.files s=f)(q:Nat)(d:q<=9223372036854775807)(z:Int)(g:z=(q:Int)):
 Calls prog 56 #[zp n,zp (K s),z] w λe b=>e=zt/\∃a,bM b k n m {D with files:=eH D.files s (mQ f q)} K a/\gS k m w b:=by subst g;exact bV4 h c q d
def bp7(S L:Nat)(a:S<=L)(b:L<=1048576):IntKind.i64.wrap ((L:Int)-(S:Int))=((L-S:Nat):Int):=by rw[dM];omega
def ax5(S q:Nat)(a:S<=1048576)(b:q<=1048576):IntKind.i64.wrap ((S:Int)+(q:Int))=((S+q:Nat):Int):=by rw[dM];omega
def al4(S L m:Nat)(a:S<=L)(b:L<=1048576):IntKind.i64.wrap ((S:Int)+if IntKind.i64.wrap ((L:Int)-(S:Int))<(m:Int)then IntKind.i64.wrap ((L:Int)-(S:Int))else(m:Int))=((S+min m (L-S):Nat):Int):=by
 rw[bp7 S L a b];split
 .rename_i h;rw[ax5 S (L-S) (by omega) (by omega),RD (by omega)]
 rename_i h;rw[ax5 S m (by omega) (by omega),fQ (by omega)]
def Z5(S L:Nat)(a:S<=L)(b:L<=1048576):IntKind.i64.wrap ((S:Int)+if IntKind.i64.wrap ((L:Int)-(S:Int))<0 then IntKind.i64.wrap ((L:Int)-(S:Int))else 0)=((S+min 0 (L-S):Nat):Int):=al4 S L 0 a b
def YZ(F:bo4)(t:bo5){w:aI}{k n m:Nat}{D:aM}{K:bK->Nat}{H:bK->aN}(h:bM w k n m D K H)(hb:k<=w)(A:Option Addr)(c:Nat)(a:List Int)(hk:∀G,gS k m w G->Reads G (.slice A a c) 1 a (xA a))(hr:∀xd∈a,-9223372036854775808<=xd/\xd<=9223372036854775807):
 Calls prog 33 #[zp n,.slice A a c] w (rI k n m (D.jW a) w):=by
  have W:=BU h;unfold NK at W;unfold rI aM.jW;rcases hd:D.down with _|_
  .rw[hd]at W;simp only[bU,dP]at W|-;have⟨h5,hs,HH,HK,hu⟩:=aD W (OE F t h) h hk hr;have x9:a.length<=9223372036854775807:=by obtain⟨A9,c9,e9,h1,h2,-⟩:=hk w (gS.refl _ _ _);unfold maxLen at h2;omega
   clear W h hk hr F t;go_in;(go_wp2_with fail);go_call h5 as e G ⟨rfl,rfl⟩;(go_wp2_with fail);go_call hs as e w1 ⟨vn,rfl,Q,Y⟩;obtain⟨An,cn,rfl,-⟩:=Reads.dC Q;have⟨hf,hc⟩:=aA (HH.next Y) (gS.cQ Y k m);have h8:D.names.length=D.files:=(by unfold aM.names;rw[gR]);rw[h8]at Q;rw[h8];have⟨N,hN⟩:=kX D.files.length;have HN:=aH hN;have hy:N<=400:=(by rw[hN];exact HH.many);rw[<-hN]at Q;rw[show D.files.length=N from hN.symm];have⟨ht,x5⟩:=aA Q Y.size;clear h8 hN Q Y;(go_wp2_with fail);go_loopw [6,7,8,9,18] (λ_ _ _ _ i wr=>∃(xc:Nat)(h3:bK->aN),xc<=N/\i=.int .i64 xc/\bM wr k n m {D with files:=lA D.files a xc} K h3/\gS k m w1 wr) (λ_ _ _ _ i _=>N - (intOf i).toNat)
   .exact⟨0,H,by omega,rfl,by rw[au2];exact hf,gS.refl _ _ _⟩
   obtain⟨xc,h3,x8,rfl,E,P⟩:=hrel;by_cases xa:xc<N
   .obtain⟨⟨xd,f⟩,hp⟩:∃p,D.files[xc]?=some p:=⟨_,aK (by have:=HN.zz;omega)⟩;have s:=ci3 E.kO (Z6 (eO:=a) hp);have i1:(xc:Int)<N:=(by omega);have R:=P.own ht br7 hf.map;obtain⟨g,c7,e7,-,-⟩:∃g h7,(Value.slice An N cn)=.slice (zp g) N h7/\w.heap.size<=g/\g<wr.heap.size:=by
     rcases R.2 with⟨_,h0⟩|⟨g,h7,x6,b,x0,x1,_⟩
     .omega
     exact⟨g,h7,b,x0,(eN.1 x1).1⟩
    cases e7;have hx:=R.cellAt xc (by omega);have hi:(D.names.map encStr)[xc]?=some (bs xd):=by unfold aM.names;rw[oZ,oZ,hp];rfl
    rw[hi]at hx;have hj:(bs xd)<=maxLen:=by have h9:=fileName E s;unfold jH at h9;rw[eK];unfold maxLen;simp at h9;omega
    have x2:=bK5 E (bs xd) hj (f:=f) (by rw[gF];exact s);rw[gF]at x2;have x7:=E.cells.2.2.2.1;have hh:=(E.data s).2;have ha:=(E.files xd f s).sync;have⟨HS,HA⟩:=aA (λ(G:aI)(hb:aS wr wr G)=>(E.next hb).BO s) (E.data s).1;obtain⟨A8,c8,e8,-⟩:=id (E.data s).1;have⟨ho,M,HV,U,HP,x4⟩:=aE e8 (λ(G:aI) (hb:aS wr wr G) (q:Nat) (hq:q<=9223372036854775807) (z:Int) (hz:z=(q:Int))=>bD2 (E.next hb) s q hq z hz) E P hp s;clear R E P hp s hi hj e8;have⟨L,hL⟩:=kX f.data.length;have⟨S,hS⟩:=kX f.sync;have⟨V,X⟩:=aA hL hS;have I:=aH (λ(G:aI)(hb:aS wr wr G)=>(show G.cell? (zp (K xd))=some (.slice A8 L c8)/\G.cell? (zp (K xd) 1)=some S from⟨by have:=(HS G hb).1;rw[ho.zz]at this;rw[V.zz];exact this,by rw[X.zz];exact(HS G hb).2.1⟩));have T:S<=L:=(by rw[hS,hL];exact ha);have O:L<=1048576:=(by rw[hL];exact hh);have h6:=aH ha;have i6:(0:Int)<=(L:Int)-S:=(by omega);have i7:(L:Int)<=1048576:=(by omega);have i8:(S:Int)<=L:=(by omega);clear hL hS ha hh;rcases(show a<=xc\/xc<a from by omega)with J|J
    .have i2:¬(xc:Int)<a:=(by omega);(go_wp2_with fail);have z0:∀x:dY wr,x.it.cell? (zp (K xd))=some (.slice A8 L c8):=λx=>(I x.it x.ok).1;have z1:∀x:dY wr,x.it.cell? (zp (K xd) 1)=some S:=λx=>(I x.it x.ok).2;refine rV (by kernel_rfl) (by kernel_rfl) (by kernel_rfl) (by kernel_rfl) ?_;simp only[List.dropLast,List.drop,List.length,xW];(repeat (first|go_big_quiet_skip|(go_big_quiet_want;go_big_quiet_op;go_big_quiet_on)));refine wpQuiet_nil ?_;rintro _ ⟨⟨wq,C⟩,rfl⟩;clear z0 z1;go_wp2_with (go_at_call 56;go_call M _ C (S+min 0 (L - S)) (by omega) _ (by first|exact Z5 S L T O|omega) as e w9 ⟨rfl,h4,b,j⟩;have o:bR (eH (lA D.files a xc) xd (mQ f (S+min 0 (L-S)))) xd=some (mQ f (S+min 0 (L-S))):=(by rw[fK,aU rfl]);have⟨t0,t1,hm,hn⟩:=b.BO o;obtain⟨A6,c6,v,-⟩:=id (b.data o).1;rw[v]at t0;clear v)
     all_goals
      have⟨l,d⟩:=b.synced o (mQ f (S+min 0 (L-S))).data gC;have B:=OH HH.kO (eO:=a) HP (S+min 0 (L-S)) (by rw[bR9 J,X.zz,V.zz]) h6;rw[show eH ({D with files:=eH (lA D.files a xc) xd (mQ f (S+min 0 (L - S)))}:aM).files xd ⟨(mQ f (S+min 0 (L - S))).data,(mQ f (S+min 0 (L - S))).data⟩=lA D.files a (xc+1)from B]at l;have⟨u,r⟩:=aA l (U.trans ((gS.cQ C k m).trans (j.trans d)));clear b j l d o B;go_wp2;go_roundw
      .exact⟨xc+1,_,by omega,by go_num,u,r⟩
      simp[intOf];omega
    have i2:(xc:Int)<a:=(by omega);obtain⟨z,hz⟩:∃z,a[xc]?=some z:=⟨_,aK J⟩;have xb:=hu z (bD hz);obtain⟨A5,c5,e5,-,-,-,Z⟩:=HK wr (hc.trans U);cases e5;obtain⟨b5,o5,rfl,-,Z⟩:=Z (by omega);have k0:=Z xc (by simp[xA];exact J);have k1:(xA a)[xc]'(by simp[xA];exact J)=.int .i64 z:=by
     unfold xA;rw[sN];congr 1;exact cS ((aK J).symm.trans hz)
    rw[k1]at k0;have hg:=aH (ch3 hz);clear Z k1 hz;rcases(show z<0\/0<=z from by omega)with hl|hl
    .have i3:¬0<z:=(by omega);(go_wp2_with fail);have z0:∀x:dY wr,x.it.cell? (zp (K xd))=some (.slice A8 L c8):=λx=>(I x.it x.ok).1;have z1:∀x:dY wr,x.it.cell? (zp (K xd) 1)=some S:=λx=>(I x.it x.ok).2;refine rV (by kernel_rfl) (by kernel_rfl) (by kernel_rfl) (by kernel_rfl) ?_;simp only[List.dropLast,List.drop,List.length,xW];(repeat (first|go_big_quiet_skip|(go_big_quiet_want;go_big_quiet_op;go_big_quiet_on)));refine wpQuiet_nil ?_;rintro _ ⟨⟨wq,C⟩,rfl⟩;clear z0 z1;go_wp2_with (go_at_call 56;go_call M _ C (S+min 0 (L - S)) (by omega) _ (by first|exact Z5 S L T O|omega) as e w9 ⟨rfl,h4,b,j⟩;have o:bR (eH (lA D.files a xc) xd (mQ f (S+min 0 (L-S)))) xd=some (mQ f (S+min 0 (L-S))):=(by rw[fK,aU rfl]);have⟨t0,t1,hm,hn⟩:=b.BO o;obtain⟨A6,c6,v,-⟩:=id (b.data o).1;rw[v]at t0;clear v)
     all_goals
      have⟨l,d⟩:=b.synced o (mQ f (S+min 0 (L-S))).data gC;have B:=OH HH.kO (eO:=a) HP (S+min 0 (L-S)) (by rw[hg.zz,X.zz,V.zz,Int.toNat_of_nonpos (by omega)]) h6;rw[show eH ({D with files:=eH (lA D.files a xc) xd (mQ f (S+min 0 (L - S)))}:aM).files xd ⟨(mQ f (S+min 0 (L - S))).data,(mQ f (S+min 0 (L - S))).data⟩=lA D.files a (xc+1)from B]at l;have⟨u,r⟩:=aA l (U.trans ((gS.cQ C k m).trans (j.trans d)));clear b j l d o B;go_wp2;go_roundw
      .exact⟨xc+1,_,by omega,by go_num,u,r⟩
      simp[intOf];omega
    obtain⟨y,rfl⟩:=dA hl;(go_wp2_with fail);have z0:∀x:dY wr,x.it.cell? (zp (K xd))=some (.slice A8 L c8):=λx=>(I x.it x.ok).1;have z1:∀x:dY wr,x.it.cell? (zp (K xd) 1)=some S:=λx=>(I x.it x.ok).2;refine rV (by kernel_rfl) (by kernel_rfl) (by kernel_rfl) (by kernel_rfl) ?_;simp only[List.dropLast,List.drop,List.length,xW];(repeat (first|go_big_quiet_skip|(go_big_quiet_want;go_big_quiet_op;go_big_quiet_on)));refine wpQuiet_nil ?_;rintro _ ⟨⟨wq,C⟩,rfl⟩;clear z0 z1;go_wp2_with (go_at_call 56;go_call M _ C (S+min y (L - S)) (by omega) _ (by first|exact al4 S L y T O|omega) as e w9 ⟨rfl,h4,b,j⟩;have o:bR (eH (lA D.files a xc) xd (mQ f (S+min y (L-S)))) xd=some (mQ f (S+min y (L-S))):=(by rw[fK,aU rfl]);have⟨t0,t1,hm,hn⟩:=b.BO o;obtain⟨A6,c6,v,-⟩:=id (b.data o).1;rw[v]at t0;clear v)
    all_goals
     have⟨l,d⟩:=b.synced o (mQ f (S+min y (L-S))).data gC;have B:=OH HH.kO (eO:=a) HP (S+min y (L-S)) (by rw[hg.zz,X.zz,V.zz,cB]) h6;rw[show eH ({D with files:=eH (lA D.files a xc) xd (mQ f (S+min y (L - S)))}:aM).files xd ⟨(mQ f (S+min y (L - S))).data,(mQ f (S+min y (L - S))).data⟩=lA D.files a (xc+1)from B]at l;have⟨u,r⟩:=aA l (U.trans ((gS.cQ C k m).trans (j.trans d)));clear b j l d o B;go_wp2;go_roundw
     .exact⟨xc+1,_,by omega,by go_num,u,r⟩
     simp[intOf];omega
   obtain rfl:xc=N:=(by omega);rw[show lA D.files a xc=eI D.files a from by rw[HN.zz];exact aM2 _ _]at E;have⟨b,j⟩:=E.cr4;obtain⟨x3,kv,r1,-⟩:=E.row;have q6:=r1.zc6;have f6:=r1.zf6;have r2:=r1.set 6 true;have q7:=r2.zc7;have f7:=r2.zf7;have r3:=r2.set 7 false;have q8:=r3.zc8;have f8:=r3.zf8;have r4:=r3.set 8 ();have q9:=r4.zc9;have f9:=r4.zf9;simp only[bX,bE,nZ,nY]at q6 q7 q8 q9;have⟨hw,he⟩:=aA b (hc.trans (P.trans j));clear r1 r2 r3 r4 E P b j;go_wp2;go_ret;exact⟨rfl,⟨_,_,hw⟩,he⟩
  rw[hd]at W;simp only[eE]at W|-;have⟨h5,HH⟩:=aA W h;clear W h hk hr F t;go_in;go_wp2_with fail
  go_call h5 as e G ⟨rfl,rfl⟩;go_wp2;go_ret;exact⟨rfl,⟨_,_,HH⟩,gS.refl _ _ _⟩
def FK(f:bo4)(b:bo5){w:aI}{k n m:Nat}{D:aM}{K:bK->Nat}{H:bK->aN}(h:bM w k n m D K H)(B:k<=w)(E:D.down=false):
 Calls prog 174 #[zp n] w (rI k n m (61,D.sink) w):=by
  obtain⟨p,M,s,-,a⟩:=h.row;have J:=s.zc9;obtain⟨A,c,rfl,-⟩:=id a.reads;have x:=aH (YZ f b h B A c D.eO (λt l=>by
   have G:lK t k 3 1 (.slice A D.eO c) D.eO (xA D.eO):=a.eO λO o=>l.block O (a.row o).1.lt (.inr ⟨λz=>fP h.map (a.row o).1 z.symm,λ⟨C,N,L,r,d⟩=>by
    obtain⟨I,y,F,-⟩:=(a.row o).1;rw[F]at r;cases r;rcases d with d|d|d
    .exact eU.2.2.2.1 d
    .exact eU.2.2.2.2.1 d
    exact eU.2.2.2.2.2 d⟩)
   exact G.reads) h.kept)
  have g:D.jW D.eO=(0,D.sink):=(by unfold aM.jW aM.sink;rw[E];rfl);have i:=aH g;clear h s a g;go_in;go_wp2_with fail
  go_call x as e t ⟨rfl,j,q⟩;rw[i.zz]at j;have⟨u,v⟩:=aA j q;clear j q;go_wp2;go_ret;exact⟨rfl,u,v⟩
structure cw1 where
 kind:Int
 name:aT
 a:Int
 b:Int
 l:List Ev
 eO:List Int
 text:aT
abbrev vC:=(aN×aN)×cw1
def zY(p:vC):List aN:=[.int .i64 p.2.kind,.string p.2.name,.int .i64 p.2.a,.int .i64 p.2.b,p.1.1,p.1.2,.string p.2.text]
def cm3(p:vC):Array aN:=#[.int .i64 p.2.kind,.string p.2.name,.int .i64 p.2.a,.int .i64 p.2.b,p.1.1,p.1.2,.string p.2.text]
def DQ(z:Int):Prop:=-9223372036854775808<=z/\z<=9223372036854775807
structure OS(w:aI)(p:vC):Prop where
 ev:WE w p.1.1 p.2.l
 kp:Reads w p.1.2 1 p.2.eO.length (xA p.2.eO)
 kr:∀z∈p.2.eO,DQ z
 kind:DQ p.2.kind
 name:p.2.name.size<=maxLen
 a:DQ p.2.a
 b:DQ p.2.b
 text:p.2.text.size<=maxLen
def I8(w:aI)(v:aN)(X:List vC):Prop:=Reads w v 7 X.length (X.flatMap zY)/\∀p∈X,OS w p
def OS.next{w:aI}{p:vC}(h:OS w p)(a:aS w.heap.size w x):OS x p:=⟨h.ev.next a,h.kp.next a,h.kr,h.kind,h.name,h.a,h.b,h.text⟩
def I8.next{w:aI}{v:aN}{X:List vC}(h:I8 w v X)(a:aS w.heap.size w x):I8 x v X:=⟨h.1.next a,λp b=>(h.2 p b).next a⟩
structure TA(p:vC):Prop where
 name:p.2.name.size<=300
 l:p.2.l.length<=20
 text:p.2.text.size<=300
 eO:p.2.eO.length<=60
structure cA6 where
 kind:Nat
 s:aT
 a:Int
 b:Int
 l:List Ev
abbrev aa4:=aN×cA6
def aP5(p:aa4):List aN:=[.int .u8 (p.2.kind:Int),.string p.2.s,.int .i64 p.2.a,.int .i64 p.2.b,p.1]
def bY2(p:aa4):(aP5 p).length=5:=rfl
def bo3(w:aI)(p:aa4):Prop:=WE w p.1 p.2.l/\p.2.kind<256/\p.2.s.size<=maxLen/\(-9223372036854775808<=p.2.a/\p.2.a<=9223372036854775807)/\(-9223372036854775808<=p.2.b/\p.2.b<=9223372036854775807)
def aa3(w:aI)(v:aN)(X:List aa4):Prop:=Reads w v 5 X.length (X.flatMap aP5)/\∀p∈X,bo3 w p
def bo3.next{w:aI}{p:aa4}(h:bo3 w p)(a:aS w.heap.size w x):bo3 x p:=⟨h.1.next a,h.2⟩
def aa3.next{w:aI}{v:aN}{X:List aa4}(h:aa3 w v X)(a:aS w.heap.size w x):aa3 x v X:=⟨h.1.next a,λp b=>(h.2 p b).next a⟩
def aa3.later{w:aI}{A:Option Addr}{n c:Nat}{X:List aa4}(h:aa3 w (.slice A n c) X)(g:0<X.length):∃b a,A=some ⟨b,a,none⟩/\b<w.heap.size/\
 ∀(i:Nat)(p:aa4),X[i]?=some p->∀d:aI,aS w.heap.size w d->d.cell? ⟨b,a+i*5,none⟩=some (.int .u8 (p.2.kind:Int))/\d.cell? ⟨b,a+i*5+1,none⟩=some (.string p.2.s)/\d.cell? ⟨b,a+i*5+2,none⟩=some (.int .i64 p.2.a)/\d.cell? ⟨b,a+i*5+3,none⟩=some (.int .i64 p.2.b)/\d.cell? ⟨b,a+i*5+4,none⟩=some p.1:=by obtain⟨b,a,j,f,l⟩:=(Reads.each bY2 h.1).2.2.2 g;refine⟨b,a,j,f,λi e m d k=>?_⟩;have h:=l i e m d k;exact⟨by simpa[aP5]using h 0 (by omega),by simpa[aP5,fL]using h 1 (by omega),by simpa[aP5,fL]using h 2 (by omega),by simpa[aP5,fL]using h 3 (by omega),by simpa[aP5,fL]using h 4 (by omega)⟩
def aU7(p:aa4):Prop:=p.2.s.size<=300/\p.2.l.length<=20
def bl9(h:wrap64 ((k:Int)+1)=(k:Int)+1)(a:k<n):n-(intOf (.int .i64 (wrap64 ((k:Int)+1)))).toNat<n-(intOf (.int .i64 k)).toNat:=by rw[h];show n-((k:Int)+1).toNat<n-((k:Int)).toNat;omega
def ct4(X:List aa4)(a:Nat)(e:eT):Prop:=∃b,e=.returned (.bool b)/\(b=false->X.length<=a/\∀p∈X,aU7 p)
def bz8(v:aN)(X:List aa4)(a:Nat)(w:aI)(h:aa3 w v X)(U:a<=1000):
 Calls prog 9 #[v,.int .i64 a] w λe w'=>w=w'/\ct4 X a e:=by
  obtain⟨A,c,rfl,y,z,-⟩:=id h.1;obtain⟨n,M⟩:∃n,n=X.length:=⟨_,rfl⟩;have⟨I,H⟩:=aA M h;unfold maxLen at z;have G:n<=9223372036854775807:=(by omega);rw[<-M]at y|-;clear h M;have J:=aH G;have h1:(a:Int)<=1000:=(by omega);clear G y z;go_in;go_wp2_with fail
  go_loopw [5] (λi wr=>∃k:Nat,k<=n/\i=.int .i64 k/\(∀m p,m<k->X[m]?=some p->aU7 p)/\wr=w) (λi _=>n-(intOf i).toNat)
  .exact⟨0,by omega,rfl,λm p U=>by omega,rfl⟩
  obtain⟨k,hk,rfl,l,rfl⟩:=hrel;have g:=aH l;clear l;by_cases E:k<n
  .have i1:(k:Int)<n:=(by omega);obtain⟨p,f⟩:∃p,X[k]?=some p:=⟨_,aK (by have:=I.out;omega)⟩;obtain⟨b,h2,rfl,x,d⟩:=H.out.later (by have:=I.out;omega);obtain⟨-,c1,-,-,S⟩:=d k p f _ (aY _ _);have N:=H.out.2 p (bD f);obtain⟨pv,⟨pk,P,pa,pb,u⟩⟩:=p;dsimp only at c1 S;obtain⟨s,-,t,-⟩:=N;dsimp only at s t;obtain⟨Ae,ce,rfl,C,o,-⟩:=id s.1;have⟨W,Z⟩:=aA s f;unfold maxLen at o t;have D:u.length<=9223372036854775807:=(by omega);have Y:=aH D;clear d s f C o D x t;by_cases g1:300<P.size
   .have j1:(300:Int)<P.size:=(by omega);go_wp2;go_ret;exact⟨rfl,true,rfl,λh=>by cases h⟩
   have j1:¬(300:Int)<P.size:=(by omega);by_cases g2:20<u.length
   .have V:(20:Int)<u.length:=(by omega);go_wp2;go_ret;exact⟨rfl,true,rfl,λh=>by cases h⟩
   have V:¬(20:Int)<u.length:=(by omega);obtain⟨q,O⟩:∃q,q=u.length:=⟨_,rfl⟩;rw[<-O]at V S;have R:=aH O;clear O;(go_wp2_with fail);go_loopw [6] (λi Q=>∃j:Nat,j<=q/\i=.int .i64 j/\Q=wr) (λi _=>q-(intOf i).toNat)
   .exact⟨0,by omega,rfl,rfl⟩
   obtain⟨j,hj,rfl,rfl⟩:=hrel;by_cases h0:j<q
   .have j3:(j:Int)<q:=(by omega);obtain⟨e,s⟩:∃e,u[j]?=some e:=⟨_,aK (by have:=R.out;omega)⟩;obtain⟨be,oe,rfl,-,B⟩:=W.out.later (by have:=R.out;omega);obtain⟨d0,d1,-⟩:=B j e s _ (aY _ _);clear B s;obtain⟨K,L,e3⟩:=e;dsimp only at d0 d1;by_cases g3:300<K.size
    .have j4:(300:Int)<K.size:=(by omega);go_wp2;go_ret;exact⟨rfl,true,rfl,λh=>by cases h⟩
    have j4:¬(300:Int)<K.size:=(by omega);by_cases g4:300<L.size
    .have j5:(300:Int)<L.size:=(by omega);go_wp2;go_ret;exact⟨rfl,true,rfl,λh=>by cases h⟩
    have j5:¬(300:Int)<L.size:=(by omega);go_wp2;go_roundw
    .exact⟨j+1,by omega,by go_num,trivial⟩
    simp[intOf];omega
   obtain rfl:j=q:=(by omega);have hw:wrap64 ((k:Int)+1)=(k:Int)+1:=(by have:=J.out;unfold wrap64;omega);go_wp2;go_roundw
   .
    refine⟨k+1,by omega,by go_num,λm p U f=>?_,trivial⟩;rcases cR m k with T|T
    .exact g.out m p T f
    obtain rfl:m=k:=(by omega);rw[Z.out]at f;cases f;exact⟨by simp only[];omega,by simp only[];omega⟩
   exact bl9 hw E
  obtain rfl:k=n:=by omega
  have r:∀p∈X,aU7 p:=λp f=>by obtain⟨m,F,rfl⟩:=eS f;exact g.out m _ (by rw[I.out];exact F) (aK F)
  have HR:=aH r;clear r E hk;go_wp2;go_ret;refine⟨rfl,_,rfl,λh=>⟨by rw[<-I.out];simp at h;omega,HR.out⟩⟩
def ZL{P:Program}(w:aI)(d:Nat)(t u D e:cD)(i:TypeInfo)(z:aN)(C:P.underlying t=some (.slice e))(J:P.underlying u=some .string)(G:P.info? e=some i)(K:i.zero=some z)(b:i.size=1)(m:i.bytes=1)(r:z.cells.size=1)
 (A:Option Addr) (n c:Nat) (g:List aN) (B:Reads w (.slice A n c) 1 n g) (E:∀x∈g,x.oneCell'=true) (s:aT) (F:c<n+s.size) (L:n+s.size<=1000000000) (f:d<=w.heap.size) :
 ∃v y,(Builtin.append_ #[t,u] D #[.slice A n c,.string s]).run P w=.ok v y/\y.ownsRow d e 1 v (n+s.size) (g++byteCells s)/\w.grownBy y none/\v.ownBlock=some w.heap.size:=by
  have I:Src P i.size u (.string s) s.size (byteCells s) w:=(by rw[b];exact Src.ofString w J s);have q:g.length=n*1:=B.choose_spec.choose_spec.2.2.2.1;have h:(Builtin.firstCells i.size n (.slice A n c)).run P w.drew=.ok g.toArray w.drew:=by rw[b];exact(B.src C E).cellsD
  have p:=grownCap_ge w (n+s.size) c e;have o:grownCap w (n+s.size) c e<=maxLen:=grownCap_le_maxLen w (n+s.size) c e (by unfold maxLen;omega);have j:=run_append_grow_src (P:=P) w t u D e i z C G K A n c g h (.string s) s.size (byteCells s) I F (by omega) (by rw[m];exact growslice_fits (by omega) (by omega));have l:(byteCells s).length=s.size:=byteCells_length s;have a:(g++byteCells s).length=(n+s.size)*1:=(by rw[aP,q,l];omega);refine⟨_,_,j,⟨a,.inr ⟨w.heap.size,_,_,rfl,f,heap_alloc_new w.drew _,p,o,?_,?_⟩⟩,⟨rfl,rfl,rfl,by simp,λk H _=>mM w.drew _ k H⟩,rfl⟩
  .simp only[CF,rE,size_zeroCells,r,a];omega
  simp only[ae5];rw[<-a];exact lZ
def bX6{P:Program}(w:aI)(f:Nat)(t u E e:cD)(i:TypeInfo)(D:P.underlying t=some (.slice e))(z:P.underlying u=some .string)(B:P.info? e=some i)(a:i.size=1)
 (g n b:Nat) (c:Array aN) (o:List aN) (v:o.length=n*1) (p:f<=g) (y:w.heap[g]?=some (.cells c e (0,0))) (q:b<=maxLen) (A:c.size=b*1) (l:c.toList.take (n*1)=o) (s:aT) (d:n+s.size<=b) :
 ∃x,(Builtin.append_ #[t,u] E #[.slice (some ⟨g,0,none⟩) n b,.string s]).run P w=.ok (.slice (some ⟨g,0,none⟩) (n+s.size) b) x/\x.ownsRow f e 1 (.slice (some ⟨g,0,none⟩) (n+s.size) b) (n+s.size) (o++byteCells s)/\w.grownBy x (some g):=by
  have r:Src P i.size u (.string s) s.size (byteCells s) w:=(by rw[a];exact Src.ofString w z s);have j:(byteCells s).length=s.size:=byteCells_length s;have m:=run_storeCells_at P g (n*i.size) e (byteCells s) 0 c w y (by rw[j,a];omega) r.one;simp only[wQ]at m;have h:(o++byteCells s).length=(n+s.size)*1:=(by rw[aP,v,j];omega);refine⟨w.setRow g (c.toList.take (n*i.size)++byteCells s++c.toList.drop (n*i.size+(byteCells s).length)).toArray,?_,⟨h,.inr ⟨g,b,_,rfl,p,setRow_heap w g c _ e _ y,d,q,?_,?_⟩⟩,⟨rfl,rfl,rfl,by simp,λk _ C=>setRow_other w g k _ (λe=>C (by simp[e]))⟩⟩
  .simp[Builtin.append_,run_underlying D,run_underlying z,sizeOf,typeInfo,B,r.len,d,r.cells,Addr.add_lit,m]
  .simp only[rE,aP,bJ,fF,ae6,a,j];omega
  rw[a,l,<-h];exact lZ
def bg8{P:Program}(w:aI)(a:Nat)(t u G e:cD)(i:TypeInfo)(z:aN)(K:P.underlying t=some (.slice e))(L:P.underlying u=some .string)(I:P.info? e=some i)(W:i.zero=some z)(d:i.size=1)(q:i.bytes=1)(C:z.cells.size=1)
 (v:aN) (n:Nat) (F:List aN) (h:lK w a e 1 v n F) (O:∀x∈F,x.oneCell'=true) (s:aT) (V:n+s.size<=1000000000) (j:a<=w.heap.size) :
 ∃m l,(Builtin.append_ #[t,u] G #[v,.string s]).run P w=.ok m l/\lK l a e 1 m (n+s.size) (F++byteCells s)/\w.grownBy l v.ownBlock/\(m.ownBlock=v.ownBlock\/m.ownBlock=some w.heap.size):=by
  have X:Src P i.size u (.string s) s.size (byteCells s) w:=(by rw[d];exact Src.ofString w L s);have R:(byteCells s).length=s.size:=byteCells_length s;have o:=h.reads;by_cases B:s.size=0
  .have H:byteCells s=[]:=fE.1 (by rw[R];exact B);obtain⟨A,c,rfl,S,-⟩:=id o;rw[B,H]at X;refine⟨_,w,?_,by rw[B,H,fU];exact h,⟨rfl,rfl,rfl,aO _,λ_ _ _=>rfl⟩,.inl rfl⟩;exact run_append_nothing w t u G e i K I A n c S (.string s) X
  rcases h with h|⟨b,rfl,h2,h3,h4,h5⟩
  .rcases h.2 with⟨rfl,rfl⟩|⟨g,p,N,rfl,Q,Y,Z,T,U,y⟩
   .obtain⟨m,l,D,E,f,M⟩:=ZL (P:=P) w a t u G e i z K L I W d q C none 0 0 F o O s (by omega) V j;exact⟨m,l,D,.inl E,⟨f.os,f.tape,f.output,f.size,λk J _=>f.block k J (by simp)⟩,.inr M⟩
   by_cases r:n+s.size<=p
   .obtain⟨l,D,E,f⟩:=bX6 (P:=P) w a t u G e i K L I d g n p N F h.1 Q Y T U y s r;exact⟨_,l,D,.inl E,f,.inl rfl⟩
   obtain⟨m,l,D,E,f,M⟩:=ZL (P:=P) w a t u G e i z K L I W d q C _ n p F o O s (by omega) V j;exact⟨m,l,D,.inl E,⟨f.os,f.tape,f.output,f.size,λk J _=>f.block k J (by simp)⟩,.inr M⟩
  obtain⟨m,l,D,E,f,M⟩:=ZL (P:=P) w a t u G e i z K L I W d q C _ n n F o O s (by omega) V j;exact⟨m,l,D,.inl E,⟨f.os,f.tape,f.output,f.size,λk J _=>f.block k J (by simp)⟩,.inr M⟩
def CJ{A:Program}(w:aI){j:Array Oper}{c:List Oper}{o:Oper}{a:Act}{Q:Exit->Act->aI->Prop}(q:o.guard=none)(y x:Operand)(t u:cD)
 (F:o.op=.call {callee:=.builtin .append,args:=#[y,x],argTypes:=#[t,u]})
 (b:Nat) (e:cD) (i:TypeInfo) (z:aN) (H:A.underlying t=some (.slice e)) (I:A.underlying u=some .string) (D:A.info? e=some i) (L:i.zero=some z) (f:i.size=1) (p:i.bytes=1) (r:z.cells.size=1)
 (v:aN) (n:Nat) (l:List aN) (G:a.eval y=v) (h:lK w b e 1 v n l) (B:∀x∈l,x.oneCell'=true) (s:aT) (J:a.eval x=.string s) (E:n+s.size<=1000000000) (d:b<=w.heap.size)
 (C:∀g k,lK k b e 1 g (n+s.size) (l++byteCells s)->w.grownBy k v.ownBlock->(g.ownBlock=v.ownBlock\/g.ownBlock=some w.heap.size)->wpList A j Q c (a.put o.dst g) k):wpList A j Q (o::c) a w:=by obtain⟨g,k,M,N,O,P⟩:=bg8 (P:=A) w b t u o.type e i z H I D L f p r v n l h B s E d;refine wpList_plain q λK m=>?_;unfold Oper.wp execOp;simp only[F,resolve,invoke,builtin,Sem.run_bind,Sem.run_pure,Result.andThen_ok,EM,dN,wS,G,J,M];exact m _ _ (C g k N O P)
variable{M:List Nat}{S T:List jL}{A:Option Addr}
def IV(M:List Nat)(k:Nat):Nat:=(M.take k).foldl (·+·) 0
def af6(M:List Nat):IV M 0=0:=by simp[IV]
def af7(h:M[n]?=some k):IV M (n+1)=IV M n+k:=by unfold IV;rw[dQ,h,lP];rfl
def RJ(T:List jL)(M:List Nat)(a:Nat)(l:List jL)(k:Nat):Prop:=k<=M.length/\a<=k/\IV M k=l.length/\T.take l.length=l
def aQ2(w:aI)(T:List jL)(M:List Nat)(a:Nat)(l:List jL)(e:eT)(b:aI):Prop:=e=.returned (.bool false)/\(∀k,¬RJ T M a l k)/\aS w.heap.size w b
def ZS(w:aI)(a g:Nat)(c d:aN)(T:List jL)(M:List Nat)(b:Nat)(l:List jL)(e:eT)(i:aI):Prop:=
 ∃k f h,e=.returned (.bool true)/\RJ T M b l k/\wO i a g f h (T.take l.length) (M.take k) k/\jZ w i g none/\f.ownBlock=c.ownBlock/\h.ownBlock=d.ownBlock
def LQ(A:Option Addr)(n c b a:Nat):(Value.slice A n c).ownBlock=(Value.slice A b a).ownBlock:=by cases A<;>rfl
def YN{m:Nat}{T:cD}(c:n<=k)(a:Row w k T X)(e:i*j<=X.length)(d:i<=maxLen):aR1 w n T j (.slice (some ⟨k,0,none⟩) i i) i (X.take (i*j)):=by have b:X=X.take (i*j)++X.drop (i*j):=(bY _ _).symm;rw[b]at a;exact⟨k,rfl,c,a.less,by rw[bJ];omega,d⟩
def GP{T:cD}(h:lK w n T j (.slice A i d) i X)(o:k<=i)(t:i<=1000000):lK w n T j (.slice A k k) k (X.take (k*j)):=by
 have p:k*j<=i*j:=cw6 _ o;rcases h with h|⟨b,a,l,r,q,-⟩
 .have q:=h.1;rcases id h.2 with⟨a,u⟩|⟨b,f,g,a,c,-⟩
  .obtain⟨rfl,s,rfl⟩:=eV a;have e:k=0:=(by omega);subst e;rw[ct0,C6];exact .inl (bQ _ _ _ _)
  obtain⟨rfl,-,rfl⟩:=eV a;exact .inr (YN (m:=0) c (dZ h (by simp[Value.ownBlock])) (by omega) (by unfold maxLen;omega))
 obtain⟨rfl,-,rfl⟩:=eV a;exact .inr (YN (m:=0) l r (by omega) (by unfold maxLen;omega))
def TR(T:List jL)(k:Nat):(fH T).take (k*5)=fH (T.take k):=by
 induction T generalizing k with
 |nil=>simp[fH]
 |cons t T a=>
  cases k with
  |zero=>simp[fH]
  |succ k=>rw[xY];show(CO t++fH T).take ((k+1)*5)=CO t++fH (T.take k);rw[<-a,show(k+1)*5=(CO t).length+k*5 from by rw[af1];omega,bH3]
def XX(M:List Nat)(k:Nat):(qQ M).take (k*1)=qQ (M.take k):=by unfold qQ;rw[rD,uC]
def cd4{k a:Nat}{B:Option Addr}(H:wO w n m (.slice A T.length i) (.slice B M.length j) T M d)(l:aS w.heap.size w x)(v:k<=M.length)(u:a<=T.length)(s:T.length<=1000000)(r:M.length<=1000000):
 wO (((x.setCell ⟨m,0,none⟩ (.slice A a a)).setCell ⟨m,1,none⟩ (.slice B k k)).setCell ⟨m,2,none⟩ (.int .i64 k)) n m (.slice A a a) (.slice B k k) (T.take a) (M.take k) k/\
  jZ w (((x.setCell ⟨m,0,none⟩ (.slice A a a)).setCell ⟨m,1,none⟩ (.slice B k k)).setCell ⟨m,2,none⟩ (.int .i64 k)) m none:=by
   have h:=H.next l;have c:∀q,q≠m->(((x.setCell ⟨m,0,none⟩ (.slice A a a)).setCell ⟨m,1,none⟩ (.slice B k k)).setCell ⟨m,2,none⟩ (.int .i64 k)).heap[q]?=x.heap[q]?:=(λq g=>by rw[aV _ _ _ _ g,aV _ _ _ _ g,aV _ _ _ _ g]);have b:∀q e o,Row x q e o->e≠48->q≠m:=λq e o y b p=>by subst p;exact b (dI y h.1)
   refine⟨⟨((h.1.set 0 _).set 1 _).set 2 _,H.2.1,?_,?_,λt z=>H.2.2.2.2 t (mL z)⟩,jZ.trans (jZ.cQ l m none) (jZ.trans (jZ.DV 0 _ _) (jZ.trans (jZ.DV 1 _ _) (jZ.DV 2 _ _)))⟩
   .have f:=GP h.2.2.1 u s;rw[TR]at f;rw[show(T.take a).length=a from by rw[bJ];omega];exact f.eO λq g=>c q (b q _ _ (f.row g).1 mC.1)
   have f:=GP h.2.2.2.1 v r;rw[XX]at f;rw[show(M.take k).length=k from by rw[bJ];omega];exact f.eO λq g=>c q (b q _ _ (f.row g).1 mC.2.1)
def ay5(T:List jL)(u:jL):∀(i:Nat),i<T.length->((((((fH T).set (i*5) (.string u.1)).set (i*5+1) (.int .i64 u.2.1)).set (i*5+2) (.string u.2.2.1)).set (i*5+3) (.string u.2.2.2.1)).set (i*5+4) (.float .f64 u.2.2.2.2))=fH (T.set i u):=by
 induction T with
 |nil=>intro i h;simp at h
 |cons a T b=>
  intro i h;cases i with
  |zero=>rfl
  |succ i=>have:=b i (by simpa using h);rw[nZ];show _=CO a++fH (T.set i u);rw[<-this,show(i+1)*5=i*5+5 from by omega,show i*5+5+1=i*5+1+5 from by omega,show i*5+5+2=i*5+2+5 from by omega,show i*5+5+3=i*5+3+5 from by omega,show i*5+5+4=i*5+4+5 from by omega];rfl
def aQ0(T:List jL)(k:Nat)(S:List jL):Prop:=S.length=T.length/\∀m,m<T.length->S[m]?=if m<k\/T.length<=m+k then T[T.length-1-m]? else T[m]?
def aA6(T:List jL):aQ0 T 0 T:=⟨rfl,λm a=>by rw[aQ (by omega)]⟩
def aV9(h:aQ0 T n S)(l:n+n+1<T.length){a b:jL}(i:S[n]?=some a)(j:S[T.length-1-n]?=some b):aQ0 T (n+1) ((S.set n b).set (T.length-1-n) a):=by
 refine⟨by simp[h.1],λm k=>?_⟩;have f:=h.2 n (by omega);rw[aQ (by omega),i]at f;have g:=h.2 (T.length-1-n) (by omega);rw[aQ (by omega),j]at g;by_cases d:m=T.length-1-n
 .subst d;rw[gI (by rw[nJ,h.1];omega),aU (.inr (by omega)),show T.length-1-(T.length-1-n)=n from by omega,<-f]
 rw[jD (λc=>d c.symm)];by_cases e:m=n
 .subst e;rw[gI (by rw[h.1];omega),aU (.inl (by omega)),<-g]
 rw[jD (λc=>e c.symm),h.2 m k];by_cases c:m<n\/T.length<=m+n
 .rw[aU c,aU (by omega)]
 rw[aQ c,aQ (by omega)]
def bs9(h:aQ0 T n S)(c:¬n+n+1<T.length):S=T.reverse:=by
 apply p7;intro m;rcases cR m T.length with a|a
 .rw[h.2 m a,cu2 a];by_cases b:m<n\/T.length<=m+n
  .rw[aU b]
  rw[aQ b,show T.length-1-m=m from by omega]
 rw[jS (by rw[h.1];exact a),jS (by simpa using a)]
def bq7{a:jL}(h:S[k]?=some a):(fH S)[k*5]?=some (.string a.1)/\(fH S)[k*5+1]?=some (.int .i64 a.2.1)/\(fH S)[k*5+2]?=some (.string a.2.2.1)/\(fH S)[k*5+3]?=some (.string a.2.2.2.1)/\(fH S)[k*5+4]?=some (.float .f64 a.2.2.2.2):=by
 induction S generalizing k with
 |nil=>simp at h
 |cons x S ih=>
  cases k with
  |zero=>simp at h;subst h;exact⟨rfl,rfl,rfl,rfl,rfl⟩
  |succ k=>
   obtain⟨h0,h1,h2,h3,h4⟩:=ih (k:=k) (by simpa using h);have e:fH (x::S)=CO x++fH S:=rfl;rw[e,show(k+1)*5=k*5+5 from by omega,show k*5+5+1=k*5+1+5 from by omega,show k*5+5+2=k*5+2+5 from by omega,show k*5+5+3=k*5+3+5 from by omega,show k*5+5+4=k*5+4+5 from by omega];exact⟨h0,h1,h2,h3,h4⟩
def aD4{i:Nat}(h:w.ownsRow n 133 5 (.slice (some ⟨k,0,none⟩) m j) m (fH T))(a:i<T.length)(u:jL):
 (((((w.setCell ⟨k,i*5,none⟩ (.string u.1)).setCell ⟨k,i*5+1,none⟩ (.int .i64 u.2.1)).setCell ⟨k,i*5+2,none⟩ (.string u.2.2.1)).setCell ⟨k,i*5+3,none⟩ (.string u.2.2.2.1)).setCell ⟨k,i*5+4,none⟩ (.float .f64 u.2.2.2.2)).ownsRow n 133 5 (.slice (some ⟨k,0,none⟩) m j) m (fH (T.set i u)):=by rw[<-ay5 T u i a];exact(((((h.stored (i*5) _).1.stored (i*5+1) _).1.stored (i*5+2) _).1.stored (i*5+3) _).1.stored (i*5+4) _).1
def ar7(w:aI)(r:Option Nat):w.grownBy w r:=⟨rfl,rfl,rfl,aO _,λk b a=>rfl⟩
def ar8(w:aI)(r:Option Nat):w.grownBy w.drew r:=⟨(aY w.heap.size w).drew.os,(aY w.heap.size w).drew.tape,(aY w.heap.size w).drew.output,(aY w.heap.size w).drew.size,λk a _=>(aY w.heap.size w).drew.block k a⟩
def mR{y:aI}{r:Option Nat}(a:w.grownBy x r)(b:x.grownBy y r):w.grownBy y r:=
 ⟨b.os.trans a.os,b.tape.trans a.tape,b.output.trans a.output,aL a.size b.size,λk d c=>(b.block k (aW d a.size) c).trans (a.block k d c)⟩
def YL(w:aI)(b i:Nat)(u:jL):w.grownBy (((((w.setCell ⟨b,i*5,none⟩ (.string u.1)).setCell ⟨b,i*5+1,none⟩ (.int .i64 u.2.1)).setCell ⟨b,i*5+2,none⟩ (.string u.2.2.1)).setCell ⟨b,i*5+3,none⟩ (.string u.2.2.2.1)).setCell ⟨b,i*5+4,none⟩ (.float .f64 u.2.2.2.2)) (some b):=
 mR (mR (mR (mR (jN w ⟨b,i*5,none⟩ _) (jN _ ⟨b,i*5+1,none⟩ _)) (jN _ ⟨b,i*5+2,none⟩ _)) (jN _ ⟨b,i*5+3,none⟩ _)) (jN _ ⟨b,i*5+4,none⟩ _)
def XJ{i:Nat}{a:jL}(h:w.ownsRow n 133 5 (.slice (some ⟨k,0,none⟩) m i) m (fH T))(p:T[j]?=some a):
 (w.cell? ⟨k,j*5,none⟩=some (.string a.1)/\w.cell? ⟨k,j*5+1,none⟩=some (.int .i64 a.2.1)/\w.cell? ⟨k,j*5+2,none⟩=some (.string a.2.2.1)/\w.cell? ⟨k,j*5+3,none⟩=some (.string a.2.2.2.1)/\w.cell? ⟨k,j*5+4,none⟩=some (.float .f64 a.2.2.2.2))/\
 (w.frozen? ⟨k,j*5,none⟩=false/\w.frozen? ⟨k,j*5+1,none⟩=false/\w.frozen? ⟨k,j*5+2,none⟩=false/\w.frozen? ⟨k,j*5+3,none⟩=false/\w.frozen? ⟨k,j*5+4,none⟩=false):=by
  have d:=dZ h (by simp[Value.ownBlock]:(Value.slice (some ⟨k,0,none⟩) m i).ownBlock=some k);obtain⟨e,f,g,l,o⟩:=bq7 p;have c:∀{q:Nat} {x:aN},(fH T)[q]?=some x->q<(fH T).length:=λh=>(aR.1 h).1;have b:∀{q:Nat} {x:aN},(fH T)[q]?=some x->w.cell? ⟨k,q,none⟩=some x:=λh=>by rw[d.cell _ (c h),<-h,aK (c h)]
  exact⟨⟨b e,b f,b g,b l,b o⟩,d.frozen _ (c e),d.frozen _ (c f),d.frozen _ (c g),d.frozen _ (c l),d.frozen _ (c o)⟩
def VE(h:w.ownsRow n 133 5 v k (fH T))(D:k=T.length)(O:k<=1000000):
 Calls prog 97 #[v] w λe E=>e=.returned (.tuple #[])/\E.ownsRow n 133 5 v k (fH T.reverse)/\w.grownBy E v.ownBlock:=by
  obtain⟨A,c,rfl,-⟩:=id (Reads.dC h);have⟨G,p⟩:=aA h D;clear h D;go_in;go_wp2_with fail
  go_loopw [2,3] (λi j wr=>∃(h0:Nat)(S:List jL),h0<=k/\i=.int .i64 h0/\j=.int .i64 ((k:Int)-1-(h0:Int))/\aQ0 T h0 S/\wr.ownsRow n 133 5 (.slice A k c) k (fH S)/\w.grownBy wr (Value.slice A k c).ownBlock) (λi _ _=>k-(intOf i).toNat)
  .exact⟨0,T,bO _,rfl,by simp,aA6 T,G.out,ar7 _ _⟩
  obtain⟨h0,S,hk,rfl,rfl,m,f,q⟩:=hrel;by_cases d:h0+h0+1<k
  .obtain⟨b,rfl⟩:∃b,A=some ⟨b,0,none⟩:=by
    rcases f.2 with⟨C,h8⟩|⟨g,K,L,C,-⟩
    .omega
    cases C;exact⟨g,rfl⟩
   obtain⟨J,s⟩:∃J:Nat,(k:Int) - 1 - (h0:Int)=(J:Int):=⟨k - 1 - h0,by omega⟩;rw[s];have a:J=T.length-1-h0:=(by rw[<-p.out];omega);have t:S.length=k:=(by rw[m.1,p.out]);obtain⟨x,u⟩:∃x,S[h0]?=some x:=⟨_,aK (by omega)⟩;obtain⟨y,z⟩:∃y,S[J]?=some y:=⟨_,aK (by omega)⟩;obtain⟨⟨Q,R,U,V,W⟩,f0,f1,f2,f3,f4⟩:=XJ f u;obtain⟨⟨X,Y,Z,y3,y4⟩,g0,g1,g2,g3,g4⟩:=XJ f z;have P:(h0:Int)<(J:Int):=(by omega);have l:=aV9 m (by rw[<-p.out];exact d) u (by rw[<-a];exact z);rw[<-a]at l;have⟨H,B,o⟩:=aB l (aD4 (aD4 f (i:=h0) (by omega) y) (i:=J) (by rw[nJ];omega) x) (mR q (mR (YL wr b h0 y) (YL _ b J x)));have N:h0<J:=(by omega);have M:J<k:=(by omega);have F:=aH (And.intro s a);obtain⟨p1,p2,p3,p4,p5⟩:=x;obtain⟨q1,q2,q3,q4,q5⟩:=y;simp only at Q R U V W X Y Z y3 y4 B o;clear f m q u z a t s d l;(go_wp2_with fail);go_region;go_wp2;go_roundw
   .
    refine⟨h0+1,_,by omega,by go_num,?_,H.out,cA B.out (aY _ _).drew,mR o.out (ar8 _ _)⟩;have:=F.out.1;congr 1;omega
   simp[intOf];omega
  have P:¬(h0:Int)<(k:Int)-1-(h0:Int):=(by omega);have⟨I,r,o⟩:=aB (bs9 m (by rw[<-p.out];exact d)) f q;clear m f q;go_wp2;go_end0;rw[<-I.out];exact⟨rfl,r.out,o.out⟩
def br6{M:List Nat}{k:Nat}(h:M.length<=k):IV M (k+1)=IV M k:=by unfold IV;rw[aX (by omega),aX h]
def bt7{u:aN}(h:wO w n k v u T M m)(vl:aN)(l:List jL)(hl:vA w vl l)(hn:l.length<=1000000)(hT:T.length<=1000000)(hM:M.length<=1000000)(hS:∀xw,IV M xw<=T.length):
 Calls prog 45 #[.pointer (some ⟨k,0,none⟩),vl] w λe L=>aQ2 w T M m l e L\/ZS w n k v u T M m l e L:=by
  obtain⟨A,c,rfl,x9,xs,-⟩:=id h.2.2.1.reads;obtain⟨A',c',rfl,x8,xr,-⟩:=id h.2.2.2.1.reads;obtain⟨Al,cl,rfl,-⟩:=id hl.1;obtain⟨xy,hN⟩:∃xy,xy=M.length:=⟨_,rfl⟩;obtain⟨tn,O⟩:∃tn,tn=T.length:=⟨_,rfl⟩;obtain⟨t,N⟩:∃t,t=l.length:=⟨_,rfl⟩;have⟨p,q,f,H,HL,HS⟩:=aE hN O N h hl hS;have ha:∀L,aS w.heap.size w L->L.cell? ⟨k,0,none⟩=some (.slice A tn c)/\L.cell? ⟨k,1,none⟩=some (.slice A' xy c')/\L.cell? ⟨k,2,none⟩=some (.int .i64 m):=λL hb=>by have:=(h.r.next hb).cells;rwa[<-hN,<-O]at this
  have h3:=aH ha;rw[<-O]at hT x9;rw[<-hN]at hM x8;rw[<-N]at hn;rw[show l.length=t from N.symm];have hf:=aH ha;clear h hl hN O N ha hS hf;go_in;go_wp2_with fail
  go_loopw [5,6] (λal i wr=>∃xw:Nat,xw<=xy+1/\i=.int .i64 xw/\al=.int .i64 ((IV M xw:Nat):Int)/\(∀s,s<xw->¬RJ T M m l s)/\aS w.heap.size w wr) (λ_ i _=>xy+1-(intOf i).toNat)
  .exact⟨0,by omega,rfl,by rw[af6];rfl,λs D=>by omega,aY _ _⟩
  obtain⟨xw,hk,rfl,rfl,J,h6⟩:=hrel;have⟨hi,o⟩:=aA J h6;obtain⟨z0,z1,z2⟩:=h3.out _ h6;clear J h6;by_cases xd:xw<=xy
  .have i1:(xw:Int)<=xy:=(by omega);obtain⟨K,d⟩:∃K,K=IV M xw:=⟨_,rfl⟩;have xt:K<=tn:=(by rw[d,q.out];exact HS.out xw);rw[<-d];have F:=aH d;clear d;by_cases r:m<=xw/\K=t
   .obtain⟨x6,x7⟩:=r;have i2:(m:Int)<=xw:=(by omega);have e1:((K:Int)==t)=true:=(by rw[gG];omega);have e2:(K:Int)=t:=(by omega);obtain⟨wo,rfl⟩:∃x,x=wr:=⟨_,rfl⟩;have⟨xj,xi,xh,h0⟩:=aC (show vA wo (.slice A T.length c) T from(H.out.r.next o.out).2.1) (HL.out.next o.out) x6 x7;clear x6 x7;(go_wp2_with fail);go_loopw [7] (λi wr=>∃j:Nat,j<=t/\i=.int .i64 j/\(∀xx,xx<j->l[xx]?=T[xx]?)/\aS wo.heap.size wo wr) (λi _=>t-(intOf i).toNat)
    .exact⟨0,by omega,rfl,λxx hm=>by omega,aY _ _⟩
    obtain⟨j,hj,rfl,W,g⟩:=hrel;have⟨V,hg⟩:=aA W g;clear W;by_cases xc:j<t
    .have i3:(j:Int)<t:=(by omega);have i4:(j:Int)<tn:=(by have:=h0.out;omega);obtain⟨x,hx⟩:∃x,l[j]?=some x:=⟨_,aK (by have:=f.out;omega)⟩;obtain⟨y,hy⟩:∃y,T[j]?=some y:=⟨_,aK (by have:=q.out;omega)⟩;have P:=xi.out;have Q:=xj.out;rw[show l.length=t from f.out.symm]at P;rw[show T.length=tn from q.out.symm]at Q;obtain⟨bx,ox,rfl,-,xa⟩:=P.later (by have:=f.out;omega);obtain⟨xu,oy,rfl,-,xb⟩:=Q.later (by have:=q.out;omega);have cx:=λz:dY wr=>xa j x hx z.it (aJ g z.ok);have cy:=λz:dY wr=>xb j y hy z.it (aJ g z.ok);have cz:=λz:dY wr=>(h3.out z.it (aJ o.out (aJ g z.ok))).1;have hp:=λz=>(cx z).1;have hq:=λz=>(cx z).2.1;have hr:=λz=>(cx z).2.2.1;have hs:=λz=>(cx z).2.2.2.1;have ht:=λz=>(cx z).2.2.2.2;have hu:=λz=>(cy z).1;have hv:=λz=>(cy z).2.1;have hw:=λz=>(cy z).2.2.1;have hz:=λz=>(cy z).2.2.2.1;have x0:=λz=>(cy z).2.2.2.2;have d:=λL=>ah0 x y L (P.2 x (bD hx)) (Q.2 y (bD hy));have⟨Hx,Hy⟩:=aA hx hy;clear cx cy xa xb hx hy g P Q;by_cases E:x=y
     .have X:decide (x=y)=true:=(by simp[E]);simp only[X]at d;have xk:=aH E;obtain⟨x1,x2,x3,x4,x5⟩:=x;obtain⟨y1,y2,y3,y4,y5⟩:=y;dsimp only[oJ]at d hp hq hr hs ht hu hv hw hz x0;have G:=aH d;clear d X E;(go_wp2_with fail);refine cU (by kernel_rfl) (by kernel_rfl) ?_;(repeat go_big_quiet_step ((go_at_call 72;exact eP _ (G.out _))));refine wpQuiet_nil ?_;intro _ hx;obtain⟨⟨w4,h5⟩,rfl⟩:=hx;go_wp2;go_roundw
      .
       refine⟨j+1,by omega,by go_num,λxx hm=>?_,aJ hg.out h5⟩;rcases cR xx j with B|B
       .exact V.out xx B
       obtain rfl:xx=j:=(by omega);rw[Hx.out,Hy.out,xk.out]
      simp[intOf];omega
     have X:decide (x=y)=false:=(by simp[E]);simp only[X]at d;have Z:∀s,¬RJ T M m l s:=λs D=>by have h8:=Hx.out;rw[<-D.2.2.2,iH (by rw[<-f.out];exact xc),Hy.out]at h8;exact E (cS h8).symm
     have ho:=aH Z;obtain⟨x1,x2,x3,x4,x5⟩:=x;obtain⟨y1,y2,y3,y4,y5⟩:=y;dsimp only[oJ]at d hp hq hr hs ht hu hv hw hz x0;have G:=aH d;clear d X E Z;(go_wp2_with fail);refine cU (by kernel_rfl) (by kernel_rfl) ?_;(repeat go_big_quiet_step ((go_at_call 72;exact eP _ (G.out _))));refine wpQuiet_nil ?_;intro _ hx;obtain⟨⟨w4,h5⟩,rfl⟩:=hx;go_wp2;go_ret;exact .inl ⟨rfl,ho.out,aJ o.out (aJ hg.out h5)⟩
    obtain rfl:j=t:=(by omega);have xf:T.take l.length=l:=by
     apply p7;intro xx;rcases cR xx j with B|B
     .rw[iH (by rw[<-f.out];exact B),V.out xx B]
     rw[List.getElem?_take_eq_none (by rw[<-f.out];exact B),jS (by rw[<-f.out];exact B)]
    have C:=aJ o.out g;have Y:RJ T M m l xw:=⟨by rw[<-p.out];exact xd,xh.out,by rw[<-F.out,<-f.out];exact h0.out,xf⟩;have I:=cd4 (k:=xw) (a:=l.length) H.out C (by rw[<-p.out];exact xd) (by rw[<-f.out,<-q.out];have:=h0.out;omega) (by rw[<-q.out];exact hT) (by rw[<-p.out];exact hM);rw[show l.length=j from f.out.symm]at I;have f0:=(H.out.1.next C).frozen 0 (by simp);have f1:=(H.out.1.next C).frozen 1 (by simp);have f2:=(H.out.1.next C).frozen 2 (by simp);obtain⟨y0,y1,y2⟩:=h3.out _ C;have xl:K<=c:=(by omega);have xm:xw<=c':=(by omega);have⟨hh,S⟩:=aA Y I;clear xf C Y I g z0 z1 z2 hj xc;(go_wp2_with fail);go_region;go_wp2;go_ret;refine .inr ⟨xw,.slice A j j,.slice A' xw xw,rfl,hh.out,?_,jZ.trans S.out.2 (jZ.cQ (aY _ _).drew _ _),LQ _ _ _ _ _,LQ _ _ _ _ _⟩;rw[show l.length=j from f.out.symm];exact S.out.1.next (aY _ _).drew
   have J:¬RJ T M m l xw:=λX=>r ⟨X.2.1,by rw[F.out,X.2.2.1,f.out]⟩;have U:=aH (show∀s,s<xw+1->¬RJ T M m l s from λs D=>by
    rcases cR s xw with B|B
    .exact hi.out s B
    obtain rfl:s=xw:=(by omega);exact J)
   have xn:¬(m:Int)<=xw\/((m:Int)<=xw/\((K:Int)==t)=false):=by
    rcases(show¬m<=xw\/(m<=xw/\K≠t)from by omega)with B|⟨B,h8⟩
    .exact .inl (by omega)
    exact .inr ⟨by omega,by rw[bI];omega⟩
   clear J r;by_cases xv:xw<xy
   iterate 2
    .first
      |obtain⟨xx,hm⟩:∃xx,M[xw]?=some xx:=⟨_,aK (by have:=p.out;omega)⟩
       have he:=af7 hm;have xe:IV M (xw+1)<=tn:=by rw[q.out];exact HS.out (xw+1)
       have h7:∃b R,A'=some ⟨b,R,none⟩/\wr.cell? ⟨b,R+xw,none⟩=some (.int .i64 xx):=by
        obtain⟨A9,c9,xq,-,-,-,hc⟩:=(H.out.r.next o.out).2.2;obtain⟨rfl,-,rfl⟩:=eV xq;obtain⟨b,R,rfl,-,xo⟩:=hc (by have:=p.out;omega);refine⟨b,R,rfl,?_⟩;rw[xo xw (by rw[aq6];have:=p.out;omega)];unfold qQ;rw[sN];have xp:=(aR.1 hm).2;rw[xp]
       obtain⟨b9,o9,rfl,c9⟩:=h7;have i5:(xw:Int)<xy:=(by omega);have h4:=aH he;have q1:(K:Int)+xx<=1000000:=(by rw[he,<-F.out]at xe;omega);clear hm he xe
      |have i5:¬(xw:Int)<xy:=by omega
       have h4:=aH (br6 (M:=M) (k:=xw) (by rw[<-p.out];omega))
     rcases xn with h1|⟨h1,h2⟩
     all_goals
      go_wp2;go_roundw;(first|(case rel=>exact⟨xw+1,by omega,by go_num,by rw[h4.out,<-F.out];first|rfl|go_num|(congr 1;omega),U.out,o.out⟩)|(case rel=>exact⟨xw+1,by omega,by go_num,by rw[h4.out,<-F.out],U.out,o.out⟩));simp[intOf];omega
  obtain rfl:xw=xy+1:=(by omega);have i1:¬(((xy+1:Nat):Int))<=xy:=(by omega);go_wp2;go_ret;refine .inl ⟨rfl,λs D=>hi.out s (by have:=D.1;have:=p.out;omega) D,o.out⟩
end Go.Proofs.YtpopikndggffaaaGreatDoor
