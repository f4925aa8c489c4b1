/- TOP, part 1. -/
import Derived.BigQuiet
import Derived.Deep.QuietTactic
import Derived.Laws.Externs
import Derived.Laws.FloatArith
import Derived.Test.YtpopikndggffaaaGreatDoorProg
import Derived.WalkLawsBesides
import Derived.WalkSpells
import Derived.Test.YtpopikndggffaaaGreatDoorGt0
namespace Go.Proofs.YtpopikndggffaaaGreatDoor
set_option linter.all false
set_option maxRecDepth 100000
set_option maxHeartbeats 16000000
open Go.RowKit Tryz
def xG(s:aS)(w:aI)(c:s<=maxLen):Calls prog 169 #[s] w λe d=>e=.returned (zu (pF (lb s)))/\w=d:=by
 unfold maxLen at c;by_cases f:s.size<=8
 all_goals
  have a:(s.size:Int)<=8\/(8:Int)<s.size:=by omega
  go_in;go_wp2
  go_loop [3,8] (λn i=>∃k:Nat,k<=s.size/\k<=8/\i=.int .i64 k/\n=.int .u64 (num ((lb s).take k))) (λ_ i=>8-(intOf i).toNat)
  .exact⟨0,bK _,bK _,rfl,rfl⟩
  obtain⟨k,g,b,rfl,rfl⟩:=hrel;go_wp2
  .go_round
   .exact⟨k+1,by omega,by omega,by go_num,gQ (Value.int .u64) (bM9 s k (by omega) (by omega))⟩
   simp[intOf];omega
  go_ret;refine⟨mJ (gQ Int.ofNat ?_),rfl⟩;unfold pF;by_cases e:k=8
  .subst e;rfl
  rw[aT (by rw[bI];omega),aT (by rw[bI];omega)]
def infoByte:(prog.info? 5).map (λi=>(i.zero,i.size,i.bytes))=some (some (.int .u8 0),1,1):=by kernel_rfl
def aN7(n a:Int)(w:aI)(h:a<1\/8<a):Calls prog 138 #[zu n,a] w λe c=>e=(bs (qY n.toNat a))/\aR w w c:=by
 have b:qY n.toNat a=[]:=(by unfold qY;rw[aV h]);rw[b];clear b;rcases h with h|h
 iterate 2
  ·(try (have d:¬a<1:=by omega));go_in;go_wp2;go_ret;exact⟨rfl,iH⟩
def ax3(n:Int)(c:Nat)(w:aI)(o:0<=n)(x:n<18446744073709551616)(A:1<=c)(B:c<=8):Calls prog 138 #[zu n,c] w λe y=>e=(bs (qY n.toNat c))/\aR w w y:=by
 have⟨i0,l,p,q,r⟩:=info_parts infoByte;have s:¬(c:Int)<1:=(by omega);have t:¬(8:Int)<c:=by omega
 go_in;(go_wp2_with (refine wpList_make_full _ rfl _ _ 110 rfl w 5 i0 _ 1 underlying110 l p q .i64 .i64 c c c rfl rfl rfl rfl (by rw[r];omega) (by unfold maxLen;omega) dQ ?_;intro z b g));have d:aR w w z:=iH.grown g dQ (by simp);go_loopw [16] (λi wr=>∃k:Nat,k<=c/\i=.int .i64 k/\wr.ownsRow w 5 1 (.slice (zp w) c c) c (uO (c-k)++dM (be k n.toNat))/\aR w w wr) (λi _=>c-(intOf i).toNat)
 .refine⟨0,bK _,rfl,?_,d⟩;rw[PR]at b;simpa[dM,be]using b
 obtain⟨k,C,rfl,a,f⟩:=hrel;have j:k<c->wr.cell? (zp w (c-1-k))=some (.int .u8 0):=λh=>by rw[a.cellAt _ (by omega),fO (by simp[uO];omega)];simp[uO,tU];omega
 have v:wr.frozen? (zp w (c-1-k))=false:=a.frozenAt _;have u:¬k<c->(convert 110 9 (.slice (zp w) c c)).run prog wr=.ok (bs (be c n.toNat)) wr:=λh=>by have e:k=c:=(by omega);subst e;refine ac9 (base:=w.heap.size) ?_ underlying110 underlying5 underlying9;simpa[uO]using a
 clear b g d;go_wp2
 .have m:k<c:=(by assumption);go_roundw
  .refine⟨k+1,by omega,by go_num,?_,f.setCell dQ _⟩;rw[<-bF8 c k n o m];exact(a.stored _ _).1
  simp[intOf];omega
 go_ret;refine⟨zI (gQ bs ?_),f⟩;unfold qY;rw[aP (by omega)];rfl
def tM(n b:Int)(w:aI)(d:0<=n)(f:n<18446744073709551616):Calls prog 138 #[zu n,b] w λe g=>e=(bs (qY n.toNat b))/\aR w w g:=by
 by_cases h:b<1\/8<b
 .exact aN7 n b w h
 obtain⟨c,rfl⟩:=cR (a:=b) (by omega);exact ax3 n c w d f (by omega) (by omega)
def TY(s:aS)(w:aI)(f:s.size<=9223372036854775000):Calls prog 137 #[s] w λe c=>e=(bs (oU (lb s)))/\aR w w c:=by
 by_cases h:s.size<=65535
 .have d:¬(65535:Int)<s.size:=by omega
  go_in;go_wp2_with fail
  go_call tM _ _ _ (by omega) (by omega) as e c ⟨rfl,a⟩;have b:(bs (qY s.size 2)).size=2:=(by rw[eO,aK9 _ _ (by omega) (by omega)];rfl);have H:=aH a;clear a;go_wp2;go_ret;refine⟨zI ?_,H⟩;rw[AK];unfold oU qY;rw[aP (by omega),aP (by rw[bI];omega),bI];rfl
 have d:(65535:Int)<s.size:=by omega
 go_in;go_wp2;go_ret;refine⟨zI ?_,iH⟩;unfold oU;rw[aV (by rw[bI];omega)];rfl
def TZ(s:aS)(w:aI)(t:s.size<=9223372036854775000):Calls prog 171 #[s] w λe o=>e=.returned (.tuple #[bs (pO (lb s)),bs (gY (lb s)),lI (lb s)])/\aR w w o:=by
 by_cases g:s.size<2
 .have b:lI (lb s)=false:=(by unfold lI;rw[bI];simp;omega);unfold pO gY;rw[b];clear b;have p:(s.size:Int)<2:=by omega
  go_in;go_wp2;go_ret3;exact⟨rfl,iH⟩
 have p:¬(s.size:Int)<2:=by omega
 go_in;(go_wp2_with fail);refine(xG _ _ ?_).mono ?_
 .rw[dY,eO];simp[maxLen];omega
 rintro e o ⟨rfl,rfl⟩;have n:pF (lb (s.extract 0 2))=num ((lb s).take 2):=by rw[dY,gP];unfold pF;rw[aT (by simp;omega)];rfl
 rw[n];clear n;have r:num ((lb s).take 2)<65536:=LI s 2;have⟨q,j⟩:=fR (num ((lb s).take 2));rw[<-j]at r|-;have c:=ca0 s g;have d:=bZ9 s g;have f:=bZ8 s g;rw[<-j]at c d f;have⟨k,l,m⟩:=aB c d f;clear c d f j;by_cases a:s-2<q
 .have h:(s.size:Int)-2<q:=(by omega);go_wp2;go_ret3;refine⟨?_,iH⟩;rw[k.zz,l.zz,m.zz,aV a,aV a,bZ a];rfl
 have h:¬(s.size:Int)-2<q:=(by omega);go_wp2_with fail
 go_quiet (fail);go_wp2;go_ret3;refine⟨?_,below_drewN iH _⟩;rw[k.zz,l.zz,m.zz,aP a,aP a,bN a,dY,dY,aT (i:=s.size-(2+q)) (by simp)];rw[show 2+q-2=q from by omega];rfl
def bt9(s:aS)(w:aI)(b:s<=maxLen):Calls prog 128 #[s] w λe c=>e=.returned (zu (pF (lb s)))/\w=c:=by
 unfold maxLen at b;go_in;go_wp2
 go_loop [3,4] (λn i=>∃k:Nat,k<=s/\k<=8/\i=.int .i64 k/\n=.int .u64 (num ((lb s).take k))) (λ_ i=>8-(intOf i).toNat)
 .exact⟨0,bK _,bK _,rfl,rfl⟩
 obtain⟨k,d,a,rfl,rfl⟩:=hrel;go_wp2
 .go_round
  .exact⟨k+1,by omega,by omega,by go_num,gQ (Value.int .u64) (aw1 s k (by omega) (by omega))⟩
  simp[intOf];omega
 iterate 2
  .go_ret;exact⟨mJ (gQ Int.ofNat (bN0 s k (by omega))),rfl⟩
def aJ5(n c:Nat)(w:aI)(j:n<18446744073709551616)(p:1<=c)(r:c<=8):Calls prog 105 #[zu n,c] w λe o=>e=(bs (qY n c))/\aR w w o:=by
 have f:¬(c:Int)<1:=(by omega);have g:¬(8:Int)<c:=by omega
 go_in;go_wp2;go_loopw [0,5,6] (λm s i wr=>∃k q:Nat,k<=c/\q=n/256^k/\i=.int .i64 k/\m=.int .u64 q/\s=.string (bs (be k n))/\aR w w wr) (λm s i _=>c-(intOf i).toNat)
 .exact⟨0,n,bK _,by simp,rfl,rfl,rfl,iH⟩
 obtain⟨k,q,t,b,rfl,rfl,rfl,a⟩:=hrel;have l:q<=n:=(by rw[b];exact bS2 _ _);have u:(bs (be k n))=k:=(by rw[eO,lF]);have d:=aH b;clear b;have h:=λW:aI=>as0 (P:=prog) ((q:Int)%256) (by omega) (by omega) underlying110 underlying5 underlying9 W;go_wp2
 .go_roundw
  .
   refine⟨k+1,q/256,by omega,?_,by go_num,by go_num,?_,a.alloc (xU a) _⟩
   .rw[d.zz,nK,qU]
   rw[jX,by4,<-d.zz];rfl
  simp[intOf];omega
 go_ret;refine⟨zI (gQ bs ?_),a⟩;obtain rfl:k=c:=(by omega);unfold qY;rw[aP (by omega)];rfl
def XL(n b:Int)(w:aI)(d:0<=n)(g:n<18446744073709551616):Calls prog 105 #[zu n,b] w λe i=>e=(bs (qY n.toNat b))/\aR w w i:=by
 by_cases h:b<1\/8<b
 .have f:qY n.toNat b=[]:=(by unfold qY;rw[aV h]);rw[f];clear f;rcases h with h|h
  iterate 2
   ·(try (have j:¬b<1:=by omega));go_in;go_wp2;go_ret;exact⟨rfl,iH⟩
 obtain⟨c,rfl⟩:=cR (a:=b) (by omega);obtain⟨m,rfl⟩:=cR d;exact aJ5 m c w (by omega) (by omega) (by omega)
def YN(s:aS)(w:aI)(d:s.size<=9223372036854775000):Calls prog 104 #[s] w λe c=>e=(bs (oU (lb s)))/\aR w w c:=by
 by_cases h:s.size<=65535
 iterate 2
  ·(first|((have a:¬(65535:Int)<s.size:=by omega);(have b:=λW:aI=>bP9 (P:=prog) ((s.size:Int)/256) ((s.size:Int)%256) (by omega) (by omega) (by omega) (by omega) underlying110 underlying5 underlying9 W))|(have a:(65535:Int)<s.size:=by omega));go_in;go_wp2;go_ret;first|refine⟨zI ?_,iH.alloc dQ _⟩;rw[AK]|refine⟨zI ?_,iH⟩
   unfold oU;first|(rw[aP (by rw[bI];omega),bI,cI8 _ (by omega)])|((rw[aV (by rw[bI];omega)]);rfl)
@[go_sem] def bT1{A:Program}{w:aI}{a:Addr}{m:Mode}(k:FloatKind)(n:Nat):(store a (.float k n) m).run A w=stored A w a (.float k n) m:=run_store A w a _ m rfl
def KU(n:Nat)(w:aI):(callFunc 163 #[.float .f64 n]).run prog w=.ok (.value (zu n)) w:=by rw[run_callFunc_extern (P:=prog) (fn:=f163) (e:=Extern.MathFloatBits.float64bits) (by kernel_rfl) (by kernel_rfl) (by kernel_rfl) (by kernel_rfl) (by kernel_rfl)];rfl
variable{c:bB}
def UF(n:Nat):bB:=UInt8.ofNat (48+n%10)
def wW:Nat->Nat->List bB
 |0,_=>[]
 |k+1,n=>wW k (n/10)++[UF n]
@[simp] def aU2(k n:Nat):(wW k n)=k:=by
 induction k generalizing n with
 |zero=>rfl
 |succ k a=>simp[wW,a]
def UE(k n:Nat):wW (k+1) n=UF (n/10^k)::wW k n:=by
 induction k generalizing n with
 |zero=>simp[wW]
 |succ k a=>rw[wW,a,wW,l8,qU,show 10*10^k=10^(k+1)from by rw[nK,oX]]
def SF(c:bB)(n:Nat):List bB:=c::wW 6 n
def lR(c:bB)(n:Int):aS:=if n<0\/999999<n then⟨#[]⟩else bs (SF c n.toNat)
def yV(n:Nat):(UF n).toNat=48+n%10:=by unfold UF;simp;omega
def cy4(k:Nat):∀n m:Nat,n<m->m<10^k->wW k n<wW k m:=by
 induction k with
 |zero=>intro n m f c;simp at c;omega
 |succ k s=>
  intro n m f c;rw[UE,UE];have i:0<10^k:=Nat.pow_pos (by omega);have r:m/10^k<10:=by rw[Nat.div_lt_iff_lt_mul i,oX];rwa [nK]at c
  have q:n/10^k<=m/10^k:=Nat.div_le_div_right (qT f);rcases cK (n/10^k) (m/10^k)with d|d
  .refine List.Lex.rel ?_;show UF _<UF _;rw[UInt8.lt_iff_toNat_lt,yV,yV];generalize n/10^k=a at d;generalize m/10^k=b at d r;omega
  have h:n/10^k=m/10^k:=(by omega);rw[h];refine List.Lex.cons ?_;have j:=WT n (10^k);have t:=WT m (10^k);rw[h]at j;have p:=s (n%10^k) (m%10^k) (by omega) (G0 _ i);have g:∀(k x:Nat),wW k (x%10^k)=wW k x:=by
   intro k;induction k with
   |zero=>intro x;rfl
   |succ k e=>
    intro x;rw[wW,wW];have l:x%10^(k+1)/10=x/10%10^k:=(by rw[nK,oX (10^k) 10,Nat.mod_mul_right_div_self]);have o:UF (x%10^(k+1))=UF x:=by unfold UF;rw[nK,Nat.mod_mul_left_mod]
    rw[l,o,e]
  rwa [g,g]at p
def bK8(c k:Nat)(n:Nat)(h:k<c):(uO (c-k)++dM (wW k n)).set (c-1-k) (.int .u8 ((UF (n/10^k)).toNat:Int))=uO (c-(k+1))++dM (wW (k+1) n):=by
 rw[UE];have e:uO (c-k)=uO (c-(k+1))++[.int .u8 0]:=by unfold uO;rw[show c-k=c-(k+1)+1 from by omega,xR]
 have a:(uO (c-(k+1)))=c-1-k:=(by simp[uO];omega);rw[e,bT,kC _ _ (by omega),a,iM];rfl
def ck2(m:Nat):48+(m:Int)%10=((UF m).toNat:Int):=by rw[yV];omega
def ci2{e:Int}(h:e<0\/999999<e):lR c e=⟨#[]⟩:=aV h
def PK(c:bB)(J:c=99\/c=116\/c=98)(n:Int)(w:aI)(M:-9223372036854775808<=n/\n<=9223372036854775807):Calls prog 165 #[.int .u8 (c.toNat:Int),n] w λe Q=>e=(lR c n)/\aR w w Q:=by
 have⟨O,P⟩:=M;by_cases h:n<0\/999999<n
 .rw[ci2 h];rcases(show n<0\/(¬n<0/\(999999:Int)<n)from by omega)with h|⟨h,S⟩
  all_goals
   go_in;go_wp2;go_ret;exact⟨rfl,iH⟩
 obtain⟨m,rfl⟩:=cR (a:=n) (by omega);have L:m<=999999:=(by omega);have G:=aH (show lR c (m:Int)=bs (c::wW 6 m)from by unfold lR;rw[aP h,bW];rfl);have⟨i0,x,z,A,B⟩:=info_parts infoByte;have U:¬(m:Int)<0:=(by omega);have V:¬(999999:Int)<m:=(by omega);clear h O P;go_in;(go_wp2_with (refine wpList_make_full _ rfl _ _ 110 rfl w 5 i0 _ 1 underlying110 x z A .i64 .i64 6 6 6 rfl rfl rfl rfl (by rw[B];omega) (by unfold maxLen;omega) dQ ?_;intro R d o));have l:aR w w R:=iH.grown o dQ (by simp);go_loopw [1,6,14] (λq j i wr=>∃k:Nat,k<=6/\i=.int .i64 k/\q=.int .i64 ((m/10^k:Nat):Int)/\wr.ownsRow w 5 1 (.slice (zp w) 6 6) 6 (uO (6-k)++dM (wW k m))/\aR w w wr) (λ_ _ i _=>6-(intOf i).toNat)
 .refine⟨0,bK _,rfl,by simp,?_,l⟩;rw[PR]at d;simpa[dM,wW]using d
 obtain⟨k,W,rfl,rfl,b,f⟩:=hrel;by_cases y:k<6
 .have X:(k:Int)<6:=by omega
  have u:wr.cell? (zp w (6-1-k))=some (.int .u8 0):=by rw[b.cellAt _ (by omega),fO (by simp[uO];omega)];simp[uO,tU];omega
  have K:wr.frozen? (zp w (6-1-k))=false:=b.frozenAt _;have C:=ck2 (m/10^k);have D:((m/10^k:Nat):Int)/10=((m/10^(k+1):Nat):Int):=(by rw[nK,<-qU];omega);have N:m/10^k<=999999:=aM (bS2 _ _) L;have g:=(b.stored (6-1-k) (.int .u8 ((UF (m/10^k)).toNat:Int))).1;rw[bK8 6 k m y]at g;have⟨t,E,F⟩:=aB g C D;clear g C D;generalize m/10^k=a at *;go_wp2;go_roundw
  .refine⟨k+1,by omega,by go_num,gQ (Value.int .i64) F,?_,f.setCell (p:=zp w (5-k)) dQ _⟩;rw[E.zz,show 5-k=6-1-k from by omega];exact t
  simp[intOf];omega
 obtain rfl:k=6:=by omega
 have v:(convert 110 9 (.slice (zp w) 6 6)).run prog wr=.ok (bs (wW 6 m)) wr:=by refine ac9 (base:=w.heap.size) ?_ underlying110 underlying5 underlying9;simpa[uO]using b
 have s:=aH f;clear b f d o l;have⟨T,r⟩:=fR (bs (wW 6 m));have I:T.size=6:=(by rw[r,eO,aU2]);rw[<-r]at v;have H:=aH r;clear r;rcases J with rfl|rfl|rfl
 all_goals
  go_wp2;go_ret;refine⟨zI ?_,s⟩;rw[G.zz,H.zz];rfl
def rR(n:Int)(w:aI)(d:-9223372036854775808<=n/\n<=9223372036854775807):Calls prog 109 #[n] w λe a=>e=(lR 99 n)/\aR w w a:=by
 have b:=PK 99 (.inl rfl) n w d;go_in;go_wp2_with fail
 go_call b as e a ⟨rfl,c⟩;go_wp2;go_ret;exact⟨rfl,c⟩
def zY(n:Int)(w:aI)(d:-9223372036854775808<=n/\n<=9223372036854775807):Calls prog 230 #[n] w λe a=>e=(lR 116 n)/\aR w w a:=by
 have b:=PK 116 (.inr (.inl rfl)) n w d;go_in;go_wp2_with fail
 go_call b as e a ⟨rfl,c⟩;go_wp2;go_ret;exact⟨rfl,c⟩
def LM(n:Int)(w:aI)(d:-9223372036854775808<=n/\n<=9223372036854775807):Calls prog 233 #[n] w λe a=>e=(lR 98 n)/\aR w w a:=by
 have b:=PK 98 (.inr (.inr rfl)) n w d;go_in;go_wp2_with fail
 go_call b as e a ⟨rfl,c⟩;go_wp2;go_ret;exact⟨rfl,c⟩
abbrev bH:=List bB
structure fK where
 data:bH
 sync:Nat
deriving DecidableEq
abbrev cA:=List (bH×fK)
structure aL where
 cap:Nat
 files:cA
 bQ:Nat
 down:Bool
 sC:Bool
 left:Nat
 eW:List Int
def bO(l:cA)(n:bH):Option fK:=match l with
 |[]=>none
 |(m,f)::l=>if m=n then some f else bO l n
def kN(l:cA)(n:bH):cA:=l.filter fun p=>!decide (p.1=n)
def eC:cA->bH->fK->cA
 |[],n,f=>[(n,f)]
 |(m,g)::l,n,f=>if m=n then(n,f)::l else if n<m then(n,f)::(m,g)::l else(m,g)::eC l n f
def dZ(l:cA):Nat:=(l.map fun p=>p.2.data.length).sum
def tB(l:cA):Prop:=l.Pairwise fun p q=>p.1<q.1
def mO(a:bH):¬a<a:=List.lt_irrefl a
def yX{s l x:bH}(a:s<l)(b:l<x):s<x:=List.lt_trans a b
def bQ3{s l:bH}(a:¬s<l)(b:s≠l):l<s:=by
 rcases Decidable.em (l<s)with h|h
 .exact h
 exact absurd (List.le_antisymm (List.not_lt.1 h) (List.not_lt.1 a)) b
def yQ{l:cA}{s:bH}{f:fK}(h:bO l s=f):(s,f)∈l:=by
 induction l with
 |nil=>cases h
 |cons p l b=>
  have⟨m,g⟩:=p;rw[bO]at h;split at h
  .rename_i a;cases h;subst a;simp
  exact iU _ (b h)
def NM{l:cA}{s:bH}(h:∀f,(s,f)∉l):bO l s=none:=by
 cases a:bO l s with
 |none=>rfl
 |some f=>exact absurd (yQ a) (h f)
def RZ{l:cA}(b:tB l){n:bH}{f:fK}(h:(n,f)∈l):bO l n=f:=by
 induction l with
 |nil=>cases h
 |cons p l c=>
  have⟨m,g⟩:=p;rw[bO];rcases cY.1 h with a|a
  .cases a;rw[aV rfl]
  have:=(dG.1 b).1 _ a;rw[aP (λh=>by subst h;exact mO _ this)];exact c (dG.1 b).2 a
def aL0{l:cA}{s:bH}{f:fK}{p:bH×fK}(h:p∈eC l s f):p=(s,f)\/(p∈l):=by
 induction l with
 |nil=>left;simpa[eC]using h
 |cons q l a=>
  have⟨m,g⟩:=q;rw[eC]at h;split at h
  .rcases cY.1 h with h|h
   .exact .inl h
   exact .inr (iU _ h)
  split at h
  .rcases cY.1 h with h|h
   .exact .inl h
   exact .inr h
  rcases cY.1 h with h|h
  .exact .inr (by rw[h];simp)
  exact(a h).imp id (iU _)
def vX{l:cA}(i:tB l)(n:bH)(f:fK):tB (eC l n f):=by
 induction l with
 |nil=>exact T4 _ _
 |cons q l j=>
  have⟨m,g⟩:=q;have⟨c,e⟩:=dG.1 i;rw[eC];split
  .rename_i d;subst d;exact dG.2 ⟨c,e⟩
  rename_i d;split
  .rename_i b;exact dG.2 ⟨λp a=>by
    rcases cY.1 a with rfl|a
    .exact b
    exact yX b (c p a),i⟩
  rename_i b;exact dG.2 ⟨λp a=>by
   rcases aL0 a with rfl|a
   .exact bQ3 b (λh=>d h.symm)
   exact c p a,j e⟩
def fF(l:cA)(n:bH)(f:fK)(m:bH):bO (eC l n f) m=if n=m then some f else bO l m:=by
 induction l with
 |nil=>rw[eC,bO];rfl
 |cons q l c=>
  have⟨k,g⟩:=q;rw[eC];split
  .rename_i a;subst a;rw[bO,bO];split<;>rfl
  rename_i a;split
  .rw[bO]
  rw[bO,c,bO];by_cases b:k=m
  .subst b;rw[aV rfl,aP (λh=>a h.symm),aV rfl]
  rw[aP b,aP b]
def iK(l:cA)(n m:bH):bO (kN l n) m=if n=m then none else bO l m:=by
 induction l with
 |nil=>unfold kN;simp[bO]
 |cons q l c=>
  have⟨k,g⟩:=q;unfold kN at c|-;rw[jK];by_cases b:k=n
  .subst b;simp only[decide_true,p8,bU,dW];rw[c,bO];by_cases a:k=m
   .rw[aV a,aV a]
   rw[aP a,aP a,aP a]
  simp only[b,decide_false,DM,eH];rw[bO,c,bO];by_cases a:k=m
  .subst a;rw[aV rfl,aP (λh=>b h.symm),aV rfl]
  rw[aP a,aP a]
def wK{l:cA}(a:tB l)(n:bH):tB (kN l n):=cN9 _ a
def lB{l:cA}(e:tB l)(n:bH)(f:fK):dZ (eC l n f)+((bO l n).map λg=>g.data.length).getD 0=dZ l+f.data:=by
 induction l with
 |nil=>simp[eC,dZ,bO]
 |cons q l h=>
  have⟨k,g⟩:=q;have⟨a,b⟩:=dG.1 e;rw[eC,bO];split
  .simp[dZ];omega
  rename_i j;split
  .rename_i c;have:bO l n=none:=NM λi d=>by have:=a _ d;exact mO _ (yX c this)
   rw[this];simp[dZ];omega
  have:=h b;simp only[dZ,dU,l6]at this|-;omega
def yJ{l:cA}(h:tB l)(n:bH):dZ (kN l n)+((bO l n).map λg=>g.data.length).getD 0=dZ l:=by
 induction l with
 |nil=>simp[kN,dZ,bO]
 |cons q l a=>
  have⟨k,g⟩:=q;have⟨c,d⟩:=dG.1 h;have a:=a d;rw[bO];unfold kN at a|-;rw[jK];by_cases b:k=n
  .subst b;simp only[decide_true,p8,bU,dW,eH];have:bO l k=none:=NM λi f=>by have e:=c _ f;exact mO _ e
   rw[this]at a;simp only[dZ,dU,l6]at a|-;simp at a|-;omega
  simp only[b,decide_false,DM,eH,dW];simp only[dZ,dU,l6]at a|-;omega
def aL.rU(D:aL):Bool:=D.sC&&decide (D.left=0)
def aL.tick(D:aL):aL:={D with left:=D.left - 1}
def sQ(a:Nat)(f:fK):fK:=⟨f.data.take (f.sync+min a (f.data.length-f.sync)),f.sync+min a (f.data.length-f.sync)⟩
def FM(a:List Int)(i:Nat):Nat:=((a[i]?).getD 0).toNat
def eR(l:cA)(a:List Int):cA:=l.mapIdx fun i p=>(p.1,sQ (FM a i) p.2)
def aL.crashed(D:aL)(a:List Int):aL:={D with files:=eR D.files a,down:=true,sC:=false,left:=0,eW:=[]}
def aL.sink(D:aL):aL:=D.crashed D.eW
def aL.change(D:aL)(l:cA):Int×aL:=if D.rU then(61,D.sink)else(0,{D.tick with files:=l})
def jR(n:bH):Bool:=decide (n≠[]/\n.length<=12)
def aL.create(D:aL)(n:bH):Int×aL:=if D.down then(61,D)else if jR n=false then(2,D)else if(bO D.files n).isSome then(62,D)else if 400<=D.files.length then(60,D)else D.change (eC D.files n ⟨[],0⟩)
def aL.append(D:aL)(n s:bH):Int×aL:=if D.down then(61,D)else match bO D.files n with
 |none=>(4,D)
 |some f=>if D.cap<dZ D.files+s.length then(60,D)else
  if D.rU then(61,{D with files:=eC D.files n ⟨f.data++s,f.sync⟩}.sink)else(0,{D.tick with files:=eC D.files n ⟨f.data++s,f.sync⟩})
def aL.sync(D:aL)(n:bH):Int×aL:=if D.down then(61,D)else match bO D.files n with
 |none=>(4,D)
 |some f=>D.change (eC D.files n ⟨f.data,f.data.length⟩)
def aL.rename(D:aL)(a b:bH):Int×aL:=if D.down then(61,D)else match bO D.files a with
 |none=>(4,D)
 |some f=>if jR b=false then(2,D)else D.change (if a=b then D.files else eC (kN (kN D.files b) a) b f)
def aL.delete(D:aL)(n:bH):Int×aL:=if D.down then(61,D)else match bO D.files n with
 |none=>(4,D)
 |some _=>D.change (kN D.files n)
def aL.size(D:aL)(n:bH):Nat×Int:=if D.down then(0,61)else match bO D.files n with
 |none=>(0,4)
 |some f=>(f.data.length,0)
def aL.read(D:aL)(n:bH)(a k:Int):bH×Int:=if D.down then([],61)else match bO D.files n with
 |none=>([],4)
 |some f=>if a<0\/k<0\/f.data.length<a\/f.data.length-a<k then([],2)else((f.data.drop a.toNat).take k.toNat,0)
def aL.names(D:aL):List bH:=D.files.map (·.1)
def aL.free(D:aL):Int:=(D.cap:Int)-dZ D.files
def aL.kJ(D:aL)(a:List Int):Int×aL:=if D.down then(61,D)else(0,D.crashed a)
def aL.start(D:aL):Int×aL:=if D.down then(0,{D with down:=false,bQ:=D.bQ+1})else(2,D)
def aL.fail(D:aL)(n:Int)(a:List Int):Int×aL:=if D.down then(61,D)else if n<0 then(2,D)else(0,{D with sC:=true,left:=n.toNat,eW:=a})
def qH(l s:bH)(k:Nat):bH:=l.take k++(s.take (l.length-k)++l.drop (k+s.length))
def aL.aH6(D:aL)(n:bH)(k:Int)(s:bH):Int×aL:=match bO D.files n with
 |none=>(4,D)
 |some f=>if k<0 then(2,D)else if k<f.data.length then(0,{D with files:=eC D.files n ⟨qH f.data s k.toNat,f.sync⟩})else(0,D)
def aL.cut(D:aL)(n:bH)(k:Int):Int×aL:=match bO D.files n with
 |none=>(4,D)
 |some f=>if k<0 then(2,D)else(0,{D with files:=eC D.files n ⟨f.data.take k.toNat,min f.sync (min k.toNat f.data.length)⟩})
variable{k m n:Nat}{s:bH}
def M5(c:bB)(n:Int):bH:=if n<0\/999999<n then[]else SF c n.toNat
def M3(c:bB)(n:Int):lR c n=bs (M5 c n):=by unfold lR M5;split<;>rfl
def uG(c:bB){n:Nat}(h:n<=999999):M5 c (n:Int)=SF c n:=by unfold M5;rw[aP (by omega)];rfl
def dI:bH:=[110,101,119]
def fE:bH:=[109,97,112]
def iJ(n:Nat):bH:=M5 99 n
def nN(n:Nat):bH:=M5 116 n
def wE(n:Nat):bH:=M5 98 n
def JM(c:bB):Bool:=decide (48<=c.toNat/\c.toNat<=57)
def FP(l:bH):Nat:=l.foldl (fun n c=>10*n+(c.toNat-48)) 0
def jY:bH->Option (bB×Nat)
 |[]=>none
 |c::l=>if l.length=6/\l.all JM=true/\(c=99\/c=116\/c=98)then some (c,FP l)else none
def UG(l:bH)(c:bB):FP (l++[c])=10*FP l+(c.toNat-48):=by simp[FP,mH]
def ck3(k:Nat):∀n:Nat,(wW k n).all JM=true:=by
 induction k with
 |zero=>intro n;rfl
 |succ k a=>intro n;rw[wW,JC,a];have:=yV n;simp[JM];omega
def ck5(k:Nat):∀n:Nat,FP (wW k n)=n%10^k:=by
 induction k with
 |zero=>intro n;simp[wW,FP,bz4]
 |succ k a=>intro n;rw[wW,UG,a,yV,nK,oX (10^k) 10,Nat.mod_mul];omega
def aU3(k:Nat):∀l:bH,l=k->l.all JM=true->wW k (FP l)=l/\FP l<10^k:=by
 induction k with
 |zero=>intro l a _;simp at a;subst a;exact⟨rfl,by simp[FP]⟩
 |succ k h=>
  intro l a d;have b:l≠[]:=(by rintro rfl;simp at a);obtain⟨i,c,rfl⟩:∃i c,l=i++[c]:=⟨l.dropLast,l.getLast b,(gL b).symm⟩;rw[JC]at d;simp only[bL,au2,List.all_nil,and_true]at d;have⟨g,j⟩:=h i (by simpa using a) d.1;have m:48<=c.toNat/\c.toNat<=57:=(by simpa[JM]using d.2);rw[UG,wW];have e:(10*FP i+(c.toNat-48))/10=FP i:=by omega
  have f:UF (10*FP i+(c.toNat-48))=c:=by apply AR.1;rw[yV];omega
  rw[e,g,f];exact⟨rfl,by rw[nK];omega⟩
def PF(a:c=99\/c=116\/c=98){n:Nat}(h:n<=999999):jY (SF c n)=some (c,n):=by show(if _ then _ else _)=_;rw[aV ⟨by simp,ck3 6 n,a⟩,ck5,qZ (by omega)]
def TX(h:jY s=some (c,n)):s=SF c n/\n<=999999/\(c=99\/c=116\/c=98):=by
 cases s with
 |nil=>cases h
 |cons d l=>
  rw[jY]at h;split at h
  .rename_i a;cases h;have⟨b,e⟩:=aU3 6 l a.1 a.2.1;exact⟨by unfold SF;rw[b],by omega,a.2.2⟩
  cases h
structure cS where
 bV:List Nat
 sure:Nat
def kS(r:Int×aL)(k:aL->Int×aL):Int×aL:=if r.1=0 then k r.2 else r
def aL.GZ(D:aL)(n s:bH):Int×aL:=kS (D.create dI) fun D=>kS (D.append dI s) fun D=>kS (D.sync dI) fun D=>D.rename dI n
def sR(a:Nat×Bool)(n:bH):Nat×Bool:=match jY n with
 |some (c,k)=>if c=99 then(a.1+1,a.2&&decide (k=a.1))else a
 |none=>a
def aL.count(D:aL):Nat×Bool:=((D.names.foldl sR (0,true)).1,(D.names.foldl sR (0,true)).2&&decide ((D.names.foldl sR (0,true)).1<=200))
def aL.load(D:aL)(n:Nat):(bH×Nat)×Int:=match bO D.files (iJ n)with
 |none=>(([],0),4)
 |some f=>if cOk f.data n then((f.data,aj8 f.data n),0)else(([],0),63)
def kF(bV:List Nat):Nat:=match bV.getLast? with
 |none=>0
 |some k=>(bV.length-1)*4096+k
def wF(D:aL)(n:Nat)(s:bH)(e:Nat)(a:List Nat):Int×List Nat×aL:=if e=0 then((D.delete (iJ n)).1,a,(D.delete (iJ n)).2)
 else if e<s.length then((D.GZ (iJ n) (s.take e)).1,a++[e],(D.GZ (iJ n) (s.take e)).2)
 else((D.sync (iJ n)).1,a++[e],(D.sync (iJ n)).2)
def nF(D:aL)(many:Nat):Nat->Nat->List Nat->Int×List Nat×aL
 |0,_,bV=>(0,bV,D)
 |k+1,n,bV=>
  if(D.load n).2≠0 then((D.load n).2,bV,D)
  else if n+1=many then wF D n (D.load n).1.1 (D.load n).1.2 bV
  else if(D.load n).1.2=0\/(D.load n).1.2<(D.load n).1.1.length then(63,bV,D)
  else nF D many k (n+1) (bV++[(D.load n).1.2])
def aL.gS(D:aL):Int×aL:=if(bO D.files dI).isSome then D.delete dI else(0,D)
def kB(D:aL):Int×Option cS×aL:=if D.down then(61,none,D)
 else if D.gS.1≠0 then(D.gS.1,none,D.gS.2)
 else if D.gS.2.count.2=false then(63,none,D.gS.2)
 else if(nF D.gS.2 D.gS.2.count.1 D.gS.2.count.1 0 []).1≠0 then((nF D.gS.2 D.gS.2.count.1 D.gS.2.count.1 0 []).1,none,(nF D.gS.2 D.gS.2.count.1 D.gS.2.count.1 0 []).2.2)
 else(0,some ⟨(nF D.gS.2 D.gS.2.count.1 D.gS.2.count.1 0 []).2.1,kF (nF D.gS.2 D.gS.2.count.1 D.gS.2.count.1 0 []).2.1⟩,(nF D.gS.2 D.gS.2.count.1 D.gS.2.count.1 0 []).2.2)
def gO(L:cS)(D:aL):Int×cS×aL:=if L.bV=[]then(0,L,D)else((D.sync (iJ (L.bV.length - 1))).1,if(D.sync (iJ (L.bV.length - 1))).1=0 then {L with sure:=kF L.bV} else L,(D.sync (iJ (L.bV.length - 1))).2)
def zR(D:aL)(n:Nat):Bool:=decide ((6000:Int)<=D.free-n)
def pM(L:cS)(D:aL)(n:Nat)(r:bH):Int×Nat×cS×aL:=if zR D r.length=false then(60,0,L,D)
 else if(D.append (iJ n) r).1≠0 then((D.append (iJ n) r).1,0,L,(D.append (iJ n) r).2)
 else(0,n*4096+L.bV.getD n 0,{L with bV:=L.bV.set n (L.bV.getD n 0+r.length)},(D.append (iJ n) r).2)
def FT(D:aL)(n:Nat)(r:bH):Int×aL:=kS (D.create (iJ n)) fun D=>D.append (iJ n) (fC n++r)
def pX(L:cS)(D:aL)(n:Nat)(r:bH):Int×Nat×cS×aL:=if 200<=n\/zR D (12+r.length)=false then(60,0,L,D)
 else if(gO L D).1≠0 then((gO L D).1,0,(gO L D).2.1,(gO L D).2.2)
 else if(FT (gO L D).2.2 n r).1≠0 then((FT (gO L D).2.2 n r).1,0,(gO L D).2.1,(FT (gO L D).2.2 n r).2)
 else(0,n*4096+12,{(gO L D).2.1 with bV:=(gO L D).2.1.bV++[12+r.length]},(FT (gO L D).2.2 n r).2)
def iE(L:cS)(D:aL)(p:bH):Int×Nat×cS×aL:=if 2000<p.length then(3,0,L,D)
 else if L.bV≠[]/\yF (L.bV.getD (L.bV.length-1) 0) p.length=true then pM L D (L.bV.length-1) (kE p)
 else pX L D L.bV.length (kE p)
def FJ(L:cS)(D:aL)(pos:Int):Nat->Nat->Int×bH×Nat×Nat
 |0,_=>(4,[],0,0)
 |k+1,n=>match bO D.files (iJ n)with
  |none=>(4,[],0,0)
  |some f=>match (cAt (f.data.take (L.bV.getD n 0)) n).find? fun p=>decide (pos<=((n*4096+p:Nat):Int))with
   |some p=>(0,gA (f.data.take (L.bV.getD n 0)) p,n*4096+p,n*4096+gN (f.data.take (L.bV.getD n 0)) p)
   |none=>FJ L D pos k (n+1)
def EH(L:cS)(D:aL)(a:Int):Int×bH×Nat×Nat:=FJ L D (max a 0) (L.bV.length-(max a 0/4096).toNat) (max a 0/4096).toNat
variable{D:aL}{f l:cA}
def ag0(f g:fK):Prop:=g.data <+: f.data/\f.sync<=g.data.length/\g.sync=g.data.length
def FW(l:cA):Prop:=∀n f,bO l n=some f->f.sync<=f.data.length
def bz7(l a:cA):Prop:=∀n,(bO l n=none/\bO a n=none)\/∃f g,bO l n=some f/\bO a n=some g/\ag0 f g
def aU6(k:Nat){f:fK}(h:f.sync<=f.data):ag0 f (sQ k f):=by refine⟨br8 _ _,?_,?_⟩<;>simp only[sQ,b8]<;>omega
def aS1(K:Nat->Nat)(l:cA)(n:bH):∃k,bO (l.mapIdx λi p=>(p.1,sQ (K i) p.2)) n=(bO l n).map (sQ k):=by
 induction l generalizing K with
 |nil=>exact⟨0,rfl⟩
 |cons p l a=>
  have⟨m,g⟩:=p;rw[br9,bO,bO];by_cases h:m=n
  .exact⟨K 0,by rw[aV h,aV h];rfl⟩
  rw[aP h,aP h];exact a (λi=>K (i+1))
def ac8(h:FW l)(a:List Int):bz7 l (eR l a):=λn=>by
 have⟨k,b⟩:=aS1 (FM a) l n;cases c:bO l n with
 |none=>left;rw[c]at b;exact⟨rfl,b⟩
 |some f=>right;rw[c]at b;exact⟨f,_,rfl,b,aU6 k (h n f c)⟩
def aO4(l:cA)(a:List Int):(eR l a).map (·.1)=l.map (·.1):=by unfold eR;apply pS;intro i;simp only[pR,IC,Option.map_map];cases l[i]?<;>rfl
def ac5(h:tB l)(a:List Int):tB (eR l a):=by unfold tB at h|-;have e:=aO4 l a;have b:(l.map (·.1)).Pairwise (·<·):=mF.2 h;rw[<-e]at b;exact mF.1 b
def bo8(h:bz7 l f):FW f:=λn g a=>by
 rcases h n with⟨_,b⟩|⟨e,d,_,b,c⟩
 .rw[b]at a;cases a
 rw[b]at a;cases a;rw[c.2.2];exact cV _
def mD(q:bH->Bool)(l:cA):Nat:=(l.map fun p=>if q p.1 then 0 else p.2.data.length).sum
def CC(q:bH->Bool)(l:cA):mD q l<=dZ l:=by
 induction l with
 |nil=>exact cV _
 |cons p l a=>simp only[mD,dZ,dU,l6]at a|-;split<;>omega
def ag8(q:bH->Bool)(K:Nat->Nat)(l:cA):mD q (l.mapIdx λi p=>(p.1,sQ (K i) p.2))<=mD q l:=by
 induction l generalizing K with
 |nil=>exact cV _
 |cons p l a=>have:=a (λi=>K (i+1));rw[br9];simp only[mD,dU,l6,sQ,b8]at this|-;split<;>omega
def DV(h:tB l)(q:bH->Bool)(n:bH)(f:fK):mD q (eC l n f)+(if q n then 0 else((bO l n).map λg=>g.data.length).getD 0)=mD q l+(if q n then 0 else f.data.length):=by
 induction l with
 |nil=>simp[eC,mD,bO]
 |cons p l i=>
  have⟨k,g⟩:=p;have⟨b,c⟩:=dG.1 h;rw[eC,bO];split
  .rename_i a;subst a;simp only[mD,dU,l6,pZ,lX];split<;>omega
  rename_i a;split
  .rename_i d;have:bO l n=none:=NM λj e=>by have:=b _ e;exact mO _ (yX d this)
   rw[this];simp only[mD,dU,l6,bS1,SX];split<;>omega
  have:=i c;simp only[mD,dU,l6]at this|-;omega
def DX(h:tB l)(q:bH->Bool)(n:bH):mD q (kN l n)+(if q n then 0 else((bO l n).map λg=>g.data.length).getD 0)=mD q l:=by
 induction l with
 |nil=>simp[kN,mD,bO]
 |cons p l a=>
  have⟨k,g⟩:=p;have⟨c,d⟩:=dG.1 h;have a:=a d;rw[bO];unfold kN at a|-;rw[jK];by_cases b:k=n
  .subst b;simp only[decide_true,p8,bU,dW,eH];have:bO l k=none:=NM λi f=>by have e:=c _ f;exact mO _ e
   rw[this]at a;simp only[mD,dU,l6,pZ,lX,bS1,SX]at a|-;split at a<;>split<;>simp_all<;>omega
  simp only[b,decide_false,DM,eH,dW];simp only[mD,dU,l6]at a|-;omega
def Outcome(D:aL)(l:cA)(r:Int×aL):Prop:=(r.1=0/\r.2.files=l/\r.2.down=false/\r.2.cap=D.cap/\r.2.bQ=D.bQ)\/
 (r.1=61/\r.2.down=true/\r.2.cap=D.cap/\r.2.bQ=D.bQ/\∃a,r.2.files=eR D.files a\/r.2.files=eR l a)
def J4(a:D.down=false)(l:cA):Outcome D l (D.change l):=by
 unfold aL.change;by_cases h:D.rU=true
 .rw[aV h];exact .inr ⟨rfl,rfl,rfl,rfl,D.eW,.inl rfl⟩
 rw[aP h];exact .inl ⟨rfl,rfl,a,rfl,rfl⟩
def Q6(a:D.down=false){s:bH}(c:jR s=true)(b:bO D.files s=none)(d:D.files.length<400):Outcome D (eC D.files s ⟨[],0⟩) (D.create s):=by unfold aL.create;rw[a,c,b,aP (by simp),aP (by simp),aP (by simp),aP (by omega)];exact J4 a _
def J7(a:D.down=false){s:bH}{f:fK}(b:bO D.files s=f)(d:bH)(c:dZ D.files+d<=D.cap):Outcome D (eC D.files s ⟨f.data++d,f.sync⟩) (D.append s d):=by
 unfold aL.append;rw[a,b,aP (by simp)];show Outcome D _ (if D.cap<dZ D.files+d then(60,D)else _);rw[aP (by omega)];by_cases h:D.rU=true
 .rw[aV h];exact .inr ⟨rfl,rfl,rfl,rfl,D.eW,.inr rfl⟩
 rw[aP h];exact .inl ⟨rfl,rfl,a,rfl,rfl⟩
def QX(a:D.down=false){s:bH}{f:fK}(b:bO D.files s=f):Outcome D (eC D.files s ⟨f.data,f.data⟩) (D.sync s):=by unfold aL.sync;rw[a,b,aP (by simp)];exact J4 a _
def bf0(a:D.down=false){s l:bH}{f:fK}(d:bO D.files s=f)(c:jR l=true)(b:s≠l):Outcome D (eC (kN (kN D.files l) s) l f) (D.rename s l):=by unfold aL.rename;rw[a,d,aP (by simp)];show Outcome D _ (if jR l=false then(2,D)else _);rw[c,aP (by simp),aP b];exact J4 a _
def J0(a:D.down=false){s:bH}{f:fK}(b:bO D.files s=f):Outcome D (kN D.files s) (D.delete s):=by unfold aL.delete;rw[a,b,aP (by simp)];exact J4 a _
def WE(a:D.down=false){s:bH}(b:bO D.files s=none):D.delete s=(4,D):=by unfold aL.delete;rw[a,b,aP (by simp)]
variable{r:Int×aL}{C:List (List bH)}{P Q:aL->Prop}{q:bH->Prop}{I:cA->Prop}
def uC(h:n<=999999):jY (iJ n)=some (99,n):=by unfold iJ;rw[uG 99 h];exact PF (.inl rfl) h
def rD(h:n<=999999):jY (nN n)=some (116,n):=by unfold nN;rw[uG 116 h];exact PF (.inr (.inl rfl)) h
def sO(h:n<=999999):jY (wE n)=some (98,n):=by unfold wE;rw[uG 98 h];exact PF (.inr (.inr rfl)) h
def C4:jY dI=none:=by decide
def NA:jY fE=none:=by decide
def tJ(h:jY s=some (c,n)):n<=999999/\(s=iJ n/\c=99\/s=nN n/\c=116\/s=wE n/\c=98):=by
 have⟨b,a,d⟩:=TX h;refine⟨a,?_⟩;unfold iJ nN wE;rw[uG 99 a,uG 116 a,uG 98 a];rcases d with rfl|rfl|rfl
 .exact .inl ⟨b,rfl⟩
 .exact .inr (.inl ⟨b,rfl⟩)
 exact .inr (.inr ⟨b,rfl⟩)
def AB{c:bB}{n:Nat}(h:n<=999999):jR (M5 c (n:Int))=true:=by rw[uG c h];unfold jR SF;have:(wW 6 n).length=6:=(by simp);simp[this]
def bi9:jR dI=true:=by decide
def bj0:jR fE=true:=by decide
def isC(n:bH):Prop:=∃k,jY n=some (99,k)
def isT(n:bH):Prop:=∃k,jY n=some (116,k)
def isB(n:bH):Prop:=∃k,jY n=some (98,k)
def iW(q:bH->Prop)(l a:cA):Prop:=∀n,q n->bO a n=bO l n\/∃f g,bO l n=some f/\bO a n=some g/\ag0 f g
def iW.refl(q:bH->Prop)(l:cA):iW q l l:=λn _=>.inl rfl
def ag0.trans{f g h:fK}(a:ag0 f g)(b:ag0 g h):ag0 f h:=⟨b.1.trans a.1,by have:=b.2.1;rw[a.2.2]at this;exact aM a.2.1 this,b.2.2⟩
def iW.trans{a f:cA}(r:iW q a l)(o:iW q l f):iW q a f:=λn m=>by
 rcases r n m with h|⟨t,g,d,e,c⟩
 .rcases o n m with i|⟨t,g,d,e,c⟩
  .exact .inl (i.trans h)
  exact .inr ⟨t,g,h▸d,e,c⟩
 rcases o n m with i|⟨s,p,b,k,j⟩
 .exact .inr ⟨t,g,d,i.trans e,c⟩
 rw[e]at b;cases b;exact .inr ⟨t,p,d,k,c.trans j⟩
def iW.kJ(q:bH->Prop){l:cA}(d:FW l)(a:List Int):iW q l (eR l a):=λn _=>by
 rcases ac8 d a n with⟨b,c⟩|h
 .exact .inl (c.trans b.symm)
 exact .inr h
def iW.put{n:bH}(h:¬q n)(f:fK):iW q l (eC l n f):=λm a=>by
 left;rw[fF,aP (λe=>h (by rw[e];exact a))]
def iW.del(h:¬q s):iW q l (kN l s):=λm a=>by
 left;rw[iK,aP (λe=>h (by rw[e];exact a))]
def iW.mono{a:bH->Prop}(h:iW q l f)(c:∀n,a n->q n):iW a l f:=λn b=>h n (c n b)
def iW.sure(h:iW q l f){s:bH}(i:q s){k:fK}(c:bO l s=k)(d:k.data<=k.sync):∃g,bO f s=some g/\g.data=k.data/\g.data<=g.sync:=by
 rcases h s i with h|⟨j,g,a,e,b⟩
 .exact⟨k,h.trans c,rfl,d⟩
 rw[c]at a;cases a;exact⟨g,e,b.1.eq_of_length (Nat.le_antisymm b.1.length_le (aM d b.2.1)),by rw[b.2.2];exact cV _⟩
def iW.no(h:iW q l f){s:bH}(c:q s)(b:bO l s=none):bO f s=none:=by
 rcases h s c with h|⟨d,g,a,i,e⟩
 .exact h.trans b
 rw[b]at a;cases a
def ca1(h:FW l)(n:bH){f:fK}(b:f.sync<=f.data):FW (eC l n f):=λm g a=>by
 rw[fF]at a;split at a
 .cases a;exact b
 exact h m g a
def ck4(h:FW l)(n:bH):FW (kN l n):=λm g a=>by
 rw[iK]at a;split at a
 .cases a
 exact h m g a
structure CZ(l:cA):Prop where
 kV:tB l
 sync:FW l
def CZ.kJ(h:CZ l)(a:List Int):CZ (eR l a):=⟨ac5 h.kV a,bo8 (ac8 h.sync a)⟩
def CZ.put(h:CZ l)(n:bH){f:fK}(a:f.sync<=f.data):CZ (eC l n f):=⟨vX h.kV n f,ca1 h.sync n a⟩
def CZ.del(h:CZ l)(n:bH):CZ (kN l n):=⟨wK h.kV n,ck4 h.sync n⟩
def eD(n:Nat)(a:List bH):bH:=sV (fC (n:Int)) a
def fB(C:List (List bH)):List Nat:=C.mapIdx fun n a=>(eD n a).length
def AP(l:cA)(C:List (List bH)):Prop:=∀n (h:n<C.length),∃f,bO l (iJ n)=some f/\f.data=eD n C[n]/\f.data.length<=f.sync
def NoC(l:cA)(k:Nat):Prop:=∀n,k<=n->n<=999999->bO l (iJ n)=none
def KH(C:List (List bH)):Prop:=C.length<=200/\(∀a∈C,∀p∈a,p.length<=2000)/\∀n (h:n<C.length),(eD n C[n]).length<=4096
def au3(l:cA)(C:List (List bH))(a:List bH)(S P:Nat):Prop:=∃f c,bO l (iJ C.length)=some f/\c<=(eD C.length a).length/\f.data=(eD C.length a).take c/\f.sync<=c/\
 ((P<=kF (fB C)/\S<=C.flatten.length)\/∃i,i<=a.length/\P<=C.length*4096+jB (fC (C.length:Nat)) a i/\jB (fC (C.length:Nat)) a i<=f.sync/\S<=C.flatten.length+i)
inductive zB (l:cA):List (List bH)->Nat->Nat->Prop
 |none (h:NoC l 0):zB l [] 0 0
 |some (C:List (List bH)) (ps:List bH) (S P:Nat) (ok:KH (C++[ps])) (full:AP l C) (last:au3 l C ps S P) (no:NoC l (C.length+1)):zB l (C++[ps]) S P
def EK(h:n<=999999):isC (iJ n):=⟨n,uC h⟩
def AP.stay(h:AP l C)(m:C.length<=200)(k:iW isC l f):AP f C:=λn a=>by
 have⟨o,b,c,d⟩:=h n a;have⟨g,e,i,j⟩:=k.sure (EK (by omega)) b d;exact⟨g,e,i.trans c,j⟩
def NoC.stay(h:NoC l n)(c:iW isC l f):NoC f n:=λd b a=>c.no (EK a) (h d b a)
def au3.stay{p:List bH}(h:au3 l C p n k)(z:C.length<=200)(x:iW isC l f):au3 f C p n k:=by
 have⟨A,c,j,q,b,r,m⟩:=h;rcases x (iJ C) (EK (by omega))with d|⟨y,g,o,v,a⟩
 .exact⟨A,c,d.trans j,q,b,r,m⟩
 rw[j]at o;cases o;have w:=a.1.length_le;rw[b,b8]at w;refine⟨g,g.data,v,by omega,?_,by rw[a.2.2];exact cV _,m.imp id λ⟨i,s,t,u,d⟩=>⟨i,s,t,aM u (by rw[a.2.2];exact a.2.1),d⟩⟩;have e:=cD8.1 a.1;rwa[b,l5,fX (by omega)]at e
def zB.stay(h:zB l C n k)(c:iW isC l f):zB f C n k:=by
 cases h with
 |none h=>exact .none (h.stay c)
 |some C g n k d a b e=>have i:C.length<=199:=(by have:=d.1;simp at this;omega);exact .some C g n k d (a.stay (by omega) c) (b.stay (by omega) c) (e.stay c)
def zB.ok{l:cA}{k:Nat}(h:zB l C n k):KH C:=by
 cases h with
 |none h=>exact⟨by simp,by simp,by simp⟩
 |some C e n k c a b d=>exact c
def zB.le{n:Nat}(h:zB l C n k):n<=C.flatten:=by
 cases h with
 |none h=>simp
 |some C q n k p d a o=>have⟨f,c,e,g,j,m,b⟩:=a;simp only[iO,aO,iA,bs0,gM];rcases b with b|⟨i,b⟩<;>omega
structure cN2(l:cA)(C:List (List bH))(S P:Nat):Prop where
 log:zB l C S P
 whole:∀n (h:n<C.length),∃f,bO l (iJ n)=some f/\f.data=eD n C[n]
def Good(D:aL)(r:Int×aL)(P:aL->Prop)(I:cA->Prop):Prop:=(r.1=0/\r.2.down=false/\r.2.cap=D.cap/\r.2.bQ=D.bQ/\P r.2)\/(r.1=61/\r.2.down=true/\r.2.cap=D.cap/\r.2.bQ=D.bQ/\I r.2.files)
def Outcome.NZ(h:Outcome D l r){I:cA->Prop}(g:∀l f,I l->I (eR l f))(j:I D.files)(k:I l):Good D r (λi=>i.files=l) I:=by
 rcases h with⟨a,b,c,d,e⟩|⟨a,b,c,d,f,h|h⟩
 .exact .inl ⟨a,c,d,e,b⟩
 .exact .inr ⟨a,b,c,d,by rw[h];exact g _ _ j⟩
 exact .inr ⟨a,b,c,d,by rw[h];exact g _ _ k⟩
def Good.then{P:aL->Prop}{k:aL->Int×aL}(h:Good D r P I)(n:∀f,f.down=false->f.cap=D.cap->f.bQ=D.bQ->P f->Good f (k f) Q I):Good D (kS r k) Q I:=by
 rcases h with⟨a,b,c,d,e⟩|⟨a,b,c,d,e⟩
 .unfold kS;rw[aV a];rcases n _ b c d e with⟨g,i,j,l,m⟩|⟨g,i,j,l,m⟩
  .exact .inl ⟨g,i,j.trans c,l.trans d,m⟩
  exact .inr ⟨g,i,j.trans c,l.trans d,m⟩
 unfold kS;rw[aP (by omega)];exact .inr ⟨a,b,c,d,e⟩
def Good.mono{Q:aL->Prop}{J:cA->Prop}(h:Good D r P I)(i:∀f,f.down=false->f.cap=D.cap->f.bQ=D.bQ->P f->Q f)(g:∀l,I l->J l):Good D r Q J:=by
 rcases h with⟨a,b,c,d,e⟩|⟨a,b,c,d,e⟩
 .exact .inl ⟨a,b,c,d,i _ b c d e⟩
 exact .inr ⟨a,b,c,d,g _ e⟩
def Good.ok(a:D.down=false){P:aL->Prop}{I:cA->Prop}(h:P D):Good D (0,D) P I:=.inl ⟨rfl,a,rfl,rfl,h⟩
def bi6(N:Nat)(n:bH):Prop:=n=dI\/n=fE\/(∃k,k<=199/\n=iJ k)\/∃k,k<N/\(n=nN k\/n=wE k)
def rS(n:bH):Bool:=decide (n=dI)
structure Sys(a N:Nat)(l:cA):Prop where
 oW:CZ l
 names:∀n f,bO l n=some f->bi6 N n
 room:mD rS l+6000<=a
def Sys.kJ{n k:Nat}(h:Sys n k l)(a:List Int):Sys n k (eR l a):=⟨h.oW.kJ a,λj g c=>by
 rcases ac8 h.oW.sync a j with⟨_,b⟩|⟨f,i,d,b,e⟩
 .rw[b]at c;cases c
 .exact h.names j f d,by
 have:=ag8 rS (FM a) l;have e:=h.room;unfold eR;omega⟩
def Sys.del(h:Sys n k l)(c:bH):Sys n k (kN l c):=⟨h.oW.del c,λm g a=>by
 rw[iK]at a;split at a
 .cases a
 .exact h.names m g a,by
 have:=DX h.oW.kV rS c;have b:=h.room;omega⟩
def Sys.ca3(h:Sys n k l){f:fK}(c:f.sync<=f.data):Sys n k (eC l dI f):=⟨h.oW.put dI c,λm g a=>by
 rw[fF]at a;split at a
 .rename_i b;exact .inl b.symm
 .exact h.names m g a,by
 have:=DV h.oW.kV rS dI f;rw[show rS dI=true from by decide]at this;simp only[eH]at this;have d:=h.room;omega⟩
def Sys.put(h:Sys k m l){n:bH}(d:bi6 m n){f:fK}(c:f.sync<=f.data)(i:mD rS l+f.data+6000<=k+((bO l n).map λg=>g.data.length).getD 0):Sys k m (eC l n f):=⟨h.oW.put n c,λj g b=>by
 rw[fF]at b;split at b
 .rename_i a;rw[<-a];exact d
 .exact h.names j g b,by
 have:=DV h.oW.kV rS n f;have e:=h.room;by_cases a:rS n=true
 .rw[a]at this;simp only[eH]at this;omega
 rw[aP a,aP a]at this;omega⟩
def uS{l:Type}[BEq l][LawfulBEq l]:∀{a b:List l},a.Nodup->(∀x∈a,x∈b)->a.length<=b.length
 |[],b,_,_=>bK _
 |x::a,b,i,c=>by
  obtain⟨g,h⟩:=bS3.1 i;have d:=c x (by simp);have:=uS (a:=a) (b:=b.erase x) h λy f=>(List.mem_erase_of_ne (λe=>g (by rw[<-e];exact f))).2 (c y (iU _ f));have j:=List.length_erase_of_mem d;have k:=List.length_pos_of_mem d;simp only[cE];omega
def ae7(N:Nat):List bH:=[dI,fE]++(List.range 200).map iJ++(List.range N).map nN++(List.range N).map wE
def Sys.yG{n k:Nat}(h:Sys n k l)(m:k<=98):l.length<400:=by
 have f:(l.map (·.1)).Nodup:=by have g:(l.map (·.1)).Pairwise (·<·):=mF.2 h.oW.kV;exact g.imp fun {a b} c e=>by subst e;exact mO _ c
 have:=uS (b:=ae7 k) f λx j=>by
  obtain⟨p,i,rfl⟩:=dS.1 j;unfold ae7;simp only[cB,cY,dS,gB,r8,or_false];rcases h.names p.1 p.2 (RZ h.oW.kV i)with h|h|⟨o,d,h⟩|⟨o,d,h|h⟩
  .exact .inl (.inl (.inl (.inl h)))
  .exact .inl (.inl (.inl (.inr h)))
  .exact .inl (.inl (.inr ⟨o,by omega,h.symm⟩))
  .exact .inl (.inr ⟨o,d,h.symm⟩)
  exact .inr ⟨o,d,h.symm⟩
 simp[ae7]at this;omega
def bA3(h:bO l dI=none):dZ l=mD rS l:=by
 induction l with
 |nil=>rfl
 |cons p l b=>
  have⟨m,g⟩:=p;rw[bO]at h;split at h
  .cases h
  rename_i a;have:=b h;simp only[mD,dZ,dU,l6,rS,bN a,bU,dW]at this|-;omega
def cG4(b:n<=999999)(c:k<=999999)(h:iJ n<iJ k):n<k:=by
 rcases DC n k with a|a|a
 .exact a
 .subst a;exact absurd h (mO _)
 exfalso;unfold iJ at h;rw[uG 99 b,uG 99 c]at h;unfold SF at h;have:=cy4 6 k n a (by omega);rw[cK6]at h;rcases h with h|⟨_,h⟩
 .exact absurd h (by decide)
 exact mO _ (yX h this)
def aN9{M P:List Nat}(k:M.Pairwise (·<·))(l:P.Pairwise (·<·))(h:∀x,x∈M↔x∈P):M=P:=by
 induction M generalizing P with
 |nil=>cases P with
  |nil=>rfl
  |cons y P=>exact absurd ((h y).2 (by simp)) (by simp)
 |cons x M m=>cases P with
  |nil=>exact absurd ((h x).1 (by simp)) (by simp)
  |cons y P=>
   have⟨f,i⟩:=dG.1 k;have⟨g,j⟩:=dG.1 l;have e:x=y:=by
    have c:=(h x).1 (by simp);have d:=(h y).2 (by simp);rcases cY.1 c with rfl|c
    .rfl
    rcases cY.1 d with rfl|d
    .rfl
    have:=g _ c;have:=f _ d;omega
   subst e;rw[m i j λz=>?_];have:=h z;simp only[cY]at this;constructor
   .intro a;rcases this.1 (.inr a)with rfl|b
    .exact absurd (f _ a) (by omega)
    exact b
   intro a;rcases this.2 (.inr a)with rfl|b
   .exact absurd (g _ a) (by omega)
   exact b
def aV8(n:bH):Option Nat:=match jY n with
 |some (c,k)=>if c=99 then some k else none
 |none=>none
def SN:aV8 s=n↔s=iJ n/\n<=999999:=by
 constructor
 .intro h;unfold aV8 at h;split at h
  .rename_i c j b;split at h
   .rename_i d;cases h;subst d;have⟨e,a⟩:=tJ b;rcases a with a|a|a
    .exact⟨a.1,e⟩
    .exact absurd a.2 (by decide)
    exact absurd a.2 (by decide)
   cases h
  cases h
 rintro ⟨rfl,h⟩;unfold aV8;rw[uC h];rfl
def ck9(l:List bH):∀(m:Nat)(b:Bool),l.foldl sR (m,b)=(m+(l.filterMap aV8),b&&decide (l.filterMap aV8=List.range' m (l.filterMap aV8))):=by
 induction l with
 |nil=>intro m b;simp
 |cons n l a=>
  intro m b;rw[nZ,cP5];unfold sR aV8 at *;cases e:jY n with
  |none=>exact a m b
  |some p=>
   have⟨c,k⟩:=p;by_cases d:c=99
   .simp only[d,eH];rw[a];simp only[cE,List.range'_succ,List.cons.injEq,Bool.decide_and,Bool.and_assoc];refine Prod.ext (by simp only;omega) rfl
   simp only[d,dW];exact a m b
def M0(c:tB l){s:bH}:s∈l.map (·.1)↔∃f,bO l s=some f:=by
 constructor
 .intro h;obtain⟨p,b,rfl⟩:=dS.1 h;exact⟨p.2,RZ c b⟩
 rintro ⟨f,a⟩;exact dS.2 ⟨_,yQ a,rfl⟩
def aU9(g:tB D.files)(k:Nat)(p:k<=200)(l:∀n,n<k->∃f,bO D.files (iJ n)=some f)(m:NoC D.files k):D.count=(k,true):=by
 have o:D.names.filterMap aV8=List.range k:=by
  refine aN9 ?_ List.pairwise_lt_range λx=>?_
  .have r:D.names.Pairwise (·<·):=mF.2 g;rw[cD9];refine r.imp fun {a b} e x d y s=>?_;obtain⟨rfl,c⟩:=SN.1 d;obtain⟨rfl,i⟩:=SN.1 s;exact cG4 c i e
  rw[aE3,gB];constructor
  .rintro ⟨n,q,d⟩;obtain⟨rfl,c⟩:=SN.1 d;have⟨f,j⟩:=(M0 g).1 q;rcases cK x k with h|h
   .exact h
   rw[m x h c]at j;cases j
  intro d;exact⟨iJ x,(M0 g).2 (l x d),SN.2 ⟨rfl,by omega⟩⟩
 unfold aL.count;rw[ck9,o];simp[List.range_eq_range',p]
def aF4(a:k<18446744073709551616)(b:m<18446744073709551616):k ^^^ m<18446744073709551616:=aD9 (n:=64) a b
def bJ5(h:Nat):Nat:=(h ^^^ h/4294967296)*11400714819323198485%18446744073709551616 ^^^ (h ^^^ h/4294967296)*11400714819323198485%18446744073709551616/536870912
def ct9(h:Nat):bJ5 h<18446744073709551616:=aF4 (G0 _ (by omega)) (by have:=G0 ((h ^^^ h/4294967296)*11400714819323198485) (show 0<18446744073709551616 from by omega);omega)
def Y4(a:Nat)(c:Nat):IntKind.u64.wrap ((a:Int)*(c:Int))=((a*c%18446744073709551616:Nat):Int):=by rw[eE,<-Int.natCast_mul];omega
def cc7(h:Nat)(e:h<18446744073709551616):bits BinOp.xor IntKind.u64 (IntKind.u64.wrap (bits BinOp.xor IntKind.u64 (h:Int) ((h:Int)/4294967296)*11400714819323198485)) (IntKind.u64.wrap (bits BinOp.xor IntKind.u64 (h:Int) ((h:Int)/4294967296)*11400714819323198485)/536870912)=((bJ5 h:Nat):Int):=by
 have d:bits BinOp.xor IntKind.u64 (h:Int) ((h:Int)/4294967296)=((h ^^^ h/4294967296:Nat):Int):=by rw[show(h:Int)/4294967296=((h/4294967296:Nat):Int)from by omega];exact u64_xor_nat _ _ e (by omega)
 rw[d];have c:=Y4 (h ^^^ h/4294967296) 11400714819323198485;rw[show((11400714819323198485:Nat):Int)=11400714819323198485 from rfl]at c;rw[c];have b:=G0 ((h ^^^ h/4294967296)*11400714819323198485) (show 0<18446744073709551616 from by omega);unfold bJ5;generalize (h ^^^ h/4294967296)*11400714819323198485%18446744073709551616=a at b|-;rw[show(a:Int)/536870912=((a/536870912:Nat):Int)from by omega];exact u64_xor_nat _ _ b (by omega)
def bm2(h:Nat)(w:aI)(b:h<18446744073709551616):Calls prog 144 #[zu h] w λe c=>e=.returned (zu (bJ5 h:Nat))/\w=c:=by have a:=aH (cc7 h b);go_in;go_wp2;go_ret;exact⟨mJ a,rfl⟩
def aR7(h:Nat)(c:bB):Nat:=(h ^^^ c.toNat)*1099511628211%18446744073709551616
def LX(a:Nat)(l:List bB):Nat:=l.foldl aR7 (14695981039346656037 ^^^ a)
def mA(a:Nat)(l:List bB):Nat:=if a=0 then 7 else bJ5 (LX a l)
def ch1(h:Nat)(c:bB):aR7 h c<18446744073709551616:=G0 _ (by omega)
def ch0(b:Nat)(e:b<18446744073709551616)(l:List bB):LX b l<18446744073709551616:=by
 unfold LX;have d:∀(l:List bB)(a:Nat),a<18446744073709551616->l.foldl aR7 a<18446744073709551616:=by
  intro l;induction l with
  |nil=>intro a h;exact h
  |cons c l f=>intro a _;exact f _ (ch1 _ _)
 exact d l _ (aF4 (by omega) e)
def aa2(a:Nat)(l:List bB):mA a l<18446744073709551616:=by
 unfold mA;split
 .omega
 exact ct9 _
def bm4(a:Nat)(s:aS)(k:Nat)(h:k<s):LX a ((lb s).take (k+1))=aR7 (LX a ((lb s).take k)) s[k]:=by unfold LX;rw[xA s k h,mH,nZ,List.foldl_nil]
def aF6(c:bB):IntKind.u64.wrap (c.toNat:Int)=((c.toNat:Nat):Int):=by have a:c.toNat<256:=c.toNat_lt;rw[eE];exact Int.emod_eq_of_lt (Int.natCast_nonneg _) (by have:(c.toNat:Int)<256:=(by exact_mod_cast a);exact Int.lt_trans this (by decide))
def bQ2(c:bB):c.toNat<18446744073709551616:=Nat.lt_trans c.toNat_lt (by decide)
def bm3(h:Nat)(c:bB)(b:h<18446744073709551616):IntKind.u64.wrap (bits BinOp.xor IntKind.u64 (h:Int) (IntKind.u64.wrap (c.toNat:Int))*1099511628211)=((aR7 h c:Nat):Int):=by rw[aF6,u64_xor_nat h c.toNat b (bQ2 c)];have a:=Y4 (h ^^^ c.toNat) 1099511628211;rwa[show((1099511628211:Nat):Int)=1099511628211 from rfl]at a
def EO(b:Nat)(s:aS)(w:aI)(m:b<18446744073709551616)(y:s.size<=1000000):Calls prog 93 #[zu b,s] w λe p=>e=.returned (zu (mA b (lb s):Nat))/\w=p:=by
 by_cases g:b=0
 .subst g;have v:(((0:Nat):Int)==0)=true:=rfl;go_in;go_wp2;go_ret;exact⟨rfl,rfl⟩
 have v:((b:Int)==0)=false:=(by rw[bA];omega);obtain⟨q,u,r,t⟩:=aC (show mA b (lb s)=bJ5 (LX b (lb s))from aP g) (show bits BinOp.xor IntKind.u64 14695981039346656037 (b:Int)=((LX b []:Nat):Int)from u64_xor_nat 14695981039346656037 b (by omega) m) (ch0 b m) (λk o=>bm4 b s k o);clear g;go_in;go_wp2_with fail
 go_loopw [5,6,13] (λh j i wr=>∃k:Nat,k<=s.size/\i=.int .i64 k/\h=.int .u64 (LX b ((lb s).take k):Nat)/\wr=w) (λ_ _ i _=>s.size-(intOf i).toNat)
 .exact⟨0,by omega,rfl,by rw[u.zz];rfl,rfl⟩
 obtain⟨k,o,rfl,rfl,rfl⟩:=hrel;have c:=r ((lb s).take k);by_cases d:k<s
 .have z:(k:Int)<s.size:=(by omega);have f:=bm3 (LX b ((lb s).take k)) s[k] c;rw[<-t.zz k d]at f;have l:=aH f;clear f;generalize LX b ((lb s).take k)=a at l c|-;have x:=aH c;clear c;go_wp2;go_roundw
  .exact⟨k+1,by omega,by go_num,gQ (Value.int .u64) l,trivial⟩
  simp[intOf];omega
 obtain rfl:k=s:=(by omega);rw[aT (by rw[bI];exact cV _)]at c|-;go_wp2_with fail
 go_call bm2 _ _ c as e p ⟨rfl,rfl⟩;go_wp2;go_ret;exact⟨gQ (λn:Nat=>Ending.returned (zu n)) q.symm,rfl⟩
def LD(n p:Nat):Nat:=max 1 ((n*p*3/2+479)/480)
def aK5(n p:Nat)(w:aI)(k:n<=10000)(m:1<=p)(l:p<=16):Calls prog 293 #[n,p] w λe t=>e=(LD n p:Nat)/\w=t:=by
 have⟨c,a⟩:=fR (n*p);have i:c<=160000:=by rw[a];exact Nat.mul_le_mul k l
 have u:(n:Int)*(p:Int)=(c:Int):=(by rw[a];simp);have⟨d,f⟩:=fR (c*3/2);have v:Int.tdiv ((c:Int)*3) 2=(d:Int):=(by rw[nM (by omega)];omega);have⟨q,g⟩:=fR ((d+479)/480);have x:Int.tdiv ((d:Int)+480-1) 480=(q:Int):=(by rw[nM (by omega)];omega);have j:d<=240000:=(by omega);have r:q<=1000:=(by omega);have h:LD n p=max 1 q:=(by unfold LD;rw[<-a,<-f,<-g]);have y:¬((n:Int)<0):=(by omega);have z:¬((10000:Int)<n):=(by omega);have A:¬((p:Int)<1):=(by omega);have B:¬((16:Int)<p):=(by omega);rw[h];clear h a f g;by_cases o:1<q
 iterate 2
  ·(first|(have b:max 1 q=q:=by omega)|(have b:max 1 q=1:=by omega));(first|(have s:(1:Int)<q:=by omega)|(have s:¬(1:Int)<q:=by omega));rw[b];clear b;go_in;go_wp2;go_ret;exact⟨rfl,rfl⟩
def bj6(r:Nat)(w:aI):Calls prog 301 #[.float .f64 r] w λe a=>∃b,e=.returned (.bool b)/\w=a:=by go_in;go_wp2;go_ret;exact⟨_,rfl,rfl⟩
def aR8(j:Nat):Nat:=(1023-j)*4503599627370496
def ch2:∀j:Fin 16,floatBits .quo .f64 (aR8 j.1) 4611686018427387904=some (aR8 (j.1+1)):=by decide +kernel
def af3(w:aI)(e:eY)(a:aI):Prop:=∃k:Nat,1<=k/\k<=16/\e=.returned (.int .i64 (k:Int))/\w=a
def aw7(r:Nat)(w:aI):Calls prog 292 #[.float .f64 r] w (af3 w):=by
 have g:=bj6 r w;go_in;(go_wp2_with fail);go_step3;go_wp2_with fail
 go_call g as e p ⟨b,rfl,rfl⟩;clear g;cases b with
 |true=>go_wp2;go_ret;exact⟨4,by omega,by omega,rfl,rfl⟩
 |false=>
  (go_wp2_with fail);go_step3;go_wp2_with fail
  go_loopw [3,4,13] (λh k _ wr=>∃(j:Nat),h=.float .f64 (aR8 j)/\k=.int .i64 j/\j<=16/\wr=w) (λ_ k _ _=>16-(intOf k).toNat)
  .exact⟨0,rfl,rfl,by omega,rfl⟩
  obtain⟨j,rfl,rfl,n,rfl⟩:=hrel;by_cases c:j<16
  .have o:(j:Int)<16:=(by omega);have d:=ch2 ⟨j,c⟩;simp only at d;have⟨q,f⟩:=fR (aR8 j);have⟨m,a⟩:=fR (aR8 (j+1));rw[<-f,<-a]at d;rw[<-f];have i:=λ(w:aI)(t:cC)=>run_float_arith (P:=prog) w .quo t .f64 q 4611686018427387904 m d;have l:=aH a;clear d f a;go_wp2
   ·(try rw[eU]);go_ret;exact⟨j+1,by omega,by omega,by simp,rfl⟩
   exact⟨⟨j+1,by rw[l.zz],by simp,by omega,trivial⟩,by simp[intOf];omega⟩
  obtain rfl:j=16:=(by omega);go_wp2;try rw[eU]
  go_ret;exact⟨16,by omega,by omega,rfl,rfl⟩
def aI2(n:Nat)(w:aI):(callFunc 172 #[zu n]).run prog w=.ok (.value (.float .f64 n)) w:=by rw[run_callFunc_extern (P:=prog) (fn:=f172) (e:=Extern.MathFloatBits.float64frombits) (by kernel_rfl) (by kernel_rfl) (by kernel_rfl) (by kernel_rfl) (by kernel_rfl)];rfl
end Go.Proofs.YtpopikndggffaaaGreatDoor
