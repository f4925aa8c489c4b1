/- TOP, part 1. -/
import Derived.BigQuiet
import Derived.Deep.QuietTactic
import Derived.Laws.Externs
import Derived.Laws.FloatArith
import Derived.Test.YtpopikndggffaaaGreatDoorProg
import Derived.WalkLawsBesides
import Derived.WalkSpells
import Derived.Test.YtpopikndggffaaaGreatDoorGm0
namespace Go.Proofs.YtpopikndggffaaaGreatDoor
set_option linter.all false
set_option maxRecDepth 100000
set_option maxHeartbeats 16000000
open Go.RowKit Tryz
def vR(s:aT)(w:aI)(c:s<=maxLen):
 Calls prog 169 #[s] w λe d=>e=.returned (zu (qA (lb s)))/\w=d:=by
  unfold maxLen at c;by_cases f:s.size<=8
  all_goals
   have a:(s.size:Int)<=8\/(8:Int)<s.size:=(by omega);go_in;go_wp2
   go_loop [3,8] (λn i=>∃k:Nat,k<=s.size/\k<=8/\i=.int .i64 k/\n=.int .u64 (num ((lb s).take k))) (λ_ i=>8-(intOf i).toNat)
   .exact⟨0,bO _,bO _,rfl,rfl⟩
   obtain⟨k,g,b,rfl,rfl⟩:=hrel;go_wp2
   .go_round
    .exact⟨k+1,by omega,by omega,by go_num,gQ (Value.int .u64) (bB2 s k (by omega) (by omega))⟩
    simp[intOf];omega
   go_ret;refine⟨nF (gQ Int.ofNat ?_),rfl⟩;unfold qA;by_cases e:k=8
   .subst e;rfl
   rw[aX (by rw[bN];omega),aX (by rw[bN];omega)]
def infoByte:(prog.info? 5).map (λi=>(i.zero,i.size,i.bytes))=some (some (.int .u8 0),1,1):=by kernel_rfl
def aE9(n a:Int)(w:aI)(h:a<1\/8<a):
 Calls prog 138 #[zu n,a] w λe c=>e=(bs (qL n.toNat a))/\aS w w c:=by
  have b:qL n.toNat a=[]:=(by unfold qL;rw[aU h]);rw[b];clear b;rcases h with h|h
  iterate 2
   ·(try (have d:¬a<1:=by omega));go_in;go_wp2;go_ret;exact⟨rfl,mE⟩
def ap7(n:Int)(c:Nat)(w:aI)(o:0<=n)(x:n<18446744073709551616)(A:1<=c)(B:c<=8):
 Calls prog 138 #[zu n,c] w λe y=>e=(bs (qL n.toNat c))/\aS w w y:=by
  have⟨i0,l,p,q,r⟩:=info_parts infoByte;have s:¬(c:Int)<1:=(by omega);have t:¬(8:Int)<c:=by omega
  go_in;(go_wp2_with (refine wpList_make_full _ rfl _ _ 110 rfl w 5 i0 _ 1 underlying110 l p q .i64 .i64 c c c rfl rfl rfl rfl (by rw[r];omega) (by unfold maxLen;omega) gC ?_;intro z b g));have d:aS w w z:=mE.grown g gC (by simp);go_loopw [16] (λi wr=>∃k:Nat,k<=c/\i=.int .i64 k/\wr.ownsRow w 5 1 (.slice (zp w) c c) c (tJ (c-k)++dS (be k n.toNat))/\aS w w wr) (λi _=>c-(intOf i).toNat)
  .refine⟨0,bO _,rfl,?_,d⟩;rw[O5]at b;simpa[dS,be]using b
  obtain⟨k,C,rfl,a,f⟩:=hrel;have j:k<c->wr.cell? (zp w (c-1-k))=some (.int .u8 0):=λh=>by rw[a.cellAt _ (by omega),eY (by simp[tJ];omega)];simp[tJ,sO];omega
  have v:wr.frozen? (zp w (c-1-k))=false:=a.frozenAt _;have u:¬k<c->(convert 110 9 (.slice (zp w) c c)).run prog wr=.ok (bs (be c n.toNat)) wr:=λh=>by have e:k=c:=(by omega);subst e;refine Z8 (base:=w.heap.size) ?_ underlying110 underlying5 underlying9;simpa[tJ]using a
  clear b g d;go_wp2
  .have m:k<c:=(by assumption);go_roundw
   .refine⟨k+1,by omega,by go_num,?_,f.setCell gC _⟩;rw[<-bu5 c k n o m];exact(a.stored _ _).1
   simp[intOf];omega
  go_ret;refine⟨AG (gQ bs ?_),f⟩;unfold qL;rw[aQ (by omega)];rfl
def sI(n b:Int)(w:aI)(d:0<=n)(f:n<18446744073709551616):
 Calls prog 138 #[zu n,b] w λe g=>e=(bs (qL n.toNat b))/\aS w w g:=by
  by_cases h:b<1\/8<b
  .exact aE9 n b w h
  obtain⟨c,rfl⟩:=dA (a:=b) (by omega);exact ap7 n c w d f (by omega) (by omega)
def SC(s:aT)(w:aI)(f:s.size<=9223372036854775000):
 Calls prog 137 #[s] w λe c=>e=(bs (o8 (lb s)))/\aS w w c:=by
  by_cases h:s.size<=65535
  .have d:¬(65535:Int)<s.size:=(by omega);go_in;(go_wp2_with fail);go_call sI _ _ _ (by omega) (by omega) as e c ⟨rfl,a⟩;have b:(bs (qL s.size 2)).size=2:=(by rw[eK,aC4 _ _ (by omega) (by omega)];rfl);have H:=aH a;clear a;go_wp2;go_ret;refine⟨AG ?_,H⟩;rw[zA];unfold o8 qL;rw[aQ (by omega),aQ (by rw[bN];omega),bN];rfl
  have d:(65535:Int)<s.size:=by omega
  go_in;go_wp2;go_ret;refine⟨AG ?_,mE⟩;unfold o8;rw[aU (by rw[bN];omega)];rfl
def SF(s:aT)(w:aI)(t:s.size<=9223372036854775000):
 Calls prog 171 #[s] w λe o=>e=.returned (.tuple #[bs (oW (lb s)),bs (gL (lb s)),l5 (lb s)])/\aS w w o:=by
  by_cases g:s.size<2
  .have b:l5 (lb s)=false:=(by unfold l5;rw[bN];simp;omega);unfold oW gL;rw[b];clear b;have p:(s.size:Int)<2:=(by omega);go_in;go_wp2;go_ret3;exact⟨rfl,mE⟩
  have p:¬(s.size:Int)<2:=by omega
  go_in;(go_wp2_with fail);refine(vR _ _ ?_).mono ?_
  .rw[eB,eK];simp[maxLen];omega
  rintro e o ⟨rfl,rfl⟩;have n:qA (lb (s.extract 0 2))=num ((lb s).take 2):=by rw[eB,gF];unfold qA;rw[aX (by simp;omega)];rfl
  rw[n];clear n;have r:num ((lb s).take 2)<65536:=U3 s 2;have⟨q,j⟩:=kX (num ((lb s).take 2));rw[<-j]at r|-;have c:=bM3 s g;have d:=bM2 s g;have f:=bM1 s g;rw[<-j]at c d f;have⟨k,l,m⟩:=aB c d f;clear c d f j;by_cases a:s-2<q
  .have h:(s.size:Int)-2<q:=(by omega);go_wp2;go_ret3;refine⟨?_,mE⟩;rw[k.zz,l.zz,m.zz,aU a,aU a,cJ a];rfl
  have h:¬(s.size:Int)-2<q:=(by omega);go_wp2_with fail
  go_quiet (fail);go_wp2;go_ret3;refine⟨?_,below_drewN mE _⟩;rw[k.zz,l.zz,m.zz,aQ a,aQ a,cC a,eB,eB,aX (i:=s.size-(2+q)) (by simp)];rw[show 2+q-2=q from by omega];rfl
def aB1(n c:Nat)(w:aI)(j:n<18446744073709551616)(p:1<=c)(r:c<=8):
 Calls prog 105 #[zu n,c] w λe o=>e=(bs (qL n c))/\aS w w o:=by
  have f:¬(c:Int)<1:=(by omega);have g:¬(8:Int)<c:=by omega
  go_in;go_wp2;go_loopw [0,5,6] (λm s i wr=>∃k q:Nat,k<=c/\q=n/256^k/\i=.int .i64 k/\m=.int .u64 q/\s=.string (bs (be k n))/\aS w w wr) (λm s i _=>c-(intOf i).toNat)
  .exact⟨0,n,bO _,by simp,rfl,rfl,rfl,mE⟩
  obtain⟨k,q,t,b,rfl,rfl,rfl,a⟩:=hrel;have l:q<=n:=(by rw[b];exact Nat.div_le_self _ _);have u:(bs (be k n))=k:=(by rw[eK,kT]);have d:=aH b;clear b;have h:=λW:aI=>al5 (P:=prog) ((q:Int)%256) (by omega) (by omega) underlying110 underlying5 underlying9 W;go_wp2
  .go_roundw
   .
    refine⟨k+1,q/256,by omega,?_,by go_num,by go_num,?_,a.alloc (l9 a) _⟩
    .rw[d.zz,pT,tI]
    rw[l4,bn8,<-d.zz];rfl
   simp[intOf];omega
  go_ret;refine⟨AG (gQ bs ?_),a⟩;obtain rfl:k=c:=(by omega);unfold qL;rw[aQ (by omega)];rfl
def bj5(n b:Int)(w:aI)(d:0<=n)(g:n<18446744073709551616):
 Calls prog 105 #[zu n,b] w λe i=>e=(bs (qL n.toNat b))/\aS w w i:=by
  by_cases h:b<1\/8<b
  .have f:qL n.toNat b=[]:=(by unfold qL;rw[aU h]);rw[f];clear f;rcases h with h|h
   iterate 2
    ·(try (have j:¬b<1:=by omega));go_in;go_wp2;go_ret;exact⟨rfl,mE⟩
  obtain⟨c,rfl⟩:=dA (a:=b) (by omega);obtain⟨m,rfl⟩:=dA d;exact aB1 m c w (by omega) (by omega) (by omega)
def X3(s:aT)(w:aI)(d:s.size<=9223372036854775000):
 Calls prog 104 #[s] w λe c=>e=(bs (o8 (lb s)))/\aS w w c:=by
  by_cases h:s.size<=65535
  iterate 2
   ·(first|((have a:¬(65535:Int)<s.size:=by omega);(have b:=λW:aI=>bD9 (P:=prog) ((s.size:Int)/256) ((s.size:Int)%256) (by omega) (by omega) (by omega) (by omega) underlying110 underlying5 underlying9 W))|(have a:(65535:Int)<s.size:=by omega));go_in;go_wp2;go_ret;first|refine⟨AG ?_,mE.alloc gC _⟩;rw[zA]|refine⟨AG ?_,mE⟩
    unfold o8;first|(rw[aQ (by rw[bN];omega),bN,cs4 _ (by omega)])|((rw[aU (by rw[bN];omega)]);rfl)
@[go_sem] def bG9{A:Program}{w:aI}{a:Addr}{m:Mode}(k:FloatKind)(n:Nat):(store a (.float k n) m).run A w=stored A w a (.float k n) m:=run_store A w a _ m rfl
def JE(n:Nat)(w:aI):(callFunc 163 #[.float .f64 n]).run prog w=.ok (.value (.int .u64 n)) w:=by rw[run_callFunc_extern (P:=prog) (fn:=f163) (e:=Extern.MathFloatBits.float64bits) (by kernel_rfl) (by kernel_rfl) (by kernel_rfl) (by kernel_rfl) (by kernel_rfl)];rfl
variable{c:bB}
def SX(n:Nat):bB:=UInt8.ofNat (48+n%10)
def vK:Nat->Nat->List bB
 |0,_=>[]
 |k+1,n=>vK k (n/10)++[SX n]
@[simp] def aL5(k n:Nat):(vK k n).length=k:=by
 induction k generalizing n with
 |zero=>rfl
 |succ k a=>simp[vK,a]
def SW(k n:Nat):vK (k+1) n=SX (n/10^k)::vK k n:=by
 induction k generalizing n with
 |zero=>simp[vK]
 |succ k a=>rw[vK,a,vK,kM,tI,show 10*10^k=10^(k+1)from by rw[pT,pU]]
def QM(c:bB)(n:Nat):List bB:=c::vK 6 n
def lD(c:bB)(n:Int):aT:=if n<0\/999999<n then⟨#[]⟩else bs (QM c n.toNat)
def xR(n:Nat):(SX n).toNat=48+n%10:=by unfold SX;simp;omega
def cj5(k:Nat):∀n m:Nat,n<m->m<10^k->vK k n<vK k m:=by
 induction k with
 |zero=>intro n m f c;simp at c;omega
 |succ k s=>
  intro n m f c;rw[SW,SW];have i:0<10^k:=Nat.pow_pos (by omega);have r:m/10^k<10:=by rw[Nat.div_lt_iff_lt_mul i,pU];rwa [pT]at c
  have q:n/10^k<=m/10^k:=Nat.div_le_div_right (tH f);rcases cR (n/10^k) (m/10^k)with d|d
  .refine List.Lex.rel ?_;show SX _<SX _;rw[UInt8.lt_iff_toNat_lt,xR,xR];generalize n/10^k=a at d;generalize m/10^k=b at d r;omega
  have h:n/10^k=m/10^k:=(by omega);rw[h];refine List.Lex.cons ?_;have j:=V9 n (10^k);have t:=V9 m (10^k);rw[h]at j;have p:=s (n%10^k) (m%10^k) (by omega) (EL _ i);have g:∀(k x:Nat),vK k (x%10^k)=vK k x:=by
   intro k;induction k with
   |zero=>intro x;rfl
   |succ k e=>
    intro x;rw[vK,vK];have l:x%10^(k+1)/10=x/10%10^k:=(by rw[pT,pU (10^k) 10,Nat.mod_mul_right_div_self]);have o:SX (x%10^(k+1))=SX x:=by unfold SX;rw[pT,Nat.mod_mul_left_mod]
    rw[l,o,e]
  rwa [g,g]at p
def bz2(c k:Nat)(n:Nat)(h:k<c):(tJ (c-k)++dS (vK k n)).set (c-1-k) (.int .u8 ((SX (n/10^k)).toNat:Int))=tJ (c-(k+1))++dS (vK (k+1) n):=by
 rw[SW];have e:tJ (c-k)=tJ (c-(k+1))++[.int .u8 0]:=by unfold tJ;rw[show c-k=c-(k+1)+1 from by omega,wG]
 have a:(tJ (c-(k+1))).length=c-1-k:=(by simp[tJ];omega);rw[e,bV,jR _ _ (by omega),a,gM];rfl
def bV6(m:Nat):48+(m:Int)%10=((SX m).toNat:Int):=by rw[xR];omega
def bT9{e:Int}(h:e<0\/999999<e):lD c e=⟨#[]⟩:=aU h
def NY(c:bB)(J:c=99\/c=116\/c=98)(n:Int)(w:aI)(M:-9223372036854775808<=n/\n<=9223372036854775807):
 Calls prog 165 #[.int .u8 (c.toNat:Int),.int .i64 n] w λe Q=>e=.returned (.string (lD c n))/\aS w.heap.size w Q:=by
  obtain⟨O,P⟩:=M;by_cases h:n<0\/999999<n
  .rw[bT9 h];rcases(show n<0\/(¬n<0/\(999999:Int)<n)from by omega)with h|⟨h,S⟩
   all_goals
    go_in;go_wp2;go_ret;exact⟨rfl,aY _ _⟩
  obtain⟨m,rfl⟩:=dA (a:=n) (by omega);have L:m<=999999:=(by omega);have G:=aH (show lD c (m:Int)=bs (c::vK 6 m)from by unfold lD;rw[aQ h,cB];rfl);obtain⟨i0,x,z,A,B⟩:=info_parts infoByte;have U:¬(m:Int)<0:=(by omega);have V:¬(999999:Int)<m:=(by omega);clear h O P;go_in;(go_wp2_with (refine wpList_make_full _ rfl _ _ 110 rfl w.heap.size 5 i0 _ 1 underlying110 x z A .i64 .i64 6 6 6 rfl rfl rfl rfl (by rw[B];omega) (by unfold maxLen;omega) (aO _) ?_;intro R d o));have l:aS w.heap.size w R:=(aY _ _).grown o (aO _) (by simp);go_loopw [1,6,14] (λq j i wr=>∃k:Nat,k<=6/\i=.int .i64 k/\q=.int .i64 ((m/10^k:Nat):Int)/\wr.ownsRow w.heap.size 5 1 (.slice (some ⟨w.heap.size,0,none⟩) 6 6) 6 (tJ (6-k)++dS (vK k m))/\aS w.heap.size w wr) (λ_ _ i _=>6-(intOf i).toNat)
  .refine⟨0,bO _,rfl,by simp,?_,l⟩;rw[O5]at d;simpa[dS,vK]using d
  obtain⟨k,W,rfl,rfl,b,f⟩:=hrel;by_cases y:k<6
  .have X:(k:Int)<6:=(by omega);have u:wr.cell? ⟨w.heap.size,6-1-k,none⟩=some (.int .u8 0):=by rw[b.cellAt _ (by omega),eY (by simp[tJ];omega)];simp[tJ,sO];omega
   have K:wr.frozen? ⟨w.heap.size,6-1-k,none⟩=false:=b.frozenAt _;have C:=bV6 (m/10^k);have D:((m/10^k:Nat):Int)/10=((m/10^(k+1):Nat):Int):=(by rw[pT,<-tI];omega);have N:m/10^k<=999999:=aL (Nat.div_le_self _ _) L;have g:=(b.stored (6-1-k) (.int .u8 ((SX (m/10^k)).toNat:Int))).1;rw[bz2 6 k m y]at g;have⟨t,E,F⟩:=aB g C D;clear g C D;generalize m/10^k=a at *;go_wp2;go_roundw
   .refine⟨k+1,by omega,by go_num,gQ (Value.int .i64) F.out,?_,f.setCell (p:=⟨w.heap.size,5-k,none⟩) (aO _) _⟩;rw[E.out,show 5-k=6-1-k from by omega];exact t.out
   simp[intOf];omega
  obtain rfl:k=6:=by omega
  have v:(convert 110 9 (.slice (some ⟨w.heap.size,0,none⟩) 6 6)).run prog wr=.ok (.string (bs (vK 6 m))) wr:=by refine Z8 (base:=w.heap.size) ?_ underlying110 underlying5 underlying9;simpa[tJ]using b
  have s:=aH f;clear b f d o l;obtain⟨T,r⟩:∃T,T=bs (vK 6 m):=⟨_,rfl⟩;have I:T.size=6:=(by rw[r,eK,aL5]);rw[<-r]at v;have H:=aH r;clear r;rcases J with rfl|rfl|rfl
  all_goals
   go_wp2;go_ret;refine⟨AG ?_,s.out⟩;rw[G.out,H.out];rfl
def qR(n:Int)(w:aI)(d:-9223372036854775808<=n/\n<=9223372036854775807):
 Calls prog 109 #[.int .i64 n] w λe a=>e=.returned (.string (lD 99 n))/\aS w.heap.size w a:=by
  have b:=NY 99 (.inl rfl) n w d;go_in;(go_wp2_with fail);refine b.mono ?_;rintro e a ⟨rfl,c⟩;go_wp2;go_ret;exact⟨rfl,c⟩
def yP(n:Int)(w:aI)(d:-9223372036854775808<=n/\n<=9223372036854775807):
 Calls prog 230 #[.int .i64 n] w λe a=>e=.returned (.string (lD 116 n))/\aS w.heap.size w a:=by
  have b:=NY 116 (.inr (.inl rfl)) n w d;go_in;(go_wp2_with fail);refine b.mono ?_;rintro e a ⟨rfl,c⟩;go_wp2;go_ret;exact⟨rfl,c⟩
def JS(n:Int)(w:aI)(d:-9223372036854775808<=n/\n<=9223372036854775807):
 Calls prog 233 #[.int .i64 n] w λe a=>e=.returned (.string (lD 98 n))/\aS w.heap.size w a:=by
  have b:=NY 98 (.inr (.inr rfl)) n w d;go_in;(go_wp2_with fail);refine b.mono ?_;rintro e a ⟨rfl,c⟩;go_wp2;go_ret;exact⟨rfl,c⟩
abbrev bK:=List bB
structure fM where
 data:bK
 sync:Nat
deriving DecidableEq
abbrev bZ:=List (bK×fM)
structure aM where
 cap:Nat
 files:bZ
 bP:Nat
 down:Bool
 tB:Bool
 left:Nat
 eO:List Int
def bR(l:bZ)(n:bK):Option fM:=match l with
 |[]=>none
 |(m,f)::l=>if m=n then some f else bR l n
def jX(l:bZ)(n:bK):bZ:=l.filter fun p=>!decide (p.1=n)
def eH:bZ->bK->fM->bZ
 |[],n,f=>[(n,f)]
 |(m,g)::l,n,f=>if m=n then(n,f)::l else if n<m then(n,f)::(m,g)::l else(m,g)::eH l n f
def dT(l:bZ):Nat:=(l.map fun p=>p.2.data.length).sum
def rZ(l:bZ):Prop:=l.Pairwise fun p q=>p.1<q.1
def lY(a:bK):¬a<a:=List.lt_irrefl a
def xT{s l x:bK}(a:s<l)(b:l<x):s<x:=List.lt_trans a b
def bE3{s l:bK}(a:¬s<l)(b:s≠l):l<s:=by
 rcases Decidable.em (l<s)with h|h
 .exact h
 exact absurd (List.le_antisymm (List.not_lt.1 h) (List.not_lt.1 a)) b
def xN{l:bZ}{s:bK}{f:fM}(h:bR l s=some f):(s,f)∈l:=by
 induction l with
 |nil=>cases h
 |cons p l b=>
  obtain⟨m,g⟩:=p;rw[bR]at h;split at h
  .rename_i a;cases h;subst a;simp
  exact iG _ (b h)
def M3{l:bZ}{s:bK}(h:∀f,(s,f)∉l):bR l s=none:=by
 cases a:bR l s with
 |none=>rfl
 |some f=>exact absurd (xN a) (h f)
def QF{l:bZ}(b:rZ l){n:bK}{f:fM}(h:(n,f)∈l):bR l n=some f:=by
 induction l with
 |nil=>cases h
 |cons p l c=>
  obtain⟨m,g⟩:=p;rw[bR];rcases cX.1 h with a|a
  .cases a;rw[aU rfl]
  have:=(dD.1 b).1 _ a;rw[aQ (λh=>by subst h;exact lY _ this)];exact c (dD.1 b).2 a
def aC5{l:bZ}{s:bK}{f:fM}{p:bK×fM}(h:p∈eH l s f):p=(s,f)\/(p∈l):=by
 induction l with
 |nil=>left;simpa[eH]using h
 |cons q l a=>
  obtain⟨m,g⟩:=q;rw[eH]at h;split at h
  .rcases cX.1 h with h|h
   .exact .inl h
   exact .inr (iG _ h)
  split at h
  .rcases cX.1 h with h|h
   .exact .inl h
   exact .inr h
  rcases cX.1 h with h|h
  .exact .inr (by rw[h];simp)
  exact(a h).imp id (iG _)
def uS{l:bZ}(i:rZ l)(n:bK)(f:fM):rZ (eH l n f):=by
 induction l with
 |nil=>exact co3 _ _
 |cons q l j=>
  obtain⟨m,g⟩:=q;obtain⟨c,e⟩:=dD.1 i;rw[eH];split
  .rename_i d;subst d;exact dD.2 ⟨c,e⟩
  rename_i d;split
  .rename_i b;exact dD.2 ⟨λp a=>by
    rcases cX.1 a with rfl|a
    .exact b
    exact xT b (c p a),i⟩
  rename_i b;exact dD.2 ⟨λp a=>by
   rcases aC5 a with rfl|a
   .exact bE3 b (λh=>d h.symm)
   exact c p a,j e⟩
def fK(l:bZ)(n:bK)(f:fM)(m:bK):bR (eH l n f) m=if n=m then some f else bR l m:=by
 induction l with
 |nil=>rw[eH,bR];rfl
 |cons q l c=>
  obtain⟨k,g⟩:=q;rw[eH];split
  .rename_i a;subst a;rw[bR,bR];split<;>rfl
  rename_i a;split
  .rw[bR]
  rw[bR,c,bR];by_cases b:k=m
  .subst b;rw[aU rfl,aQ (λh=>a h.symm),aU rfl]
  rw[aQ b,aQ b]
def iB(l:bZ)(n m:bK):bR (jX l n) m=if n=m then none else bR l m:=by
 induction l with
 |nil=>unfold jX;simp[bR]
 |cons q l c=>
  obtain⟨k,g⟩:=q;unfold jX at c|-;rw[j7];by_cases b:k=n
  .subst b;simp only[decide_true,oH,bU,dP];rw[c,bR];by_cases a:k=m
   .rw[aU a,aU a]
   rw[aQ a,aQ a,aQ a]
  simp only[b,decide_false,CE,eE];rw[bR,c,bR];by_cases a:k=m
  .subst a;rw[aU rfl,aQ (λh=>b h.symm),aU rfl]
  rw[aQ a,aQ a]
def uZ{l:bZ}(a:rZ l)(n:bK):rZ (jX l n):=cx1 _ a
def kZ{l:bZ}(e:rZ l)(n:bK)(f:fM):dT (eH l n f)+((bR l n).map λg=>g.data.length).getD 0=dT l+f.data.length:=by
 induction l with
 |nil=>simp[eH,dT,bR]
 |cons q l h=>
  obtain⟨k,g⟩:=q;obtain⟨a,b⟩:=dD.1 e;rw[eH,bR];split
  .simp[dT];omega
  rename_i j;split
  .rename_i c;have:bR l n=none:=M3 λi d=>by have:=a _ d;exact lY _ (xT c this)
   rw[this];simp[dT];omega
  have:=h b;simp only[dT,dN,kL]at this|-;omega
def xE{l:bZ}(h:rZ l)(n:bK):dT (jX l n)+((bR l n).map λg=>g.data.length).getD 0=dT l:=by
 induction l with
 |nil=>simp[jX,dT,bR]
 |cons q l a=>
  obtain⟨k,g⟩:=q;obtain⟨c,d⟩:=dD.1 h;have a:=a d;rw[bR];unfold jX at a|-;rw[j7];by_cases b:k=n
  .subst b;simp only[decide_true,oH,bU,dP,eE];have:bR l k=none:=M3 λi f=>by have e:=c _ f;exact lY _ e
   rw[this]at a;simp only[dT,dN,kL]at a|-;simp at a|-;omega
  simp only[b,decide_false,CE,eE,dP];simp only[dT,dN,kL]at a|-;omega
def aM.qT(D:aM):Bool:=D.tB&&decide (D.left=0)
def aM.tick(D:aM):aM:={D with left:=D.left - 1}
def rP(a:Nat)(f:fM):fM:=⟨f.data.take (f.sync+min a (f.data.length-f.sync)),f.sync+min a (f.data.length-f.sync)⟩
def ED(a:List Int)(i:Nat):Nat:=((a[i]?).getD 0).toNat
def eI(l:bZ)(a:List Int):bZ:=l.mapIdx fun i p=>(p.1,rP (ED a i) p.2)
def aM.crashed(D:aM)(a:List Int):aM:={D with files:=eI D.files a,down:=true,tB:=false,left:=0,eO:=[]}
def aM.sink(D:aM):aM:=D.crashed D.eO
def aM.change(D:aM)(l:bZ):Int×aM:=if D.qT then(61,D.sink)else(0,{D.tick with files:=l})
def jH(n:bK):Bool:=decide (n≠[]/\n.length<=12)
def aM.create(D:aM)(n:bK):Int×aM:=
 if D.down then(61,D)else if jH n=false then(2,D)else if(bR D.files n).isSome then(62,D)else if 400<=D.files.length then(60,D)else D.change (eH D.files n ⟨[],0⟩)
def aM.append(D:aM)(n s:bK):Int×aM:=
 if D.down then(61,D)else match bR D.files n with
  |none=>(4,D)
  |some f=>if D.cap<dT D.files+s.length then(60,D)else
   if D.qT then(61,{D with files:=eH D.files n ⟨f.data++s,f.sync⟩}.sink)else(0,{D.tick with files:=eH D.files n ⟨f.data++s,f.sync⟩})
def aM.sync(D:aM)(n:bK):Int×aM:=
 if D.down then(61,D)else match bR D.files n with
  |none=>(4,D)
  |some f=>D.change (eH D.files n ⟨f.data,f.data.length⟩)
def aM.rename(D:aM)(a b:bK):Int×aM:=
 if D.down then(61,D)else match bR D.files a with
  |none=>(4,D)
  |some f=>if jH b=false then(2,D)else D.change (if a=b then D.files else eH (jX (jX D.files b) a) b f)
def aM.delete(D:aM)(n:bK):Int×aM:=
 if D.down then(61,D)else match bR D.files n with
  |none=>(4,D)
  |some _=>D.change (jX D.files n)
def aM.size(D:aM)(n:bK):Nat×Int:=
 if D.down then(0,61)else match bR D.files n with
  |none=>(0,4)
  |some f=>(f.data.length,0)
def aM.read(D:aM)(n:bK)(a k:Int):bK×Int:=
 if D.down then([],61)else match bR D.files n with
  |none=>([],4)
  |some f=>if a<0\/k<0\/f.data.length<a\/f.data.length-a<k then([],2)else((f.data.drop a.toNat).take k.toNat,0)
def aM.names(D:aM):List bK:=D.files.map (·.1)
def aM.free(D:aM):Int:=(D.cap:Int)-dT D.files
def aM.jW(D:aM)(a:List Int):Int×aM:=if D.down then(61,D)else(0,D.crashed a)
def aM.start(D:aM):Int×aM:=if D.down then(0,{D with down:=false,bP:=D.bP+1})else(2,D)
variable{k m n:Nat}{s:bK}
def KH(c:bB)(n:Int):bK:=if n<0\/999999<n then[]else QM c n.toNat
def KG(c:bB)(n:Int):lD c n=bs (KH c n):=by unfold lD KH;split<;>rfl
def tA(c:bB){n:Nat}(h:n<=999999):KH c (n:Int)=QM c n:=by unfold KH;rw[aQ (by omega)];rfl
def dG:bK:=[110,101,119]
def fZ:bK:=[109,97,112]
def gZ(n:Nat):bK:=KH 99 n
def nR(n:Nat):bK:=KH 116 n
def vI(n:Nat):bK:=KH 98 n
def II(c:bB):Bool:=decide (48<=c.toNat/\c.toNat<=57)
def EE(l:bK):Nat:=l.foldl (fun n c=>10*n+(c.toNat-48)) 0
def mG:bK->Option (bB×Nat)
 |[]=>none
 |c::l=>if l.length=6/\l.all II=true/\(c=99\/c=116\/c=98)then some (c,EE l)else none
def SY(l:bK)(c:bB):EE (l++[c])=10*EE l+(c.toNat-48):=by simp[EE,lP]
def bV7(k:Nat):∀n:Nat,(vK k n).all II=true:=by
 induction k with
 |zero=>intro n;rfl
 |succ k a=>intro n;rw[vK,IC,a];have:=xR n;simp[II];omega
def bV9(k:Nat):∀n:Nat,EE (vK k n)=n%10^k:=by
 induction k with
 |zero=>intro n;simp[vK,EE,bo8]
 |succ k a=>intro n;rw[vK,SY,a,xR,pT,pU (10^k) 10,Nat.mod_mul];omega
def aL6(k:Nat):∀l:bK,l.length=k->l.all II=true->vK k (EE l)=l/\EE l<10^k:=by
 induction k with
 |zero=>intro l a _;simp at a;subst a;exact⟨rfl,by simp[EE]⟩
 |succ k h=>
  intro l a d;have b:l≠[]:=(by rintro rfl;simp at a);obtain⟨i,c,rfl⟩:∃i c,l=i++[c]:=⟨l.dropLast,l.getLast b,(fR b).symm⟩;rw[IC]at d;simp only[bL,an1,List.all_nil,and_true]at d;obtain⟨g,j⟩:=h i (by simpa using a) d.1;have m:48<=c.toNat/\c.toNat<=57:=(by simpa[II]using d.2);rw[SY,vK];have e:(10*EE i+(c.toNat-48))/10=EE i:=by omega
  have f:SX (10*EE i+(c.toNat-48))=c:=by apply V8.1;rw[xR];omega
  rw[e,g,f];exact⟨rfl,by rw[pT];omega⟩
def NS(a:c=99\/c=116\/c=98){n:Nat}(h:n<=999999):mG (QM c n)=some (c,n):=by show(if _ then _ else _)=_;rw[aU ⟨by simp,bV7 6 n,a⟩,bV9,qB (by omega)]
def SA(h:mG s=some (c,n)):s=QM c n/\n<=999999/\(c=99\/c=116\/c=98):=by
 cases s with
 |nil=>cases h
 |cons d l=>
  rw[mG]at h;split at h
  .rename_i a;cases h;obtain⟨b,e⟩:=aL6 6 l a.1 a.2.1;exact⟨by unfold QM;rw[b],by omega,a.2.2⟩
  cases h
structure cT where
 bW:List Nat
 sure:Nat
def kE(r:Int×aM)(k:aM->Int×aM):Int×aM:=if r.1=0 then k r.2 else r
def aM.FP(D:aM)(n s:bK):Int×aM:=kE (D.create dG) fun D=>kE (D.append dG s) fun D=>kE (D.sync dG) fun D=>D.rename dG n
def rQ(a:Nat×Bool)(n:bK):Nat×Bool:=match mG n with
 |some (c,k)=>if c=99 then(a.1+1,a.2&&decide (k=a.1))else a
 |none=>a
def aM.count(D:aM):Nat×Bool:=((D.names.foldl rQ (0,true)).1,(D.names.foldl rQ (0,true)).2&&decide ((D.names.foldl rQ (0,true)).1<=200))
def aM.load(D:aM)(n:Nat):(bK×Nat)×Int:=match bR D.files (gZ n)with
 |none=>(([],0),4)
 |some f=>if cOk f.data n then((f.data,ad8 f.data n),0)else(([],0),63)
def jJ(bW:List Nat):Nat:=match bW.getLast? with
 |none=>0
 |some k=>(bW.length-1)*4096+k
def uV(D:aM)(n:Nat)(s:bK)(e:Nat)(a:List Nat):Int×List Nat×aM:=
 if e=0 then((D.delete (gZ n)).1,a,(D.delete (gZ n)).2)
 else if e<s.length then((D.FP (gZ n) (s.take e)).1,a++[e],(D.FP (gZ n) (s.take e)).2)
 else((D.sync (gZ n)).1,a++[e],(D.sync (gZ n)).2)
def mP(D:aM)(many:Nat):Nat->Nat->List Nat->Int×List Nat×aM
 |0,_,bW=>(0,bW,D)
 |k+1,n,bW=>
  if(D.load n).2≠0 then((D.load n).2,bW,D)
  else if n+1=many then uV D n (D.load n).1.1 (D.load n).1.2 bW
  else if(D.load n).1.2=0\/(D.load n).1.2<(D.load n).1.1.length then(63,bW,D)
  else mP D many k (n+1) (bW++[(D.load n).1.2])
def aM.gE(D:aM):Int×aM:=if(bR D.files dG).isSome then D.delete dG else(0,D)
def jF(D:aM):Int×Option cT×aM:=
 if D.down then(61,none,D)
 else if D.gE.1≠0 then(D.gE.1,none,D.gE.2)
 else if D.gE.2.count.2=false then(63,none,D.gE.2)
 else if(mP D.gE.2 D.gE.2.count.1 D.gE.2.count.1 0 []).1≠0 then((mP D.gE.2 D.gE.2.count.1 D.gE.2.count.1 0 []).1,none,(mP D.gE.2 D.gE.2.count.1 D.gE.2.count.1 0 []).2.2)
 else(0,some ⟨(mP D.gE.2 D.gE.2.count.1 D.gE.2.count.1 0 []).2.1,jJ (mP D.gE.2 D.gE.2.count.1 D.gE.2.count.1 0 []).2.1⟩,(mP D.gE.2 D.gE.2.count.1 D.gE.2.count.1 0 []).2.2)
def fY(L:cT)(D:aM):Int×cT×aM:=
 if L.bW=[]then(0,L,D)else((D.sync (gZ (L.bW.length - 1))).1,if(D.sync (gZ (L.bW.length - 1))).1=0 then {L with sure:=jJ L.bW} else L,(D.sync (gZ (L.bW.length - 1))).2)
def yK(D:aM)(n:Nat):Bool:=decide ((6000:Int)<=D.free-n)
def oU(L:cT)(D:aM)(n:Nat)(r:bK):Int×Nat×cT×aM:=
 if yK D r.length=false then(60,0,L,D)
 else if(D.append (gZ n) r).1≠0 then((D.append (gZ n) r).1,0,L,(D.append (gZ n) r).2)
 else(0,n*4096+L.bW.getD n 0,{L with bW:=L.bW.set n (L.bW.getD n 0+r.length)},(D.append (gZ n) r).2)
def EG(D:aM)(n:Nat)(r:bK):Int×aM:=kE (D.create (gZ n)) fun D=>D.append (gZ n) (eM n++r)
def pB(L:cT)(D:aM)(n:Nat)(r:bK):Int×Nat×cT×aM:=
 if 200<=n\/yK D (12+r.length)=false then(60,0,L,D)
 else if(fY L D).1≠0 then((fY L D).1,0,(fY L D).2.1,(fY L D).2.2)
 else if(EG (fY L D).2.2 n r).1≠0 then((EG (fY L D).2.2 n r).1,0,(fY L D).2.1,(EG (fY L D).2.2 n r).2)
 else(0,n*4096+12,{(fY L D).2.1 with bW:=(fY L D).2.1.bW++[12+r.length]},(EG (fY L D).2.2 n r).2)
def gU(L:cT)(D:aM)(p:bK):Int×Nat×cT×aM:=
 if 2000<p.length then(3,0,L,D)
 else if L.bW≠[]/\xB (L.bW.getD (L.bW.length-1) 0) p.length=true then oU L D (L.bW.length-1) (jT p)
 else pB L D L.bW.length (jT p)
def E4(L:cT)(D:aM)(pos:Int):Nat->Nat->Int×bK×Nat×Nat
 |0,_=>(4,[],0,0)
 |k+1,n=>match bR D.files (gZ n)with
  |none=>(4,[],0,0)
  |some f=>match (cAt (f.data.take (L.bW.getD n 0)) n).find? fun p=>decide (pos<=((n*4096+p:Nat):Int))with
   |some p=>(0,gA (f.data.take (L.bW.getD n 0)) p,n*4096+p,n*4096+gN (f.data.take (L.bW.getD n 0)) p)
   |none=>E4 L D pos k (n+1)
def CU(L:cT)(D:aM)(a:Int):Int×bK×Nat×Nat:=E4 L D (max a 0) (L.bW.length-(max a 0/4096).toNat) (max a 0/4096).toNat
variable{D:aM}{f l:bZ}
def ZZ(f g:fM):Prop:=g.data <+: f.data/\f.sync<=g.data.length/\g.sync=g.data.length
def EJ(l:bZ):Prop:=∀n f,bR l n=some f->f.sync<=f.data.length
def bp2(l a:bZ):Prop:=∀n,(bR l n=none/\bR a n=none)\/∃f g,bR l n=some f/\bR a n=some g/\ZZ f g
def aL9(k:Nat){f:fM}(h:f.sync<=f.data.length):ZZ f (rP k f):=by refine⟨List.take_prefix _ _,?_,?_⟩<;>simp only[rP,bJ]<;>omega
def aJ5(K:Nat->Nat)(l:bZ)(n:bK):∃k,bR (l.mapIdx λi p=>(p.1,rP (K i) p.2)) n=(bR l n).map (rP k):=by
 induction l generalizing K with
 |nil=>exact⟨0,rfl⟩
 |cons p l a=>
  obtain⟨m,g⟩:=p;rw[bh9,bR,bR];by_cases h:m=n
  .exact⟨K 0,by rw[aU h,aU h];rfl⟩
  rw[aQ h,aQ h];exact a (λi=>K (i+1))
def Z7(h:EJ l)(a:List Int):bp2 l (eI l a):=λn=>by
 obtain⟨k,b⟩:=aJ5 (ED a) l n;cases c:bR l n with
 |none=>left;rw[c]at b;exact⟨rfl,b⟩
 |some f=>right;rw[c]at b;exact⟨f,_,rfl,b,aL9 k (h n f c)⟩
def aF6(l:bZ)(a:List Int):(eI l a).map (·.1)=l.map (·.1):=by unfold eI;apply p7;intro i;simp only[oZ,FZ,Option.map_map];cases l[i]?<;>rfl
def Z4(h:rZ l)(a:List Int):rZ (eI l a):=by unfold rZ at h|-;have e:=aF6 l a;have b:(l.map (·.1)).Pairwise (·<·):=lO.2 h;rw[<-e]at b;exact lO.1 b
def bf2(h:bp2 l f):EJ f:=λn g a=>by
 rcases h n with⟨_,b⟩|⟨e,d,_,b,c⟩
 .rw[b]at a;cases a
 rw[b]at a;cases a;rw[c.2.2];exact aO _
def lM(q:bK->Bool)(l:bZ):Nat:=(l.map fun p=>if q p.1 then 0 else p.2.data.length).sum
def B9(q:bK->Bool)(l:bZ):lM q l<=dT l:=by
 induction l with
 |nil=>exact aO _
 |cons p l a=>simp only[lM,dT,dN,kL]at a|-;split<;>omega
def aa8(q:bK->Bool)(K:Nat->Nat)(l:bZ):lM q (l.mapIdx λi p=>(p.1,rP (K i) p.2))<=lM q l:=by
 induction l generalizing K with
 |nil=>exact aO _
 |cons p l a=>have:=a (λi=>K (i+1));rw[bh9];simp only[lM,dN,kL,rP,bJ]at this|-;split<;>omega
def CK(h:rZ l)(q:bK->Bool)(n:bK)(f:fM):lM q (eH l n f)+(if q n then 0 else((bR l n).map λg=>g.data.length).getD 0)=lM q l+(if q n then 0 else f.data.length):=by
 induction l with
 |nil=>simp[eH,lM,bR]
 |cons p l i=>
  obtain⟨k,g⟩:=p;obtain⟨b,c⟩:=dD.1 h;rw[eH,bR];split
  .rename_i a;subst a;simp only[lM,dN,kL,tX,nW];split<;>omega
  rename_i a;split
  .rename_i d;have:bR l n=none:=M3 λj e=>by have:=b _ e;exact lY _ (xT d this)
   rw[this];simp only[lM,dN,kL,bG1,RB];split<;>omega
  have:=i c;simp only[lM,dN,kL]at this|-;omega
def CL(h:rZ l)(q:bK->Bool)(n:bK):lM q (jX l n)+(if q n then 0 else((bR l n).map λg=>g.data.length).getD 0)=lM q l:=by
 induction l with
 |nil=>simp[jX,lM,bR]
 |cons p l a=>
  obtain⟨k,g⟩:=p;obtain⟨c,d⟩:=dD.1 h;have a:=a d;rw[bR];unfold jX at a|-;rw[j7];by_cases b:k=n
  .subst b;simp only[decide_true,oH,bU,dP,eE];have:bR l k=none:=M3 λi f=>by have e:=c _ f;exact lY _ e
   rw[this]at a;simp only[lM,dN,kL,tX,nW,bG1,RB]at a|-;split at a<;>split<;>simp_all<;>omega
  simp only[b,decide_false,CE,eE,dP];simp only[lM,dN,kL]at a|-;omega
def Outcome(D:aM)(l:bZ)(r:Int×aM):Prop:=
 (r.1=0/\r.2.files=l/\r.2.down=false/\r.2.cap=D.cap/\r.2.bP=D.bP)\/
 (r.1=61/\r.2.down=true/\r.2.cap=D.cap/\r.2.bP=D.bP/\∃a,r.2.files=eI D.files a\/r.2.files=eI l a)
def I4(a:D.down=false)(l:bZ):Outcome D l (D.change l):=by
 unfold aM.change;by_cases h:D.qT=true
 .rw[aU h];exact .inr ⟨rfl,rfl,rfl,rfl,D.eO,.inl rfl⟩
 rw[aQ h];exact .inl ⟨rfl,rfl,a,rfl,rfl⟩
def OG(a:D.down=false){s:bK}(c:jH s=true)(b:bR D.files s=none)(d:D.files.length<400):Outcome D (eH D.files s ⟨[],0⟩) (D.create s):=by unfold aM.create;rw[a,c,b,aQ (by simp),aQ (by simp),aQ (by simp),aQ (by omega)];exact I4 a _
def I5(a:D.down=false){s:bK}{f:fM}(b:bR D.files s=some f)(d:bK)(c:dT D.files+d.length<=D.cap):Outcome D (eH D.files s ⟨f.data++d,f.sync⟩) (D.append s d):=by
 unfold aM.append;rw[a,b,aQ (by simp)];show Outcome D _ (if D.cap<dT D.files+d.length then(60,D)else _);rw[aQ (by omega)];by_cases h:D.qT=true
 .rw[aU h];exact .inr ⟨rfl,rfl,rfl,rfl,D.eO,.inr rfl⟩
 rw[aQ h];exact .inl ⟨rfl,rfl,a,rfl,rfl⟩
def PH(a:D.down=false){s:bK}{f:fM}(b:bR D.files s=some f):Outcome D (eH D.files s ⟨f.data,f.data.length⟩) (D.sync s):=by unfold aM.sync;rw[a,b,aQ (by simp)];exact I4 a _
def aW3(a:D.down=false){s l:bK}{f:fM}(d:bR D.files s=some f)(c:jH l=true)(b:s≠l):Outcome D (eH (jX (jX D.files l) s) l f) (D.rename s l):=by unfold aM.rename;rw[a,d,aQ (by simp)];show Outcome D _ (if jH l=false then(2,D)else _);rw[c,aQ (by simp),aQ b];exact I4 a _
def I1(a:D.down=false){s:bK}{f:fM}(b:bR D.files s=some f):Outcome D (jX D.files s) (D.delete s):=by unfold aM.delete;rw[a,b,aQ (by simp)];exact I4 a _
def UN(a:D.down=false){s:bK}(b:bR D.files s=none):D.delete s=(4,D):=by unfold aM.delete;rw[a,b,aQ (by simp)]
variable{r:Int×aM}{C:List (List bK)}{P Q:aM->Prop}{q:bK->Prop}{I:bZ->Prop}
def sV(h:n<=999999):mG (gZ n)=some (99,n):=by unfold gZ;rw[tA 99 h];exact NS (.inl rfl) h
def rN(h:n<=999999):mG (nR n)=some (116,n):=by unfold nR;rw[tA 116 h];exact NS (.inr (.inl rfl)) h
def rO(h:n<=999999):mG (vI n)=some (98,n):=by unfold vI;rw[tA 98 h];exact NS (.inr (.inr rfl)) h
def AX:mG dG=none:=by decide
def LO:mG fZ=none:=by decide
def uG(h:mG s=some (c,n)):n<=999999/\(s=gZ n/\c=99\/s=nR n/\c=116\/s=vI n/\c=98):=by
 have⟨b,a,d⟩:=SA h;refine⟨a,?_⟩;unfold gZ nR vI;rw[tA 99 a,tA 116 a,tA 98 a];rcases d with rfl|rfl|rfl
 .exact .inl ⟨b,rfl⟩
 .exact .inr (.inl ⟨b,rfl⟩)
 exact .inr (.inr ⟨b,rfl⟩)
def yQ{c:bB}{n:Nat}(h:n<=999999):jH (KH c (n:Int))=true:=by rw[tA c h];unfold jH QM;have:(vK 6 n).length=6:=(by simp);simp[this]
def aZ6:jH dG=true:=by decide
def aZ7:jH fZ=true:=by decide
def isC(n:bK):Prop:=∃k,mG n=some (99,k)
def isT(n:bK):Prop:=∃k,mG n=some (116,k)
def iQ(q:bK->Prop)(l a:bZ):Prop:=∀n,q n->bR a n=bR l n\/∃f g,bR l n=some f/\bR a n=some g/\ZZ f g
def iQ.refl(q:bK->Prop)(l:bZ):iQ q l l:=λn _=>.inl rfl
def ZZ.trans{f g h:fM}(a:ZZ f g)(b:ZZ g h):ZZ f h:=
 ⟨b.1.trans a.1,by have:=b.2.1;rw[a.2.2]at this;exact aL a.2.1 this,b.2.2⟩
def iQ.trans{a f:bZ}(r:iQ q a l)(o:iQ q l f):iQ q a f:=λn m=>by
 rcases r n m with h|⟨t,g,d,e,c⟩
 .rcases o n m with i|⟨t,g,d,e,c⟩
  .exact .inl (i.trans h)
  exact .inr ⟨t,g,h▸d,e,c⟩
 rcases o n m with i|⟨s,p,b,k,j⟩
 .exact .inr ⟨t,g,d,i.trans e,c⟩
 rw[e]at b;cases b;exact .inr ⟨t,p,d,k,c.trans j⟩
def iQ.jW(q:bK->Prop){l:bZ}(d:EJ l)(a:List Int):iQ q l (eI l a):=λn _=>by
 rcases Z7 d a n with⟨b,c⟩|h
 .exact .inl (c.trans b.symm)
 exact .inr h
def iQ.put{n:bK}(h:¬q n)(f:fM):iQ q l (eH l n f):=λm a=>by
 left;rw[fK,aQ (λe=>h (by rw[e];exact a))]
def iQ.del(h:¬q s):iQ q l (jX l s):=λm a=>by
 left;rw[iB,aQ (λe=>h (by rw[e];exact a))]
def iQ.mono{a:bK->Prop}(h:iQ q l f)(c:∀n,a n->q n):iQ a l f:=λn b=>h n (c n b)
def iQ.sure(h:iQ q l f){s:bK}(i:q s){k:fM}(c:bR l s=k)(d:k.data<=k.sync):∃g,bR f s=some g/\g.data=k.data/\g.data<=g.sync:=by
 rcases h s i with h|⟨j,g,a,e,b⟩
 .exact⟨k,h.trans c,rfl,d⟩
 rw[c]at a;cases a;exact⟨g,e,b.1.eq_of_length (Nat.le_antisymm b.1.length_le (aL d b.2.1)),by rw[b.2.2];exact aO _⟩
def iQ.no(h:iQ q l f){s:bK}(c:q s)(b:bR l s=none):bR f s=none:=by
 rcases h s c with h|⟨d,g,a,i,e⟩
 .exact h.trans b
 rw[b]at a;cases a
def bM4(h:EJ l)(n:bK){f:fM}(b:f.sync<=f.data):EJ (eH l n f):=λm g a=>by
 rw[fK]at a;split at a
 .cases a;exact b
 exact h m g a
def bV8(h:EJ l)(n:bK):EJ (jX l n):=λm g a=>by
 rw[iB]at a;split at a
 .cases a
 exact h m g a
structure C3(l:bZ):Prop where
 kO:rZ l
 sync:EJ l
def C3.jW(h:C3 l)(a:List Int):C3 (eI l a):=⟨Z4 h.kO a,bf2 (Z7 h.sync a)⟩
def C3.put(h:C3 l)(n:bK){f:fM}(a:f.sync<=f.data):C3 (eH l n f):=⟨uS h.kO n f,bM4 h.sync n a⟩
def C3.del(h:C3 l)(n:bK):C3 (jX l n):=⟨uZ h.kO n,bV8 h.sync n⟩
def dV(n:Nat)(a:List bK):bK:=rT (eM (n:Int)) a
def eL(C:List (List bK)):List Nat:=C.mapIdx fun n a=>(dV n a).length
def zG(l:bZ)(C:List (List bK)):Prop:=∀n (h:n<C.length),∃f,bR l (gZ n)=some f/\f.data=dV n C[n]/\f.data.length<=f.sync
def NoC(l:bZ)(k:Nat):Prop:=∀n,k<=n->n<=999999->bR l (gZ n)=none
def J2(C:List (List bK)):Prop:=C.length<=200/\(∀a∈C,∀p∈a,p.length<=2000)/\∀n (h:n<C.length),(dV n C[n]).length<=4096
def an2(l:bZ)(C:List (List bK))(a:List bK)(S P:Nat):Prop:=∃f c,bR l (gZ C.length)=some f/\c<=(dV C.length a).length/\f.data=(dV C.length a).take c/\f.sync<=c/\
 ((P<=jJ (eL C)/\S<=C.flatten.length)\/∃i,i<=a.length/\P<=C.length*4096+iO (eM (C.length:Nat)) a i/\iO (eM (C.length:Nat)) a i<=f.sync/\S<=C.flatten.length+i)
inductive xX (l:bZ):List (List bK)->Nat->Nat->Prop
 |none (h:NoC l 0):xX l [] 0 0
 |some (C:List (List bK)) (ps:List bK) (S P:Nat) (ok:J2 (C++[ps])) (full:zG l C) (last:an2 l C ps S P) (no:NoC l (C.length+1)):xX l (C++[ps]) S P
def CX(h:n<=999999):isC (gZ n):=⟨n,sV h⟩
def zG.stay(h:zG l C)(m:C.length<=200)(k:iQ isC l f):zG f C:=λn a=>by
 have⟨o,b,c,d⟩:=h n a;have⟨g,e,i,j⟩:=k.sure (CX (by omega)) b d;exact⟨g,e,i.trans c,j⟩
def NoC.stay(h:NoC l n)(c:iQ isC l f):NoC f n:=λd b a=>c.no (CX a) (h d b a)
def an2.stay{p:List bK}(h:an2 l C p n k)(z:C.length<=200)(x:iQ isC l f):an2 f C p n k:=by
 have⟨A,c,j,q,b,r,m⟩:=h;rcases x (gZ C) (CX (by omega))with d|⟨y,g,o,v,a⟩
 .exact⟨A,c,d.trans j,q,b,r,m⟩
 rw[j]at o;cases o;have w:=a.1.length_le;rw[b,bJ]at w;refine⟨g,g.data,v,by omega,?_,by rw[a.2.2];exact aO _,m.imp id λ⟨i,s,t,u,d⟩=>⟨i,s,t,aL u (by rw[a.2.2];exact a.2.1),d⟩⟩;have e:=co2.1 a.1;rwa[b,kJ,fQ (by omega)]at e
def xX.stay(h:xX l C n k)(c:iQ isC l f):xX f C n k:=by
 cases h with
 |none h=>exact .none (h.stay c)
 |some C g n k d a b e=>have i:C.length<=199:=(by have:=d.1;simp at this;omega);exact .some C g n k d (a.stay (by omega) c) (b.stay (by omega) c) (e.stay c)
def xX.ok{l:bZ}{k:Nat}(h:xX l C n k):J2 C:=by
 cases h with
 |none h=>exact⟨by simp,by simp,by simp⟩
 |some C e n k c a b d=>exact c
def xX.le(h:xX l C n k):n<=C.flatten:=by
 cases h with
 |none h=>simp
 |some C q n k p d a o=>have⟨f,c,e,g,j,m,b⟩:=a;simp only[iU,aP,gP,bi0,fU];rcases b with b|⟨i,b⟩<;>omega
structure cw4(l:bZ)(C:List (List bK))(S P:Nat):Prop where
 log:xX l C S P
 whole:∀n (h:n<C.length),∃f,bR l (gZ n)=some f/\f.data=dV n C[n]
def Good(D:aM)(r:Int×aM)(P:aM->Prop)(I:bZ->Prop):Prop:=
 (r.1=0/\r.2.down=false/\r.2.cap=D.cap/\r.2.bP=D.bP/\P r.2)\/(r.1=61/\r.2.down=true/\r.2.cap=D.cap/\r.2.bP=D.bP/\I r.2.files)
def Outcome.MH(h:Outcome D l r){I:bZ->Prop}(g:∀l f,I l->I (eI l f))(j:I D.files)(k:I l):Good D r (λi=>i.files=l) I:=by
 rcases h with⟨a,b,c,d,e⟩|⟨a,b,c,d,f,h|h⟩
 .exact .inl ⟨a,c,d,e,b⟩
 .exact .inr ⟨a,b,c,d,by rw[h];exact g _ _ j⟩
 exact .inr ⟨a,b,c,d,by rw[h];exact g _ _ k⟩
def Good.then{P:aM->Prop}{k:aM->Int×aM}(h:Good D r P I)(n:∀f,f.down=false->f.cap=D.cap->f.bP=D.bP->P f->Good f (k f) Q I):Good D (kE r k) Q I:=by
 rcases h with⟨a,b,c,d,e⟩|⟨a,b,c,d,e⟩
 .unfold kE;rw[aU a];rcases n _ b c d e with⟨g,i,j,l,m⟩|⟨g,i,j,l,m⟩
  .exact .inl ⟨g,i,j.trans c,l.trans d,m⟩
  exact .inr ⟨g,i,j.trans c,l.trans d,m⟩
 unfold kE;rw[aQ (by omega)];exact .inr ⟨a,b,c,d,e⟩
def Good.mono{P Q:aM->Prop}{J:bZ->Prop}(h:Good D r P I)(i:∀f,f.down=false->f.cap=D.cap->f.bP=D.bP->P f->Q f)(g:∀l,I l->J l):Good D r Q J:=by
 rcases h with⟨a,b,c,d,e⟩|⟨a,b,c,d,e⟩
 .exact .inl ⟨a,b,c,d,i _ b c d e⟩
 exact .inr ⟨a,b,c,d,g _ e⟩
def Good.ok(a:D.down=false){P:aM->Prop}{I:bZ->Prop}(h:P D):Good D (0,D) P I:=.inl ⟨rfl,a,rfl,rfl,h⟩
def aZ3(N:Nat)(n:bK):Prop:=n=dG\/n=fZ\/(∃k,k<=199/\n=gZ k)\/∃k,k<N/\(n=nR k\/n=vI k)
def qS(n:bK):Bool:=decide (n=dG)
structure Sys(a N:Nat)(l:bZ):Prop where
 oI:C3 l
 names:∀n f,bR l n=some f->aZ3 N n
 room:lM qS l+6000<=a
def Sys.jW{n k:Nat}(h:Sys n k l)(a:List Int):Sys n k (eI l a):=
 ⟨h.oI.jW a,λj g c=>by
  rcases Z7 h.oI.sync a j with⟨_,b⟩|⟨f,i,d,b,e⟩
  .rw[b]at c;cases c
  .exact h.names j f d,by
  have:=aa8 qS (ED a) l;have e:=h.room;unfold eI;omega⟩
def Sys.del(h:Sys n k l)(c:bK):Sys n k (jX l c):=
 ⟨h.oI.del c,λm g a=>by
  rw[iB]at a;split at a
  .cases a
  .exact h.names m g a,by
  have:=CL h.oI.kO qS c;have b:=h.room;omega⟩
def Sys.bM6(h:Sys n k l){f:fM}(c:f.sync<=f.data):Sys n k (eH l dG f):=
 ⟨h.oI.put dG c,λm g a=>by
  rw[fK]at a;split at a
  .rename_i b;exact .inl b.symm
  .exact h.names m g a,by
  have:=CK h.oI.kO qS dG f;rw[show qS dG=true from by decide]at this;simp only[eE]at this;have d:=h.room;omega⟩
def Sys.put(h:Sys k m l){n:bK}(d:aZ3 m n){f:fM}(c:f.sync<=f.data)(i:lM qS l+f.data+6000<=k+((bR l n).map λg=>g.data.length).getD 0):Sys k m (eH l n f):=
 ⟨h.oI.put n c,λj g b=>by
  rw[fK]at b;split at b
  .rename_i a;rw[<-a];exact d
  .exact h.names j g b,by
  have:=CK h.oI.kO qS n f;have e:=h.room;by_cases a:qS n=true
  .rw[a]at this;simp only[eE]at this;omega
  rw[aQ a,aQ a]at this;omega⟩
def tP{l:Type}[BEq l][LawfulBEq l]:∀{a b:List l},a.Nodup->(∀x∈a,x∈b)->a.length<=b.length
 |[],b,_,_=>bO _
 |x::a,b,i,c=>by
  obtain⟨g,h⟩:=bG2.1 i;have d:=c x (by simp);have:=tP (a:=a) (b:=b.erase x) h λy f=>(List.mem_erase_of_ne (λe=>g (by rw[<-e];exact f))).2 (c y (iG _ f));have j:=List.length_erase_of_mem d;have k:=List.length_pos_of_mem d;simp only[cF];omega
def ZN(N:Nat):List bK:=[dG,fZ]++(List.range 200).map gZ++(List.range N).map nR++(List.range N).map vI
def Sys.yV{n k:Nat}(h:Sys n k l)(m:k<=98):l.length<400:=by
 have f:(l.map (·.1)).Nodup:=by have g:(l.map (·.1)).Pairwise (·<·):=lO.2 h.oI.kO;exact g.imp fun {a b} c e=>by subst e;exact lY _ c
 have:=tP (b:=ZN k) f λx j=>by
  obtain⟨p,i,rfl⟩:=dR.1 j;unfold ZN;simp only[cE,cX,dR,gB,qC,or_false];rcases h.names p.1 p.2 (QF h.oI.kO i)with h|h|⟨o,d,h⟩|⟨o,d,h|h⟩
  .exact .inl (.inl (.inl (.inl h)))
  .exact .inl (.inl (.inl (.inr h)))
  .exact .inl (.inl (.inr ⟨o,by omega,h.symm⟩))
  .exact .inl (.inr ⟨o,d,h.symm⟩)
  exact .inr ⟨o,d,h.symm⟩
 simp[ZN]at this;omega
def bp9(h:bR l dG=none):dT l=lM qS l:=by
 induction l with
 |nil=>rfl
 |cons p l b=>
  have⟨m,g⟩:=p;rw[bR]at h;split at h
  .cases h
  rename_i a;have:=b h;simp only[lM,dT,dN,kL,qS,cC a,bU,dP]at this|-;omega
def cq3(b:n<=999999)(c:k<=999999)(h:gZ n<gZ k):n<k:=by
 rcases C5 n k with a|a|a
 .exact a
 .subst a;exact absurd h (lY _)
 exfalso;unfold gZ at h;rw[tA 99 b,tA 99 c]at h;unfold QM at h;have:=cj5 6 k n a (by omega);rw[cu3]at h;rcases h with h|⟨_,h⟩
 .exact absurd h (by decide)
 exact lY _ (xT h this)
def aF0{M P:List Nat}(k:M.Pairwise (·<·))(l:P.Pairwise (·<·))(h:∀x,x∈M↔x∈P):M=P:=by
 induction M generalizing P with
 |nil=>cases P with
  |nil=>rfl
  |cons y P=>exact absurd ((h y).2 (by simp)) (by simp)
 |cons x M m=>cases P with
  |nil=>exact absurd ((h x).1 (by simp)) (by simp)
  |cons y P=>
   obtain⟨f,i⟩:=dD.1 k;obtain⟨g,j⟩:=dD.1 l;have e:x=y:=by
    have c:=(h x).1 (by simp);have d:=(h y).2 (by simp);rcases cX.1 c with rfl|c
    .rfl
    rcases cX.1 d with rfl|d
    .rfl
    have:=g _ c;have:=f _ d;omega
   subst e;rw[m i j λz=>?_];have:=h z;simp only[cX]at this;constructor
   .intro a;rcases this.1 (.inr a)with rfl|b
    .exact absurd (f _ a) (by omega)
    exact b
   intro a;rcases this.2 (.inr a)with rfl|b
   .exact absurd (g _ a) (by omega)
   exact b
def aN5(n:bK):Option Nat:=match mG n with
 |some (c,k)=>if c=99 then some k else none
 |none=>none
def QT:aN5 s=some n↔s=gZ n/\n<=999999:=by
 constructor
 .intro h;unfold aN5 at h;split at h
  .rename_i c j b;split at h
   .rename_i d;cases h;subst d;obtain⟨e,a⟩:=uG b;rcases a with a|a|a
    .exact⟨a.1,e⟩
    .exact absurd a.2 (by decide)
    exact absurd a.2 (by decide)
   cases h
  cases h
 rintro ⟨rfl,h⟩;unfold aN5;rw[sV h];rfl
def bW3(l:List bK):∀(m:Nat)(b:Bool),l.foldl rQ (m,b)=(m+(l.filterMap aN5).length,b&&decide (l.filterMap aN5=List.range' m (l.filterMap aN5).length)):=by
 induction l with
 |nil=>intro m b;simp
 |cons n l a=>
  intro m b;rw[rA,cy7];unfold rQ aN5 at *;cases e:mG n with
  |none=>exact a m b
  |some p=>
   obtain⟨c,k⟩:=p;by_cases d:c=99
   .simp only[d,eE];rw[a];simp only[cF,List.range'_succ,List.cons.injEq,Bool.decide_and,Bool.and_assoc];refine Prod.ext (by simp only;omega) rfl
   simp only[d,dP];exact a m b
def KC(c:rZ l){s:bK}:s∈l.map (·.1)↔∃f,bR l s=some f:=by
 constructor
 .intro h;obtain⟨p,b,rfl⟩:=dR.1 h;exact⟨p.2,QF c b⟩
 rintro ⟨f,a⟩;exact dR.2 ⟨_,xN a,rfl⟩
def aM3(g:rZ D.files)(k:Nat)(p:k<=200)(l:∀n,n<k->∃f,bR D.files (gZ n)=some f)(m:NoC D.files k):D.count=(k,true):=by
 have o:D.names.filterMap aN5=List.range k:=by
  refine aF0 ?_ List.pairwise_lt_range λx=>?_
  .have r:D.names.Pairwise (·<·):=lO.2 g;rw[co4];refine r.imp fun {a b} e x d y s=>?_;obtain⟨rfl,c⟩:=QT.1 d;obtain⟨rfl,i⟩:=QT.1 s;exact cq3 c i e
  rw[aw5,gB];constructor
  .rintro ⟨n,q,d⟩;obtain⟨rfl,c⟩:=QT.1 d;obtain⟨f,j⟩:=(KC g).1 q;rcases cR x k with h|h
   .exact h
   rw[m x h c]at j;cases j
  intro d;exact⟨gZ x,(KC g).2 (l x d),QT.2 ⟨rfl,by omega⟩⟩
 unfold aM.count;rw[bW3,o];simp[List.range_eq_range',p]
def ax4(a:k<18446744073709551616)(b:m<18446744073709551616):k ^^^ m<18446744073709551616:=aw2 (n:=64) a b
def bx9(h:Nat):Nat:=(h ^^^ h/4294967296)*11400714819323198485%18446744073709551616 ^^^ (h ^^^ h/4294967296)*11400714819323198485%18446744073709551616/536870912
def cf3(h:Nat):bx9 h<18446744073709551616:=ax4 (EL _ (by omega)) (by have:=EL ((h ^^^ h/4294967296)*11400714819323198485) (show 0<18446744073709551616 from by omega);omega)
def WG(a:Nat)(c:Nat):IntKind.u64.wrap ((a:Int)*(c:Int))=((a*c%18446744073709551616:Nat):Int):=by rw[eR,<-Int.natCast_mul];omega
def bP0(h:Nat)(e:h<18446744073709551616):bits BinOp.xor IntKind.u64 (IntKind.u64.wrap (bits BinOp.xor IntKind.u64 (h:Int) ((h:Int)/4294967296)*11400714819323198485)) (IntKind.u64.wrap (bits BinOp.xor IntKind.u64 (h:Int) ((h:Int)/4294967296)*11400714819323198485)/536870912)=((bx9 h:Nat):Int):=by
 have d:bits BinOp.xor IntKind.u64 (h:Int) ((h:Int)/4294967296)=((h ^^^ h/4294967296:Nat):Int):=by rw[show(h:Int)/4294967296=((h/4294967296:Nat):Int)from by omega];exact u64_xor_nat _ _ e (by omega)
 rw[d];have c:=WG (h ^^^ h/4294967296) 11400714819323198485;rw[show((11400714819323198485:Nat):Int)=11400714819323198485 from rfl]at c;rw[c];have b:=EL ((h ^^^ h/4294967296)*11400714819323198485) (show 0<18446744073709551616 from by omega);unfold bx9;generalize (h ^^^ h/4294967296)*11400714819323198485%18446744073709551616=a at b|-;rw[show(a:Int)/536870912=((a/536870912:Nat):Int)from by omega];exact u64_xor_nat _ _ b (by omega)
def bc8(h:Nat)(w:aI)(b:h<18446744073709551616):
 Calls prog 144 #[.int .u64 h] w λe c=>e=.returned (.int .u64 (bx9 h:Nat))/\w=c:=by
  have a:=aH (bP0 h b);go_in;go_wp2;go_ret;exact⟨nF a.out,rfl⟩
def aJ1(h:Nat)(c:bB):Nat:=(h ^^^ c.toNat)*1099511628211%18446744073709551616
def KB(a:Nat)(l:List bB):Nat:=l.foldl aJ1 (14695981039346656037 ^^^ a)
def lJ(a:Nat)(l:List bB):Nat:=if a=0 then 7 else bx9 (KB a l)
def bS7(h:Nat)(c:bB):aJ1 h c<18446744073709551616:=EL _ (by omega)
def bS6(b:Nat)(e:b<18446744073709551616)(l:List bB):KB b l<18446744073709551616:=by
 unfold KB;have d:∀(l:List bB)(a:Nat),a<18446744073709551616->l.foldl aJ1 a<18446744073709551616:=by
  intro l;induction l with
  |nil=>intro a h;exact h
  |cons c l f=>intro a _;exact f _ (bS7 _ _)
 exact d l _ (ax4 (by omega) e)
def YI(a:Nat)(l:List bB):lJ a l<18446744073709551616:=by
 unfold lJ;split
 .omega
 exact cf3 _
def bd0(a:Nat)(s:aT)(k:Nat)(h:k<s.size):KB a ((lb s).take (k+1))=aJ1 (KB a ((lb s).take k)) s[k]:=by unfold KB;rw[GC s k h,lP,rA,List.foldl_nil]
def ax6(c:bB):IntKind.u64.wrap (c.toNat:Int)=((c.toNat:Nat):Int):=by have a:c.toNat<256:=c.toNat_lt;rw[eR];exact Int.emod_eq_of_lt (Int.natCast_nonneg _) (by have:(c.toNat:Int)<256:=(by exact_mod_cast a);exact Int.lt_trans this (by decide))
def bE2(c:bB):c.toNat<18446744073709551616:=Nat.lt_trans c.toNat_lt (by decide)
def bc9(h:Nat)(c:bB)(b:h<18446744073709551616):IntKind.u64.wrap (bits BinOp.xor IntKind.u64 (h:Int) (IntKind.u64.wrap (c.toNat:Int))*1099511628211)=((aJ1 h c:Nat):Int):=by rw[ax6,u64_xor_nat h c.toNat b (bE2 c)];have a:=WG (h ^^^ c.toNat) 1099511628211;rwa[show((1099511628211:Nat):Int)=1099511628211 from rfl]at a
def DA(b:Nat)(s:aT)(w:aI)(m:b<18446744073709551616)(y:s.size<=1000000):
 Calls prog 93 #[.int .u64 b,.string s] w λe p=>e=.returned (.int .u64 (lJ b (lb s):Nat))/\w=p:=by
  by_cases g:b=0
  .subst g;have v:(((0:Nat):Int)==0)=true:=rfl;go_in;go_wp2;go_ret;exact⟨rfl,rfl⟩
  have v:((b:Int)==0)=false:=(by rw[bI];omega);have⟨q,u,r,t⟩:=aC (show lJ b (lb s)=bx9 (KB b (lb s))from aQ g) (show bits BinOp.xor IntKind.u64 14695981039346656037 (b:Int)=((KB b []:Nat):Int)from u64_xor_nat 14695981039346656037 b (by omega) m) (bS6 b m) (λk o=>bd0 b s k o);clear g;go_in;go_wp2_with fail
  go_loopw [5,6,13] (λh j i wr=>∃k:Nat,k<=s.size/\i=.int .i64 k/\h=.int .u64 (KB b ((lb s).take k):Nat)/\wr=w) (λ_ _ i _=>s.size-(intOf i).toNat)
  .exact⟨0,by omega,rfl,by rw[u.out];rfl,rfl⟩
  obtain⟨k,o,rfl,rfl,rfl⟩:=hrel;have c:=r.out ((lb s).take k);by_cases d:k<s.size
  .have z:(k:Int)<s.size:=(by omega);have f:=bc9 (KB b ((lb s).take k)) s[k] c;rw[<-t.out k d]at f;have l:=aH f;clear f;generalize KB b ((lb s).take k)=a at l c|-;have x:=aH c;clear c;go_wp2;go_roundw
   .exact⟨k+1,by omega,by go_num,gQ (Value.int .u64) l.out,trivial⟩
   simp[intOf];omega
  obtain rfl:k=s.size:=(by omega);rw[aX (by rw[bN];exact aO _)]at c|-;(go_wp2_with fail);refine(bc8 _ _ c).mono ?_;rintro e p ⟨rfl,rfl⟩;go_wp2;go_ret;exact⟨gQ (λn:Nat=>Ending.returned (.int .u64 n)) q.out.symm,rfl⟩
def JM(n p:Nat):Nat:=max 1 ((n*p*3/2+479)/480)
def aB9(n p:Nat)(w:aI)(k:n<=10000)(m:1<=p)(l:p<=16):
 Calls prog 293 #[.int .i64 n,.int .i64 p] w λe t=>e=.returned (.int .i64 (JM n p:Nat))/\w=t:=by
  obtain⟨c,a⟩:∃c,c=n*p:=⟨_,rfl⟩;have i:c<=160000:=by rw[a];exact Nat.mul_le_mul k l
  have u:(n:Int)*(p:Int)=(c:Int):=(by rw[a];simp);obtain⟨d,f⟩:∃d,d=c*3/2:=⟨_,rfl⟩;have v:Int.tdiv ((c:Int)*3) 2=(d:Int):=(by rw[n7 (by omega)];omega);obtain⟨q,g⟩:∃q,q=(d+479)/480:=⟨_,rfl⟩;have x:Int.tdiv ((d:Int)+480-1) 480=(q:Int):=(by rw[n7 (by omega)];omega);have j:d<=240000:=(by omega);have r:q<=1000:=(by omega);have h:JM n p=max 1 q:=(by unfold JM;rw[<-a,<-f,<-g]);have y:¬((n:Int)<0):=(by omega);have z:¬((10000:Int)<n):=(by omega);have A:¬((p:Int)<1):=(by omega);have B:¬((16:Int)<p):=(by omega);rw[h];clear h a f g;by_cases o:1<q
  iterate 2
   ·(first|(have b:max 1 q=q:=by omega)|(have b:max 1 q=1:=by omega));(first|(have s:(1:Int)<q:=by omega)|(have s:¬(1:Int)<q:=by omega));rw[b];clear b;go_in;go_wp2;go_ret;exact⟨rfl,rfl⟩
def ba3(r:Nat)(w:aI):Calls prog 301 #[.float .f64 r] w λe a=>∃b,e=.returned (.bool b)/\w=a:=by
 go_in;go_wp2;go_ret;exact⟨_,rfl,rfl⟩
def aJ2(j:Nat):Nat:=(1023-j)*4503599627370496
def bS8:∀j:Fin 16,floatBits .quo .f64 (aJ2 j.1) 4611686018427387904=some (aJ2 (j.1+1)):=by decide +kernel
def ZT(w:aI)(e:eT)(a:aI):Prop:=∃k:Nat,1<=k/\k<=16/\e=.returned (.int .i64 (k:Int))/\w=a
def ap1(r:Nat)(w:aI):
 Calls prog 292 #[.float .f64 r] w (ZT w):=by
  have g:=ba3 r w;go_in;(go_wp2_with fail);go_step3;(go_wp2_with fail);refine g.mono ?_;rintro e p ⟨b,rfl,rfl⟩;clear g;cases b with
  |true=>go_wp2;go_ret;exact⟨4,by omega,by omega,rfl,rfl⟩
  |false=>
   (go_wp2_with fail);go_step3;(go_wp2_with fail);go_loopw [3,4,13] (λh k _ wr=>∃(j:Nat),h=.float .f64 (aJ2 j)/\k=.int .i64 j/\j<=16/\wr=w) (λ_ k _ _=>16-(intOf k).toNat)
   .exact⟨0,rfl,rfl,by omega,rfl⟩
   obtain⟨j,rfl,rfl,n,rfl⟩:=hrel;by_cases c:j<16
   .have o:(j:Int)<16:=(by omega);have d:=bS8 ⟨j,c⟩;simp only at d;obtain⟨q,f⟩:∃q,q=aJ2 j:=⟨_,rfl⟩;obtain⟨m,a⟩:∃q,q=aJ2 (j+1):=⟨_,rfl⟩;rw[<-f,<-a]at d;rw[<-f];have i:=λ(w:aI)(t:cD)=>run_float_arith (P:=prog) w .quo t .f64 q 4611686018427387904 m d;have l:=aH a;clear d f a;go_wp2
    ·(try rw[eJ]);go_ret;exact⟨j+1,by omega,by omega,by simp,rfl⟩
    exact⟨⟨j+1,by rw[l.out],by simp,by omega,trivial⟩,by simp[intOf];omega⟩
   obtain rfl:j=16:=(by omega);go_wp2;(try rw[eJ]);go_ret;exact⟨16,by omega,by omega,rfl,rfl⟩
def aA0(n:Nat)(w:aI):(callFunc 172 #[.int .u64 n]).run prog w=.ok (.value (.float .f64 n)) w:=by rw[run_callFunc_extern (P:=prog) (fn:=f172) (e:=Extern.MathFloatBits.float64frombits) (by kernel_rfl) (by kernel_rfl) (by kernel_rfl) (by kernel_rfl) (by kernel_rfl)];rfl
end Go.Proofs.YtpopikndggffaaaGreatDoor
