/- TOP, part 7. -/
import Derived.Deep.OwnRows
import Derived.Test.YtpopikndggffaaaGreatDoorGm4
import Derived.Test.YtpopikndggffaaaGreatDoorGm5
namespace Go.Proofs.YtpopikndggffaaaGreatDoor
set_option linter.all false
set_option maxRecDepth 100000
set_option maxHeartbeats 16000000
open Go.RowKit Tryz
variable{o:Bool}{b s:aT}
def bK9{a:Bool}(c:s=b)(d:o=a):Ending.returned (.tuple #[.string s,.bool o])=.returned (.tuple #[.string b,.bool a]):=by rw[c,d]
def aE5(s:aT)(h:¬s.size<4):kP (lb s)=(VI (ab0 (lb (s.extract 0 (s.size-4))))==(s.extract (s.size-4) s.size).toList):=by rw[eB,gF,eB,EY];unfold kP;rw[bN,cJ (by omega:4<=s.size),fI,tG,mA];rw[aX (l:=(lb s).drop (s.size-4)) (by simp)]
def aZ2(s:aT)(h:¬s.size<4)(a:kP (lb s)=true):s.extract 0 (s.size-4)=bs (kV (lb s)):=by rw[eB];unfold kV;rw[a,aU rfl,bN,tG,mA]
def LJ(s:aT)(w:aI)(l:s.size<=9223372036854775000):
 Calls prog 170 #[.string s] w λe k=>e=.returned (.tuple #[.string (bs (kV (lb s))),.bool (kP (lb s))])/\aS w.heap.size w k:=by
  by_cases g:s.size<4
  .have c:(s.size:Int)<4:=(by omega);have a:kP (lb s)=false:=(by unfold kP;rw[bN];simp;omega);unfold kV;rw[a];clear a;go_in;(go_wp2_with fail);go_quiet (fail);go_wp2;go_ret2;exact⟨rfl,below_drewN (aY _ _) _⟩
  have c:decide ((s.size:Int)<4)=false:=(by simp;omega);have i:(4:Int)<=s.size:=by omega
  go_in;(go_wp2_with fail);refine cU (by kernel_rfl) (by kernel_rfl) ?_;repeat go_big_quiet_step (first|(go_at_call 238;exact BX _ (ay9 _ _ (by rw[eB];simp[maxLen];omega)))|(go_at_call 237;exact eP _ (ay8 _ _ (bi9 _))))
  refine wpQuiet_nil ?_;intro _ j;obtain⟨⟨m,b⟩,rfl⟩:=j;have h:=aE5 s g;have f:=aH h;clear h;go_wp2
  .have d:(!VI (ab0 (lb (s.extract 0 (s.size-4))))==(s.extract (s.size-4) s.size).toList)=true:=(by assumption);have a:kP (lb s)=false:=(by rw[f.out];simpa using d);go_ret2;refine⟨bK9 ?_ a.symm,b⟩;unfold kV;rw[a];rfl
  have d:(!VI (ab0 (lb (s.extract 0 (s.size-4))))==(s.extract (s.size-4) s.size).toList)=false:=(by assumption);have a:kP (lb s)=true:=(by rw[f.out];simpa using d);go_ret2;exact⟨bK9 (aZ2 s g a) a.symm,b⟩
variable{a e:Int}
def cp0(c:s=b)(d:e=a):Ending.returned (.tuple #[.string s,.int .i64 e])=.returned (.tuple #[.string b,.int .i64 a]):=by rw[c,d]
def PJ{c:Bool}(d:s=b)(f:e=a)(g:o=c):Ending.returned (.tuple #[.string s,.int .i64 e,.bool o])=.returned (.tuple #[.string b,.int .i64 a,.bool c]):=by rw[d,f,g]
def bu7(n:Nat):qL n 4=be 4 n:=by unfold qL;rw[aQ (by omega)];rfl
def PO(n:Nat)(w:aI)(c:(n:Int)<=9223372036854775807):
 Calls prog 203 #[.int .i64 n] w λe b=>e=.returned (.string (bs (be 4 n)))/\aS w.heap.size w b:=by
  go_in;(go_wp2_with fail);refine(sI _ _ _ (by omega) (by omega)).mono ?_;rintro e d ⟨rfl,a⟩;go_wp2;go_ret;exact⟨rfl,a⟩
def aB5(s:aT)(w:aI)(k:s.size<=9223372036854775000):
 Calls prog 140 #[.string s] w λe i=>e=.returned (.tuple #[.string (bs (aX3 (lb s))),.int .i64 (aX6 (lb s))])/\aS w.heap.size w i:=by
  by_cases h:s.size<=2000
  .have c:¬(2000:Int)<s.size:=(by omega);have a:aX3 (lb s)=jT (lb s):=(by unfold aX3;rw[aQ (by rw[bN];omega)]);have b:aX6 (lb s)=0:=(by unfold aX6;rw[aQ (by rw[bN];omega)]);rw[a,b];clear a b;go_in;(go_wp2_with fail);refine(PO _ _ (by omega)).mono ?_;rintro e l ⟨rfl,d⟩;(go_wp2_with fail);refine(AV _ _ (by rw[zA];simp;omega)).mono ?_;rintro e m ⟨rfl,f⟩;(go_wp2_with fail);refine(PO _ _ (by omega)).mono ?_;rintro e n ⟨rfl,g⟩;have j:(kY (lb (bs (be 4 s.size)++s))).length=s.size+8:=(by rw[nT,zA,gF];simp;omega);go_wp2;go_ret2;refine⟨cp0 ?_ rfl,?_⟩
   .rw[l4,zA,gF];unfold jT;rw[bN]
   repeat (first|assumption|exact aY _ _|(refine aJ (by assumption) ?_))
  have c:(2000:Int)<s.size:=(by omega);have a:aX3 (lb s)=[]:=(by unfold aX3;rw[aU (by rw[bN];omega)]);have b:aX6 (lb s)=3:=(by unfold aX6;rw[aU (by rw[bN];omega)]);rw[a,b];clear a b;go_in;go_wp2;go_ret2;exact⟨rfl,aY _ _⟩
def bB3(s:aT)(a:Int)(h:a<0\/(s.size:Int)-12<a):SQ (lb s) a=false:=by
 unfold SQ;rcases h with h|h
 .rw[cC (by omega)];rfl
 by_cases b:0<=a
 .rw[cJ b,fI];rcases c:recAt (lb s) a.toNat with _|_
  .rfl
  have:=nU c;rw[bN]at this;omega
 rw[cC b];rfl
def bB4(l:List bB)(a n:Nat)(c:kN l a=n)(b:a+12<=l.length):
 SQ l (a:Int)=(decide (n<=2000)&&(decide (a+n+12<=l.length)&&((l.drop a).take (n+12)==jT ((l.drop (a+4)).take n)))):=by unfold SQ recAt;rw[cJ (by omega:(0:Int)<=(a:Int)),fI,cB,cJ b,fI,c]
def JG(s:aT)(a:Int)(w:aI)(hs:s.size<=9223372036854775000)(Z:-9223372036854775808<=a/\a<=9223372036854775807):
 Calls prog 112 #[.string s,.int .i64 a] w λe V=>e=.returned (.tuple #[.string (bs (gA (lb s) a)),.int .i64 (gN (lb s) a),.bool (SQ (lb s) a)])/\aS w.heap.size w V:=by
  obtain⟨h2,h3⟩:=Z;by_cases y:a<0\/(s.size:Int)-12<a
  .have P:=bB3 s a y;unfold gA gN;rw[P];clear P;rcases y with h|h
   .go_in;go_wp2;go_ret3;exact⟨rfl,aY _ _⟩
   by_cases P:a<0
   iterate 2
    .go_in;go_wp2;go_ret3;exact⟨rfl,aY _ _⟩
  obtain⟨k,rfl⟩:=dA (a:=a) (by omega);have h1:(k:Int)<=(s.size:Int)-12:=(by omega);have hl:k+12<=(lb s).length:=(by rw[bN];omega);obtain⟨n,B⟩:∃n,n=kN (lb s) k:=⟨_,rfl⟩;have h4:n<4294967296:=(by rw[B];exact bO6 _ _);have U:=bB4 (lb s) k n B.symm hl;have G:qA (lb (s.extract k (k+4)))=n:=by rw[B,eB,gF,show k+4-k=4 from by omega];unfold qA kN;rw[aX (l:=((lb s).drop k).take 4) (by simp;omega)]
  have i:=aW8 (lb s) k n B.symm;have⟨R,O,N,E⟩:=aC B U G i;clear B U G i y;go_in;(go_wp2_with fail);refine(vR _ _ (by rw[eB];simp[maxLen];omega)).mono ?_;rintro e V ⟨rfl,rfl⟩;rw[N.out];by_cases I:n<=2000
  .have J:¬(2000:Int)<n:=(by omega);by_cases r:k+n+12<=s.size
   .have K:¬(s.size:Int)-12-k<n:=(by omega);obtain⟨X,A⟩:∃X,X=((lb s).drop k).take (n+8):=⟨_,rfl⟩;have F:X.length=n+8:=(by rw[A];simp;omega);have x:lb (s.extract k (k+n+8))=X:=(by rw[eB,gF,A,show k+n+8-k=n+8 from by omega]);have t:(s.extract k (k+n+8)).size=n+8:=(by rw[<-bN,x,F]);have j:((s.extract (k+n+8) (k+n+12)).toList==(s.extract k (k+4)).toList)=(((lb s).drop (k+n+8)).take 4==((lb s).drop k).take 4):=(by rw[eB,eB,EY,EY,show k+n+12-(k+n+8)=4 from by omega,show k+4-k=4 from by omega]);have i:=E.out (by rw[bN];exact r);rw[<-A]at i;have c:=bw6 (lb s) k n (by rw[bN];exact r);rw[<-A]at c;have H:SQ (lb s) k=(kP X&&((s.extract (k+n+8) (k+n+12)).toList==(s.extract k (k+4)).toList)):=(by rw[O.out,cJ I,cJ (by rw[bN];exact r),fI,fI,j,i]);have⟨M,D,u,g,HX⟩:=aD x t c H A;have S:kP X=true->(kV X).length=n+4:=λh=>(by unfold kV;rw[h,aU rfl];simp;omega);have W:=aH S;clear x t c H A i j F E S;(go_wp2_with fail);refine(LJ _ _ (by rw[D.out];omega)).mono ?_;rintro e w1 ⟨rfl,v⟩;rw[M.out];by_cases C:kP X=true
    .by_cases z:((s.extract (k+n+8) (k+n+12)).toList==(s.extract k (k+4)).toList)=true
     .have b:SQ (lb s) k=true:=by rw[g.out,C,z];rfl
      have d:bs ((kV X).drop 4)=bs (gA (lb s) k):=by unfold gA;rw[b,aU rfl,u.out C,cB,<-R.out]
      have f:gN (lb s) k=k+n+12:=(by unfold gN;rw[b,aU rfl,cB,<-R.out]);have Y:=W.out C;have T:¬(((kV X).length:Int)<4):=(by omega);have⟨q,m,o⟩:=aB b d f;clear b d f g;(go_wp2_with fail);go_quiet (fail);(go_wp2_with fail);go_ret3;refine⟨PJ ?_ ?_ q.out.symm,below_drewN v _⟩
      .rw[<-m.out,eB,gF,aX (by simp;omega)]
      rw[o.out];omega
     have L:((s.extract (k+n+8) (k+n+12)).toList==(s.extract k (k+4)).toList)=false:=(by simpa using z);clear z;have b:SQ (lb s) k=false:=(by rw[g.out,C,L];rfl);have d:bs []=bs (gA (lb s) k):=(by unfold gA;rw[b];rfl);have f:gN (lb s) k=0:=(by unfold gN;rw[b];rfl);have⟨q,m,o⟩:=aB b d f;clear b d f g;(go_wp2_with fail);go_quiet (fail);(go_wp2_with fail);go_ret3;exact⟨PJ m.out (by rw[o.out];rfl) q.out.symm,below_drewN v _⟩
    have Q:kP X=false:=(by simpa using C);clear C;have b:SQ (lb s) k=false:=(by rw[g.out,Q];rfl);have d:bs []=bs (gA (lb s) k):=(by unfold gA;rw[b];rfl);have f:gN (lb s) k=0:=(by unfold gN;rw[b];rfl);have⟨q,m,o⟩:=aB b d f;clear b d f g;(go_wp2_with fail);go_quiet (fail);(go_wp2_with fail);go_ret3;exact⟨PJ m.out (by rw[o.out];rfl) q.out.symm,below_drewN v _⟩
   have K:(s.size:Int)-12-k<n:=(by omega);have b:SQ (lb s) k=false:=(by rw[O.out,cC (p:=k+n+12<=(lb s).length) (by rw[bN];exact r)];simp);have d:bs []=bs (gA (lb s) k):=(by unfold gA;rw[b];rfl);have f:gN (lb s) k=0:=(by unfold gN;rw[b];rfl);have⟨q,m,o⟩:=aB b d f;clear b d f;go_wp2;go_ret3;exact⟨PJ m.out (by rw[o.out];rfl) q.out.symm,aY _ _⟩
  have J:(2000:Int)<n:=(by omega);have b:SQ (lb s) k=false:=(by rw[O.out,cC I];rfl);have d:bs []=bs (gA (lb s) k):=(by unfold gA;rw[b];rfl);have f:gN (lb s) k=0:=(by unfold gN;rw[b];rfl);have⟨q,m,o⟩:=aB b d f;clear b d f;go_wp2;go_ret3;exact⟨PJ m.out (by rw[o.out];rfl) q.out.symm,aY _ _⟩
variable{Q:List bB}{n:Nat}
def bS3:(prog.info? 3).map (λi=>(i.zero,i.size,i.bytes))=some (some (.int .i64 0),1,8):=by kernel_rfl
def bW6(w:aI)(v:aN)(e:cD):∀j u,([v]:List aN)[j]?=some u->(w.alloc (.cells #[v] e)).cell? ((Addr.mk w.heap.size 0 none).add j)=some u:=by
 intro j u a;match j,a with
 |0,a=>simp at a;subst a;simp[Addr.add]
def gJ(l:List Nat):List aN:=MO (l.map (fun n:Nat=>(n:Int)))
@[simp,go_sem] def cg9(l:List Nat):(gJ l).length=l.length:=by simp[gJ]
def BI(l:List Nat)(a:Nat):gJ (l++[a])=gJ l++[.int .i64 a]:=by simp[gJ,MO]
structure AS(l:List bB)(b:Int)(pre:List Nat)(a:Nat):Prop where
 le:a<=l.length
 yV:12*pre.length<=a
 ats:wAt l b=pre++(qG l l.length a).1
 end_:P8 l b=(qG l l.length a).2
def AS.start(l:List bB)(a:Nat)(h:a<=l.length):AS l (a:Int) [] a:=by
 refine⟨h,by simp,?_,?_⟩
 .unfold wAt;rw[aQ (by omega)];rfl
 unfold P8;rw[aQ (by omega)];rfl
def AS.step{pre:List Nat}(h:AS Q e pre n)(a:SQ Q (n:Int)=true):AS Q e (pre++[n]) (gN Q (n:Int))/\n+12<=gN Q (n:Int):=by
 have b:recAt Q n=true:=by unfold SQ at a;rwa[cJ (by omega:(0:Int)<=(n:Int)),fI,cB]at a
 have c:=nU b;have d:gN Q (n:Int)=n+kN Q n+12:=(by unfold gN;rw[a,aU rfl,cB]);rw[d];refine⟨⟨c.2.2,by have:=h.yV;simp;omega,?_,?_⟩,by omega⟩
 .rw[h.ats,RL b];simp
 rw[h.end_,RL b]
def AS.stop{pre:List Nat}(h:AS Q e pre n)(a:SQ Q (n:Int)=false):wAt Q e=pre/\P8 Q e=n:=by
 have b:recAt Q n=false:=by unfold SQ at a;rwa[cJ (by omega:(0:Int)<=(n:Int)),fI,cB]at a
 refine⟨?_,?_⟩
 .rw[h.ats,pI b];simp
 rw[h.end_,pI b]
def bF8(l:List bB)(f:Int)(w:aI)(e:eT)(a:aI):Prop:=
 ∃v,e=.returned (.tuple #[v,.int .i64 (P8 l f)])/\Reads a v 1 (wAt l f).length (gJ (wAt l f))/\aS w.heap.size w a
def aA5(h:Nat):Nat:=h/131072+h%131072*140737488355328
def JB(h:Nat):Nat:=aA5 h+1-aA5 h%2
def bj2(a:n<18446744073709551616):aA5 n<18446744073709551616:=by unfold aA5;omega
def bJ6(a:n<18446744073709551616):JB n<18446744073709551616:=by have:=bj2 a;unfold JB;omega
def cp6(s:Nat):s ||| 1=s+1-s%2:=by
 have a:(s ||| 1)/2=s/2:=by rw[Nat.or_div_two];simp
 have b:(s ||| 1)%2=1:=by rw[Nat.or_mod_two_eq_one];simp
 omega
def co9(h:Nat)(a:h<18446744073709551616):h%131072*140737488355328 ||| h/131072=aA5 h:=by have:=Nat.two_pow_add_eq_or_of_lt (i:=47) (b:=h/131072) (by omega) (h%131072);unfold aA5;rw[show(2:Nat)^47=140737488355328 from rfl]at this;rw[pU (h%131072),<-this];omega
def aO1(h:Nat)(w:aI)(i:h<18446744073709551616):
 Calls prog 308 #[.int .u64 h,.int .i64 (-17)] w λe j=>e=.returned (.int .u64 (aA5 h:Nat))/\w=j:=by
  have k:bits BinOp.and IntKind.u64 (IntKind.u64.wrap (-17)) 63=47:=(by decide +kernel);have b:IntKind.u64.wrap ((h:Int)*140737488355328)=((h%131072*140737488355328:Nat):Int):=(by rw[eR];omega);have c:(h:Int)/131072=((h/131072:Nat):Int):=(by omega);have a:=u64_or_nat (h%131072*140737488355328) (h/131072) (by omega) (by omega);rw[co9 h i]at a;have⟨d,f,g⟩:=aB b c a;clear b c a;go_in;go_wp2;go_ret;refine⟨nF ?_,rfl⟩;rw[d.out,f.out,g.out]
def aJ0(h:Nat)(w:aI)(b:h<18446744073709551616):
 Calls prog 300 #[.int .u64 h] w λe c=>e=.returned (.int .u64 (JB h:Nat))/\w=c:=by
  have a:=u64_or_nat (aA5 h) 1 (bj2 b) (by omega);rw[cp6]at a;have d:=aH a;clear a;go_in;(go_wp2_with fail);refine(aO1 _ _ b).mono ?_;rintro e c ⟨rfl,rfl⟩;go_wp2;go_ret;exact⟨nF d.out,rfl⟩
def prN(h i a:Nat):Nat:=((h+i*JB h%18446744073709551616)%18446744073709551616)%a
def prB(h:Nat)(i a:Int):Nat:=if a<1\/i<0 then 0 else prN h i.toNat a.toNat
def ap3(h i a:Nat)(b:0<a):prB h i a=prN h i a:=by unfold prB;rw[aQ (by omega)];simp
def aY0(h i:Nat){n:Nat}(a:0<n):prN h i n<n:=EL _ a
def aX9(h k b:Nat)(e:0<b)(f:(b:Int)<=9223372036854775807):
 wrap64 ((IntKind.u64.wrap ((h:Int)+IntKind.u64.wrap ((k:Int)*(JB h:Nat)))).tmod (b:Int))=((prN h k b:Nat):Int):=by have a:(k:Int)*(JB h:Nat)=((k*JB h:Nat):Int):=(by simp);have c:((k*JB h:Nat):Int)%18446744073709551616=((k*JB h%18446744073709551616:Nat):Int):=(by omega);have d:((h:Int)+((k*JB h%18446744073709551616:Nat):Int))%18446744073709551616=(((h+k*JB h%18446744073709551616)%18446744073709551616:Nat):Int):=(by omega);rw[eR,eR,a,c,d,<-Int.ofNat_tmod];have:=aY0 h k e;unfold prN at *;unfold wrap64;omega
def QV(h:Nat)(i c:Int)(w:aI)(j:h<18446744073709551616)(p:-9223372036854775808<=i/\i<=9223372036854775807)(n:-9223372036854775808<=c/\c<=9223372036854775807):
 Calls prog 290 #[.int .u64 h,.int .i64 i,.int .i64 c] w λe l=>e=.returned (.int .i64 (prB h i c:Nat))/\w=l:=by
  by_cases d:c<1\/i<0
  .have e:prB h i c=0:=aU d;rw[e];clear e;rcases(show c<1\/(¬c<1/\i<0)from by omega)with m|⟨m,t⟩
   all_goals
    clear d;go_in;go_wp2;go_ret;exact⟨rfl,rfl⟩
  obtain⟨k,rfl⟩:=dA (a:=i) (by omega);obtain⟨b,rfl⟩:=dA (a:=c) (by omega);have f:0<b:=(by omega);rw[ap3 h k b f];have r:decide ((b:Int)<1)=false:=(by rw[cN];omega);have s:decide ((k:Int)<0)=false:=(by rw[cN];omega);have q:(k:Int)<=9223372036854775807:=(by omega);have g:(b:Int)<=9223372036854775807:=(by omega);have o:((b:Int)==0)=false:=(by rw[bI];omega);clear d p n;have u:=bJ6 j;go_in;(go_wp2_with fail);refine(aJ0 _ _ j).mono ?_;rintro e l ⟨rfl,rfl⟩;go_wp2;go_ret;exact⟨nF (aX9 h k b f g),rfl⟩
def ck3(l:List bB)(b:Nat):Bool:=(l.getD (b/8) 0).toNat/2^(b%8)%2==1
def IH(n:Int):Nat:=min n.toNat 64
def aI4:(prog.info? 5).map (λi=>(i.zero,i.size,i.bytes))=some (some (.int .u8 0),1,1):=by kernel_rfl
def ba4(w:aI)(n:Nat)(b:n<=1000000000):
 ∃a,(Instr.makeSlice 110 (.int .i64 n) (.int .i64 n)).run prog w=.ok (.slice (some ⟨w.heap.size,0,none⟩) n n) a/\Row a w.heap.size 5 (dS (List.replicate n 0))/\aS w.heap.size w a:=by
  refine⟨_,run_make_row' 110 5 (.int .u8 0) 1 underlying110 aI4 rfl .i64 .i64 n (by omega) (by omega) w,?_,(aY _ _).alloc (aO _) _⟩;have h:=Row.new w (madeCells #[.int .u8 0] n) 5;have e:(madeCells #[Value.int .u8 0] n).toList=dS (List.replicate n 0):=by have:=O5 n;simp only[rD,Value.cells]at this;rw[this];simp[dS,tJ]
  rwa[e]at h
end Go.Proofs.YtpopikndggffaaaGreatDoor
