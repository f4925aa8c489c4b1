/- TOP, part 7. -/
import Derived.Deep.OwnRows
import Derived.Test.YtpopikndggffaaaGreatDoorGt4
import Derived.Test.YtpopikndggffaaaGreatDoorGt5
namespace Go.Proofs.YtpopikndggffaaaGreatDoor
set_option linter.all false
set_option maxRecDepth 100000
set_option maxHeartbeats 16000000
open Go.RowKit Tryz
variable{o:Bool}{b s:aS}
def bX5{a:Bool}(c:s=b)(d:o=a):Ending.returned (.tuple #[s,o])=.returned (.tuple #[b,a]):=by rw[c,d]
def aN2(s:aS)(h:¬s.size<4):kY (lb s)=(U5 (WX (lb (s.extract 0 (s-4))))==(s.extract (s-4) s).toList):=by rw[dY,gP,dY,GF];unfold kY;rw[bI,bZ (by omega:4<=s.size),fQ,uN,mQ];rw[aT (l:=(lb s).drop (s.size-4)) (by simp)]
def bi5(s:aS)(h:¬s.size<4)(a:kY (lb s)=true):s.extract 0 (s-4)=bs (kH (lb s)):=by rw[dY];unfold kH;rw[a,aV rfl,bI,uN,mQ]
def MY(s:aS)(w:aI)(hs:s.size<=9223372036854775000):Calls prog 170 #[s] w λe w'=>e=.returned (.tuple #[bs (kH (lb s)),kY (lb s)])/\aR w w w':=by
 by_cases h4:s.size<4
 .have h4':(s.size:Int)<4:=(by omega);have ho:kY (lb s)=false:=(by unfold kY;rw[bI];simp;omega);unfold kH;rw[ho];clear ho;go_in;go_wp2_with fail
  go_quiet (fail);go_wp2;go_ret2;exact⟨rfl,below_drewN iH _⟩
 have h4':decide ((s.size:Int)<4)=false:=(by simp;omega);have h4n:(4:Int)<=s.size:=by omega
 go_in;(go_wp2_with fail);refine cI (by kernel_rfl) (by kernel_rfl) ?_;repeat go_big_quiet_step (first|(go_at_call 238;exact CY _ (aH0 _ _ (by rw[dY];simp[maxLen];omega)))|(go_at_call 237;exact eL _ (aG9 _ _ (av2 _))))
 refine wpQuiet_nil ?_;intro _ hx;obtain⟨⟨w2,hb2⟩,rfl⟩:=hx;have hk:=aN2 s h4;have Hk:=aH hk;clear hk;go_wp2
 .have ht:(!U5 (WX (lb (s.extract 0 (s.size-4))))==(s.extract (s.size-4) s.size).toList)=true:=(by assumption);have ho:kY (lb s)=false:=(by rw[Hk.zz];simpa using ht);go_ret2;refine⟨bX5 ?_ ho.symm,hb2⟩;unfold kH;rw[ho];rfl
 have ht:(!U5 (WX (lb (s.extract 0 (s.size-4))))==(s.extract (s.size-4) s.size).toList)=false:=(by assumption);have ho:kY (lb s)=true:=(by rw[Hk.zz];simpa using ht);go_ret2;exact⟨bX5 (bi5 s h4 ho) ho.symm,hb2⟩
variable{a e:Int}
def cF1(c:s=b)(d:e=a):Ending.returned (.tuple #[s,e])=.returned (.tuple #[b,a]):=by rw[c,d]
def RA{c:Bool}(d:s=b)(f:e=a)(g:o=c):Ending.returned (.tuple #[s,e,o])=.returned (.tuple #[b,a,c]):=by rw[d,f,g]
def bG0(n:Nat):qY n 4=be 4 n:=by unfold qY;rw[aP (by omega)];rfl
def RE(n:Nat)(w:aI)(c:(n:Int)<=9223372036854775807):Calls prog 203 #[n] w λe b=>e=(bs (be 4 n))/\aR w w b:=by
 go_in;go_wp2_with fail
 go_call tM _ _ _ (by omega) (by omega) as e w1 ⟨rfl,a⟩;go_wp2;go_ret;exact⟨rfl,a⟩
def aJ9(s:aS)(w:aI)(k:s.size<=9223372036854775000):Calls prog 140 #[s] w λe i=>e=.returned (.tuple #[bs (bg7 (lb s)),bg9 (lb s)])/\aR w w i:=by
 by_cases h:s.size<=2000
 .have c:¬(2000:Int)<s.size:=(by omega);have a:bg7 (lb s)=kE (lb s):=(by unfold bg7;rw[aP (by rw[bI];omega)]);have b:bg9 (lb s)=0:=(by unfold bg9;rw[aP (by rw[bI];omega)]);rw[a,b];clear a b;go_in;go_wp2_with fail
  go_call RE _ _ (by omega) as e w1 ⟨rfl,d⟩;go_wp2_with fail
  go_call C2 _ _ (by rw[AK];simp;omega) as e w2 ⟨rfl,f⟩;go_wp2_with fail
  go_call RE _ _ (by omega) as e w3 ⟨rfl,g⟩;have j:(kU (lb (bs (be 4 s.size)++s))).length=s.size+8:=(by rw[oK,AK,gP];simp;omega);go_wp2;go_ret2;refine⟨cF1 ?_ rfl,?_⟩
  .rw[jX,AK,gP];unfold kE;rw[bI]
  repeat (first|assumption|exact bR _ _|(refine aK (by assumption) ?_))
 have c:(2000:Int)<s.size:=(by omega);have a:bg7 (lb s)=[]:=(by unfold bg7;rw[aV (by rw[bI];omega)]);have b:bg9 (lb s)=3:=(by unfold bg9;rw[aV (by rw[bI];omega)]);rw[a,b];clear a b;go_in;go_wp2;go_ret2;exact⟨rfl,iH⟩
def bN1(s:aS)(a:Int)(h:a<0\/(s.size:Int)-12<a):UB (lb s) a=false:=by
 unfold UB;rcases h with h|h
 .rw[bN (by omega)];rfl
 by_cases b:0<=a
 .rw[bZ b,fQ];rcases c:recAt (lb s) a.toNat with _|_
  .rfl
  have:=oN c;rw[bI]at this;omega
 rw[bN b];rfl
def bN2(l:List bB)(a n:Nat)(c:l9 l a=n)(b:a+12<=l):UB l (a:Int)=(decide (n<=2000)&&(decide (a+n+12<=l)&&((l.drop a).take (n+12)==kE ((l.drop (a+4)).take n)))):=by unfold UB recAt;rw[bZ (by omega:(0:Int)<=(a:Int)),fQ,bW,bZ b,fQ,c]
def L1(s:aS)(a:Int)(w:aI)(hs:s.size<=9223372036854775000)(Z:-9223372036854775808<=a/\a<=9223372036854775807):Calls prog 112 #[s,a] w λe V=>e=.returned (.tuple #[bs (gA (lb s) a),gN (lb s) a,UB (lb s) a])/\aR w w V:=by
 have⟨h2,h3⟩:=Z;by_cases y:a<0\/(s.size:Int)-12<a
 .have P:=bN1 s a y;unfold gA gN;rw[P];clear P;rcases y with h|h
  .go_in;go_wp2;go_ret3;exact⟨rfl,iH⟩
  by_cases P:a<0
  iterate 2
   .go_in;go_wp2;go_ret3;exact⟨rfl,iH⟩
 obtain⟨k,rfl⟩:=cR (a:=a) (by omega);have h1:(k:Int)<=(s.size:Int)-12:=(by omega);have hl:k+12<=(lb s):=(by rw[bI];omega);have⟨n,B⟩:=fR (l9 (lb s) k);have h4:n<4294967296:=(by rw[B];exact cc3 _ _);have U:=bN2 (lb s) k n B.symm hl;have G:pF (lb (s.extract k (k+4)))=n:=by rw[B,dY,gP,show k+4-k=4 from by omega];unfold pF l9;rw[aT (l:=((lb s).drop k).take 4) (by simp;omega)]
 have i:=bg0 (lb s) k n B.symm;have⟨R,O,N,E⟩:=aC B U G i;clear B U G i y;go_in;go_wp2_with fail
 go_call xG _ _ (by rw[dY];simp[maxLen];omega) as e V ⟨rfl,rfl⟩;rw[N.zz];by_cases I:n<=2000
 .have J:¬(2000:Int)<n:=(by omega);by_cases r:k+n+12<=s
  .have K:¬(s.size:Int)-12-k<n:=(by omega);have⟨X,A⟩:=fR (((lb s).drop k).take (n+8));have F:X=n+8:=(by rw[A];simp;omega);have x:lb (s.extract k (k+n+8))=X:=(by rw[dY,gP,A,show k+n+8-k=n+8 from by omega]);have t:(s.extract k (k+n+8))=n+8:=(by rw[<-bI,x,F]);have j:((s.extract (k+n+8) (k+n+12)).toList==(s.extract k (k+4)).toList)=(((lb s).drop (k+n+8)).take 4==((lb s).drop k).take 4):=(by rw[dY,dY,GF,GF,show k+n+12-(k+n+8)=4 from by omega,show k+4-k=4 from by omega]);have i:=E (by rw[bI];exact r);rw[<-A]at i;have c:=bI0 (lb s) k n (by rw[bI];exact r);rw[<-A]at c;have H:UB (lb s) k=(kY X&&((s.extract (k+n+8) (k+n+12)).toList==(s.extract k (k+4)).toList)):=(by rw[O.zz,bZ I,bZ (by rw[bI];exact r),fQ,fQ,j,i]);have⟨M,D,u,g,HX⟩:=aD x t c H A;have S:kY X=true->(kH X)=n+4:=λh=>(by unfold kH;rw[h,aV rfl];simp;omega);have W:=aH S;clear x t c H A i j F E S;(go_wp2_with fail);go_call MY _ _ (by rw[D.zz];omega) as e w1 ⟨rfl,v⟩;rw[M.zz];by_cases C:kY X=true
   .by_cases z:((s.extract (k+n+8) (k+n+12)).toList==(s.extract k (k+4)).toList)=true
    .have b:UB (lb s) k=true:=by rw[g.zz,C,z];rfl
     have d:bs ((kH X).drop 4)=bs (gA (lb s) k):=by unfold gA;rw[b,aV rfl,u.zz C,bW,<-R.zz]
     have f:gN (lb s) k=k+n+12:=(by unfold gN;rw[b,aV rfl,bW,<-R.zz]);have Y:=W C;have T:¬(((kH X):Int)<4):=(by omega);have⟨q,m,o⟩:=aB b d f;clear b d f g;(go_wp2_with fail);go_quiet (fail);(go_wp2_with fail);go_ret3;refine⟨RA ?_ ?_ q.symm,below_drewN v _⟩
     .rw[<-m.zz,dY,gP,aT (by simp;omega)]
     rw[o.zz];omega
    have L:((s.extract (k+n+8) (k+n+12)).toList==(s.extract k (k+4)).toList)=false:=(by simpa using z);clear z;have b:UB (lb s) k=false:=(by rw[g.zz,C,L];rfl);have d:bs []=bs (gA (lb s) k):=(by unfold gA;rw[b];rfl);have f:gN (lb s) k=0:=(by unfold gN;rw[b];rfl);have⟨q,m,o⟩:=aB b d f;clear b d f g;(go_wp2_with fail);go_quiet (fail);(go_wp2_with fail);go_ret3;exact⟨RA m (by rw[o.zz];rfl) q.symm,below_drewN v _⟩
   have Q:kY X=false:=(by simpa using C);clear C;have b:UB (lb s) k=false:=(by rw[g.zz,Q];rfl);have d:bs []=bs (gA (lb s) k):=(by unfold gA;rw[b];rfl);have f:gN (lb s) k=0:=(by unfold gN;rw[b];rfl);have⟨q,m,o⟩:=aB b d f;clear b d f g;(go_wp2_with fail);go_quiet (fail);(go_wp2_with fail);go_ret3;exact⟨RA m (by rw[o.zz];rfl) q.symm,below_drewN v _⟩
  have K:(s.size:Int)-12-k<n:=(by omega);have b:UB (lb s) k=false:=(by rw[O.zz,bN (p:=k+n+12<=(lb s)) (by rw[bI];exact r)];simp);have d:bs []=bs (gA (lb s) k):=(by unfold gA;rw[b];rfl);have f:gN (lb s) k=0:=(by unfold gN;rw[b];rfl);have⟨q,m,o⟩:=aB b d f;clear b d f;go_wp2;go_ret3;exact⟨RA m (by rw[o.zz];rfl) q.symm,iH⟩
 have J:(2000:Int)<n:=(by omega);have b:UB (lb s) k=false:=(by rw[O.zz,bN I];rfl);have d:bs []=bs (gA (lb s) k):=(by unfold gA;rw[b];rfl);have f:gN (lb s) k=0:=(by unfold gN;rw[b];rfl);have⟨q,m,o⟩:=aB b d f;clear b d f;go_wp2;go_ret3;exact⟨RA m (by rw[o.zz];rfl) q.symm,iH⟩
variable{Q:List bB}{n:Nat}
def cg5:(prog.info? 3).map (λi=>(i.zero,i.size,i.bytes))=some (some (.int .i64 0),1,8):=by kernel_rfl
def cl2(w:aI)(v:aN)(e:cC):∀j u,([v]:List aN)[j]?=some u->(w.alloc (.cells #[v] e)).cell? ((Addr.mk w 0 none).add j)=some u:=by
 intro j u a;match j,a with
 |0,a=>simp at a;subst a;simp[Addr.add]
def fJ(l:List Nat):List aN:=EM (l.map (fun n:Nat=>(n:Int)))
@[simp,go_sem] def cv3(l:List Nat):(fJ l).length=l:=by simp[fJ]
def yM(l:List Nat)(a:Nat):fJ (l++[a])=fJ l++[.int .i64 a]:=by simp[fJ,EM]
structure BU(l:List bB)(b:Int)(pre:List Nat)(a:Nat):Prop where
 le:a<=l.length
 yG:12*pre.length<=a
 ats:wAt l b=pre++(rC l l.length a).1
 end_:QR l b=(rC l l.length a).2
def BU.start(l:List bB)(a:Nat)(h:a<=l):BU l (a:Int) [] a:=by
 refine⟨h,by simp,?_,?_⟩
 .unfold wAt;rw[aP (by omega)];rfl
 unfold QR;rw[aP (by omega)];rfl
def BU.step{pre:List Nat}(h:BU Q e pre n)(a:UB Q (n:Int)=true):BU Q e (pre++[n]) (gN Q (n:Int))/\n+12<=gN Q (n:Int):=by
 have b:recAt Q n=true:=by unfold UB at a;rwa[bZ (by omega:(0:Int)<=(n:Int)),fQ,bW]at a
 have c:=oN b;have d:gN Q (n:Int)=n+l9 Q n+12:=(by unfold gN;rw[a,aV rfl,bW]);rw[d];refine⟨⟨c.2.2,by have:=h.yG;simp;omega,?_,?_⟩,by omega⟩
 .rw[h.ats,TA b];simp
 rw[h.end_,TA b]
def BU.stop{pre:List Nat}(h:BU Q e pre n)(a:UB Q (n:Int)=false):wAt Q e=pre/\QR Q e=n:=by
 have b:recAt Q n=false:=by unfold UB at a;rwa[bZ (by omega:(0:Int)<=(n:Int)),fQ,bW]at a
 refine⟨?_,?_⟩
 .rw[h.ats,qE b];simp
 rw[h.end_,qE b]
def bR8(l:List bB)(f:Int)(w:aI)(e:eY)(a:aI):Prop:=∃v,e=.returned (.tuple #[v,.int .i64 (QR l f)])/\Reads a v 1 (wAt l f).length (fJ (wAt l f))/\aR w.heap.size w a
def aI7(h:Nat):Nat:=h/131072+h%131072*140737488355328
def KO(h:Nat):Nat:=aI7 h+1-aI7 h%2
def bt5(a:n<18446744073709551616):aI7 n<18446744073709551616:=by unfold aI7;omega
def bV7(a:n<18446744073709551616):KO n<18446744073709551616:=by have:=bt5 a;unfold KO;omega
def cF7(s:Nat):s ||| 1=s+1-s%2:=by
 have a:(s ||| 1)/2=s/2:=by rw[Nat.or_div_two];simp
 have b:(s ||| 1)%2=1:=by rw[Nat.or_mod_two_eq_one];simp
 omega
def cF0(h:Nat)(a:h<18446744073709551616):h%131072*140737488355328 ||| h/131072=aI7 h:=by have:=Nat.two_pow_add_eq_or_of_lt (i:=47) (b:=h/131072) (by omega) (h%131072);unfold aI7;rw[show(2:Nat)^47=140737488355328 from rfl]at this;rw[oX (h%131072),<-this];omega
def aW4(h:Nat)(w:aI)(i:h<18446744073709551616):Calls prog 308 #[zu h,(-17:Int)] w λe j=>e=.returned (zu (aI7 h:Nat))/\w=j:=by have k:bits BinOp.and IntKind.u64 (IntKind.u64.wrap (-17)) 63=47:=(by decide +kernel);have b:IntKind.u64.wrap ((h:Int)*140737488355328)=((h%131072*140737488355328:Nat):Int):=(by rw[eE];omega);have c:(h:Int)/131072=((h/131072:Nat):Int):=(by omega);have a:=u64_or_nat (h%131072*140737488355328) (h/131072) (by omega) (by omega);rw[cF0 h i]at a;have⟨d,f,g⟩:=aB b c a;clear b c a;go_in;go_wp2;go_ret;refine⟨mJ ?_,rfl⟩;rw[d.zz,f.zz,g.zz]
def aR6(h:Nat)(w:aI)(b:h<18446744073709551616):Calls prog 300 #[zu h] w λe c=>e=.returned (zu (KO h:Nat))/\w=c:=by
 have a:=u64_or_nat (aI7 h) 1 (bt5 b) (by omega);rw[cF7]at a;have d:=aH a;clear a;go_in;go_wp2_with fail
 go_call aW4 _ _ b as e c ⟨rfl,rfl⟩;go_wp2;go_ret;exact⟨mJ d,rfl⟩
def prN(h i a:Nat):Nat:=((h+i*KO h%18446744073709551616)%18446744073709551616)%a
def prB(h:Nat)(i a:Int):Nat:=if a<1\/i<0 then 0 else prN h i.toNat a.toNat
def aw9(h i a:Nat)(b:0<a):prB h i a=prN h i a:=by unfold prB;rw[aP (by omega)];simp
def bh3(h i:Nat){n:Nat}(a:0<n):prN h i n<n:=G0 _ a
def bh2(h k b:Nat)(e:0<b)(f:(b:Int)<=9223372036854775807):wrap64 ((IntKind.u64.wrap ((h:Int)+IntKind.u64.wrap ((k:Int)*(KO h:Nat)))).tmod (b:Int))=((prN h k b:Nat):Int):=by have a:(k:Int)*(KO h:Nat)=((k*KO h:Nat):Int):=(by simp);have c:((k*KO h:Nat):Int)%18446744073709551616=((k*KO h%18446744073709551616:Nat):Int):=(by omega);have d:((h:Int)+((k*KO h%18446744073709551616:Nat):Int))%18446744073709551616=(((h+k*KO h%18446744073709551616)%18446744073709551616:Nat):Int):=(by omega);rw[eE,eE,a,c,d,<-Int.ofNat_tmod];have:=bh3 h k e;unfold prN at *;unfold wrap64;omega
def SP(h:Nat)(i c:Int)(w:aI)(j:h<18446744073709551616)(p:-9223372036854775808<=i/\i<=9223372036854775807)(n:-9223372036854775808<=c/\c<=9223372036854775807):Calls prog 290 #[zu h,i,c] w λe l=>e=(prB h i c:Nat)/\w=l:=by
 by_cases d:c<1\/i<0
 .have e:prB h i c=0:=aV d;rw[e];clear e;rcases(show c<1\/(¬c<1/\i<0)from by omega)with m|⟨m,t⟩
  all_goals
   clear d;go_in;go_wp2;go_ret;exact⟨rfl,rfl⟩
 obtain⟨k,rfl⟩:=cR (a:=i) (by omega);obtain⟨b,rfl⟩:=cR (a:=c) (by omega);have f:0<b:=(by omega);rw[aw9 h k b f];have r:decide ((b:Int)<1)=false:=(by rw[cN];omega);have s:decide ((k:Int)<0)=false:=(by rw[cN];omega);have q:(k:Int)<=9223372036854775807:=(by omega);have g:(b:Int)<=9223372036854775807:=(by omega);have o:((b:Int)==0)=false:=(by rw[bA];omega);clear d p n;have u:=bV7 j;go_in;go_wp2_with fail
 go_call aR6 _ _ j as e l ⟨rfl,rfl⟩;go_wp2;go_ret;exact⟨mJ (bh2 h k b f g),rfl⟩
def cz4(l:List bB)(b:Nat):Bool:=(l.getD (b/8) 0).toNat/2^(b%8)%2==1
def JK(n:Int):Nat:=min n.toNat 64
def aR1:(prog.info? 5).map (λi=>(i.zero,i.size,i.bytes))=some (some (.int .u8 0),1,1):=by kernel_rfl
def bj7(w:aI)(n:Nat)(b:n<=1000000000):∃a,(Instr.makeSlice 110 n n).run prog w=.ok (.slice (zp w) n n) a/\Row a w 5 (dM (List.replicate n 0))/\aR w w a:=by
 refine⟨_,run_make_row' 110 5 (.int .u8 0) 1 underlying110 aR1 rfl .i64 .i64 n (by omega) (by omega) w,?_,iH.alloc dQ _⟩;have h:=Row.new w (madeCells #[.int .u8 0] n) 5;have e:(madeCells #[Value.int .u8 0] n).toList=dM (List.replicate n 0):=by have:=PR n;simp only[sG,Value.cells]at this;rw[this];simp[dM,uO]
 rwa[e]at h
end Go.Proofs.YtpopikndggffaaaGreatDoor
