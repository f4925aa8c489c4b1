/- TOP, part 10. -/
import Derived.Deep.RegionHeldLaw
import Derived.Maps.OwnSet
import Derived.Maps.StringElems
import Derived.Shelf.Strings.SlTrimAscii
import Derived.Test.YtpopikndggffaaaGreatDoorGt3
import Derived.Test.YtpopikndggffaaaGreatDoorGt6
import Derived.Test.YtpopikndggffaaaGreatDoorGt7
namespace Go.Proofs.YtpopikndggffaaaGreatDoor
set_option linter.all false
set_option maxRecDepth 100000
set_option maxHeartbeats 16000000
open Go.RowKit Go.Maps Tryz
def aH9:(prog.info? (lr0.t 116)).map (λi=>(i.zero,i.size))=some (some (.agg (Array.replicate 256 false)),256):=by kernel_rfl
def BQ:bH:=[48,49,50,51,52,53,54,55,56,57]
def ac1(c:bB):BQ.contains c=JM c:=by
 rw[iX];simp only[BQ,List.contains_cons,List.contains_nil,cB1,vD,gH,JM,bG];constructor
 .rintro (h|h|h|h|h|h|h|h|h|h)<;>subst h<;>decide
 rintro ⟨a,b⟩;have:∀k:bB,c.toNat=k.toNat->c=k:=λk h=>AR.1 h;rcases(show c.toNat=48\/c.toNat=49\/c.toNat=50\/c.toNat=51\/c.toNat=52\/c.toNat=53\/c.toNat=54\/c.toNat=55\/c.toNat=56\/c.toNat=57 from by omega)with h|h|h|h|h|h|h|h|h|h
 .exact .inl (this 48 h)
 .exact .inr (.inl (this 49 h))
 .exact .inr (.inr (.inl (this 50 h)))
 .exact .inr (.inr (.inr (.inl (this 51 h))))
 .exact .inr (.inr (.inr (.inr (.inl (this 52 h)))))
 .exact .inr (.inr (.inr (.inr (.inr (.inl (this 53 h))))))
 .exact .inr (.inr (.inr (.inr (.inr (.inr (.inl (this 54 h)))))))
 .exact .inr (.inr (.inr (.inr (.inr (.inr (.inr (.inl (this 55 h))))))))
 .exact .inr (.inr (.inr (.inr (.inr (.inr (.inr (.inr (.inl (this 56 h)))))))))
 exact .inr (.inr (.inr (.inr (.inr (.inr (.inr (.inr (.inr (this 57 h)))))))))
def aG2(l a:bH):Lib.trimS l a=[]↔l.all (a.contains ·)=true:=by
 have b:∀m:bH,m.dropWhile (a.contains ·)=[]↔m.all (a.contains ·)=true:=λm=>by
  induction m with
  |nil=>simp
  |cons x m j=>
   rw[nO,au2];by_cases h:a.contains x=true
   .rw[aV h,j,h];simp
   rw[aP h];simp at h|-;intro g;exact absurd g (by simpa using h)
 unfold Lib.trimS Lib.trimLeftS Lib.trimRightS;rw[b,bs2];constructor
 .intro h;have f:l.reverse.dropWhile (a.contains ·)=[]:=by
   generalize i:l.reverse.dropWhile (a.contains ·)=m at h;cases m with
   |nil=>rfl
   |cons x m=>have e:a.contains x=true:=(by rw[au2,bL]at h;exact h.1);have c:=List.head?_dropWhile_not (a.contains ·) l.reverse;rw[i]at c;simp at c e;exact absurd e (by simpa using c)
  have d:=(b l.reverse).1 f;rwa [bs2]at d
 intro h;have d:=(b l.reverse).2 (by rw[bs2];exact h);rw[d];rfl
def NX(s:aS)(w:aI)(d:s<=maxLen):Calls prog 50 #[s,.string ⟨#[48,49,50,51,52,53,54,55,56,57]⟩] w λe f=>e=(bs (Lib.trimS (lb s) BQ))/\aR w w f:=by have h:=Any.strings_Trim_ascii cv6 (zero_of_info aH9).1 (zero_of_info aH9).2 s ⟨#[48,49,50,51,52,53,54,55,56,57]⟩ w (by unfold maxLen at d;omega) (by decide) (λj b c=>by have a:=bC c;simp only[cY,r8,or_false]at a;rcases a with h|h|h|h|h|h|h|h|h|h<;>subst h<;>decide);exact h
variable{c:bB}{s:bH}
def xE(o:Option (bB×Nat)):aN:=match o with
 |none=>.tuple #[.int .u8 0,.int .i64 0,.bool false]
 |some (c,n)=>.tuple #[.int .u8 (c.toNat:Int),.int .i64 (n:Nat),.bool true]
def Z1{c:bB}(h:¬(s.length=6/\s.all JM=true/\(c=99\/c=116\/c=98))):jY (c::s)=none:=aP h
def bG9(h:s.length=6/\s.all JM=true/\(c=99\/c=116\/c=98)):jY (c::s)=some (c,FP s):=aV h
def all_cons(L:bH)(k:Nat)(h:L=k+1):∃c l,L=c::l/\l=k:=by
 cases L with
 |nil=>simp at h
 |cons c l=>exact⟨c,l,rfl,by simpa using h⟩
def cy5:∀l:bH,l.all JM=true->FP l<10^l.length:=λl h=>(aU3 l l rfl h).2
def bt1{c:bB}{k:Nat}(d:k<256)(h:¬c=UInt8.ofNat k):¬((c.toNat:Int)=(k:Int)):=λb=>h (AR.1 (by
 have a:c.toNat=k:=by exact_mod_cast b
 rw[a];simp;omega))
def zZ(s:aS)(w:aI)(V:s<=maxLen):Calls prog 27 #[s] w λe A=>e=.returned (xE (jY (lb s)))/\aR w w A:=by
 have D:=V;unfold maxLen at D;by_cases F:s.size=7
 .have X:(s.size:Int)=7:=(by omega);have⟨c,l,b,z⟩:=all_cons (lb s) 6 (by rw[bI];exact F);have t:lb (s.extract 1 7)=l:=(by rw[dY,gP,b];simp[aT,z]);have q:=aH (NX (s.extract 1 7) w (by rw[dY,eO,b];simp[maxLen];omega));rw[t]at q;have Q:s[0]=c:=by have:(lb s)[0]'(by rw[b];simp)=c:=(by simp[b]);rw[<-this];simp[lb];rfl
  by_cases m:l.all JM=true
  .have r:Lib.trimS l BQ=[]:=(aG2 l BQ).2 (by rw[<-m];congr 1;funext x;exact ac1 x);rw[r]at q;by_cases p:c=99\/c=116\/c=98
   .have v:=aH (show jY (lb s)=some (c,FP l)from by rw[b];exact bG9 ⟨z,m,p⟩);have y:∀k (h:k<6),(s[1+k]'(by omega))=l[k]'(by omega):=λk h=>by have:(lb s)[1+k]'(by rw[b];simp;omega)=l[k]'(by omega):=(by simp only[b,Nat.add_comm 1 k,fA]);rw[<-this];simp[lb];rfl
    have o:∀k (h:k<6),48<=(l[k]'(by omega)).toNat/\(l[k]'(by omega)).toNat<=57:=λk h=>by have:=dN.1 m _ (dC (by omega:k<l.length));simpa[JM]using this
    have d:∀k,k<=6->FP (l.take k)<1000000:=λk H=>by have R:=cy5 (l.take k) (by rw[dN];exact λx t=>dN.1 m x (lM t));have S:(l.take k).length<=6:=(by rw[b8];omega);exact aW R (gD (n:=10) (by omega) S)
    have j:∀k (h:k<6),FP (l.take (k+1))=10*FP (l.take k)+((l[k]'(by omega)).toNat-48):=λk h=>(by rw[jO (by omega),UG]);have g:l.take 6=l:=aT (by omega);have⟨J,K,N,O,M,Y⟩:=aE y o d j g Q;clear y o d j g b t r m;go_in;(go_wp2_with fail);go_call q as e A ⟨rfl,f⟩;rcases p with rfl|rfl|rfl
    all_goals
     (go_wp2_with fail);go_loopw [3,5,21] (λn u i wr=>∃k:Nat,k<=6/\i=.int .i64 k/\n=.int .i64 ((FP (l.take k):Nat):Int)/\wr=A) (λ_ _ i _=>6-(intOf i).toNat)
     .exact⟨0,bK _,rfl,rfl,rfl⟩
     obtain⟨k,H,rfl,rfl,rfl⟩:=hrel;have U:=N k H;by_cases d:k<6
     .have i1:(k:Int)<6:=(by omega);have C:=J k d;have G:=K k d;have B:=O k d;generalize l[k]=x at C G B;generalize FP (l.take k)=a at U B|-;have E:10*(a:Int)+((x.toNat:Int)-48)%256=((FP (l.take (k+1)):Nat):Int):=(by rw[B];omega);rw[<-C]at E;have P:=aH E;clear B E C G;go_wp2;go_roundw
      .exact⟨k+1,by omega,by go_num,gQ (Value.int .i64) P,trivial⟩
      simp[intOf];omega
     obtain rfl:k=6:=(by omega);rw[M.zz];go_wp2;go_ret3;exact⟨by rw[v.zz];rfl,f⟩
   have v:=aH (show jY (lb s)=none from by rw[b];exact Z1 λh=>p h.2.2);have Z:=bt1 (c:=c) (k:=99) (by omega) (λh=>p (.inl h));have c2:=bt1 (c:=c) (k:=116) (by omega) (λh=>p (.inr (.inl h)));have c3:=bt1 (c:=c) (k:=98) (by omega) (λh=>p (.inr (.inr h)));clear b t r m p;go_in;(go_wp2_with fail);go_call q as e A ⟨rfl,f⟩;go_wp2;go_ret3;exact⟨by rw[v.zz];rfl,f⟩
  have v:=aH (show jY (lb s)=none from by rw[b];exact Z1 λh=>m h.2.1);have r:Lib.trimS l BQ≠[]:=λh=>m (by rw[<-(aG2 l BQ).1 h];congr 1;funext x;exact(ac1 x).symm);have W:((bs (Lib.trimS l BQ)).toList==[])=false:=(by rw[bA];exact GD (by rw[eO];exact λh=>r (eG.1 h)));clear b t r m;generalize bs (Lib.trimS l BQ)=T at q W;go_in;go_wp2_with fail
  go_call q as e A ⟨rfl,f⟩;go_wp2;go_ret3;exact⟨by rw[v.zz];rfl,f⟩
 have X:¬(s.size:Int)=7:=by omega
 have I:jY (lb s)=none:=by
  have z:=bI s;generalize lb s=L at z|-;cases L with
  |nil=>rfl
  |cons c l=>exact Z1 λh=>F (by rw[<-z];simp[h.1])
 rw[I];clear I;go_in;go_wp2;go_ret3;exact⟨rfl,iH⟩
def RP(b a:Int):Bool:=decide (60<=b/\b<=120000/\b%60=0/\1<=a/\a<=16)
def LO(size probes:Int):RP size probes=true↔60<=size/\size<=120000/\size%60=0/\1<=probes/\probes<=16:=by unfold RP;simp
def RO{size probes:Int}(h:¬(60<=size/\size<=120000/\size%60=0/\1<=probes/\probes<=16)):RP size probes=false:=by unfold RP;simp only[cN];exact h
def az1(b a:Nat):List bB:=[98,108,109]++qY a 1++qY b 4++List.replicate 52 0
def EN(b a:Nat):List bB:=kU (az1 b a)
def aR5(b a:Nat):(az1 b a).length=60:=by unfold az1 qY;simp
def ap8(b a:Nat):(EN b a).length=64:=by unfold EN kU;rw[aO,aR5];rfl
def an8(b a:Int)(w:aI)(o:-9223372036854775808<=b/\b<=9223372036854775807)(n:-9223372036854775808<=a/\a<=9223372036854775807):Calls prog 285 #[b,a] w λe l=>e=(RP b a)/\w=l:=by
 by_cases m:0<b
 .by_cases h:b<=120000
  .have g:Int.tmod b 60=b%60:=rH (by omega);by_cases f:b%60=0
   .by_cases j:1<=a
    .by_cases k:a<=16
     iterate 2
      ·(first|(have c:=(LO b a).2 ⟨by omega,h,f,j,k⟩)|(have c:=RO (size:=b) (probes:=a) (by omega)));have d:=aH c;clear c;go_in;go_wp2;go_ret;exact⟨by rw[d.zz];rfl,rfl⟩
    have c:=RO (size:=b) (probes:=a) (by omega);have d:=aH c;clear c;go_in;go_wp2;go_ret;exact⟨by rw[d.zz];rfl,rfl⟩
   have c:=RO (size:=b) (probes:=a) (by omega);have d:=aH c;have i:(b%60==0)=false:=(by simpa using f);clear c;go_in;go_wp2;go_ret;exact⟨by rw[d.zz];rfl,rfl⟩
  have c:=RO (size:=b) (probes:=a) (by omega);have d:=aH c;clear c;go_in;go_wp2;go_ret;exact⟨by rw[d.zz];rfl,rfl⟩
 have c:=RO (size:=b) (probes:=a) (by omega);have d:=aH c;clear c;go_in;go_wp2;go_ret;exact⟨by rw[d.zz];rfl,rfl⟩
def av9(c:Nat):Lib.repeatL [0] c=List.replicate c 0:=by
 induction c with
 |zero=>rfl
 |succ c a=>unfold Lib.repeatL;rw[a];rfl
def cL2(w:aI):Calls prog 298 #[.string ⟨#[0]⟩,(52:Int)] w λe a=>e=(bs (List.replicate 52 0))/\aR w w a:=by have h:=strings_Repeat ⟨#[0]⟩ 52 w (by omega) (by decide);have e:Lib.repeatL ({data:=#[0]}:aS).data.toList 52=List.replicate 52 0:=av9 52;rwa[e]at h
def Z2(b a:Nat)(w:aI)(v:b<=120000)(u:a<=16):Calls prog 286 #[b,a] w λe t=>e=(bs (EN b a))/\aR w w t:=by
 have d:=λw=>tM (a:Int) 1 w (by omega) (by omega);have f:=λw=>tM (b:Int) 4 w (by omega) (by omega);simp only[bW]at d f;have o:(qY a 1).length=1:=(by unfold qY;simp);have p:(qY b 4).length=4:=(by unfold qY;simp);have c:EN b a=kU ([98,108,109]++qY a 1++qY b 4++List.replicate 52 0):=rfl;have x:(0:Int)<=a:=(by omega);have z:(0:Int)<=b:=(by omega);have y:(a:Int)<=16:=(by omega);have A:(b:Int)<=120000:=(by omega);generalize qY a 1=l at d o c;generalize qY b 4=m at f p c;have k:=aH c;clear c;go_in;go_wp2_with fail
 go_call d _ as e B ⟨rfl,g⟩;go_wp2_with fail
 go_call f _ as e C ⟨rfl,h⟩;go_wp2_with fail
 go_call cL2 _ as e D ⟨rfl,i⟩;have n:(List.replicate 52 (0:bB)).length=52:=rfl;have r:List.replicate 52 (0:bB)=List.replicate 52 0:=rfl;generalize List.replicate 52 (0:bB)=Z at n k|-;clear r;(go_wp2_with fail);refine(C2 _ _ ?_).mono ?_
 .have q:({data:=#[98,108,109]}:aS).size=3:=rfl;simp only[XI,eO,o,p,n,q];omega
 rintro e E ⟨rfl,j⟩;have s:lb (({data:=#[98,108,109]}:aS)++bs l++bs m++bs Z)=[98,108,109]++l++m++Z:=(by simp[lb,bs]);go_wp2;go_ret;exact⟨by rw[k.zz];simp,aK g (aK h (aK i j))⟩
variable{L Q:List bB}{b h m n:Nat}
def oO(L:List bB):Nat:=(L.getD 3 0).toNat
def yB(L:List bB):Nat:=pF ((L.drop 4).take 4)
def okF(L:List bB):Bool:=decide (64<=L.length)&&(RP (yB L) (oO L)&&decide (L.take 64=EN (yB L) (oO L)))
def YS(L:List bB)(n:Nat):List bB:=(L.drop ((n+1)*64)).take 64
def uR(L:List bB)(n:Nat):Option (List bB):=if(n+2)*64<=L.length/\kY (YS L n)=true then some (kH (YS L n))else none
def ak0(L:List bB)(b:Nat):Bool:=match uR L (b/480)with
 |none=>true
 |some p=>cz4 p (b%480)
def X9(L:List bB)(h:Nat):Bool:=!okF L||(List.range (oO L)).all fun i=>ak0 L (prN h i (8*yB L))
def aP1(h:Nat)(a:okF Q=false):X9 Q h=true:=by unfold X9;rw[a];rfl
def cu4{L:List bB}{h i:Nat}(d:okF L=true)(c:i<oO L)(b:ak0 L (prN h i (8*yB L))=false):X9 L h=false:=by unfold X9;rw[d];simp only[p8,G9];rw[<-kL,dN];intro a;have:=a i (gB.2 c);rw[b]at this;cases this
def cd0{L:List bB}{h:Nat}(a:∀i,i<oO L->ak0 L (prN h i (8*yB L))=true):X9 L h=true:=by unfold X9;rw[vD];exact .inr (dN.2 λi b=>a i (gB.1 b))
def ao2(h:kY Q=true):(kH Q).length+4=Q:=by unfold kH;rw[aV h];unfold kY at h;simp only[bL,bG]at h;rw[b8];omega
def aK4(h:(n+2)*64<=Q):(YS Q n).length=64:=by unfold YS;rw[b8,eK];omega
def bh8(h:¬(n+2)*64<=Q):uR Q n=none:=by unfold uR;rw[aP (λa=>h a.1)]
def bh7(h:kY (YS Q n)=false):uR Q n=none:=by unfold uR;rw[aP (λa=>by rw[h]at a;cases a.2)]
def bh6(a:(n+2)*64<=Q)(b:kY (YS Q n)=true):uR Q n=some (kH (YS Q n)):=by unfold uR;rw[aV ⟨a,b⟩]
def bQ5{b:Nat}(h:uR Q (b/480)=none):ak0 Q b=true:=by unfold ak0;rw[h]
def bQ4{b:Nat}{s:List bB}(h:uR Q (b/480)=s):ak0 Q b=cz4 s (b%480):=by unfold ak0;rw[h]
def aT1(s:aS)(n a:Nat)(h:a=(n+1)*64):lb (s.extract a (a+64))=YS (lb s) n:=by subst h;rw[dY,gP];unfold YS;rw[show(n+1)*64+64-(n+1)*64=64 by omega]
def bW5(s:aS):pF (lb (s.extract 4 8))=yB (lb s):=by rw[dY,gP];rfl
def bc1(s:aS):lb (s.extract 0 64)=(lb s).take 64:=by rw[dY,gP];simp
def bh1(s:aS)(h:3<s.size):oO (lb s)=s[3].toNat:=by unfold oO;rw[aY,aJ (by rw[bI];exact h)];rfl
def bW4(L:List bB):yB L<4294967296:=by unfold yB pF;have h:=AU (((L.drop 4).take 4).take 8);have a:(((L.drop 4).take 4).take 8).length<=4:=(by rw[b8,b8];omega);have:=gD (n:=256) (by omega) a;omega
def bi7(h:¬(64<=Q.length/\RP (yB Q) (oO Q)=true/\Q.take 64=EN (yB Q) (oO Q))):okF Q=false:=by unfold okF;rw[<-kL,bL,bL,bG,bG];exact h
def ct3(a:64<=Q.length)(b:RP (yB Q) (oO Q)=true)(c:Q.take 64=EN (yB Q) (oO Q)):okF Q=true:=by unfold okF;rw[bL,bL,bG,bG];exact⟨a,b,c⟩
variable{e:Int}{w:aI}
def CJ{T:cC}{v u z:aN}(h:Row w n T [v,u,z]):w.cell? (zp n)=v/\w.cell? (zp n 1)=u/\w.cell? (zp n 2)=z/\w.frozen? (zp n)=false/\w.frozen? (zp n 1)=false/\w.frozen? (zp n 2)=false:=⟨h.lO,h.qD,h.tW,h.NV,h.JE,h.QP⟩
def au5(a:-9223372036854775808<=e)(b:e<=9223372036854775807):(Lit.int .i64 e).wf=true:=by unfold Lit.wf;rw[bL,bG,bG];exact⟨a,b⟩
def yP(w:aI)(p:Addr)(v:aN):w.grownBy (w.setCell p v) p.block:=⟨rfl,rfl,rfl,by simp,λk b a=>aU w p v k (λh=>a (by rw[h]))⟩
abbrev Dm:=DataW Unit
def xJ(n:Nat):Lit:=.int .i64 (n:Int)
def XF(D:Dm)(L:List bB)(k:Nat):Prop:=IsMap D/\∀n:Nat,(n<k->has D (xJ n)=(uR L n).isSome/\∀p,uR L n=some p->∀a,D.atKey (xJ n) a=.lit (.string p))/\(k<=n->has D (xJ n)=false)
def XF.nil(L:List bB):XF (.map []) L 0:=⟨isMap_empty,λn=>⟨λh=>by omega,λ_=>rfl⟩⟩
def NK{a b:Nat}(h:a≠b):xJ a≠xJ b:=by unfold xJ;intro c;simp at c;omega
def XF.skip{D:Dm}(h:XF D Q n)(c:uR Q n=none):XF D Q (n+1):=by
 refine⟨h.1,λe=>⟨λd=>?_,λd=>(h.2 e).2 (by omega)⟩⟩;rcases cK e n with a|a
 .exact(h.2 e).1 a
 obtain rfl:e=n:=(by omega);refine⟨by rw[(h.2 e).2 dQ,c];rfl,λp b=>by rw[c]at b;cases b⟩
def XF.put{D:Dm}{n:Nat}{s:List bB}(h:XF D Q n)(g:uR Q n=s)(f:WideAt.IsKeyLit (xJ n)):XF (D.put (xJ n) (.lit (.string s))) Q (n+1):=by
 refine⟨h.1.put _ _,λm=>⟨λl=>?_,λl=>?_⟩⟩
 .rcases cK m n with e|e
  .have c:=NK (a:=m) (b:=n) (by omega);have⟨j,k⟩:=(h.2 m).1 e;refine⟨by rw[has_put_other c];exact j,λq d i=>by rw[atKey_put_other c];exact k q d i⟩
  obtain rfl:m=n:=(by omega);refine⟨by rw[has_put_same h.1 f,g];rfl,λq d i=>?_⟩;rw[g]at d;cases d;exact atKey_put_same h.1 f _ _
 rw[has_put_other (NK (a:=m) (b:=n) (by omega))];exact(h.2 m).2 (by omega)
def XF.all{D:Dm}{m:Nat}(h:XF D Q n)(b:∀f,n<=f->f<m->uR Q f=none):∀f,f<m->has D (xJ f)=(uR Q f).isSome/\∀p,uR Q f=some p->∀e,D.atKey (xJ f) e=.lit (.string p):=by
 intro f d;rcases cK f n with a|a
 .exact(h.2 f).1 a
 have:=b f a d;rw[this];exact⟨(h.2 f).2 a,λp c=>by cases c⟩
def rA(w:aI)(v:aN)(L:List bB):Prop:=(v=.agg #[.int .i64 0,.int .i64 0,.map none]/\okF L=false)\/
 ∃(B n:Nat)(D:Dm),v=.agg #[.int .i64 (oO L:Nat),.int .i64 (yB L:Nat),.map (some B)]/\okF L=true/\w.ownsMap prog 3 (plainElem prog 9) B n D/\
  ∀n,n<yB L/60->has D (xJ n)=(uR L n).isSome/\∀p,uR L n=some p->∀a,D.atKey (xJ n) a=.lit (.string p)
def rA.next{w x:aI}{v:aN}(h:rA w v Q)(a:aR w w x):rA x v Q:=by
 rcases h with h|⟨B,n,D,b,c,d,e⟩
 .exact .inl h
 exact .inr ⟨B,n,D,b,c,d.kept (row:=none) ⟨a.os,a.tape,a.output,a.size,λk f _=>a.block k f⟩ (by simp),e⟩
def aD8(w:aI)(v:aN):Prop:=∀q a b,v=.agg #[a,b,.map (some q)]->w.heap.size<=q
def U1(w:aI)(a b:aN):aD8 w (.agg #[a,b,.map none]):=λq a b h=>by simp at h
def ZH(a b:aN)(h:w<=n):aD8 w (.agg #[a,b,.map n]):=λq a b c=>by
 simp at c;rw[<-c.2.2];exact h
def VK(s:aS)(w:aI)(hs:s.size<=1000000000):Calls prog 245 #[s] w λe w'=>∃v,e=.returned v/\rA w' v (lb s)/\aD8 w v/\aR w w w':=by
 by_cases xc:s.size<64
 .have i1:(s.size:Int)<64:=(by omega);have l:okF (lb s)=false:=bi7 (by rw[bI];omega);have G:=aH l;clear l;go_in;go_wp2;refine bE (v:=.agg #[.int .i64 0,.int .i64 0,.map none]) (by simp[results,results245,go_sem]) rfl ⟨_,rfl,.inl ⟨rfl,G⟩,U1 _ _ _,iH.alloc dQ _⟩
 have i1:¬(s.size:Int)<64:=(by omega);have hz:=bW4 (lb s);have hF:(s.extract 0 64).size=64:=by rw[lZ];omega
 have x3:pF (lb ((s.extract 0 64).extract 4 8))=yB (lb s):=by rw[bW5,bc1];unfold yB;congr 1;rw[cn3,l5];simp
 have hh:=bh1 (s.extract 0 64) (by omega);have M:oO (lb (s.extract 0 64))=oO (lb s):=by rw[bc1];unfold oO;rw[aY,aY,iV (by omega)]
 have x4:=bc1 s;have i5:(64:Int)<=s.size:=(by omega);have⟨Z,hZ⟩:=fR (yB (lb s));have⟨p,hp⟩:=fR (oO (lb s));have xh:p<256:=by rw[hp,<-M,hh];exact(s.extract 0 64)[3].toNat_lt
 have hi:∀F:aS,s.extract 0 64=F->F.size=64/\pF (lb (F.extract 4 8))=Z/\(∀h:3<F.size,(F[3].toNat:Int)=(p:Int))/\lb F=(lb s).take 64:=by rintro F rfl;exact⟨hF,by rw[x3,hZ],λh=>by rw[hp,<-M,hh],x4⟩
 have cG:∀F:aS,s.extract 0 64=F->∀w',Calls prog 169 #[.string (F.extract 4 8)] w' λe xa=>e=.returned (.int .u64 Z)/\w'=xa:=λF x6 w'=>by have:=xG (F.extract 4 8) w' (by rw[lZ];unfold maxLen;omega);rwa[(hi F x6).2.1]at this
 have cM:=λw=>an8 (Z:Int) (p:Int) w (by omega) (by omega);have u1:IntKind.i64.wrap (Z:Int)=(Z:Int):=(by rw[cQ];omega);have z0:(0:Int)<=(Z:Int):=(by omega);have p0:(0:Int)<=(p:Int):=(by omega);have p1:(p:Int)<256:=(by omega);have⟨HZ,HP,HK,HG⟩:=aC hZ hp hi cG;clear x3 hZ hp x4 hh M hz hF hi cG;go_in;(go_wp2_with fail);have X:=(bR w.heap.size w).alloc dQ (.cells #[.int .i64 0,.int .i64 0,.map none] 283);have h0:=Row.new w #[.int .i64 0,.int .i64 0,.map none] 283;have⟨b,hb⟩:=fR w.heap.size;rw[<-hb]at h0|-;generalize w.alloc (.cells #[.int .i64 0,.int .i64 0,.map none] 283)=w1 at X h0|-;have⟨a,R⟩:=aA hb h0;clear hb h0;generalize ha:s.extract 0 64=F;obtain⟨k1,-,k2,k3⟩:=HK F ha;have cG:=HG F ha;have k4:=k2 (by omega);have k5:3<F.size:=(by omega);have k6:(3:Int)<F.size:=(by omega);have k7:(8:Int)<=F.size:=(by omega);have K3:=aH k3;clear ha k2 k3 HK HG;refine cI (by kernel_rfl) (by kernel_rfl) ?_;repeat go_big_quiet_step (first|(go_at_call 169;exact CY _ (cG _)))
 refine wpQuiet_nil ?_;intro _ hx;obtain⟨⟨w2,J⟩,rfl⟩:=hx;rename_i w2;clear cG k4 k5 k6 k7 u1;(go_wp2_with fail);rcases d:RP (Z:Int) (p:Int)with _|_
 .rw[d]at cM;have l:okF (lb s)=false:=bi7 (λU=>by rw[<-HZ.zz,<-HP.zz,d]at U;cases U.2.1);have G:=aH l;clear l d;go_call cM _ as e w' ⟨rfl,rfl⟩;clear cM;have⟨r0,r1,r2,f0,f1,f2⟩:=CJ (R.next J);have C:=aH (aK X J);go_wp2;refine bE (v:=.agg #[.int .i64 0,.int .i64 0,.map none]) (by simp[results,results245,go_sem,r0,r1,r2]) rfl ⟨_,rfl,.inl ⟨rfl,G⟩,U1 _ _ _,((C.setCell (p:=⟨b,0,none⟩) (by rw[a.zz];exact cV _) _).setCell (p:=⟨b,1,none⟩) (by rw[a.zz];exact cV _) _).setCell (p:=⟨b,2,none⟩) (by rw[a.zz];exact cV _) _⟩
 rw[d]at cM;have⟨m1,m2,m3,m4,m5⟩:=(LO _ _).1 d;have cH:=λw=>Z2 Z p w (by omega) (by omega);have E:=aH d;have⟨m,hm⟩:=fR (Z/60);have h7:Z=60*m:=(by omega);have Hm:=aH (And.intro hm h7);have xe:1<=m:=(by omega);have xf:m<=2000:=(by omega);clear d m3 hm h7;go_call cM _ as e w' ⟨rfl,rfl⟩;clear cM;(go_wp2_with fail);by_cases u:(lb s).take 64=EN Z p
 .have hy:okF (lb s)=true:=ct3 (by rw[bI];omega) (by rw[<-HZ.zz,<-HP.zz];exact E) (by rw[<-HZ.zz,<-HP.zz];exact u);have hx:bs (EN Z p)=F:=(by rw[<-u,<-K3.zz,BG]);rw[hx]at cH;have hq:=aH hy;clear hy hx u E;go_call cH _ as e z ⟨rfl,V⟩;have x7:=@run_makeMap prog;clear cH;have eZ:(Z:Int)/60=(m:Int):=(by rw[Hm.zz.1];simp);have j:=(World.ownsMap_made (H:=Unit) z prog 3 (plainElem prog 9)).alloc (.cells #[.int .i64 p,.int .i64 Z,.map (some z.heap.size)] 283);have y:=Row.new (z.alloc (.map #[] 0)) #[.int .i64 p,.int .i64 Z,.map (some z.heap.size)] 283;rw[bD]at y;have K:=((bR z.heap.size z).alloc dQ (.map #[] 0)).alloc (by simp) (.cells #[.int .i64 p,.int .i64 Z,.map (some z.heap.size)] 283);have r:=aK J V;have h3:=(R.next r).next K;have t:=aK (aK X r) K;have q:w.heap.size<z.heap.size:=aW (by have:=R.lt;rwa[a.zz]at this) r.size;(go_wp2_with fail);have⟨B,hB⟩:=fR z.heap.size;have⟨S,hS⟩:=fR (z.heap.size+1);rw[<-hS]at y|-;rw[<-hB]at j y h3 t|-;generalize (z.alloc (.map #[] 0)).alloc (.cells #[.int .i64 p,.int .i64 Z,.map (some B)] 283)=w4 at j y h3 t|-;have⟨HB,HS,X0⟩:=aB hB hS (And.intro j (And.intro y (And.intro h3 t)));clear hB hS j y h3 t K r eZ x7;go_loopw [42] (λi wr=>∃(k nn:Nat)(D:Dm),k<=m/\i=.int .i64 k/\nn<=k/\wr.ownsMap prog 3 (plainElem prog 9) B nn D/\XF D (lb s) k/\Row wr S 283 [.int .i64 p,.int .i64 Z,.map (some B)]/\Row wr b 283 [.int .i64 0,.int .i64 0,.map none]/\aR w.heap.size w wr) (λi _=>m-(intOf i).toNat)
  .exact⟨0,0,_,bK _,rfl,dQ,X0.1,XF.nil _,X0.2.1,X0.2.2.1,X0.2.2.2⟩
  obtain⟨k,nn,D,hk,rfl,xg,h8,hv,x1,x0,W⟩:=hrel;have⟨I,Q,O,N⟩:=aC h8 hv x1 x0;clear h8 hv x1 x0;by_cases xd:k<m
  .have j1:(k:Int)<m:=(by omega);have⟨a9,hc⟩:=fR ((k+1)*64);have⟨T,hd⟩:=fR (a9+64);have e1:((k:Int)+1)*64=(a9:Int):=(by omega);have e2:(a9:Int)+64=(T:Int):=(by omega);have o:=aT1 s k a9 hc;rw[<-hd]at o;have b1:(a9:Int)<=200000:=(by omega);have b2:(T:Int)<=200000:=(by omega);have HA:=aH (And.intro hc hd);clear hc hd;by_cases xb:T<=s.size
   .have k2:(T:Int)<=s.size:=(by omega);have xj:¬(s.size:Int)<T:=(by omega);have k4:(a9:Int)<=T:=(by omega);have k5:a9<=T:=(by omega);have cO:=λw=>MY (s.extract a9 T) w (by rw[lZ];omega);rw[o]at cO;have g:(k+2)*64<=(lb s).length:=(by rw[bI];have:=HA.zz;omega);rcases x:kY (YS (lb s) k)with _|_
    iterate 2
     .rw[x]at cO;first|have HT:=aH (Q.skip (bh7 x));clear x o g|(have hf:=bh6 g x;have hg:=ao2 x;rw[aK4 g]at hg;generalize kH (YS (lb s) k)=P9 at hg hf cO;(have h6:keyOf prog 3 (.int .i64 k)=some (xJ k):=keyOf_int_mk underlying3 (au5 (by omega) (by omega)));have KI:=int_keyed (P:=prog) (k:=3) underlying3;have HT:=aH (Q.put hf (KI.key h6));(have x2:plainElem (H:=Unit) prog 9 (.string (bs P9))=some (.lit (.string P9),[]):=plainElem_string underlying9 (by rw[eO];unfold maxLen;omega));(have x8:nn<maxLen:=by unfold maxLen;omega);clear x o g hf hg)
      (go_wp2_with fail);go_call cO _ as e w5 ⟨rfl,c⟩;have hj:=aH (I.kept (row:=none) ⟨c.os,c.tape,c.output,c.size,λk hk _=>c.block k hk⟩ (by simp))
      try
       have⟨h4,hl⟩:=aA (O.next c) (N.next c);have h5:=aK W c;obtain⟨q0,q1,q2,-,-,-⟩:=CJ h4;go_wp2_with (first
        |(at_mapUpdate;refine wpList_mapUpdate_own _ rfl _ _ _ 281 rfl 3 9 KI underlying281 (plainElem prog 9) B nn D rfl hj x8 _ _ (xJ k) rfl rfl h6 (.lit (.string P9)) [] x2 ?_;intro w6 L he))
       have x5:=aH L;have ht:some S≠some B:=(by rw[HS.zz,HB.zz];simp);have hr:some b≠some B:=(by rw[a.zz,HB.zz];simp;omega);have⟨ho,hn⟩:=aA (h4.grown he ht) (hl.grown he hr);have hu:aR w.heap.size w w6:=h5.grown he h5.size (λk hk=>by cases hk;rw[HB.zz];exact qT q);clear L ht hr q0 q1 q2
      go_wp2;go_roundw;(first|(case rel=>exact⟨k+1,nn,D,by omega,by go_num,by omega,hj,HT,O.next c,N.next c,aK W c⟩)|(case rel=>exact⟨k+1,nn+1,_,by omega,by go_num,by omega,x5,HT,ho,hn,hu⟩));simp[intOf];omega
   have k2:(s.size:Int)<T:=(by omega);have A:=aH (Q.all (m:=m) (λn h1 h2=>bh8 (by rw[bI];have:=HA.zz;omega)));clear o;have⟨r0,r1,r2,f0,f1,f2⟩:=CJ N;obtain⟨q0,q1,q2,-,-,-⟩:=CJ O;have hw:S≠b:=(by rw[HS.zz,a.zz];have:=q;omega);have f:B≠b:=(by rw[HB.zz,a.zz];have:=q;omega);go_wp2;refine bE (v:=.agg #[.int .i64 p,.int .i64 Z,.map (some B)]) (by simp[results,results245,go_sem,r0,r1,r2]) rfl ⟨_,rfl,.inr ⟨B,nn,D,by rw[<-HP.zz,<-HZ.zz],hq,?_,by rw[<-HZ.zz,<-Hm.zz.1];exact A⟩,ZH _ _ (by rw[HB.zz];exact qT q),((W.setCell (p:=⟨b,0,none⟩) (by rw[a.zz];exact cV _) _).setCell (p:=⟨b,1,none⟩) (by rw[a.zz];exact cV _) _).setCell (p:=⟨b,2,none⟩) (by rw[a.zz];exact cV _) _⟩;exact((I.kept (yP _ ⟨b,0,none⟩ _) (by simpa using f)).kept (yP _ ⟨b,1,none⟩ _) (by simpa using f)).kept (yP _ ⟨b,2,none⟩ _) (by simpa using f)
  obtain rfl:k=m:=(by omega);have j1:¬(k:Int)<k:=(by omega);have A:=aH (Q.all (m:=k) (λn h1 h2=>by omega));have⟨r0,r1,r2,f0,f1,f2⟩:=CJ N;obtain⟨q0,q1,q2,-,-,-⟩:=CJ O;have hw:S≠b:=(by rw[HS.zz,a.zz];have:=q;omega);have f:B≠b:=(by rw[HB.zz,a.zz];have:=q;omega);go_wp2;refine bE (v:=.agg #[.int .i64 p,.int .i64 Z,.map (some B)]) (by simp[results,results245,go_sem,r0,r1,r2]) rfl ⟨_,rfl,.inr ⟨B,nn,D,by rw[<-HP.zz,<-HZ.zz],hq,?_,by rw[<-HZ.zz,<-Hm.zz.1];exact A⟩,ZH _ _ (by rw[HB.zz];exact qT q),((W.setCell (p:=⟨b,0,none⟩) (by rw[a.zz];exact cV _) _).setCell (p:=⟨b,1,none⟩) (by rw[a.zz];exact cV _) _).setCell (p:=⟨b,2,none⟩) (by rw[a.zz];exact cV _) _⟩;exact((I.kept (yP _ ⟨b,0,none⟩ _) (by simpa using f)).kept (yP _ ⟨b,1,none⟩ _) (by simpa using f)).kept (yP _ ⟨b,2,none⟩ _) (by simpa using f)
 have l:okF (lb s)=false:=bi7 (λU=>by rw[<-HZ.zz,<-HP.zz]at U;exact u U.2.2);have hx:¬F=bs (EN Z p):=λU=>u (by rw[<-K3.zz,U,gP]);have G:=aH l;generalize bs (EN Z p)=Y at cH hx;have xi:(F.toList==Y.toList)=false:=(by rw[bA,Ne,jL,jL];exact λU=>hx (by rw[<-BG F,U,BG]));clear l u E hx;go_call cH _ as e z ⟨rfl,V⟩;clear cH;have⟨r0,r1,r2,f0,f1,f2⟩:=CJ (R.next (aK J V));have C:=aH (aK X (aK J V));go_wp2;refine bE (v:=.agg #[.int .i64 0,.int .i64 0,.map none]) (by simp[results,results245,go_sem,r0,r1,r2]) rfl ⟨_,rfl,.inl ⟨rfl,G⟩,U1 _ _ _,((C.setCell (p:=⟨b,0,none⟩) (by rw[a.zz];exact cV _) _).setCell (p:=⟨b,1,none⟩) (by rw[a.zz];exact cV _) _).setCell (p:=⟨b,2,none⟩) (by rw[a.zz];exact cV _) _⟩
def BK(L:List bB)(n:Nat):List bB:=(L.drop (60*n)).take 60
def aL7(L:List bB)(n:Nat):(BK L n).length<=60:=by unfold BK;rw[b8];omega
def ED(L:List bB)(k:Nat):List bB:=(List.range k).flatMap fun n=>kU (BK L n)
def RI(L:List bB)(k:Nat):ED L (k+1)=ED L k++kU (BK L k):=by unfold ED;rw[sD,eB];simp
def am1(l:List bB):(kU l).length=l+4:=by unfold kU;rw[aO];rfl
def VL{L:List bB}{m:Nat}(h:L=60*m):∀k,k<=m->(ED L k).length=64*k:=by
 intro k;induction k with
 |zero=>intro _;rfl
 |succ k a=>intro b;rw[RI,aO,a (by omega),am1];have:(BK L k).length=60:=(by unfold BK;simp;omega);omega
def SC(L:List bB)(a:Int):List bB:=if RP L.length a then EN L.length a.toNat++ED L (L.length/60)else[]
def aS9(h:RP Q e=false):SC Q e=[]:=by unfold SC;rw[h];rfl
def aq5{L:List bB}{p m:Nat}(h:RP L p=true)(a:L=60*m):SC L (p:Int)=EN (60*m) p++ED L m:=by unfold SC;rw[h,a];simp
def aA7(s:aS)(k:Nat):lb (s.extract (60*k) (60*k+60))=BK (lb s) k:=by rw[dY,gP];unfold BK;rw[show 60*k+60-60*k=60 by omega]
def bH1(s:aS)(a:Int)(w:aI)(hs:s.size<=9223372036854775000)(hp:-9223372036854775808<=a/\a<=9223372036854775807):Calls prog 294 #[s,a] w λe w'=>e=(bs (SC (lb s) a))/\aR w w w':=by
 have C:=λw=>an8 (s.size:Int) a w (by omega) hp;rcases b:RP s.size a with _|_
 .have H:SC (lb s) a=[]:=aS9 (by rw[bI];exact b);rw[b]at C;have P:=aH H;clear H b;go_in;go_wp2_with fail
  go_call C _ as e Z ⟨rfl,rfl⟩;go_wp2;go_ret;exact⟨by rw[P.zz];rfl,iH⟩
 have⟨T,U,h3,h4,h5⟩:=(LO _ _).1 b;obtain⟨m,J⟩:∃m,s.size=60*m:=⟨s.size/60,by omega⟩;obtain⟨p,rfl⟩:∃p:Nat,a=(p:Int):=⟨a.toNat,by omega⟩;have H:=aq5 (L:=lb s) (p:=p) (m:=m) (by rw[bI];exact b) (by rw[bI];exact J);have n:=VL (L:=lb s) (m:=m) (by rw[bI];exact J);rw[b]at C;have Y:=λw=>Z2 s.size p w (by omega) (by omega);have t:=ap8 (60*m) p;rw[<-J]at t;have h8:s.size<=120000:=(by omega);have⟨P,z,A,y⟩:=aC H n J t;have h7:m<=2000:=(by omega);have h6:1<=m:=(by omega);clear H n b t T U h3 J;go_in;go_wp2_with fail
 go_call C _ as e Z ⟨rfl,rfl⟩;clear C;have c:=ON.new w;have o:=(bR w w).alloc dQ (.cells #[.pointer none,zs] 342);(go_wp2_with fail);generalize w.alloc (.cells #[.pointer none,zs] 342)=Z at c o|-;have⟨B,V⟩:=fR w.heap.size;rw[<-V]at c|-;have⟨u,d⟩:=aA V c;clear V c;go_call Y _ as e w2 ⟨rfl,E⟩;clear Y;have j:=aK o E;go_wp2_with fail
 go_call BF B B [] _ w2 (d.next E) (by rw[eO,y.zz];simp) (by rw[u.zz];exact j.size) as e w3 ⟨rfl,f,W⟩;rw[qA]at f;have G:aR w w w3:=j.trans (by rw[<-u.zz];exact W);have v:=aH f;clear f d;go_wp2_with fail
 go_loopw [6] (λi wr=>∃k:Nat,k<=m/\i=.int .i64 ((60*k:Nat):Int)/\ON wr B B (EN s.size p++ED (lb s) k)/\aR w w wr) (λi _=>s.size-(intOf i).toNat)
 .exact⟨0,bK _,rfl,by simpa[ED,lb,bs]using v.zz,G⟩
 obtain⟨k,hk,rfl,c,r⟩:=hrel;have d:=aH c;clear c;by_cases h0:k<m
 .have X:((60*k:Nat):Int)<s.size:=(by have:=A.zz;omega);have i2:60*k<s:=(by have:=A.zz;omega);have i3:60*k+60<=s:=(by have:=A.zz;omega);have i4:((60*k:Nat):Int)+60<=s.size:=(by omega);have N:=aL7 (lb s) k;have I:=z k hk;generalize D:60*k=K at X i2 i3 i4|-;have HK:=aH D;have M:lb (s.extract K (K+60))=BK (lb s) k:=(by rw[<-D];exact aA7 s k);have O:(s.extract K (K+60)).size<=60:=(by rw[lZ];omega);have⟨Q,S,R⟩:=aB M O (And.intro N I);clear D M O N I;go_wp2_with fail
  go_call C2 _ _ (by have:=S.zz;omega) as e w4 ⟨rfl,F⟩;rw[Q.zz];have l:=aK r F;go_wp2_with fail
  go_call BF B B _ _ w4 (d.next F) (by have T:=R.zz;have U:=y.zz;rw[aO,eO,am1,U,T.2];omega) (by rw[u.zz];exact l.size) as e w5 ⟨rfl,h,q⟩;have g:aR w w w5:=l.trans (by rw[<-u.zz];exact q);have x:=aH h;clear h;go_wp2;go_roundw
  .exact⟨k+1,by omega,by rw[<-HK.zz];congr 1,by have:=x.zz;rw[bT]at this;rw[RI];exact this,g⟩
  simp[intOf];omega
 obtain rfl:k=m:=(by omega);have X:¬((60*k:Nat):Int)<s.size:=(by have:=A.zz;omega);generalize D:60*k=K at X|-;clear D;go_wp2_with fail
 go_call ae0 B B _ wr d (by rw[u.zz];exact r.size) as e w5 ⟨rfl,q⟩;have g:aR w w w5:=r.trans (by rw[<-u.zz];exact q);go_wp2;go_ret;exact⟨by rw[P.zz,<-A.zz];rfl,g⟩
end Go.Proofs.YtpopikndggffaaaGreatDoor
