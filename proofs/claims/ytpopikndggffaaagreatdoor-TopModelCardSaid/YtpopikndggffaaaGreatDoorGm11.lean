/- TOP, part 11. -/
import Derived.Deep.RegionHeldLaw
import Derived.Maps.OwnSet
import Derived.Maps.StringElems
import Derived.Shelf.Strings.SlTrimAscii
import Derived.Test.YtpopikndggffaaaGreatDoorGm3
import Derived.Test.YtpopikndggffaaaGreatDoorGm6
import Derived.Test.YtpopikndggffaaaGreatDoorGm7
namespace Go.Proofs.YtpopikndggffaaaGreatDoor
set_option linter.all false
set_option maxRecDepth 100000
set_option maxHeartbeats 16000000
open Go.RowKit Go.Maps Tryz
def az7:(prog.info? (lr0.t 116)).map (λi=>(i.zero,i.size))=some (some (.agg (Array.replicate 256 (.bool false))),256):=by kernel_rfl
def AP:bK:=[48,49,50,51,52,53,54,55,56,57]
def Z1(c:bB):AP.contains c=II c:=by
 rw[j8];simp only[AP,List.contains_cons,List.contains_nil,cl8,zJ,gG,II,bH];constructor
 .rintro (h|h|h|h|h|h|h|h|h|h)<;>subst h<;>decide
 rintro ⟨a,b⟩;have:∀k:bB,c.toNat=k.toNat->c=k:=λk h=>V8.1 h;rcases(show c.toNat=48\/c.toNat=49\/c.toNat=50\/c.toNat=51\/c.toNat=52\/c.toNat=53\/c.toNat=54\/c.toNat=55\/c.toNat=56\/c.toNat=57 from by omega)with h|h|h|h|h|h|h|h|h|h
 .exact .inl (this 48 h)
 .exact .inr (.inl (this 49 h))
 .exact .inr (.inr (.inl (this 50 h)))
 .exact .inr (.inr (.inr (.inl (this 51 h))))
 .exact .inr (.inr (.inr (.inr (.inl (this 52 h)))))
 .exact .inr (.inr (.inr (.inr (.inr (.inl (this 53 h))))))
 .exact .inr (.inr (.inr (.inr (.inr (.inr (.inl (this 54 h)))))))
 .exact .inr (.inr (.inr (.inr (.inr (.inr (.inr (.inl (this 55 h))))))))
 .exact .inr (.inr (.inr (.inr (.inr (.inr (.inr (.inr (.inl (this 56 h)))))))))
 exact .inr (.inr (.inr (.inr (.inr (.inr (.inr (.inr (.inr (this 57 h)))))))))
def ay2(l a:bK):Lib.trimS l a=[]↔l.all (a.contains ·)=true:=by
 have b:∀m:bK,m.dropWhile (a.contains ·)=[]↔m.all (a.contains ·)=true:=λm=>by
  induction m with
  |nil=>simp
  |cons x m j=>
   rw[nA,an1];by_cases h:a.contains x=true
   .rw[aU h,j,h];simp
   rw[aQ h];simp at h|-;intro g;exact absurd g (by simpa using h)
 unfold Lib.trimS Lib.trimLeftS Lib.trimRightS;rw[b,bi1];constructor
 .intro h;have f:l.reverse.dropWhile (a.contains ·)=[]:=by
   generalize i:l.reverse.dropWhile (a.contains ·)=m at h;cases m with
   |nil=>rfl
   |cons x m=>have e:a.contains x=true:=(by rw[an1,bL]at h;exact h.1);have c:=List.head?_dropWhile_not (a.contains ·) l.reverse;rw[i]at c;simp at c e;exact absurd e (by simpa using c)
  have d:=(b l.reverse).1 f;rwa [bi1]at d
 intro h;have d:=(b l.reverse).2 (by rw[bi1];exact h);rw[d];rfl
def MF(s:aT)(w:aI)(d:s.size<=maxLen):
 Calls prog 50 #[.string s,.string ⟨#[48,49,50,51,52,53,54,55,56,57]⟩] w λe f=>e=.returned (.string (bs (Lib.trimS (lb s) AP)))/\aS w.heap.size w f:=by
  have h:=Any.strings_Trim_ascii ch2 (zero_of_info az7).1 (zero_of_info az7).2 s ⟨#[48,49,50,51,52,53,54,55,56,57]⟩ w (by unfold maxLen at d;omega) (by decide) (λj b c=>by have a:=bD c;simp only[cX,qC,or_false]at a;rcases a with h|h|h|h|h|h|h|h|h|h<;>subst h<;>decide);exact h
variable{c:bB}{s:bK}
def NT(o:Option (bB×Nat)):aN:=match o with
 |none=>.tuple #[.int .u8 0,.int .i64 0,.bool false]
 |some (c,n)=>.tuple #[.int .u8 (c.toNat:Int),.int .i64 (n:Nat),.bool true]
def XH{c:bB}(h:¬(s.length=6/\s.all II=true/\(c=99\/c=116\/c=98))):mG (c::s)=none:=aQ h
def bv6(h:s.length=6/\s.all II=true/\(c=99\/c=116\/c=98)):mG (c::s)=some (c,EE s):=aU h
def all_cons(L:bK)(k:Nat)(h:L.length=k+1):∃c l,L=c::l/\l.length=k:=by
 cases L with
 |nil=>simp at h
 |cons c l=>exact⟨c,l,rfl,by simpa using h⟩
def cj6:∀l:bK,l.all II=true->EE l<10^l.length:=λl h=>(aL6 l.length l rfl h).2
def bi7{c:bB}{k:Nat}(d:k<256)(h:¬c=UInt8.ofNat k):¬((c.toNat:Int)=(k:Int)):=λb=>h (V8.1 (by
 have a:c.toNat=k:=by exact_mod_cast b
 rw[a];simp;omega))
def U4(s:aT)(w:aI)(V:s.size<=maxLen):
 Calls prog 27 #[.string s] w λe A=>e=.returned (NT (mG (lb s)))/\aS w.heap.size w A:=by
  have D:=V;unfold maxLen at D;by_cases F:s.size=7
  .have X:(s.size:Int)=7:=(by omega);obtain⟨c,l,b,z⟩:=all_cons (lb s) 6 (by rw[bN];exact F);have t:lb (s.extract 1 7)=l:=(by rw[eB,gF,b];simp[aX,z]);have q:=aH (MF (s.extract 1 7) w (by rw[eB,eK,b];simp[maxLen];omega));rw[t]at q;have Q:s[0]=c:=by have:(lb s)[0]'(by rw[b];simp)=c:=(by simp[b]);rw[<-this];simp[lb];rfl
   by_cases m:l.all II=true
   .have r:Lib.trimS l AP=[]:=(ay2 l AP).2 (by rw[<-m];congr 1;funext x;exact Z1 x);rw[r]at q;by_cases p:c=99\/c=116\/c=98
    .have v:=aH (show mG (lb s)=some (c,EE l)from by rw[b];exact bv6 ⟨z,m,p⟩);have y:∀k (h:k<6),(s[1+k]'(by omega))=l[k]'(by omega):=λk h=>by have:(lb s)[1+k]'(by rw[b];simp;omega)=l[k]'(by omega):=(by simp only[b,Nat.add_comm 1 k,bX]);rw[<-this];simp[lb];rfl
     have o:∀k (h:k<6),48<=(l[k]'(by omega)).toNat/\(l[k]'(by omega)).toNat<=57:=λk h=>by have:=dL.1 m _ (cY (by omega:k<l.length));simpa[II]using this
     have d:∀k,k<=6->EE (l.take k)<1000000:=λk H=>by have R:=cj6 (l.take k) (by rw[dL];exact λx t=>dL.1 m x (mL t));have S:(l.take k).length<=6:=(by rw[bJ];omega);exact aW R (gK (n:=10) (by omega) S)
     have j:∀k (h:k<6),EE (l.take (k+1))=10*EE (l.take k)+((l[k]'(by omega)).toNat-48):=λk h=>(by rw[jC (by omega),SY]);have g:l.take 6=l:=aX (by omega);have⟨J,K,N,O,M,Y⟩:=aE y o d j g Q;clear y o d j g b t r m;go_in;(go_wp2_with fail);refine q.out.mono ?_;rintro e A ⟨rfl,f⟩;rcases p with rfl|rfl|rfl
     all_goals
      (go_wp2_with fail);go_loopw [3,5,21] (λn u i wr=>∃k:Nat,k<=6/\i=.int .i64 k/\n=.int .i64 ((EE (l.take k):Nat):Int)/\wr=A) (λ_ _ i _=>6-(intOf i).toNat)
      .exact⟨0,bO _,rfl,rfl,rfl⟩
      obtain⟨k,H,rfl,rfl,rfl⟩:=hrel;have U:=N.out k H;by_cases d:k<6
      .have i1:(k:Int)<6:=(by omega);have C:=J.out k d;have G:=K.out k d;have B:=O.out k d;generalize l[k]=x at C G B;generalize EE (l.take k)=a at U B|-;have E:10*(a:Int)+((x.toNat:Int)-48)%256=((EE (l.take (k+1)):Nat):Int):=(by rw[B];omega);rw[<-C]at E;have P:=aH E;clear B E C G;go_wp2;go_roundw
       .exact⟨k+1,by omega,by go_num,gQ (Value.int .i64) P.out,trivial⟩
       simp[intOf];omega
      obtain rfl:k=6:=(by omega);rw[M.out];go_wp2;go_ret3;exact⟨by rw[v.out];rfl,f⟩
    have v:=aH (show mG (lb s)=none from by rw[b];exact XH λh=>p h.2.2);have Z:=bi7 (c:=c) (k:=99) (by omega) (λh=>p (.inl h));have c2:=bi7 (c:=c) (k:=116) (by omega) (λh=>p (.inr (.inl h)));have c3:=bi7 (c:=c) (k:=98) (by omega) (λh=>p (.inr (.inr h)));clear b t r m p;go_in;(go_wp2_with fail);refine q.out.mono ?_;rintro e A ⟨rfl,f⟩;go_wp2;go_ret3;exact⟨by rw[v.out];rfl,f⟩
   have v:=aH (show mG (lb s)=none from by rw[b];exact XH λh=>m h.2.1);have r:Lib.trimS l AP≠[]:=λh=>m (by rw[<-(ay2 l AP).1 h];congr 1;funext x;exact(Z1 x).symm);have W:((bs (Lib.trimS l AP)).toList==[])=false:=(by rw[bI];exact EX (by rw[eK];exact λh=>r (fE.1 h)));clear b t r m;generalize bs (Lib.trimS l AP)=T at q W;go_in;(go_wp2_with fail);refine q.out.mono ?_;rintro e A ⟨rfl,f⟩;go_wp2;go_ret3;exact⟨by rw[v.out];rfl,f⟩
  have X:¬(s.size:Int)=7:=by omega
  have I:mG (lb s)=none:=by
   have z:=bN s;generalize lb s=L at z|-;cases L with
   |nil=>rfl
   |cons c l=>exact XH λh=>F (by rw[<-z];simp[h.1])
  rw[I];clear I;go_in;go_wp2;go_ret3;exact⟨rfl,aY _ _⟩
def Q5(b a:Int):Bool:=decide (60<=b/\b<=120000/\b%60=0/\1<=a/\a<=16)
def JU(size probes:Int):Q5 size probes=true↔60<=size/\size<=120000/\size%60=0/\1<=probes/\probes<=16:=by unfold Q5;simp
def Q1{size probes:Int}(h:¬(60<=size/\size<=120000/\size%60=0/\1<=probes/\probes<=16)):Q5 size probes=false:=by unfold Q5;simp only[cN];exact h
def ar5(b a:Nat):List bB:=[98,108,109]++qL a 1++qL b 4++List.replicate 52 0
def CZ(b a:Nat):List bB:=kY (ar5 b a)
def aI9(b a:Nat):(ar5 b a).length=60:=by unfold ar5 qL;simp
def aj4(b a:Nat):(CZ b a).length=64:=by unfold CZ kY;rw[aP,aI9];rfl
def ah9(b a:Int)(w:aI)(o:-9223372036854775808<=b/\b<=9223372036854775807)(n:-9223372036854775808<=a/\a<=9223372036854775807):
 Calls prog 285 #[.int .i64 b,.int .i64 a] w λe l=>e=.returned (.bool (Q5 b a))/\w=l:=by
  by_cases m:0<b
  .by_cases h:b<=120000
   .have g:Int.tmod b 60=b%60:=LD (by omega);by_cases f:b%60=0
    .by_cases j:1<=a
     .by_cases k:a<=16
      iterate 2
       ·(first|(have c:=(JU b a).2 ⟨by omega,h,f,j,k⟩)|(have c:=Q1 (size:=b) (probes:=a) (by omega)));have d:=aH c;clear c;go_in;go_wp2;go_ret;exact⟨by rw[d.out];rfl,rfl⟩
     have c:=Q1 (size:=b) (probes:=a) (by omega);have d:=aH c;clear c;go_in;go_wp2;go_ret;exact⟨by rw[d.out];rfl,rfl⟩
    have c:=Q1 (size:=b) (probes:=a) (by omega);have d:=aH c;have i:(b%60==0)=false:=(by simpa using f);clear c;go_in;go_wp2;go_ret;exact⟨by rw[d.out];rfl,rfl⟩
   have c:=Q1 (size:=b) (probes:=a) (by omega);have d:=aH c;clear c;go_in;go_wp2;go_ret;exact⟨by rw[d.out];rfl,rfl⟩
  have c:=Q1 (size:=b) (probes:=a) (by omega);have d:=aH c;clear c;go_in;go_wp2;go_ret;exact⟨by rw[d.out];rfl,rfl⟩
def ao5(c:Nat):Lib.repeatL [0] c=List.replicate c 0:=by
 induction c with
 |zero=>rfl
 |succ c a=>unfold Lib.repeatL;rw[a];rfl
def cu8(w:aI):Calls prog 298 #[.string ⟨#[0]⟩,.int .i64 52] w λe a=>e=.returned (.string (bs (List.replicate 52 0)))/\aS w.heap.size w a:=by have h:=strings_Repeat ⟨#[0]⟩ 52 w (by omega) (by decide);have e:Lib.repeatL ({data:=#[0]}:aT).data.toList 52=List.replicate 52 0:=ao5 52;rwa[e]at h
def XI(b a:Nat)(w:aI)(v:b<=120000)(u:a<=16):
 Calls prog 286 #[.int .i64 b,.int .i64 a] w λe t=>e=.returned (.string (bs (CZ b a)))/\aS w.heap.size w t:=by
  have d:=λw=>sI (a:Int) 1 w (by omega) (by omega);have f:=λw=>sI (b:Int) 4 w (by omega) (by omega);simp only[cB]at d f;have o:(qL a 1).length=1:=(by unfold qL;simp);have p:(qL b 4).length=4:=(by unfold qL;simp);have c:CZ b a=kY ([98,108,109]++qL a 1++qL b 4++List.replicate 52 0):=rfl;have x:(0:Int)<=a:=(by omega);have z:(0:Int)<=b:=(by omega);have y:(a:Int)<=16:=(by omega);have A:(b:Int)<=120000:=(by omega);generalize qL a 1=l at d o c;generalize qL b 4=m at f p c;have k:=aH c;clear c;go_in;(go_wp2_with fail);refine(d _).mono ?_;rintro e B ⟨rfl,g⟩;(go_wp2_with fail);refine(f _).mono ?_;rintro e C ⟨rfl,h⟩;(go_wp2_with fail);refine(cu8 _).mono ?_;rintro e D ⟨rfl,i⟩;have n:(List.replicate 52 (0:bB)).length=52:=rfl;have r:List.replicate 52 (0:bB)=List.replicate 52 0:=rfl;generalize List.replicate 52 (0:bB)=Z at n k|-;clear r;(go_wp2_with fail);refine(AV _ _ ?_).mono ?_
  .have q:({data:=#[98,108,109]}:aT).size=3:=rfl;simp only[VR,eK,o,p,n,q];omega
  rintro e E ⟨rfl,j⟩;have s:lb (({data:=#[98,108,109]}:aT)++bs l++bs m++bs Z)=[98,108,109]++l++m++Z:=(by simp[lb,bs]);go_wp2;go_ret;exact⟨by rw[k.out];simp,aJ g (aJ h (aJ i j))⟩
variable{L Q:List bB}{b h m n:Nat}
def nV(L:List bB):Nat:=(L.getD 3 0).toNat
def wW(L:List bB):Nat:=qA ((L.drop 4).take 4)
def okF(L:List bB):Bool:=decide (64<=L.length)&&(Q5 (wW L) (nV L)&&decide (L.take 64=CZ (wW L) (nV L)))
def XB(L:List bB)(n:Nat):List bB:=(L.drop ((n+1)*64)).take 64
def tO(L:List bB)(n:Nat):Option (List bB):=if(n+2)*64<=L.length/\kP (XB L n)=true then some (kV (XB L n))else none
def ae0(L:List bB)(b:Nat):Bool:=match tO L (b/480)with
 |none=>true
 |some p=>ck3 p (b%480)
def VH(L:List bB)(h:Nat):Bool:=!okF L||(List.range (nV L)).all fun i=>ae0 L (prN h i (8*wW L))
def aG3(h:Nat)(a:okF Q=false):VH Q h=true:=by unfold VH;rw[a];rfl
def cf9{L:List bB}{h i:Nat}(d:okF L=true)(c:i<nV L)(b:ae0 L (prN h i (8*wW L))=false):VH L h=false:=by unfold VH;rw[d];simp only[oH,EP];rw[<-lH,dL];intro a;have:=a i (gB.2 c);rw[b]at this;cases this
def bP3{L:List bB}{h:Nat}(a:∀i,i<nV L->ae0 L (prN h i (8*wW L))=true):VH L h=true:=by unfold VH;rw[zJ];exact .inr (dL.2 λi b=>a i (gB.1 b))
def ai1(h:kP Q=true):(kV Q).length+4=Q.length:=by unfold kV;rw[aU h];unfold kP at h;simp only[bL,bH]at h;rw[bJ];omega
def aB8(h:(n+2)*64<=Q.length):(XB Q n).length=64:=by unfold XB;rw[bJ,fF];omega
def aY6(h:¬(n+2)*64<=Q.length):tO Q n=none:=by unfold tO;rw[aQ (λa=>h a.1)]
def aY5(h:kP (XB Q n)=false):tO Q n=none:=by unfold tO;rw[aQ (λa=>by rw[h]at a;cases a.2)]
def aY4(a:(n+2)*64<=Q.length)(b:kP (XB Q n)=true):tO Q n=some (kV (XB Q n)):=by unfold tO;rw[aU ⟨a,b⟩]
def bE5{b:Nat}(h:tO Q (b/480)=none):ae0 Q b=true:=by unfold ae0;rw[h]
def bE4{b:Nat}{s:List bB}(h:tO Q (b/480)=some s):ae0 Q b=ck3 s (b%480):=by unfold ae0;rw[h]
def aK4(s:aT)(n a:Nat)(h:a=(n+1)*64):lb (s.extract a (a+64))=XB (lb s) n:=by subst h;rw[eB,gF];unfold XB;rw[show(n+1)*64+64-(n+1)*64=64 by omega]
def bK0(s:aT):qA (lb (s.extract 4 8))=wW (lb s):=by rw[eB,gF];rfl
def aT7(s:aT):lb (s.extract 0 64)=(lb s).take 64:=by rw[eB,gF];simp
def aX8(s:aT)(h:3<s.size):nV (lb s)=s[3].toNat:=by unfold nV;rw[b8,aK (by rw[bN];exact h)];rfl
def bJ9(L:List bB):wW L<4294967296:=by unfold wW qA;have h:=DY (((L.drop 4).take 4).take 8);have a:(((L.drop 4).take 4).take 8).length<=4:=(by rw[bJ,bJ];omega);have:=gK (n:=256) (by omega) a;omega
def aZ4(h:¬(64<=Q.length/\Q5 (wW Q) (nV Q)=true/\Q.take 64=CZ (wW Q) (nV Q))):okF Q=false:=by unfold okF;rw[<-lH,bL,bL,bH,bH];exact h
def ce8(a:64<=Q.length)(b:Q5 (wW Q) (nV Q)=true)(c:Q.take 64=CZ (wW Q) (nV Q)):okF Q=true:=by unfold okF;rw[bL,bL,bH,bH];exact⟨a,b,c⟩
variable{e:Int}{w:aI}
def BG{T:cD}{v u z:aN}(h:Row w n T [v,u,z]):w.cell? (zp n)=v/\w.cell? (zp n 1)=u/\w.cell? (zp n 2)=z/\w.frozen? (zp n)=false/\w.frozen? (zp n 1)=false/\w.frozen? (zp n 2)=false:=
 ⟨h.rY,h.xD,h.G8,h.TI,h.J3,h.zf2⟩
def an3(a:-9223372036854775808<=e)(b:e<=9223372036854775807):(Lit.int .i64 e).wf=true:=by unfold Lit.wf;rw[bL,bH,bH];exact⟨a,b⟩
def xM(w:aI)(p:Addr)(v:aN):w.grownBy (w.setCell p v) p.block:=
 ⟨rfl,rfl,rfl,by simp,λk b a=>aV w p v k (λh=>a (by rw[h]))⟩
abbrev Dm:=DataW Unit
def vV(n:Nat):Lit:=.int .i64 (n:Int)
def VO(D:Dm)(L:List bB)(k:Nat):Prop:=IsMap D/\∀n:Nat,(n<k->has D (vV n)=(tO L n).isSome/\∀p,tO L n=some p->∀a,D.atKey (vV n) a=.lit (.string p))/\(k<=n->has D (vV n)=false)
def VO.nil(L:List bB):VO (.map []) L 0:=⟨isMap_empty,λn=>⟨λh=>by omega,λ_=>rfl⟩⟩
def M1{a b:Nat}(h:a≠b):vV a≠vV b:=by unfold vV;intro c;simp at c;omega
def VO.skip{D:Dm}(h:VO D Q n)(c:tO Q n=none):VO D Q (n+1):=by
 refine⟨h.1,λe=>⟨λd=>?_,λd=>(h.2 e).2 (by omega)⟩⟩;rcases cR e n with a|a
 .exact(h.2 e).1 a
 obtain rfl:e=n:=(by omega);refine⟨by rw[(h.2 e).2 gC,c];rfl,λp b=>by rw[c]at b;cases b⟩
def VO.put{D:Dm}{n:Nat}{s:List bB}(h:VO D Q n)(g:tO Q n=s)(f:WideAt.IsKeyLit (vV n)):VO (D.put (vV n) (.lit (.string s))) Q (n+1):=by
 refine⟨h.1.put _ _,λm=>⟨λl=>?_,λl=>?_⟩⟩
 .rcases cR m n with e|e
  .have c:=M1 (a:=m) (b:=n) (by omega);have⟨j,k⟩:=(h.2 m).1 e;refine⟨by rw[has_put_other c];exact j,λq d i=>by rw[atKey_put_other c];exact k q d i⟩
  obtain rfl:m=n:=(by omega);refine⟨by rw[has_put_same h.1 f,g];rfl,λq d i=>?_⟩;rw[g]at d;cases d;exact atKey_put_same h.1 f _ _
 rw[has_put_other (M1 (a:=m) (b:=n) (by omega))];exact(h.2 m).2 (by omega)
def VO.all{D:Dm}{m:Nat}(h:VO D Q n)(b:∀f,n<=f->f<m->tO Q f=none):∀f,f<m->has D (vV f)=(tO Q f).isSome/\∀p,tO Q f=some p->∀e,D.atKey (vV f) e=.lit (.string p):=by
 intro f d;rcases cR f n with a|a
 .exact(h.2 f).1 a
 have:=b f a d;rw[this];exact⟨(h.2 f).2 a,λp c=>by cases c⟩
def qE(w:aI)(v:aN)(L:List bB):Prop:=
 (v=.agg #[.int .i64 0,.int .i64 0,.map none]/\okF L=false)\/
 ∃(B n:Nat)(D:Dm),v=.agg #[.int .i64 (nV L:Nat),.int .i64 (wW L:Nat),.map (some B)]/\okF L=true/\w.ownsMap prog 3 (plainElem prog 9) B n D/\
  ∀n,n<wW L/60->has D (vV n)=(tO L n).isSome/\∀p,tO L n=some p->∀a,D.atKey (vV n) a=.lit (.string p)
def qE.next{w x:aI}{v:aN}(h:qE w v Q)(a:aS w w x):qE x v Q:=by
 rcases h with h|⟨B,n,D,b,c,d,e⟩
 .exact .inl h
 exact .inr ⟨B,n,D,b,c,d.kept (row:=none) ⟨a.os,a.tape,a.output,a.size,λk f _=>a.block k f⟩ (by simp),e⟩
def aw1(w:aI)(v:aN):Prop:=∀q a b,v=.agg #[a,b,.map (some q)]->w.heap.size<=q
def SH(w:aI)(a b:aN):aw1 w (.agg #[a,b,.map none]):=λq a b h=>by simp at h
def XW(a b:aN)(h:w<=n):aw1 w (.agg #[a,b,.map n]):=λq a b c=>by
 simp at c;rw[<-c.2.2];exact h
def U0(s:aT)(w:aI)(hs:s.size<=1000000000):
 Calls prog 245 #[s] w λe w'=>∃v,e=.returned v/\qE w' v (lb s)/\aw1 w v/\aS w w w':=by
  by_cases xc:s.size<64
  .have i1:(s.size:Int)<64:=(by omega);have l:okF (lb s)=false:=aZ4 (by rw[bN];omega);have G:=aH l;clear l;go_in;go_wp2;refine bG (v:=.agg #[.int .i64 0,.int .i64 0,.map none]) (by simp[results,results245,go_sem]) rfl ⟨_,rfl,.inl ⟨rfl,G⟩,SH _ _ _,mE.alloc gC _⟩
  have i1:¬(s.size:Int)<64:=(by omega);have hz:=bJ9 (lb s);have hF:(s.extract 0 64).size=64:=by rw[n8];omega
  have x3:qA (lb ((s.extract 0 64).extract 4 8))=wW (lb s):=by rw[bK0,aT7];unfold wW;congr 1;rw[bY7,kJ];simp
  have hh:=aX8 (s.extract 0 64) (by omega);have M:nV (lb (s.extract 0 64))=nV (lb s):=by rw[aT7];unfold nV;rw[b8,b8,iH (by omega)]
  have x4:=aT7 s;have i5:(64:Int)<=s.size:=(by omega);have⟨Z,hZ⟩:=kX (wW (lb s));have⟨p,hp⟩:=kX (nV (lb s));have xh:p<256:=by rw[hp,<-M,hh];exact(s.extract 0 64)[3].toNat_lt
  have hi:∀F:aT,s.extract 0 64=F->F.size=64/\qA (lb (F.extract 4 8))=Z/\(∀h:3<F.size,(F[3].toNat:Int)=(p:Int))/\lb F=(lb s).take 64:=by rintro F rfl;exact⟨hF,by rw[x3,hZ],λh=>by rw[hp,<-M,hh],x4⟩
  have cG:∀F:aT,s.extract 0 64=F->∀w',Calls prog 169 #[.string (F.extract 4 8)] w' λe xa=>e=.returned (.int .u64 Z)/\w'=xa:=λF x6 w'=>by have:=vR (F.extract 4 8) w' (by rw[n8];unfold maxLen;omega);rwa[(hi F x6).2.1]at this
  have cM:=λw=>ah9 (Z:Int) (p:Int) w (by omega) (by omega);have u1:IntKind.i64.wrap (Z:Int)=(Z:Int):=(by rw[dM];omega);have z0:(0:Int)<=(Z:Int):=(by omega);have p0:(0:Int)<=(p:Int):=(by omega);have p1:(p:Int)<256:=(by omega);have⟨HZ,HP,HK,HG⟩:=aC hZ hp hi cG;clear x3 hZ hp x4 hh M hz hF hi cG;go_in;(go_wp2_with fail);have X:=(aY w.heap.size w).alloc gC (.cells #[.int .i64 0,.int .i64 0,.map none] 283);have h0:=Row.new w #[.int .i64 0,.int .i64 0,.map none] 283;have⟨b,hb⟩:=kX w.heap.size;rw[<-hb]at h0|-;generalize w.alloc (.cells #[.int .i64 0,.int .i64 0,.map none] 283)=w1 at X h0|-;have⟨a,R⟩:=aA hb h0;clear hb h0;generalize ha:s.extract 0 64=F;obtain⟨k1,-,k2,k3⟩:=HK F ha;have cG:=HG F ha;have k4:=k2 (by omega);have k5:3<F.size:=(by omega);have k6:(3:Int)<F.size:=(by omega);have k7:(8:Int)<=F.size:=(by omega);have K3:=aH k3;clear ha k2 k3 HK HG;refine cU (by kernel_rfl) (by kernel_rfl) ?_;repeat go_big_quiet_step (first|(go_at_call 169;exact BX _ (cG _)))
  refine wpQuiet_nil ?_;intro _ hx;obtain⟨⟨w2,J⟩,rfl⟩:=hx;rename_i w2;clear cG k4 k5 k6 k7 u1;(go_wp2_with fail);rcases d:Q5 (Z:Int) (p:Int)with _|_
  .rw[d]at cM;have l:okF (lb s)=false:=aZ4 (λU=>by rw[<-HZ.zz,<-HP.zz,d]at U;cases U.2.1);have G:=aH l;clear l d;go_call cM _ as e w' ⟨rfl,rfl⟩;clear cM;have⟨r0,r1,r2,f0,f1,f2⟩:=BG (R.next J);have C:=aH (aJ X J);go_wp2;refine bG (v:=.agg #[.int .i64 0,.int .i64 0,.map none]) (by simp[results,results245,go_sem,r0,r1,r2]) rfl ⟨_,rfl,.inl ⟨rfl,G⟩,SH _ _ _,((C.setCell (p:=⟨b,0,none⟩) (by rw[a.zz];exact aO _) _).setCell (p:=⟨b,1,none⟩) (by rw[a.zz];exact aO _) _).setCell (p:=⟨b,2,none⟩) (by rw[a.zz];exact aO _) _⟩
  rw[d]at cM;have⟨m1,m2,m3,m4,m5⟩:=(JU _ _).1 d;have cH:=λw=>XI Z p w (by omega) (by omega);have E:=aH d;have⟨m,hm⟩:=kX (Z/60);have h7:Z=60*m:=(by omega);have Hm:=aH (And.intro hm h7);have xe:1<=m:=(by omega);have xf:m<=2000:=(by omega);clear d m3 hm h7;go_call cM _ as e w' ⟨rfl,rfl⟩;clear cM;(go_wp2_with fail);by_cases u:(lb s).take 64=CZ Z p
  .have hy:okF (lb s)=true:=ce8 (by rw[bN];omega) (by rw[<-HZ.zz,<-HP.zz];exact E) (by rw[<-HZ.zz,<-HP.zz];exact u);have hx:bs (CZ Z p)=F:=(by rw[<-u,<-K3.zz,BZ]);rw[hx]at cH;have hq:=aH hy;clear hy hx u E;go_call cH _ as e z ⟨rfl,V⟩;have x7:=@run_makeMap prog;clear cH;have eZ:(Z:Int)/60=(m:Int):=(by rw[Hm.zz.1];simp);have j:=(World.ownsMap_made (H:=Unit) z prog 3 (plainElem prog 9)).alloc (.cells #[.int .i64 p,.int .i64 Z,.map (some z.heap.size)] 283);have y:=Row.new (z.alloc (.map #[] 0)) #[.int .i64 p,.int .i64 Z,.map (some z.heap.size)] 283;rw[bC]at y;have K:=((aY z.heap.size z).alloc gC (.map #[] 0)).alloc (by simp) (.cells #[.int .i64 p,.int .i64 Z,.map (some z.heap.size)] 283);have r:=aJ J V;have h3:=(R.next r).next K;have t:=aJ (aJ X r) K;have q:w.heap.size<z.heap.size:=aW (by have:=R.lt;rwa[a.zz]at this) r.size;(go_wp2_with fail);have⟨B,hB⟩:=kX z.heap.size;have⟨S,hS⟩:=kX (z.heap.size+1);rw[<-hS]at y|-;rw[<-hB]at j y h3 t|-;generalize (z.alloc (.map #[] 0)).alloc (.cells #[.int .i64 p,.int .i64 Z,.map (some B)] 283)=w4 at j y h3 t|-;have⟨HB,HS,X0⟩:=aB hB hS (And.intro j (And.intro y (And.intro h3 t)));clear hB hS j y h3 t K r eZ x7;go_loopw [42] (λi wr=>∃(k nn:Nat)(D:Dm),k<=m/\i=.int .i64 k/\nn<=k/\wr.ownsMap prog 3 (plainElem prog 9) B nn D/\VO D (lb s) k/\Row wr S 283 [.int .i64 p,.int .i64 Z,.map (some B)]/\Row wr b 283 [.int .i64 0,.int .i64 0,.map none]/\aS w.heap.size w wr) (λi _=>m-(intOf i).toNat)
   .exact⟨0,0,_,bO _,rfl,gC,X0.1,VO.nil _,X0.2.1,X0.2.2.1,X0.2.2.2⟩
   obtain⟨k,nn,D,hk,rfl,xg,h8,hv,x1,x0,W⟩:=hrel;have⟨I,Q,O,N⟩:=aC h8 hv x1 x0;clear h8 hv x1 x0;by_cases xd:k<m
   .have j1:(k:Int)<m:=(by omega);have⟨a9,hc⟩:=kX ((k+1)*64);have⟨T,hd⟩:=kX (a9+64);have e1:((k:Int)+1)*64=(a9:Int):=(by omega);have e2:(a9:Int)+64=(T:Int):=(by omega);have o:=aK4 s k a9 hc;rw[<-hd]at o;have b1:(a9:Int)<=200000:=(by omega);have b2:(T:Int)<=200000:=(by omega);have HA:=aH (And.intro hc hd);clear hc hd;by_cases xb:T<=s.size
    .have k2:(T:Int)<=s.size:=(by omega);have xj:¬(s.size:Int)<T:=(by omega);have k4:(a9:Int)<=T:=(by omega);have k5:a9<=T:=(by omega);have cO:=λw=>LJ (s.extract a9 T) w (by rw[n8];omega);rw[o]at cO;have g:(k+2)*64<=(lb s).length:=(by rw[bN];have:=HA.zz;omega);rcases x:kP (XB (lb s) k)with _|_
     iterate 2
      .rw[x]at cO;first|have HT:=aH (Q.skip (aY5 x));clear x o g|(have hf:=aY4 g x;have hg:=ai1 x;rw[aB8 g]at hg;generalize kV (XB (lb s) k)=P9 at hg hf cO;(have h6:keyOf prog 3 (.int .i64 k)=some (vV k):=keyOf_int_mk underlying3 (an3 (by omega) (by omega)));have KI:=int_keyed (P:=prog) (k:=3) underlying3;have HT:=aH (Q.put hf (KI.key h6));(have x2:plainElem (H:=Unit) prog 9 (.string (bs P9))=some (.lit (.string P9),[]):=plainElem_string underlying9 (by rw[eK];unfold maxLen;omega));(have x8:nn<maxLen:=by unfold maxLen;omega);clear x o g hf hg)
       (go_wp2_with fail);go_call cO _ as e w5 ⟨rfl,c⟩;have hj:=aH (I.kept (row:=none) ⟨c.os,c.tape,c.output,c.size,λk hk _=>c.block k hk⟩ (by simp))
       try
        have⟨h4,hl⟩:=aA (O.next c) (N.next c);have h5:=aJ W c;obtain⟨q0,q1,q2,-,-,-⟩:=BG h4;go_wp2_with (first
         |(at_mapUpdate;refine wpList_mapUpdate_own _ rfl _ _ _ 281 rfl 3 9 KI underlying281 (plainElem prog 9) B nn D rfl hj x8 _ _ (vV k) rfl rfl h6 (.lit (.string P9)) [] x2 ?_;intro w6 L he))
        have x5:=aH L;have ht:some S≠some B:=(by rw[HS.zz,HB.zz];simp);have hr:some b≠some B:=(by rw[a.zz,HB.zz];simp;omega);have⟨ho,hn⟩:=aA (h4.grown he ht) (hl.grown he hr);have hu:aS w.heap.size w w6:=h5.grown he h5.size (λk hk=>by cases hk;rw[HB.zz];exact tH q);clear L ht hr q0 q1 q2
       go_wp2;go_roundw;(first|(case rel=>exact⟨k+1,nn,D,by omega,by go_num,by omega,hj,HT,O.next c,N.next c,aJ W c⟩)|(case rel=>exact⟨k+1,nn+1,_,by omega,by go_num,by omega,x5,HT,ho,hn,hu⟩));simp[intOf];omega
    have k2:(s.size:Int)<T:=(by omega);have A:=aH (Q.all (m:=m) (λn h1 h2=>aY6 (by rw[bN];have:=HA.zz;omega)));clear o;have⟨r0,r1,r2,f0,f1,f2⟩:=BG N;obtain⟨q0,q1,q2,-,-,-⟩:=BG O;have hw:S≠b:=(by rw[HS.zz,a.zz];have:=q;omega);have f:B≠b:=(by rw[HB.zz,a.zz];have:=q;omega);go_wp2;refine bG (v:=.agg #[.int .i64 p,.int .i64 Z,.map (some B)]) (by simp[results,results245,go_sem,r0,r1,r2]) rfl ⟨_,rfl,.inr ⟨B,nn,D,by rw[<-HP.zz,<-HZ.zz],hq,?_,by rw[<-HZ.zz,<-Hm.zz.1];exact A⟩,XW _ _ (by rw[HB.zz];exact tH q),((W.setCell (p:=⟨b,0,none⟩) (by rw[a.zz];exact aO _) _).setCell (p:=⟨b,1,none⟩) (by rw[a.zz];exact aO _) _).setCell (p:=⟨b,2,none⟩) (by rw[a.zz];exact aO _) _⟩;exact((I.kept (xM _ ⟨b,0,none⟩ _) (by simpa using f)).kept (xM _ ⟨b,1,none⟩ _) (by simpa using f)).kept (xM _ ⟨b,2,none⟩ _) (by simpa using f)
   obtain rfl:k=m:=(by omega);have j1:¬(k:Int)<k:=(by omega);have A:=aH (Q.all (m:=k) (λn h1 h2=>by omega));have⟨r0,r1,r2,f0,f1,f2⟩:=BG N;obtain⟨q0,q1,q2,-,-,-⟩:=BG O;have hw:S≠b:=(by rw[HS.zz,a.zz];have:=q;omega);have f:B≠b:=(by rw[HB.zz,a.zz];have:=q;omega);go_wp2;refine bG (v:=.agg #[.int .i64 p,.int .i64 Z,.map (some B)]) (by simp[results,results245,go_sem,r0,r1,r2]) rfl ⟨_,rfl,.inr ⟨B,nn,D,by rw[<-HP.zz,<-HZ.zz],hq,?_,by rw[<-HZ.zz,<-Hm.zz.1];exact A⟩,XW _ _ (by rw[HB.zz];exact tH q),((W.setCell (p:=⟨b,0,none⟩) (by rw[a.zz];exact aO _) _).setCell (p:=⟨b,1,none⟩) (by rw[a.zz];exact aO _) _).setCell (p:=⟨b,2,none⟩) (by rw[a.zz];exact aO _) _⟩;exact((I.kept (xM _ ⟨b,0,none⟩ _) (by simpa using f)).kept (xM _ ⟨b,1,none⟩ _) (by simpa using f)).kept (xM _ ⟨b,2,none⟩ _) (by simpa using f)
  have l:okF (lb s)=false:=aZ4 (λU=>by rw[<-HZ.zz,<-HP.zz]at U;exact u U.2.2);have hx:¬F=bs (CZ Z p):=λU=>u (by rw[<-K3.zz,U,gF]);have G:=aH l;generalize bs (CZ Z p)=Y at cH hx;have xi:(F.toList==Y.toList)=false:=(by rw[bI,Ne,l3,l3];exact λU=>hx (by rw[<-BZ F,U,BZ]));clear l u E hx;go_call cH _ as e z ⟨rfl,V⟩;clear cH;have⟨r0,r1,r2,f0,f1,f2⟩:=BG (R.next (aJ J V));have C:=aH (aJ X (aJ J V));go_wp2;refine bG (v:=.agg #[.int .i64 0,.int .i64 0,.map none]) (by simp[results,results245,go_sem,r0,r1,r2]) rfl ⟨_,rfl,.inl ⟨rfl,G⟩,SH _ _ _,((C.setCell (p:=⟨b,0,none⟩) (by rw[a.zz];exact aO _) _).setCell (p:=⟨b,1,none⟩) (by rw[a.zz];exact aO _) _).setCell (p:=⟨b,2,none⟩) (by rw[a.zz];exact aO _) _⟩
def AK(L:List bB)(n:Nat):List bB:=(L.drop (60*n)).take 60
def aD1(L:List bB)(n:Nat):(AK L n).length<=60:=by unfold AK;rw[bJ];omega
def CQ(L:List bB)(k:Nat):List bB:=(List.range k).flatMap fun n=>kY (AK L n)
def PU(L:List bB)(k:Nat):CQ L (k+1)=CQ L k++kY (AK L k):=by unfold CQ;rw[r8,dU];simp
def ag3(l:List bB):(kY l).length=l.length+4:=by unfold kY;rw[aP];rfl
def U1{L:List bB}{m:Nat}(h:L.length=60*m):∀k,k<=m->(CQ L k).length=64*k:=by
 intro k;induction k with
 |zero=>intro _;rfl
 |succ k a=>intro b;rw[PU,aP,a (by omega),ag3];have:(AK L k).length=60:=(by unfold AK;simp;omega);omega
def QL(L:List bB)(a:Int):List bB:=if Q5 L.length a then CZ L.length a.toNat++CQ L (L.length/60)else[]
def aK3(h:Q5 Q.length e=false):QL Q e=[]:=by unfold QL;rw[h];rfl
def ak1{L:List bB}{p m:Nat}(h:Q5 L.length p=true)(a:L.length=60*m):QL L (p:Int)=CZ (60*m) p++CQ L m:=by unfold QL;rw[h,a];simp
def as8(s:aT)(k:Nat):lb (s.extract (60*k) (60*k+60))=AK (lb s) k:=by rw[eB,gF];unfold AK;rw[show 60*k+60-60*k=60 by omega]
def bv8(s:aT)(a:Int)(w:aI)(hs:s.size<=9223372036854775000)(hp:-9223372036854775808<=a/\a<=9223372036854775807):
 Calls prog 294 #[.string s,.int .i64 a] w λe w'=>e=.returned (.string (bs (QL (lb s) a)))/\aS w.heap.size w w':=by
  have C:=λw=>ah9 (s.size:Int) a w (by omega) hp;rcases b:Q5 s.size a with _|_
  .have H:QL (lb s) a=[]:=aK3 (by rw[bN];exact b);rw[b]at C;have P:=aH H;clear H b;go_in;(go_wp2_with fail);refine(C _).mono ?_;rintro e w1 ⟨rfl,rfl⟩;go_wp2;go_ret;exact⟨by rw[P.out];rfl,aY _ _⟩
  obtain⟨T,U,h3,h4,h5⟩:=(JU _ _).1 b;obtain⟨m,J⟩:∃m,s.size=60*m:=⟨s.size/60,by omega⟩;obtain⟨p,rfl⟩:∃p:Nat,a=(p:Int):=⟨a.toNat,by omega⟩;have H:=ak1 (L:=lb s) (p:=p) (m:=m) (by rw[bN];exact b) (by rw[bN];exact J);have n:=U1 (L:=lb s) (m:=m) (by rw[bN];exact J);rw[b]at C;have Z:=λw=>XI s.size p w (by omega) (by omega);have t:=aj4 (60*m) p;rw[<-J]at t;have h8:s.size<=120000:=(by omega);have⟨P,z,A,y⟩:=aC H n J t;have h7:m<=2000:=(by omega);have h6:1<=m:=(by omega);clear H n b t T U h3 J;go_in;(go_wp2_with fail);refine(C _).mono ?_;rintro e w1 ⟨rfl,rfl⟩;clear C;have c:=MY.new w;have o:=(aY w.heap.size w).alloc (aO _) (.cells #[.pointer none,.slice none 0 0] 342);(go_wp2_with fail);generalize w.alloc (.cells #[.pointer none,.slice none 0 0] 342)=w1 at c o|-;obtain⟨B,V⟩:∃B,B=w.heap.size:=⟨_,rfl⟩;rw[<-V]at c|-;have⟨u,d⟩:=aA V c;clear V c;refine(Z _).mono ?_;rintro e w2 ⟨rfl,E⟩;clear Z;have j:=aJ o E;(go_wp2_with fail);refine(AD B B [] _ w2 (d.out.next E) (by rw[eK,y.out];simp) (by rw[u.out];exact j.size)).mono ?_;rintro e w3 ⟨rfl,f,W⟩;rw[pD]at f;have G:aS w.heap.size w w3:=j.trans (by rw[<-u.out];exact W);have v:=aH f;clear f d;go_wp2_with fail
  go_loopw [6] (λi wr=>∃k:Nat,k<=m/\i=.int .i64 ((60*k:Nat):Int)/\MY wr B B (CZ s.size p++CQ (lb s) k)/\aS w.heap.size w wr) (λi _=>s.size-(intOf i).toNat)
  .exact⟨0,bO _,rfl,by simpa[CQ,lb,bs]using v.out,G⟩
  obtain⟨k,hk,rfl,c,r⟩:=hrel;have d:=aH c;clear c;by_cases h0:k<m
  .have X:((60*k:Nat):Int)<s.size:=(by have:=A.out;omega);have i2:60*k<s.size:=(by have:=A.out;omega);have i3:60*k+60<=s.size:=(by have:=A.out;omega);have i4:((60*k:Nat):Int)+60<=s.size:=(by omega);have N:=aD1 (lb s) k;have I:=z.out k hk;generalize D:60*k=K at X i2 i3 i4|-;have HK:=aH D;have M:lb (s.extract K (K+60))=AK (lb s) k:=(by rw[<-D];exact as8 s k);have O:(s.extract K (K+60)).size<=60:=(by rw[n8];omega);have⟨Q,S,R⟩:=aB M O (And.intro N I);clear D M O N I;(go_wp2_with fail);refine(AV _ _ (by have:=S.out;omega)).mono ?_;rintro e w4 ⟨rfl,F⟩;rw[Q.out];have l:=aJ r F;(go_wp2_with fail);refine(AD B B _ _ w4 (d.out.next F) (by have T:=R.out;have U:=y.out;rw[aP,eK,ag3,U,T.2];omega) (by rw[u.out];exact l.size)).mono ?_;rintro e Y ⟨rfl,h,q⟩;have g:aS w.heap.size w Y:=l.trans (by rw[<-u.out];exact q);have x:=aH h;clear h;go_wp2;go_roundw
   .exact⟨k+1,by omega,by rw[<-HK.out];congr 1,by have:=x.out;rw[bV]at this;rw[PU];exact this,g⟩
   simp[intOf];omega
  obtain rfl:k=m:=(by omega);have X:¬((60*k:Nat):Int)<s.size:=(by have:=A.out;omega);generalize D:60*k=K at X|-;clear D;(go_wp2_with fail);refine(ZH B B _ wr d.out (by rw[u.out];exact r.size)).mono ?_;rintro e Y ⟨rfl,q⟩;have g:aS w.heap.size w Y:=r.trans (by rw[<-u.out];exact q);go_wp2;go_ret;exact⟨by rw[P.out,<-A.out];rfl,g⟩
end Go.Proofs.YtpopikndggffaaaGreatDoor
