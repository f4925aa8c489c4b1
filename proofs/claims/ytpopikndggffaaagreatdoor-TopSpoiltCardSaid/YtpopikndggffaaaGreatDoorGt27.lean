/- TOP, part 27. -/
import Derived.Test.YtpopikndggffaaaGreatDoorGt13
import Derived.Test.YtpopikndggffaaaGreatDoorGt15
import Derived.Test.YtpopikndggffaaaGreatDoorGt26
namespace Go.Proofs.YtpopikndggffaaaGreatDoor
set_option linter.all false
set_option maxRecDepth 100000
set_option maxHeartbeats 16000000
open Go.RowKit Tryz
variable{k m n:Nat}
section
open Go.Shelf
attribute [local go_sem] Oper.semAt_some
def VA(b:n<8):(2:Int)^n%256=((2^n:Nat):Int):=by have a:(2:Nat)^n<=2^7:=gD (by omega) (by omega);have e:(2:Int)^n=((2^n:Nat):Int):=(by simp);rw[e];generalize (2:Nat)^n=m at *;omega
def aX3:∀k,k<8->∀x,x<256->((x &&& 2^k)==0)=!(x/2^k%2==1):=by decide +kernel
def cA5(x k:Nat)(b:x<256)(a:k<8):(bits BinOp.and IntKind.u8 (x:Int) (2^k%256)==0)=!(x/2^k%2==1):=by have c:(2:Nat)^k<=2^7:=gD (by omega) (by omega);rw[VA a,u8_and_nat _ _ b (by omega),<-aX3 k a x b];rw[iX,gH,gH];omega
def cz3(s:aS)(b:Nat)(a:b/8<s):cz4 (lb s) b=(s[b/8].toNat/2^(b%8)%2==1):=by unfold cz4;rw[aY,aJ (by rw[bI];exact a)];rfl
end
def aV9(a b c d e f g h:Bool):Nat:=a.toNat+2*b.toNat+4*c.toNat+8*d.toNat+16*e.toNat+32*f.toNat+64*g.toNat+128*h.toNat
def JO(f:Nat->Bool):Nat:=aV9 (f 0) (f 1) (f 2) (f 3) (f 4) (f 5) (f 6) (f 7)
def cl5(a b c d e f g h:Bool):aV9 a b c d e f g h<256:=by revert a b c d e f g h;decide +kernel
def aW0(f:Nat->Bool):JO f<256:=cl5 _ _ _ _ _ _ _ _
def cl4:∀a b c d e f g h:Bool,∀r,r<8->aV9 (a||r==0) (b||r==1) (c||r==2) (d||r==3) (e||r==4) (f||r==5) (g||r==6) (h||r==7)=(aV9 a b c d e f g h ||| 2^r):=by decide +kernel
def cl6(f:Nat->Bool)(r:Nat)(a:r<8):JO (λi=>f i||r==i)=(JO f ||| 2^r):=cl4 _ _ _ _ _ _ _ _ r a
def yD(f:Nat->Bool)(k:Nat):List bB:=(List.range k).map fun j=>UInt8.ofNat (JO fun i=>f (8*j+i))
@[simp] def RQ(f:Nat->Bool)(k:Nat):(yD f k)=k:=by simp[yD]
def NB(f:Nat->Bool)(k j:Nat)(h:j<(yD f k)):(yD f k)[j]=UInt8.ofNat (JO λi=>f (8*j+i)):=by simp[yD]
def aL8(f:Nat->Bool)(k j:Nat)(h:j<(yD f k)):((yD f k)[j]).toNat=JO λi=>f (8*j+i):=by rw[NB];have:=aW0 λi=>f (8*j+i);simp;omega
def bh9(k:Nat):yD (λ_=>false) k=List.replicate k 0:=by
 apply xZ
 .simp
 intro i a b;rw[NB];simp[JO,aV9]
def WM{f g:Nat->Bool}(h:∀i,i<8->f i=g i):JO f=JO g:=by unfold JO;rw[h 0 (by omega),h 1 (by omega),h 2 (by omega),h 3 (by omega),h 4 (by omega),h 5 (by omega),h 6 (by omega),h 7 (by omega)]
def bH3(f:Nat->Bool)(k b:Nat)(h:b/8<k):(yD f k).set (b/8) (UInt8.ofNat ((JO λi=>f (8*(b/8)+i)) ||| 2^(b%8)))=yD (λx=>f x||b==x) k:=by
 apply xZ
 .simp
 intro j d g;rw[NB];by_cases c:j=b/8
 .subst c;rw[cK3,<-cl6 _ (b%8) (by omega)];congr 1;refine WM λi a=>?_;congr 1;rw[iX,gH,gH];omega
 rw[cP3 (by omega),NB];congr 1;refine WM λi a=>?_;have e:(b==8*j+i)=false:=(by rw[bA];omega);rw[e,cB1]
def onB(l:List Nat)(n:Int)(B:Nat)(b:Nat):Bool:=l.any fun h=>(s7 h B (JK n)).contains b
def orList(f:Nat->Bool)(a:List Nat)(b:Nat):Bool:=f b||a.contains b
def bi2(f:Nat->Bool):orList f []=f:=by funext b;simp[orList]
def aM7(f:Nat->Bool)(a:List Nat)(x:Nat):orList f (a++[x])=λb=>orList f a b||x==b:=by
 funext b;unfold orList;rw[Bool.or_assoc];congr 1;rw[iX];simp only[List.contains_eq_mem,bG,cB,bP,vD,gH];constructor
 iterate 2
  .rintro (h|h)
   .exact .inl h
   exact .inr h.symm
def ct0(n:Int)(B:Nat):onB [] n B=λ_=>false:=rfl
def cb7(l:List Nat)(n:Int)(B h:Nat):onB (l++[h]) n B=orList (onB l n B) (s7 h B (JK n)):=by funext b;simp[onB,orList]
def ZP(l:List Nat)(n a:Int):List bB:=if a<1\/1000000<a\/a%8≠0 then[]else yD (onB l n a.toNat) (a.toNat/8)
variable{A:Option Addr}{w x:aI}
section
open Go.Shelf
attribute [local go_sem] Oper.semAt_some
def WW(l:List Nat):List aN:=l.map fun n:Nat=>.int .u64 (n:Int)
@[simp,go_sem] def cC8(l:List Nat):(WW l).length=l:=by simp[WW]
def cM7(w:aI)(v:aN)(l:List Nat):Prop:=Reads w v 1 l.length (WW l)/\∀h∈l,h<18446744073709551616
def Reads.at_{k:Nat}{X:List aN}(h:Reads w (.slice A n k) 1 n X)(f:0<n):∃b a,A=zp b a/\n<=k/\k<=maxLen/\X=n/\∀(e:aI),aR w w e->∀j (h:j<X.length),e.cell? (zp b (a+j))=some X[j]:=by have⟨r,s,q,g,i,t,m⟩:=h;obtain⟨rfl,-,rfl⟩:=eJ q;obtain⟨b,a,rfl,d,c⟩:=m f;exact⟨b,a,rfl,g,i,by omega,λe l j o=>(l.cell (p:=zp b (a+j)) d).trans (c j o)⟩
def cr8{m:Type}(g:Nat)(e:cC)(f:m->List aN):Own (λs W=>Row W g e (f s)):=λs X Y k c j a=>by
 refine c.grown j λd=>?_;have⟨C,l,h,_⟩:=c;have⟨o,b,i⟩:=a g d.symm;rw[h]at b;cases b;cases i
def Marks(B:Nat)(a:List Deferred)(W:aI):Prop:=a.Pairwise (fun d e=>d≠e)/\∀d∈a,∃D,d={target:=.collected D,args:=#[]}/\B<=D/\W.heap[D]?=some (.deferred (some []))
def Marks.nil(B:Nat)(W:aI):Marks B [] W:=⟨List.Pairwise.nil,λd a=>by cases a⟩
def Marks.keeps{a:List Deferred}(h:Marks n a w)(g:∀D,n<=D->w.heap[D]?=some (.deferred (some []))->x.heap[D]?=some (.deferred (some []))):Marks n a x:=⟨h.1,λd f=>let ⟨D,e,b,c⟩:=h.2 d f;⟨D,e,b,g D b c⟩⟩
def Marks.cons{b:List Deferred}(h:Marks n b x)(q:Marks n b w)(t:w<=m)(s:m<=k)(l:n<=k)(o:x.heap[k]?=some (.deferred (some []))):Marks n ({target:=.collected k,args:=#[]}::b) x:=by
 refine⟨dG.2 ⟨λe p a=>?_,h.1⟩,λd f=>?_⟩
 .have⟨i,j,_,c⟩:=q.2 e p;rw[j]at a;have g:k=i:=(by injection a with g r;injection g);have:=(fG.1 c).1;omega
 rcases cY.1 f with rfl|f
 .exact⟨k,rfl,l,o⟩
 exact h.2 d f
def MQ(a W:aI):Prop:=∀D,D<a.heap.size->a.heap[D]?=some (.deferred (some []))->W.heap[D]?=some (.deferred (some []))
def ay5{j:Type}(a:aI):OwnFrom a (λ(_:j) W=>MQ a W):=λs X Y i g d f D c h=>by
 have b:=g D c h;refine(d.block D (fG.1 b).1 λe=>?_).trans b;have:=(f D e.symm).1;omega
def MQ.set(h:MQ w x){p:Addr}{v u:aN}(a:x.cell? p=v):MQ w (x.setCell p u):=λD d c=>by
 have b:=h D d c;refine(aU _ _ _ _ λe=>?_).trans b;subst e;unfold World.cell? at a;rw[b]at a;cases a
def RR{F:Fence}{A:Program}{j:Func}{b:Array aN}{R:eY->aI->Prop}{B:Nat}{Z:aI->Prop}(l:∀W D,Z W->B<=D->W.heap[D]?=some (.deferred (some []))->Z (W.putObj D (.deferred none)))
 (a:∀W,Z W->LeavesInM F n A j b R [] .returning W):∀(c:List Deferred)(W:aI),Marks B c W->Z W->LeavesInM F n A j b R c .returning W
 |[],W,_,i=>a W i
 |d::c,W,f,i=>by
  obtain⟨D,rfl,p,k⟩:=f.2 d (B9 ..);refine⟨by simp,.inl ⟨_,_,rfl,run_takeDeferred k,?_⟩⟩;refine RR l a c _ ⟨(dG.1 f.1).2,λe m=>?_⟩ (l _ _ i p k);obtain⟨o,rfl,g,h⟩:=f.2 e (iU _ m);refine⟨o,rfl,g,?_⟩;rw[World.putObj_heap_other (λe=>(dG.1 f.1).1 _ m (by rw[e]))];exact h
def aW1(v:aN)(l:List Nat)(n bits:Int)(w:aI)(hv:cM7 w v l)(hl:l.length<=1000000)(hn:-9223372036854775808<=n/\n<=9223372036854775807)(hbits:-9223372036854775808<=bits/\bits<=9223372036854775807):Calls prog 295 #[v,n,bits] w λe w'=>e=(bs (ZP l n bits))/\aR w w w':=by
 have⟨hr,hsm⟩:=hv;obtain⟨A,c,rfl,hc1,hc2,-,-⟩:=id hr;unfold maxLen at hc2;by_cases hno:bits<1\/1000000<bits\/bits%8≠0
 .have e:ZP l n bits=[]:=aV hno;rw[e];clear e;have⟨hb1,hb2⟩:=hbits;by_cases h1:bits<1
  .clear hno;go_in;go_wp2;go_ret;exact⟨rfl,iH⟩
  obtain⟨b,rfl⟩:=cR (a:=bits) (by omega);have d1:decide ((b:Int)<1)=false:=(by rw[cN];exact h1);by_cases h2:1000000<b
  iterate 2
   ·(first|(have d2:decide ((1000000:Int)<b)=true:=by rw[decide_eq_true_iff];omega)|((have d2:decide ((1000000:Int)<b)=false:=by rw[cN];omega);(have d3:(((b:Int)%8) != 0)=true:=by rw[sW];omega)));clear hno h1 h2 hb1 hb2;go_in;go_wp2;go_ret;exact⟨rfl,iH⟩
 obtain⟨q,hq⟩:∃q:Nat,bits=((8*q:Nat):Int):=⟨(bits/8).toNat,by omega⟩;subst hq;have hq1:0<q:=(by omega);have hq2:q<=125000:=by omega
 have e:ZP l n ((8*q:Nat):Int)=yD (onB l n (8*q)) q:=by unfold ZP;rw[aP hno];congr 1<;>omega
 rw[e];clear e hno hbits;have⟨B,hB⟩:=fR (8*q);rw[<-hB];have d1:decide ((B:Int)<1)=false:=(by rw[cN];omega);have d2:decide ((1000000:Int)<B)=false:=(by rw[cN];omega);have d3:(((B:Int)%8) != 0)=false:=(by rw[bne_eq_false_iff_eq];omega);have d4:(B:Int)/8=(q:Int):=(by omega);have⟨HBe,Hsm⟩:=aA hB hsm;clear hB hsm;have⟨w1,hmk,hrow1,hb1⟩:=bj7 w q (by omega);refine(callsIn_wide (n:=5)).1 ?_;refine callsIn_of_wp_marks func295 rfl trivial ?_ rfl;simp only[ntmps295,sH,cE,kG,Nat.reduceAdd,Nat.reduceSub,IF,IE,OM,JU,qA,l8]
 gi_wp2
 have⟨G,hG⟩:=fR w.heap.size;have⟨Bx,hBx⟩:=fR w1.heap.size;rw[<-hG]at hrow1 hmk|-;have hGB:G<Bx:=(by rw[hBx];exact hrow1.lt);have hb2:aR w.heap.size w (w1.alloc (Obj.cells #[Value.slice (some ⟨G,0,none⟩) q q] 110)):=hb1.alloc hb1.size _;have hrow2:Row (w1.alloc (Obj.cells #[Value.slice (some ⟨G,0,none⟩) q q] 110)) G 5 (dM (yD (onB (l.take 0) n B) q)):=by rw[DE,ct0,bh9];exact hrow1.alloc _
 have hbx2:Boxed (w1.alloc (Obj.cells #[Value.slice (some ⟨G,0,none⟩) q q] 110)) Bx 110 (.slice (some ⟨G,0,none⟩) q q):=(by rw[hBx];exact Boxed.new w1 _ _);rw[<-hBx];have hwG:w.heap.size<=G:=(by rw[hG];exact cV _);generalize (w1.alloc (Obj.cells #[Value.slice (some ⟨G,0,none⟩) q q] 110))=w2 at hb2 hrow2 hbx2|-;clear hmk hrow1 hb1 hG hBx;refine wpIn_loop (λa' wr=>∃(k:Nat)(ds:List Deferred)(u9 u28 u29 u30 u31 u32 u33 u34 u46:aN),(k<=l.length/\Row wr G 5 (dM (yD (onB (l.take k) n B) q))/\Boxed wr Bx 110 (.slice (some ⟨G,0,none⟩) q q)/\aR w.heap.size w wr/\Marks w.heap.size ds wr)/\
  a'={tmps:=#[.slice A l.length c,.int .i64 n,.int .i64 B,undef,undef,undef,.string ⟨#[]⟩,.pointer (some ⟨Bx,0,none⟩),undef,u9,undef,.int .i64 B,.bool false,.bool false,.int .i64 B,.bool false,.bool false,.bool false,.int .i64 B,.int .i64 ((B:Int)%8),.bool false,.bool false,.int .i64 B,.int .i64 q,
   .slice (some ⟨G,0,none⟩) q q,.slice A l.length c,.int .i64 (l.length:Int),.int .i64 k,u28,u29,u30,u31,u32,u33,u34,undef,undef,undef,undef,undef,undef,undef,undef,undef,undef,undef,u46,undef,undef],defers:=ds})
  (λa' _=>l.length-(intOf (a'.tmps.getD 27 undef)).toNat) ⟨0,[],undef,undef,undef,undef,undef,undef,undef,undef,undef,⟨bK _,hrow2,hbx2,hb2,Marks.nil _ _⟩,rfl⟩ ?_
 rintro a' wr ⟨k,ds,u9,u28,u29,u30,u31,u32,u33,u34,u46,⟨hk,hrow,hbx,hbr,hmarks⟩,rfl⟩;clear hrow2 hbx2 hb2;by_cases hlt:k<l.length
 .obtain⟨b,off,rfl,-,-,-,hcell⟩:=hr.at_ (by omega);have hc0:wr.cell? ⟨b,off+k,none⟩=some (.int .u64 (l[k]:Nat)):=(hcell wr hbr k (by simp;omega)).trans (by simp[WW]);have hh:=Hsm l[k] (dC hlt);have hsucc:onB (l.take (k+1)) n B=orList (onB (l.take k) n B) (s7 l[k] B (JK n)):=by rw[jO hlt,cb7]
  have⟨h,hhe⟩:=fR (l[k]);rw[<-hhe]at hc0 hh hsucc;have i1:(k:Int)<l.length:=(by omega);have⟨Hsucc,Hrow,Hmarks⟩:=aB hsucc hrow hmarks;clear hcell hsucc hhe hrow hmarks;have hh64:=hh
  gi_wp2_with fail
  refine⟨trivial,?_⟩;refine(callsIn_wide.2 (bq0 _ _ _ _)).mono ?_;rintro e w3 ⟨rfl,rfl⟩
  gi_wp2_with fail
  have⟨H,hH⟩:=fR wr.heap.size;have⟨W0,hW0⟩:=fR (((wr.alloc (Obj.cells #[Value.int IntKind.u64 (h:Int)] 23)).alloc (Obj.cells #[Value.int IntKind.i64 n] 3)).alloc (Obj.cells #[Value.int IntKind.i64 (B:Int)] 3));have b3:Boxed W0 H 23 (.int .u64 h):=by rw[hW0,hH];exact((Boxed.new wr _ _).alloc _).alloc _
  have b4:Boxed W0 (H+1) 3 (.int .i64 n):=by rw[hW0,hH];have:=Boxed.new (wr.alloc (Obj.cells #[Value.int IntKind.u64 (h:Int)] 23)) 3 (.int .i64 n);rw[bD]at this;exact this.alloc _
  have b5:Boxed W0 (H+1+1) 3 (.int .i64 B):=by rw[hW0,hH];have:=Boxed.new ((wr.alloc (Obj.cells #[Value.int IntKind.u64 (h:Int)] 23)).alloc (Obj.cells #[Value.int IntKind.i64 n] 3)) 3 (.int .i64 B);rwa[bD,bD]at this
  have hB0:aR w.heap.size w W0:=by rw[hW0];exact(((hbr.alloc hbr.size _).alloc (by have:=hbr.size;simp;omega) _).alloc (by have:=hbr.size;simp;omega) _)
  have hsz:W0.heap.size=H+3:=(by rw[hW0,hH];simp);have hrow0:Row W0 G 5 (dM (yD (onB (l.take k) n B) q)):=(by rw[hW0];exact((Hrow.alloc _).alloc _).alloc _);have hbx0:Boxed W0 Bx 110 (.slice (some ⟨G,0,none⟩) q q):=by rw[hW0];exact((hbx.alloc _).alloc _).alloc _
  have hm0:Marks w.heap.size ds W0:=by refine Hmarks.keeps λD hD hk=>?_;have hlt:=(fG.1 hk).1;rw[hW0];exact(n8 _ _ _ (by simp;omega)).trans ((n8 _ _ _ (by simp;omega)).trans ((n8 _ _ _ hlt).trans hk))
  have hBxH:Bx<H:=(by rw[hH];exact hbx.lt);have hwH:w.heap.size<=H:=(by rw[hH];exact hbr.size);rw[<-hH,<-hW0];have⟨f,hf⟩:=fR (onB (l.take k) n B);rw[<-hf]at hrow0;have Hf:=aH hf;clear hW0 hH hf Hrow Hmarks hbx hbr hc0;refine wpIn_rangeFunc_ownG rfl (by omega) (gf:=310) (lb:=#[.pointer (some ⟨H+1,0,none⟩),.pointer (some ⟨H,0,none⟩),.pointer (some ⟨H+1+1,0,none⟩)]) rfl trivial (enters_of func310 (by kernel_rfl) rfl)
   (aW2 _ (by omega) (H+1) H (H+1+1) h hh64 n hn B (by have:=HBe.zz;omega) (by have:=HBe.zz;omega) W0 b4 b3 b5) cf8 (cf9 (by omega) (by omega) (by omega)) iH (λ_=>rfl)
   (λpre W=>Row W G 5 (dM (yD (orList f (TD pre)) q))/\Boxed W Bx 110 (.slice (some ⟨G,0,none⟩) q q)/\aR w.heap.size w W/\MQ W0 W)
   (λ_ _ _=>False)
   ?own (λ_ _ _ _ _ hs _ _=>hs)
   ⟨by simpa[TD,bi2]using hrow0,hbx0,hB0,λD _ h=>h⟩
   (λx=>{tmps:=#[.slice (some ⟨b,off,none⟩) l.length c,.int .i64 n,.int .i64 B,undef,undef,undef,.string ⟨#[]⟩,.pointer (some ⟨Bx,0,none⟩),undef,.int .u64 h,.int .i64 ((x.1:Nat):Int),.int .i64 B,.bool false,.bool false,.int .i64 B,.bool false,.bool false,.bool false,.int .i64 B,.int .i64 ((B:Int)%8),.bool false,.bool false,.int .i64 B,.int .i64 q,
    .slice (some ⟨G,0,none⟩) q q,.slice (some ⟨b,off,none⟩) l.length c,.int .i64 (l.length:Int),.int .i64 k,.bool true,.pointer (some ⟨b,off+k,none⟩),.int .u64 h,.int .u64 h,.int .i64 n,.int .i64 B,.func (.func 310) #[] #[.pointer (some ⟨H+1,0,none⟩),.pointer (some ⟨H,0,none⟩),.pointer (some ⟨H+1+1,0,none⟩)],.int .i64 ((x.1:Nat):Int),undef,undef,undef,undef,undef,undef,undef,undef,undef,undef,u46,undef,undef],defers:=[]}) ?assign ?body ?done ?stop
  case own=>exact OwnFrom.and (Own.from (cr8 _ _ _) _) (OwnFrom.and (Own.from (boxed_own _ _ _) _) (OwnFrom.and (ownFrom_below dQ (by omega)) (ay5 W0)))
  case assign=>
   intro r x W K hK
   gi_wp2
   exact hK
  case body=>
   rintro r pre ⟨bt,hbt⟩ W ⟨g1,g2,g3,g4⟩ _;have hq8:bt/8<q:=(by have:=HBe.zz;omega);have hlen:bt/8<(dM (yD (orList f (TD pre)) q)).length:=(by rw[oV,RQ];exact hq8);have⟨x,hx⟩:=fR (JO λi=>orList f (TD pre) (8*(bt/8)+i));have hx256:x<256:=by rw[hx];exact aW0 _
   have hcx:W.cell? ⟨G,bt/8,none⟩=some (.int .u8 x):=(by rw[g1.cell _ hlen,ad7,aL8,hx]);have hfz:=g1.frozen _ hlen;have hset:=g1.set (bt/8) (.int .u8 (bits BinOp.or IntKind.u8 (x:Int) (2^(bt%8)%256)));have h7:(2:Nat)^(bt%8)<=2^7:=gD (by omega) (by omega);have hor:x ||| 2^(bt%8)<256:=Nat.or_lt_two_pow (n:=8) hx256 (by omega);have ebits:bits BinOp.or IntKind.u8 (x:Int) (2^(bt%8)%256)=((x ||| 2^(bt%8):Nat):Int):=(by rw[VA (by omega),u8_or_nat _ _ hx256 (by omega)]);rw[ebits,bp7 _ _ _ (by omega) (by omega),bW,hx,bH3 _ _ _ hq8,<-aM7,<-hx,<-ebits]at hset;have hkd:=g4.set (u:=.int .u8 (bits BinOp.or IntKind.u8 (x:Int) (2^(bt%8)%256))) hcx;have hbx':Boxed (W.setCell ⟨G,bt/8,none⟩ (.int .u8 (bits BinOp.or IntKind.u8 (x:Int) (2^(bt%8)%256)))) Bx 110 (.slice (some ⟨G,0,none⟩) q q):=(aU _ _ _ _ (by show Bx≠G;omega)).trans g2;have hbw':=g3.setCell (p:=⟨G,bt/8,none⟩) hwG (.int .u8 (bits BinOp.or IntKind.u8 (x:Int) (2^(bt%8)%256)));have c1:=g2.cell;have i2:(bt:Int)/8<q:=(by omega);have i3:(0:Int)<=(bt:Int)/8:=(by omega);have i4:(0:Int)<=(bt:Int)%8:=(by omega);have i5:(bt:Int)%8<=7:=(by omega);have⟨Hset,Hkd,Hbx',Hbw'⟩:=aC hset hkd hbx' hbw';clear hset hkd hbx' hbw' ebits hx g1 g4 g3;dsimp only
   gi_wp2
   refine TR r rfl (by kernel_rfl) (by kernel_rfl) (by kernel_rfl) (by kernel_rfl) ?_;simp only[List.dropLast,List.drop,List.length,zA];(repeat (gi_big_quiet_step (fail)));refine wpQuietIn_nil ?_;rintro _ ⟨nq,rfl⟩
   gi_wp2
   refine⟨?_,⟨?_,?_,?_⟩,?_,Hbx',below_drewN Hbw' nq,Hkd⟩
   .exact(KeepsOthers.setCell (W.drewN nq) _ _).from _ |> λh=>⟨h.size,h.same⟩
   .exact aU (W.drewN nq) _ _ _ (by show H+1≠G;omega)
   .exact aU (W.drewN nq) _ _ _ (by show H≠G;omega)
   .exact aU (W.drewN nq) _ _ _ (by show H+1+1≠G;omega)
   rw[TC];exact Hset
  case done=>
   rintro D xs W hD hS ⟨g1,g2,g3,g4⟩ hK;have hm1:Marks w.heap.size ds W:=hm0.keeps λD hD hk=>g4 D (fG.1 hk).1 hk;have hm2:=hm1.cons hm0 dQ hD (by have:=hB0.size;omega) hK;rw[hS,Hf.zz,<-Hsucc.zz]at g1;have⟨G1,G2,G3,Hm2⟩:=aC g1 g2 g3 hm2;clear g1 g2 g3 g4 hm1 hm2 hK hS hrow0 hbx0 hB0 hm0
   gi_wp2
   refine⟨⟨k+1,_,_,_,_,_,_,_,_,_,_,⟨by omega,G1,G2,G3,Hm2⟩,rfl⟩,?_⟩;simp[intOf];omega
  case stop=>rintro D c pre W _ _ h _;exact h.elim
 obtain rfl:k=l.length:=(by omega);rw[eX]at hrow;have hcv:=Row.conv (P:=prog) (cap:=q) (n:=q) hrow (by simp) underlying110 underlying5 underlying9;have c1:=hbx.cell;have⟨Hmarks,Hbr⟩:=aA hmarks hbr;clear hmarks hrow hbr
 gi_wp2
 refine RR (B:=w.heap.size) (Z:=λW=>aR w.heap.size w W) (λW D hz hB hD=>hz.trans (belowK_b (w:=w) dQ W D _ _ hB hD rfl rfl)) (λW hz=>?_) ds wr Hmarks Hbr;exact⟨.string (bs (yD (onB l n B) q)),by simp[results,results295,go_sem],rfl,hz⟩
end
def cH3:(prog.info? 44).map (λi=>(i.zero,i.size,i.bytes))=some (some (.agg #[zn,zn,.float .f64 0]),3,40):=by kernel_rfl
def cx7(l:List Ev):∀u∈l.flatMap evL,u.oneCell'=true:=by intro u a;have⟨e,_,a⟩:=lY.1 a;simp only[evL,cY,r8,or_false]at a;rcases a with rfl|rfl|rfl<;>rfl
def cH6(w:aI)(e:Ev):Reads (w.alloc (.cells (KG e) 44)) (.slice (zp w) 1 1) 3 1 ([e].flatMap evL):=Reads.FH (Row.new w (KG e) 44) rfl dQ (by unfold maxLen;omega)
variable{Q:List bB}{u v:aN}
def OD(s:List bB):aN:=if pL s then .agg #[.string (bs (pO s)),.int .i64 ((pF ((gY s).take 8):Nat):Int),.slice none 0 0]else .agg #[.string ⟨#[]⟩,.int .i64 0,.slice none 0 0]
def RV(s:List bB):Nat:=if pL s then tO s else 0
def OE(s:List bB):List bB:=if pL s then sZ s else[]
def aC7(s:aS)(w:aI)(Z:s.size<=1000000000):Calls prog 113 #[s] w λe o=>e=.returned (.tuple #[OD (lb s),(RV (lb s):Nat),bs (OE (lb s)),pL (lb s)])/\aR w w o:=by
 have R:(gY (lb s)).length<=1000000000:=(by have:=uA (lb s);rw[bI]at this;omega);have j:=λw=>TZ s w (by omega);have k:=λw=>xG ((bs (gY (lb s))).extract 0 8) w (by simp[maxLen];omega);have D:(bs (gY (lb s))).extract 0 8=bs ((gY (lb s)).take 8):=(by rw[dY,gP,mQ,uN]);have c:pL (lb s)=(lI (lb s)&&decide (9<=(gY (lb s)).length)&&decide (pF ((gY (lb s)).take 8)<=1073741824)):=rfl;have r:pL (lb s)=false->OD (lb s)=.agg #[zn,(),zs]/\RV (lb s)=0/\OE (lb s)=[]:=λh=>(by unfold OD RV OE;rw[h];exact⟨rfl,rfl,rfl⟩);have g:pL (lb s)=true->OD (lb s)=.agg #[bs (pO (lb s)),((pF ((gY (lb s)).take 8):Nat):Int),zs]/\RV (lb s)=(((gY (lb s))[8]?).getD 0).toNat/\OE (lb s)=(gY (lb s)).drop 9:=λh=>(by unfold OD RV OE;rw[h];exact⟨rfl,rfl,rfl⟩);have f:=cD w (.cells #[zn,(),zs] 129);have d:Row (w.alloc (.cells #[zn,(),zs] 129)) w 129 [zn,(),zs]:=Row.new w #[zn,(),zs] _;have t:∀(o:aI) K L M,aR w w o->aR w w (((o.setCell (zp w) K).setCell (zp w 1) L).setCell (zp w 2) M):=λo K L M h=>((h.setCell dQ _).setCell dQ _).setCell dQ _;rw[D]at k;simp only[gP]at k;generalize pO (lb s)=A at *;generalize gY (lb s)=B at *;generalize lI (lb s)=V at *;generalize OD (lb s)=hv at *;generalize RV (lb s)=X at *;generalize OE (lb s)=Y at *;generalize pL (lb s)=x at *;generalize pF (B.take 8)=N at *;have⟨u,P,i,p⟩:=aC t D r g;clear t D r g;rcases V with _|_
 .obtain rfl:x=false:=(by rw[c];rfl);obtain⟨rfl,rfl,rfl⟩:=i rfl;clear k c;go_in;go_wp2_with fail
  go_call j _ as e O ⟨rfl,b⟩;have a:=d.next b;have l:=a.lO;have m:=a.qD;have n:=a.tW;have E:=a.NV;have F:=a.JE;have G:=a.QP;clear a j;go_wp2;refine bE (v:=.tuple #[.agg #[zn,(),zs],(),zn,false]) (by simp[results,results113,go_sem,l,m,n]) rfl ⟨rfl,u _ _ _ _ (aK f b)⟩
 by_cases y:9<=B.length
 .have z:¬(B:Int)<9:=(by omega);have H:(9:Int)<=B:=(by omega);have W:(8:Int)<=B:=(by omega);have Q:(8:Int)<B:=(by omega);by_cases I:N<=1073741824
  iterate 2
   ·(first|((have C:¬(1073741824:Int)<(N:Int):=by omega);(obtain rfl:x=true:=by rw[c,bZ y,bZ I];rfl);obtain⟨rfl,rfl,rfl⟩:=p rfl;(have U:(bs B).extract 9 B=bs (B.drop 9):=by rw[dY,gP,aT (by simp)]);(have q:B[8]?=some B[8]:=aJ (by omega));(have T:(bs B)[8]'(by rw[eO];omega)=B[8]:=rfl);(have J:(((B[8]?).getD 0).toNat:Int)=(B[8].toNat:Int):=by rw[q];rfl);rw[J];(have u1:IntKind.i64.wrap (N:Int)=(N:Int):=by rw[cQ];omega);have S:=B[8].toNat_lt;(have u2:IntKind.i64.wrap (B[8].toNat:Int)=(B[8].toNat:Int):=by rw[cQ];omega);clear c J q)|((have C:(1073741824:Int)<(N:Int):=by omega);(obtain rfl:x=false:=by rw[c,bZ y,bN I];rfl);obtain⟨rfl,rfl,rfl⟩:=i rfl;clear c));go_in;(go_wp2_with fail);go_call j _ as e O ⟨rfl,b⟩;(go_wp2_with fail);(try rw[P.zz]);go_call k _ as e o ⟨rfl,rfl⟩;have a:=d.next b;have l:=a.lO;have m:=a.qD;have n:=a.tW;have E:=a.NV;have F:=a.JE;have G:=a.QP;clear a j k;(try (go_wp2_with fail;go_region));go_wp2;first|(refine bE (v:=.tuple #[.agg #[bs A,N,zs],(B[8].toNat:Int),bs (B.drop 9),true]) (by simp[results,results113,go_sem,l,m,n]) rfl ⟨rfl,u _ _ _ _ (aK f b).drew⟩)|(refine bE (v:=.tuple #[.agg #[zn,(),zs],(),zn,false]) (by simp[results,results113,go_sem,l,m,n]) rfl ⟨rfl,u _ _ _ _ (aK f b)⟩)
 have z:(B:Int)<9:=(by omega);obtain rfl:x=false:=(by rw[c,bN y];rfl);obtain⟨rfl,rfl,rfl⟩:=i rfl;clear k c;go_in;go_wp2_with fail
 go_call j _ as e O ⟨rfl,b⟩;have a:=d.next b;have l:=a.lO;have m:=a.qD;have n:=a.tW;have E:=a.NV;have F:=a.JE;have G:=a.QP;clear a j;go_wp2;refine bE (v:=.tuple #[.agg #[zn,(),zs],(),zn,false]) (by simp[results,results113,go_sem,l,m,n]) rfl ⟨rfl,u _ _ _ _ (aK f b)⟩
def strOf:aN->Nat
 |.string s=>s.size
 |_=>0
def cF9:aN->Nat
 |.bool true=>1
 |_=>0
def be8(h:mL Q=true):(vV Q).length<Q:=by have b:vV Q=(AE Q).drop 8:=(by unfold vV;rw[h,aV rfl]);unfold mL ci1 at h;simp only[bL,bG]at h;have c:=uA Q;have d:=uA (gY Q);have a:=h.1.2;rw[b,eK];unfold AE at a|-;omega
def bW7{L:List bB}{k:Nat}(b:k<tO L)(h:uX (k+1) (sZ L)=false):rN L=false:=by
 unfold rN;rcases a:uX (tO L) (sZ L)with _|_
 .simp
 rw[ci3 a b]at h;cases h
def be2(h:pL Q=false):rN Q=false:=by unfold rN;rw[h];rfl
def xB{T:cC}{v z:aN}(h:Row w n T [v,u,z]):w.cell? (zp n)=some v/\w.cell? (zp n 1)=some u/\w.cell? (zp n 2)=some z/\w.frozen? (zp n)=false/\w.frozen? (zp n 1)=false/\w.frozen? (zp n 2)=false:=⟨h.lO,h.qD,h.tW,h.NV,h.JE,h.QP⟩
def bs6(B:Nat)(v:aN):Prop:=∀(x y:aN)(A:Option Addr)(n c:Nat),v=.agg #[x,y,.slice A n c]->∀k,(Value.slice A n c).ownBlock=some k->B<=k
def as9(h:∀o,(Value.slice A k m).ownBlock=some o->n<=o):bs6 n (.agg #[v,u,.slice A k m]):=λj l b d c e o i=>by
 have f:#[v,u,Value.slice A k m]=#[j,l,Value.slice b d c]:=by injection e
 have g:Value.slice A k m=.slice b d c:=by
  have:=gQ (λa:Array aN=>a[2]?) f;simpa using this
 rw[g]at h;exact h o i
def F1(B:Nat)(x y:aN):bs6 B (.agg #[x,y,zs]):=as9 λk a=>by simp[Value.ownBlock]at a
def NT(w:aI):MU w (.agg #[zn,(),zs]) (ByteArray.empty,0,[]):=⟨none,0,rfl,⟨Reads.nil _ _,by simp⟩,bK _,by decide,by decide⟩
def SQ(s:ByteArray)(w:World)(hs:s.size<=1000000000):Calls prog 74 #[s] w λe w'=>∃v,e=.returned (.tuple #[v,QD (lb s)])/\(MU w' v (lH (lb s))/\bs6 w v)/\Below w w w':=by
 have hh:=λw=>aC7 s w hs;have xg:(lb s).length<=1000000000:=(by rw[bI];exact hs);have xc:=cD w (.cells #[zn,(),zs] 129);have J:Row (w.alloc (.cells #[zn,(),zs] 129)) w 129 [zn,(),zs]:=Row.new w #[zn,(),zs] _;have xb:∀(w':World) v0 v1 v2,Below w w w'->Below w w (((w'.setCell (zp w) v0).setCell (zp w 1) v1).setCell (zp w 2) v2):=λw' v0 v1 v2 h=>((h.setCell dQ _).setCell dQ _).setCell dQ _;have HS:=aH xb;clear xb;generalize lb s=L at hh xg|-;have T:rN L=false->QD L=10/\lH L=(ByteArray.empty,0,[]):=λh=>(by unfold QD lH;rw[h];exact⟨rfl,rfl⟩);have z:=aH T;clear T;rcases d:pL L with _|_
 .have hv:OD L=.agg #[zn,(),zs]:=(by unfold OD;rw[d];rfl);have hr:OE L=[]:=(by unfold OE;rw[d];rfl);have⟨t,x⟩:=z (be2 d);rw[d,hv,hr]at hh;rw[t,x];generalize RV L=m at hh;clear d hv hr t x;go_in;go_wp2_with fail
  go_call hh _ as e w1 ⟨rfl,E⟩;have g:=J.next E;have M:=aK xc (aK E (cD w1 (.cells #[zn,(),zs] 129)));have i:=g.alloc (.cells #[zn,(),zs] 129);clear hh J g E;go_wp2_with fail
  go_loopw [7] (λok wr=>ok=.bool false/\Row wr w 129 [zn,(),zs]/\Below w w wr) (λ_ _=>0)
  .exact⟨rfl,i,M⟩
  obtain⟨rfl,D,C⟩:=hrel;have⟨j,r1,r2,f0,f1,f2⟩:=xB D;clear i M;go_wp2;refine bE (v:=.tuple #[.agg #[zn,(),zs],(10:Int)]) (by simp[results,results74,go_sem,j,r1,r2]) rfl ⟨_,rfl,⟨NT _,F1 _ _ _⟩,HS _ _ _ _ C⟩
 have hv:OD L=.agg #[bs (pO L),((pF ((gY L).take 8):Nat):Int),zs]:=(by unfold OD;rw[d];rfl);have hr:OE L=sZ L:=(by unfold OE;rw[d];rfl);have hm:RV L=tO L:=(by unfold RV;rw[d];rfl);rw[d,hv,hr,hm]at hh;have xm:tO L<=255:=(by unfold tO;have:=((gY L)[8]?.getD 0).toNat_lt;omega);have xy:(sZ L).length<=1000000000:=(by unfold sZ;rw[eK];have:=uA L;omega);have xv:(pO L).length<=1000000000:=by have:=GO L;omega
 have xw:pF ((gY L).take 8)<=1073741824:=by unfold pL at d;simp only[bL,bG]at d;exact d.2
 have hf:K8 L=(bs (pO L),((pF ((gY L).take 8):Nat):Int),CT (tO L) (sZ L)):=rfl;have b:uX (tO L) (sZ L)=true->rN L=((wV (tO L) (sZ L)==[])&&decide (eP (K8 L)=0)):=λh=>(by unfold rN;rw[d,h];simp);have hn:rN L=true->QD L=0/\lH L=K8 L:=λh=>(by unfold QD lH;rw[h];exact⟨rfl,rfl⟩);have hg:=λk=>bW7 (L:=L) (k:=k);have hi:=ct2 (r:=sZ L);have x6:=λk=>W6 k (sZ L);have⟨i0,xj,xd,xo,xp⟩:=info_parts cH3;generalize tO L=m at *;generalize sZ L=j at *;generalize pO L=A at *;generalize pF ((gY L).take 8)=N at *;have⟨hc,hq,x5,hz,x3,h6⟩:=aE hf b hn hg hi x6;clear hf b hn hg hi x6 d hv hr hm;go_in;go_wp2_with fail
 go_call hh _ as e w1 ⟨rfl,E⟩;have g:=J.next E;have M:=aK xc (aK E (cD w1 (.cells #[bs A,N,zs] 129)));have i:=g.alloc (.cells #[bs A,N,zs] 129);have q:=Row.new w1 #[bs A,N,zs] 129;have xh:w.heap.size<w1:=g.lt;clear hh J g E;(go_wp2_with fail);have⟨G,hG⟩:=fR w1.heap.size;rw[<-hG]at q xh|-;clear hG;generalize w1.alloc (.cells #[bs A,N,zs] 129)=w2 at i M q|-;have xf:=q.lt;have U:w2.ownsRow w2 44 3 zs 0 ((CT 0 j).flatMap evL):=bM _ _ _ _;go_loopw [6,7] (λK ok wr=>((∃(k:Nat)(v:Value),k<=m/\ok=.bool true/\K=.string (bs (wV k j))/\uX k j=true/\Row wr G 129 [bs A,N,v]/\wr.ownsRow w2 44 3 v k ((CT k j).flatMap evL))\/(∃u:ByteArray,ok=.bool false/\K=.string u/\rN L=false))/\
  Row wr w 129 [zn,(),zs]/\Below w w wr/\w2.heap.size<=wr) (λK ok _=>cF9 ok*(1+strOf K))
 .exact⟨.inl ⟨0,_,bK _,rfl,rfl,rfl,q,U⟩,i,M,dQ⟩
 have⟨ht,D,C,xn⟩:=hrel;clear q U i M;rcases ht with⟨k,v,hk,rfl,rfl,x7,hb,n⟩|⟨u,rfl,rfl,x8⟩
 .obtain⟨A',c',rfl,-,-,-,-⟩:=Reads.cX n;have⟨g0,g1,g2,q0,q1,q2⟩:=xB hb;have⟨hd,ho⟩:=aA n x7;clear n x7;by_cases xl:k<m
  .have i1:(k:Int)<m:=(by omega);have xi:=aT2 k j;have c:=λw=>aT4 (bs (wV k j)) w (by rw[eO];omega);simp only[gP]at c;have s1:CT (k+1) j=CT k j++[zS (wV k j)]:=rfl;have s2:wV (k+1) j=vV (wV k j):=rfl;have s3:uX (k+1) j=(uX k j&&mL (wV k j)):=rfl;have s4:mL (wV k j)=true->(vV (wV k j)).length<(wV k j):=be8;have hw:=Row.new wr #[zn,zn,.float .f64 0] 44;have z1:=cD wr (.cells #[zn,zn,.float .f64 0] 44);have ha:=hz k xl;rw[s3,ho.zz,fQ]at ha;rw[ho.zz,fQ]at s3;generalize zS (wV k j)=e at c s1;generalize vV (wV k j)=R' at c s2 s4;generalize mL (wV k j)=o at c s3 s4 ha;generalize wV k j=Rk at c xi s4|-;have I:=λw=>cH6 w e;have x9:=cx7 [e];have xa:(CT (k+1) j).flatMap evL=(CT k j).flatMap evL++[e].flatMap evL:=(by rw[s1,eB]);have⟨t,x,e3⟩:=e;unfold KG at c I;simp only[]at c I;have⟨S1,S2,S3,S4,xe,hy,x4,Q⟩:=aG xa s2 s3 s4 ha I hb D;have xx:G≠wr:=(by omega);clear s1 xa s2 s3 s4 ha I hb D g0 g1 q0 q1 q2;(go_wp2_with fail);go_call c _ as y w3 ⟨rfl,l⟩;clear g2;have⟨x0,x1,x2,y0,y1,y2⟩:=xB (hw.next l);have R:=(((aK z1 l).setCell (p:=zp wr) dQ t).setCell (p:=zp wr 1) dQ x).setCell (p:=zp wr 2) dQ (.float .f64 e3);have⟨W3,h7⟩:=fR (((w3.setCell (zp wr) t).setCell (zp wr 1) x).setCell (zp wr 2) (.float .f64 e3));have hx:=(((hw.next l).set 0 t).set 1 x).set 2 (.float .f64 e3);rw[<-h7]at R hx;obtain⟨X0,X1,X2,-,-,-⟩:=xB hx;obtain⟨-,-,G2,-,-,-⟩:=xB (x4.next R);have B:=R.alloc R.size (.cells #[t,x,.float .f64 e3] 44);have f:=bY hd B;have hu:=hy W3;have hl:W3.heap.size=w3:=(by rw[h7];simp);rw[hl]at hu;clear hl;have X:=x4.next B;have Z:=Q.next B;rw[h7]at X0 X1 X2 G2 B f hu X Z;clear hw hx z1 c h7 R;go_wp2_with (first
    |(at_builtin;refine iF _ rfl _ _ 32 rfl w2 44 i0 _ 3 40 underlying32 xj xd xo xp rfl (by decide) _ k _ rfl f _ 1 ([(t,x,e3)].flatMap evL) rfl hu x9 (by unfold maxLen;omega) (by omega) (by have:=B.size;omega) ?_;intro v5 w5 F h9;obtain⟨A5,c5,rfl,-,-,-,-⟩:=Reads.cX F;have Y:=X.grown h9 (λh=>by have:=dH f G h.symm;omega);have⟨xs,xt,xu,xz,y3,y4⟩:=xB Y))
   have h5:w.heap.size<=w2:=(by omega);have S:=C.trans (B.mono C.size);have he:=S.grown h9 S.size (λk hk=>aM h5 (dH f k hk));have hj:=Z.grown h9 (λh=>by have:=dH f _ h.symm;omega);have xr:w2.heap.size<=w5:=aM xn (aM B.size h9.size);obtain⟨P1,P2,P3,P4⟩:=aC (Y.set 2 (.slice A5 (k+1) c5)) (ownsRow_setCell_below F (a:=zp G 2) xf (.slice A5 (k+1) c5)) (hj.far (p:=zp G 2) (by show w≠G;omega) (.slice A5 (k+1) c5)) (he.setCell (p:=zp G 2) (by show w<=G;omega) (.slice A5 (k+1) c5));clear S he hj Y F B f X Z;rcases o with _|_
   .go_wp2;go_roundw
    .exact⟨xe trivial,P3,P4⟩
    simp[cF9,strOf];omega
   go_wp2;go_roundw
   .exact⟨⟨k+1,by omega,by rw[S2.zz],S3,.slice A5 (k+1) c5,P1,by rw[S1.zz];exact P2⟩,P3,P4⟩
   (have h4:=S4 trivial);simp[cF9,strOf,eO];omega
  obtain rfl:k=m:=(by omega);have i1:¬(k:Int)<k:=(by omega);have n:=hd.zz;have hE:Y2 wr (.slice A' k c') (CT k j):=⟨by have:=Reads.cX n;rw[h6.zz];exact this,x3 k (by unfold maxLen;omega)⟩;have b:=hq ho;have hB:MU wr (.agg #[bs A,N,.slice A' k c']) (K8 L):=by rw[hc.zz];refine⟨A',c',by simp only[];rw[h6.zz],by simp only[];rw[h6.zz];exact hE,by simp only[eO];unfold maxLen;omega,by simp only[];omega,by simp only[];omega⟩
  have O:=FV _ _ wr hB;have⟨HB,Q,hp⟩:=aB hB D n;clear n hE hB D;rcases hR:(wV k j==([]:List UInt8))with _|_
  .rw[hR,Bool.false_and]at b;have⟨t,x⟩:=z b;have⟨E1,E2⟩:=aA t x;have⟨H,r1,r2,f0,f1,f2⟩:=xB Q;clear t x b O;go_wp2;refine bE (v:=.tuple #[.agg #[zn,(),zs],(10:Int)]) (by simp[results,results74,go_sem,H,r1,r2]) rfl ⟨_,by rw[E1.zz],⟨by rw[E2.zz];exact NT _,F1 _ _ _⟩,HS _ _ _ _ C⟩
  rw[hR,fQ]at b;generalize eP (K8 L)=ck at b O;by_cases h8:ck=0
  .rw[bZ h8]at b;have⟨t,x⟩:=x5 b;have⟨E1,E2⟩:=aA t x;subst h8;clear t x b;(go_wp2_with fail);go_call O as y w3 ⟨rfl,l⟩;have⟨H,r1,r2,f0,f1,f2⟩:=xB (Q.next l);obtain⟨h0,h1,h2,-,-,-⟩:=xB (hb.next l);have V:=bY hp l;have h5:w.heap.size<w2:=(by omega);have W:=ownsRow_setCell_below (ownsRow_setCell_below (ownsRow_setCell_below V (a:=zp w) h5 (bs A)) (a:=zp w 1) h5 N) (a:=zp w 2) h5 (.slice A' k c');have P:=aH W;clear V W O g0 g1 g2 q0 q1 q2;go_wp2;refine bE (v:=.tuple #[.agg #[bs A,N,.slice A' k c'],()]) (by simp[results,results74,go_sem,H,r1,r2]) rfl ⟨_,by rw[E1.zz],⟨?_,as9 λk9 xk=>aM (by omega) (dH P k9 xk)⟩,HS _ _ _ _ (cU C l dQ)⟩;rw[E2.zz];have⟨A2,c2,q1,q2,q3⟩:=HB.zz;refine⟨A2,c2,q1,⟨?_,q2.2⟩,q3⟩;have hv:(Value.slice A2 (K8 L).2.2 c2)=.slice A' k c':=by have:=q1;simp only[Value.agg.injEq]at this;have h3:=gQ (λa:Array Value=>a[2]?) this;simpa using h3.symm
   rw[hv];have:=Reads.cX P;rw[hc.zz];simp only[];rw[h6.zz];exact this
  rw[bN h8]at b;have⟨t,x⟩:=z b;have⟨E1,E2⟩:=aA t x;have xq:(ck==0)=false:=(by rw[bA];exact h8);clear t x b;go_wp2_with fail
  go_call O as y w3 ⟨rfl,l⟩;have⟨H,r1,r2,f0,f1,f2⟩:=xB (Q.next l);clear O g0 g1 g2 q0 q1 q2;go_wp2;refine bE (v:=.tuple #[.agg #[zn,(),zs],(10:Int)]) (by simp[results,results74,go_sem,H,r1,r2]) rfl ⟨_,by rw[E1.zz],⟨by rw[E2.zz];exact NT _,F1 _ _ _⟩,HS _ _ _ _ (cU C l dQ)⟩
 have⟨t,x⟩:=z x8;have⟨H,r1,r2,f0,f1,f2⟩:=xB D;have⟨E1,E2⟩:=aA t x;clear D t x x8;go_wp2;refine bE (v:=.tuple #[.agg #[zn,(),zs],(10:Int)]) (by simp[results,results74,go_sem,H,r1,r2]) rfl ⟨_,by rw[E1.zz],⟨by rw[E2.zz];exact NT _,F1 _ _ _⟩,HS _ _ _ _ C⟩
def WQ(s:aS)(w:aI)(f:s.size<=1000000000):Calls prog 74 #[s] w λe a=>∃v,e=.returned (.tuple #[v,QD (lb s)])/\MU a v (lH (lb s))/\aR w w a:=(SQ s w f).mono λ_ _ ⟨v,b,c,d⟩=>⟨v,b,c.1,d⟩
end Go.Proofs.YtpopikndggffaaaGreatDoor
