/- TOP, part 2. -/
import Derived.ChangeSame
import Derived.ChangeShapes
import Derived.Deep.Draws
import Derived.Deep.Slices
import Derived.Deep.Strs
import Derived.Deep.Upon
import Derived.Laws.AppendOwn
import Derived.Laws.IdiomCopy
import Derived.Laws.Rows
import Derived.Maps.AppendAt
import Derived.OpenShut
import Derived.WideShapes
import Derived.Test.YtpopikndggffaaaGreatDoorGt0
namespace Go.Proofs.YtpopikndggffaaaGreatDoor
set_option linter.all false
set_option maxRecDepth 100000
set_option maxHeartbeats 16000000
open Go.RowKit
variable{X Y:List aN}{Q:List bB}{B i k m n:Nat}{w x:aI}{v:aN}{T U:cC}
def Row(w:aI)(g:Nat)(e:cC)(b:List aN):Prop:=∃C a,w.heap[g]?=some (.cells C e a)/\C.toList.take b.length=b/\∀j,j<b.length->(decide (a.1<=j)&&decide (j<a.2))=false
section
variable {w w':aI}{g:Nat}{e:cC}{xs:List aN}
def Row.lt(h:Row w g e xs):g<w:=by
 have⟨C,d,c,_⟩:=h;rcases cK g w with b|a
 .exact b
 rw[DP a]at c;cases c
def Row.cell(h:Row w g e xs)(j:Nat)(b:j<xs):w.cell? (zp g j)=some xs[j]:=by have⟨C,f,c,d,_⟩:=h;have a:(C.toList.take xs)[j]?=xs[j]?:=(by rw[d]);rw[iV b,aJ b]at a;unfold World.cell?;rw[c];simpa using a
def Row.frozen(h:Row w g e xs)(j:Nat)(c:j<xs):w.frozen? (zp g j)=false:=by obtain⟨C,⟨f,d⟩,b,_,a⟩:=h;unfold World.frozen?;rw[b];exact a j c
def Row.of_block(b:w'.heap[g]?=w.heap[g]?)(h:Row w g e xs):Row w' g e xs:=by have⟨C,a,c,d⟩:=h;exact⟨C,a,b.trans c,d⟩
def Row.drew(h:Row w g e xs):Row w.drew g e xs:=h
def Row.alloc(h:Row w g e xs)(o:Obj):Row (w.alloc o) g e xs:=h.of_block (n8 w o g h.lt)
def Row.far(h:Row w g e xs){p:Addr}(a:g≠p.block)(u:aN):Row (w.setCell p u) g e xs:=h.of_block (aU w p u g a)
def Row.next(h:Row w g e xs)(a:aR w w w'):Row w' g e xs:=h.of_block (a.block g h.lt)
def Row.grown{a:Option Nat}(h:Row w g e xs)(b:w.grownBy w' a)(c:some g≠a):Row w' g e xs:=h.of_block (b.block g h.lt c)
def Row.set(h:Row w g e xs)(j:Nat)(u:aN):Row (w.setCell (zp g j) u) g e (xs.set j u):=by
 have⟨C,a,c,f,b⟩:=h;refine⟨C.setIfInBounds j u,a,?_,?_,?_⟩
 .simp[World.setCell,Array.getElem?_modify,c]
 .rw[co0,mV];conv=>rhs;rw[<-f]
  rw[List.take_set]
 intro i d;exact b i (by simpa using d)
def Row.less(h:Row w g e (X++Y)):Row w g e X:=by have⟨C,a,c,d,b⟩:=h;refine⟨C,a,c,?_,λj f=>b j (by simp;omega)⟩;have:=gQ (List.take X) d;rw[l5,fX (by simp)]at this;simpa using this
def Row.new(w:aI)(C:Array aN)(e:cC):Row (w.alloc (.cells C e)) w e C.toList:=⟨C,(0,0),heap_alloc_new w _,aT (by simp),by intro j _;simp⟩
end
def Row.conv{P:Program}{n cap:Nat}{a:cC}(h:Row w k T (dM Q))(g:Q=n) (i:P.underlying U=some (.slice T)) (e:P.underlying T=some (.int .u8)) (d:P.underlying a=some .string) :(convert U a (.slice (zp k) n cap)).run P w=.ok (bs Q) w:=by
 subst g;exact run_convert_bytes_back w U a T (zp k) cap Q i e d (λj f=>by
  have:=h.cell j (by simpa using f);have c:(Addr.mk k 0 none).add j=(zp k j):=by
   unfold Addr.add;by_cases b:j=0
   .subst b;rfl
   simp[b]
  rw[c,this];simp[dM])
def bp7(l:List bB)(j:Nat)(x:Int)(a:0<=x)(b:x<256):(dM l).set j (.int .u8 x)=dM (l.set j (UInt8.ofNat x.toNat)):=by unfold dM;rw[cJ6];congr 1;have:(UInt8.ofNat x.toNat).toNat=x.toNat:=(by simp;omega);rw[this];congr 1;omega
def ad7(l:List bB)(j:Nat)(h:j<(dM l)):(dM l)[j]=.int .u8 ((l[j]'(by simpa using h)).toNat:Int):=by simp[dM]
def bp0{P:Program}(w:aI)(b a e:cC)(s:aS)(i:P.underlying b=some .string)(f:P.underlying a=some (.slice e))(g:P.underlying e=some (.int .u8)):∃d c,(convert b a s).run P w=.ok (.slice (zp w) s c) d/\Row d w e (dM (lb s))/\aR w w d/\s<=c:=by
 refine⟨_,_,run_bytes_of_string w b a e s i f g,?_,(iH.drew).alloc dQ _,grownCap_ge _ _ _ _⟩;refine⟨_,_,heap_alloc_new w.drew _,?_,?_⟩
 .unfold bytesRow;simp only[ak5,Array.toList_map];rw[gE (by simp[dM,lb]),aT (by simp[dM,lb])];rfl
 intro j h;rw[oV,bI]at h;have k:s.size<=(bytesRow s (grownCap w s 0 e)):=by unfold bytesRow;rw[DO,co1];exact SZ _ _
 rw[bN (by show¬(bytesRow s (grownCap w s 0 e))<=j;omega)];rfl
def bY{w:aI}{k n:Nat}{v:aN}(h:w.ownsRow k T m v n X)(f:aR w w x):x.ownsRow k T m v n X:=by
 refine⟨h.1,?_⟩;rcases h.2 with i|⟨g,c,d,rfl,e,a,b⟩
 .exact .inl i
 refine .inr ⟨g,c,d,rfl,e,?_,b⟩;rw[f.block g (fG.1 a).1];exact a
def dH{w:aI}{n:Nat}(h:w.ownsRow n T k v m X):∀e,v.ownBlock=some e->n<=e:=by
 intro e a;rcases h.2 with⟨rfl,_⟩|⟨g,b,c,rfl,d,_⟩
 .simp[Value.ownBlock]at a
 simp[Value.ownBlock]at a;omega
def Reads(w:aI)(v:aN)(size n:Nat)(d:List aN):Prop:=∃A c,v=.slice A n c/\n<=c/\c<=maxLen/\d.length=n*size/\(0<n->∃b a,A=some ⟨b,a,none⟩/\b<w.heap.size/\∀j (h:j<d.length),w.cell? ⟨b,a+j,none⟩=some d[j])
def Reads.next{w:aI}{v:aN}{k n:Nat}(h:Reads w v k n X)(f:aR w w x):Reads x v k n X:=by have⟨A,c,s,g,i,q,m⟩:=h;refine⟨A,c,s,g,i,q,λr=>?_⟩;have⟨b,e,l,d,a⟩:=m r;exact⟨b,e,l,aW d f,λj o=>(f.cell (p:=zp b (e+j)) d).trans (a j o)⟩
def Reads.cX{k n:Nat}(h:w.ownsRow k T m v n X):Reads w v m n X:=by
 have o:=h.1;rcases h.2 with⟨rfl,rfl⟩|⟨g,p,b,rfl,_,d,i,c,q,a⟩
 .exact⟨none,0,rfl,dQ,by unfold maxLen;omega,o,λh=>absurd h (by omega)⟩
 refine⟨_,_,rfl,i,c,o,λ_=>⟨g,0,rfl,?_,λj r=>?_⟩⟩
 .rcases cK g w with f|e
  .exact f
  rw[DP e]at d;cases d
 unfold World.cell?;rw[d];have l:(b.toList.take (n*m))[j]?=X[j]?:=(by rw[a]);rw[iV (by omega),aJ r]at l;simpa using l
def Reads.nil(w:aI)(a:Nat):Reads w zs a 0 []:=⟨none,0,rfl,dQ,by unfold maxLen;omega,by simp,λh=>absurd h (by omega)⟩
def Reads.FH{w:aI}{size n cap:Nat}(h:Row w k T X)(d:X=n*size)(a:n<=cap)(b:cap<=maxLen):Reads w (.slice (zp k) n cap) size n X:=⟨_,_,rfl,a,b,d,λ_=>⟨k,0,rfl,h.lt,λj c=>by rw[jC];exact h.cell j c⟩⟩
def bX4{e a:Int}(h:e=a):Ending.returned (.tuple #[v,e])=.returned (.tuple #[v,a]):=by rw[h]
def EM(a:List Int):List aN:=a.map (Value.int .i64)
@[simp,go_sem] def cv4(a:List Int):(EM a).length=a:=by simp[EM]
section
variable {w:aI}{g:Nat}{e:cC}{l:List aN}{a0 a1 a2 a3 a4 a5 a6 a7 a8 a9 a10 a11 a12 a13:aN}
def Row.zf3(h:Row w g e (a0::a1::a2::a3::l)):w.frozen? ⟨g,3,none⟩=false:=h.frozen 3 (by simp)
def Row.zf4(h:Row w g e (a0::a1::a2::a3::a4::l)):w.frozen? ⟨g,4,none⟩=false:=h.frozen 4 (by simp)
def Row.zf6(h:Row w g e (a0::a1::a2::a3::a4::a5::a6::l)):w.frozen? ⟨g,6,none⟩=false:=h.frozen 6 (by simp)
def Row.zc7(h:Row w g e (a0::a1::a2::a3::a4::a5::a6::a7::l)):w.cell? ⟨g,7,none⟩=some a7:=h.cell 7 (by simp)
def Row.zf7(h:Row w g e (a0::a1::a2::a3::a4::a5::a6::a7::l)):w.frozen? ⟨g,7,none⟩=false:=h.frozen 7 (by simp)
def Row.zc8(h:Row w g e (a0::a1::a2::a3::a4::a5::a6::a7::a8::l)):w.cell? ⟨g,8,none⟩=some a8:=h.cell 8 (by simp)
def Row.zf8(h:Row w g e (a0::a1::a2::a3::a4::a5::a6::a7::a8::l)):w.frozen? ⟨g,8,none⟩=false:=h.frozen 8 (by simp)
def Row.zc9(h:Row w g e (a0::a1::a2::a3::a4::a5::a6::a7::a8::a9::l)):w.cell? ⟨g,9,none⟩=some a9:=h.cell 9 (by simp)
def Row.zf9(h:Row w g e (a0::a1::a2::a3::a4::a5::a6::a7::a8::a9::l)):w.frozen? ⟨g,9,none⟩=false:=h.frozen 9 (by simp)
def Row.lO(h:Row w g e (a0::l)):w.cell? ⟨g,0,none⟩=some a0:=h.cell 0 (by simp)
def Row.NV(h:Row w g e (a0::l)):w.frozen? ⟨g,0,none⟩=false:=h.frozen 0 (by simp)
def Row.qD(h:Row w g e (a0::a1::l)):w.cell? ⟨g,1,none⟩=some a1:=h.cell 1 (by simp)
def Row.JE(h:Row w g e (a0::a1::l)):w.frozen? ⟨g,1,none⟩=false:=h.frozen 1 (by simp)
def Row.tW(h:Row w g e (a0::a1::a2::l)):w.cell? ⟨g,2,none⟩=some a2:=h.cell 2 (by simp)
def Row.QP(h:Row w g e (a0::a1::a2::l)):w.frozen? ⟨g,2,none⟩=false:=h.frozen 2 (by simp)
def Row.JF(h:Row w g e (a0::a1::a2::a3::l)):w.cell? ⟨g,3,none⟩=some a3:=h.cell 3 (by simp)
def Row.zc4(h:Row w g e (a0::a1::a2::a3::a4::l)):w.cell? ⟨g,4,none⟩=some a4:=h.cell 4 (by simp)
def Row.zc5(h:Row w g e (a0::a1::a2::a3::a4::a5::l)):w.cell? ⟨g,5,none⟩=some a5:=h.cell 5 (by simp)
def Row.zc6(h:Row w g e (a0::a1::a2::a3::a4::a5::a6::l)):w.cell? ⟨g,6,none⟩=some a6:=h.cell 6 (by simp)
end
variable{A P:Program}
def SR{P:Program}(w:aI)(l:Nat)(t T e:cC)(i:TypeInfo)(z:aN)(f k:Nat)(L:P.underlying t=some (.slice e))(H:P.info? e=i)(hz:i.zero=z) (y:i.size=f) (G:i.bytes=k) (N:z.cells=f) (K:0<f) (v:aN) (n:Nat) (Q:List aN) (o:w.ownsRow l e f v n Q) (U:aN) (m:Nat) (d:List aN) (hr:Reads w U f m d) (X:∀u∈d,u.oneCell'=true) (F:n+m<=maxLen) (p:(n+m)*k<=140737488355328) (q:l<=w) :∃E C,(Builtin.append_ #[t,t] T #[v,U]).run P w=.ok E C/\C.ownsRow l e f E (n+m) (Q++d)/\w.grownBy C v.ownBlock:=by
 obtain⟨A,c,rfl,h4,h0,D,R⟩:=hr;rcases A with _|a
 .have hm:m=0:=by
   rcases dP m with h|h
   .exact h
   have⟨b,O,h,_⟩:=R h;cases h
  subst hm;have hn:d=[]:=gF (by simpa using D);subst hn;refine⟨v,w,?_,by simpa using o,⟨rfl,rfl,rfl,dQ,λ_ _ _=>rfl⟩⟩;rcases o.2 with⟨rfl,rfl⟩|⟨g,V,W,rfl,Z,hg,J,S,h2,M⟩
  .simp[Builtin.append_,run_underlying L,sizeOf,typeInfo,H,Builtin.lenOf,Builtin.firstCells,loadCells,loadCellsFrom]
  simp[Builtin.append_,run_underlying L,sizeOf,typeInfo,H,Builtin.lenOf,Builtin.firstCells,loadCells,loadCellsFrom,J,storeCells]
 have x:∀j u,d[j]?=some u->w.cell? (a.add j)=some u:=by
  intro j u B;have I:j<d.length:=(aQ.1 B).1;have s:0<m:=by
   rcases dP m with h|h
   .subst h;simp at D;simp[D]at I
   exact h
  have⟨b,O,Y,h3,r⟩:=R s;cases Y;rw[Addr.add_lit,r j I];rwa[aJ I]at B
 have⟨E,C,r1,r2,r3,_⟩:=run_append_own (P:=P) w l t T e i z f k L H hz y G N K v n Q o a m c d D x X F p q;exact⟨E,C,r1,r2,r3⟩
def iF(w:aI){q:Array Oper}{j:List Oper}{o:Oper}{a:Act}{Q:Exit->Act->aI->Prop}(D:o.guard=none)(s x:Operand)(t:cC) (M:o.op=.call {callee:=.builtin .append,args:=#[s,x],argTypes:=#[t,t]}) (d:Nat) (e:cC) (i:TypeInfo) (z:aN) (b c:Nat) (P:A.underlying t=some (.slice e)) (L:A.info? e=i) (S:i.zero=z) (l:i.size=b) (C:i.bytes=c) (F:z.cells=b) (E:0<b) (v:aN) (n:Nat) (H:List aN) (O:a.eval s=v) (p:w.ownsRow d e b v n H) (G:aN) (m:Nat) (f:List aN) (R:a.eval x=G) (N:Reads w G b m f) (I:∀u∈f,u.oneCell'=true) (B:n+m<=maxLen) (g:(n+m)*c<=140737488355328) (k:d<=w) (h:∀y r,r.ownsRow d e b y (n+m) (H++f)->w.grownBy r v.ownBlock->wpList A q Q j (a.put o.dst y) r):wpList A q Q (o::j) a w:=by have⟨y,r,T,U,V⟩:=SR (P:=A) w d t o.type e i z b c P L S l C F E v n H p G m f N I B g k;refine wpList_plain D λK J=>?_;unfold Oper.wp execOp;simp only[M,resolve,invoke,builtin,Sem.run_bind,Sem.run_pure,Result.andThen_ok,G4,dU,xY,O,R,T];exact J _ _ (h y r U V)
section
open Go.ChangeShapes Go.WideShapes
def EU{j:Type}(f:j->List aN)(a:Nat)(b:∀x,(f x)=a)(l:List j)(i k:Nat)(d:i<l)(h:k<a):(l.flatMap f)[i*a+k]?=(f l[i])[k]?:=by
 induction l generalizing i with
 |nil=>simp at d
 |cons e l g=>
  rw[eN];cases i with
  |zero=>rw[fO (by rw[b];omega)];simp
  |succ i=>
   have c:(i+1)*a=a+i*a:=(by rw[UP];omega);rw[eF (by rw[b,c];omega),b,c];have:=g i (by simpa using d);simp only[fA];rw[<-this];congr 1;omega
def ET{d:Type}(f:d->List aN)(a:Nat)(b:∀x,(f x)=a)(l:List d):(l.flatMap f)=l.length*a:=by
 induction l with
 |nil=>simp
 |cons e l c=>rw[eN,aO,b,c,cE,UP];omega
def bH8{α H:Type}{E:cC×aN->H}{d:DataW H}{p:List MemPlace}(Z:A.underlying U=some (.slice T))(c:Nat)(t:0<c)(hc:A.cellsOf T=c) (f:α->List aN) (k:∀x,(f x)=c) (L:α->Prop) (hx:∀h5 M y,M.length=c->DataW.trod E A w 0 (λ_=>true) true h5 T M=some y->∃x,L x/\M=f x) (J:Value.okWide A w .any n U v) (h:DataW.Trod E A w 0 (λ_=>true) true U v d p):∃l:List α,Reads w v c l (l.flatMap f)/\∀x∈l,L x:=by
 obtain⟨a0,r,h4,rfl⟩:=okWide_slice Z J;have⟨V,hf⟩:=h;rcases Deep.open_slice Z hf with⟨q,-⟩|⟨a,h3,S,m,h5,D,Pl,q,_,hl,hm,I,-,F⟩
 .simp[Value.cells]at q;obtain⟨rfl,rfl,rfl⟩:=q;exact⟨[],Reads.nil _ _,by simp⟩
 simp[Value.cells]at q;obtain⟨rfl,rfl,rfl⟩:=q;simp only[eH]at I;subst I;have C:∀i,i<r->∃x,L x/\∀j,(G:j<c)->w.cell? ((a.add (i*c)).add j)=(f x)[j]?:=by
  intro i hi;have⟨N,W,h2⟩:=F i (by omega);rw[hc]at W;have⟨_,O,u⟩:=World.cells?_some W;obtain⟨x,Q,rfl⟩:=hx h5 N _ O h2;refine⟨x,Q,λj G=>?_⟩;rw[u j (by omega)]
 have e:∀i:Fin r,∃x,L x/\∀j,(G:j<c)->w.cell? ((a.add (i.1*c)).add j)=(f x)[j]?:=λi=>C i.1 i.2;refine⟨List.ofFn λi=>Classical.choose (e i),?_,?_⟩
 .have s:(List.ofFn λi=>Classical.choose (e i)).length=r:=List.length_ofFn;rw[s];refine⟨some a,_,rfl,hl,hm,by rw[ET f c k,s],λh0=>?_⟩;have⟨b,o,K⟩:=a;have B:=(Classical.choose_spec (e ⟨0,h0⟩)).2 0 t;have z:K=none:=by rw[aJ (by rw[k];exact t)]at B;simpa[Addr.add]using World.cell?_spot B
  subst z;refine⟨b,o,rfl,?_,λj G=>?_⟩
  .rcases cK b w with h|h
   .exact h
   rw[aJ (by rw[k];exact t)]at B;unfold World.cell? at B;simp[Addr.add,DP h]at B
  have P:j<r*c:=(by rwa[ET f c k,s]at G);have X:j/c<r:=cN4 (by rw[oX];exact P);have Y:j%c<c:=G0 _ t;have hd:j/c*c+j%c=j:=(by rw[oX];exact WT j c);have c1:=(Classical.choose_spec (e ⟨j/c,X⟩)).2 (j%c) Y;have g:=EU f c k (List.ofFn λi=>Classical.choose (e i)) (j/c) (j%c) (by rw[s];exact X) Y;rw[hd,aJ G,List.getElem_ofFn]at g;rw[g,<-c1,Addr.add_lit,Addr.add_lit];congr 2;simp only[];omega
 intro x R;obtain⟨i,rfl⟩:=List.mem_ofFn.1 R;exact(Classical.choose_spec (e i)).1
end
variable{a:Act}{K:Act->aI->Prop}{o:Oper}{E:Prop}
def Reads.src{X:List aN}(o:A.underlying U=some (.slice T))(z:Reads w v k n X)(p:∀u∈X,u.oneCell'=true):Src A k U v n X w:=by
 obtain⟨B,c,rfl,x,r,g,m⟩:=z;rcases B with _|a
 .have t:n=0:=by
   rcases dP n with h|h
   .exact h
   have⟨b,l,h,_⟩:=m h;cases h
  subst t;have y:X=[]:=gF (by simpa using g);subst y;exact Src.ofNil w o c
 refine Src.ofSlice w o a n c X g ?_ p;intro j u f;have i:j<X:=(aQ.1 f).1;have e:0<n:=by
  rcases dP n with h|h
  .subst h;simp at g;simp[g]at i
  exact h
 have⟨b,l,q,s,d⟩:=m e;cases q;rw[Addr.add_lit,d j i];rwa[aJ i]at f
def WS{P:Program}(w:aI)(t J e:cC)(i:TypeInfo)(z:aN)(b c:Nat)(x:P.underlying t=some (.slice e))(L:P.info? e=i)(S:i.zero=z) (l:i.size=b) (B:i.bytes=c) (I:z.cells=b) (A:Option Addr) (n:Nat) (f:List aN) (G:Reads w (.slice A n n) b n f) (N:∀u∈f,u.oneCell'=true) (s:aN) (m:Nat) (a:List aN) (F:Reads w s b m a) (O:∀u∈a,u.oneCell'=true) (o:n+m<=maxLen) (g:(n+m)*c<=140737488355328) :∃K y,(Builtin.append_ #[t,t] J #[.slice A n n,s]).run P w=.ok K y/\Reads y K b (n+m) (f++a)/\(0<m->y.ownsRow w e b K (n+m) (f++a))/\w.grownBy y none:=by
 subst l;subst B;have r:Src P i.size t s m a w:=F.src x O;rcases dP m with M|M
 .subst M;have R:a=[]:=gF (by simpa using F.choose_spec.choose_spec.2.2.2.1);subst R;refine⟨_,w,run_append_nothing w t t J e i x L A n n dQ s r,by simpa using G,λh=>absurd h (by omega),⟨rfl,rfl,rfl,dQ,λ_ _ _=>rfl⟩⟩
 have p:(Builtin.firstCells i.size n (.slice A n n)).run P w.drew=.ok f.toArray w.drew:=(G.src x N).cellsD;have H:f=n*i.size:=G.choose_spec.choose_spec.2.2.2.1;have E:a=m*i.size:=F.choose_spec.choose_spec.2.2.2.1;have v:n+m<=9223372036854775807:=(by simp only[maxLen]at o;omega);have D:=grownCap_ge w (n+m) n e;have C:grownCap w (n+m) n e<=maxLen:=grownCap_le_maxLen w (n+m) n e o;have q:=run_append_grow_src (P:=P) w t t J e i z x L S A n n f p s m a r (by omega) (by omega) (growslice_fits (by omega) g);have d:(f++a).length=(n+m)*i.size:=by rw[aO,H,E,cN5]
 have j:(w.drew.alloc (.cells ((f++a).toArray++Builtin.zeroCells z.cells (grownCap w (n+m) n e-(n+m))) e)).ownsRow w e i.size (.slice (zp w) (n+m) (grownCap w (n+m) n e)) (n+m) (f++a):=by
  refine⟨d,.inr ⟨w,_,_,rfl,dQ,heap_alloc_new w.drew _,D,C,?_,?_⟩⟩
  .simp only[DO,sH,size_zeroCells,I,d,<-cN5];congr 1;omega
  simp only[ak5];rw[<-d];exact mP
 exact⟨_,_,q,Reads.cX j,λ_=>j,⟨rfl,rfl,rfl,by simp,λk Q _=>n8 w.drew _ k Q⟩⟩
def CA(w:aI){l:Array Oper}{g:List Oper}{o:Oper}{a:Act}{Q:Exit->Act->aI->Prop}(y:o.guard=none)(s x:Operand)(t:cC) (H:o.op=.call {callee:=.builtin .append,args:=#[s,x],argTypes:=#[t,t]}) (e:cC) (i:TypeInfo) (z:aN) (b d:Nat) (L:A.underlying t=some (.slice e)) (G:A.info? e=i) (O:i.zero=z) (j:i.size=b) (v:i.bytes=d) (B:z.cells=b) (U:Option Addr) (n:Nat) (q:List aN) (J:a.eval s=.slice U n n) (M:Reads w (.slice U n n) b n q) (D:∀u∈q,u.oneCell'=true) (C:aN) (m:Nat) (c:List aN) (N:a.eval x=C) (I:Reads w C b m c) (E:∀u∈c,u.oneCell'=true) (r:n+m<=maxLen) (f:(n+m)*d<=140737488355328) (h:∀p k,Reads k p b (n+m) (q++c)->(0<m->k.ownsRow w e b p (n+m) (q++c))->w.grownBy k none->wpList A l Q g (a.put o.dst p) k):wpList A l Q (o::g) a w:=by have⟨p,k,P,R,S,T⟩:=WS (P:=A) w t o.type e i z b d L G O j v B U n q M D C m c I E r f;refine wpList_plain y λK F=>?_;unfold Oper.wp execOp;simp only[H,resolve,invoke,builtin,Sem.run_bind,Sem.run_pure,Result.andThen_ok,G4,dU,xY,J,N,P];exact F _ _ (h p k R S T)
def GL{k:Array Oper}{Q:Exit->Act->aI->Prop}(v:o.guard=none)(s x:Operand)(t:cC) (G:o.op=.call {callee:=.builtin .append,args:=#[s,x],argTypes:=#[t,t]}) (e:cC) (i:TypeInfo) (z:aN) (b d:Nat) (J:A.underlying t=some (.slice e)) (F:A.info? e=i) (O:i.zero=z) (g:i.size=b) (r:i.bytes=d) (y:z.cells=b) (U:Option Addr) (n:Nat) (p:List aN) (I:a.eval s=.slice U n n) (L:Reads w (.slice U n n) b n p) (C:∀u∈p,u.oneCell'=true) (B:aN) (m:Nat) (c:List aN) (N:a.eval x=B) (H:Reads w B b m c) (D:∀u∈c,u.oneCell'=true) (q:n+m<=maxLen) (f:(n+m)*d<=140737488355328) (h:∀l j,Reads j l b (n+m) (p++c)->(0<m->j.ownsRow w e b l (n+m) (p++c))->w.grownBy j none->K (a.put o.dst l) j):if Region.wanted o (yielded k a.tmps)=true then Oper.wp A o a w K Q else E:=by have M:Region.wanted o (yielded k a.tmps)=true:=(by simp[Region.wanted,v]);rw[aV M];have⟨l,j,P,R,S,T⟩:=WS (P:=A) w t o.type e i z b d J F O g r y U n p L C B m c H D q f;unfold Oper.wp;simp[execOp,G,resolve,invoke,builtin,I,N,P,Result.andThen];exact h l j R S T
def QY{w:aI}{p:Array Oper}{Q:Exit->Act->aI->Prop}(C:o.guard=none)(s x:Operand)(t:cC) (L:o.op=.call {callee:=.builtin .append,args:=#[s,x],argTypes:=#[t,t]}) (d:Nat) (e:cC) (i:TypeInfo) (z:aN) (b c:Nat) (O:A.underlying t=some (.slice e)) (J:A.info? e=i) (S:i.zero=z) (k:i.size=b) (B:i.bytes=c) (F:z.cells=b) (D:0<b) (v:aN) (n:Nat) (H:List aN) (N:a.eval s=v) (l:w.ownsRow d e b v n H) (G:aN) (m:Nat) (f:List aN) (R:a.eval x=G) (M:Reads w G b m f) (I:∀u∈f,u.oneCell'=true) (y:n+m<=maxLen) (g:(n+m)*c<=140737488355328) (j:d<=w) (h:∀r q,q.ownsRow d e b r (n+m) (H++f)->w.grownBy q v.ownBlock->K (a.put o.dst r) q):if Region.wanted o (yielded p a.tmps)=true then Oper.wp A o a w K Q else E:=by have P:Region.wanted o (yielded p a.tmps)=true:=(by simp[Region.wanted,C]);rw[aV P];have⟨r,q,T,U,V⟩:=SR (P:=A) w d t o.type e i z b c O J S k B F D v n H l G m f M I y g j;unfold Oper.wp;simp[execOp,L,resolve,invoke,builtin,N,R,T,Result.andThen];exact h r q U V
def JP{P:Program}(w:aI)(l:Nat)(t T e:cC)(i:TypeInfo)(z:aN)(f k:Nat)(L:P.underlying t=some (.slice e))(H:P.info? e=i)(hz:i.zero=z) (y:i.size=f) (G:i.bytes=k) (N:z.cells=f) (K:0<f) (v:aN) (n:Nat) (Q:List aN) (o:w.ownsRow l e f v n Q) (U:aN) (m:Nat) (d:List aN) (hr:Reads w U f m d) (X:∀u∈d,u.oneCell'=true) (F:n+m<=maxLen) (p:(n+m)*k<=140737488355328) (q:l<=w) :∃B D,(Builtin.append_ #[t,t] T #[v,U]).run P w=.ok B D/\D.ownsRow l e f B (n+m) (Q++d)/\w.grownBy D v.ownBlock/\(B.ownBlock=v.ownBlock\/B.ownBlock=w):=by
 obtain⟨A,c,rfl,h4,h0,E,R⟩:=hr;rcases A with _|a
 .have hm:m=0:=by
   rcases dP m with h|h
   .exact h
   have⟨b,O,h,_⟩:=R h;cases h
  subst hm;have hn:d=[]:=gF (by simpa using E);subst hn;refine⟨v,w,?_,by simpa using o,⟨rfl,rfl,rfl,dQ,λ_ _ _=>rfl⟩,.inl rfl⟩;rcases o.2 with⟨rfl,rfl⟩|⟨g,V,W,rfl,Z,hg,J,S,h2,M⟩
  .simp[Builtin.append_,run_underlying L,sizeOf,typeInfo,H,Builtin.lenOf,Builtin.firstCells,loadCells]
  simp[Builtin.append_,run_underlying L,sizeOf,typeInfo,H,Builtin.lenOf,Builtin.firstCells,loadCells,J,storeCells]
 have x:∀j u,d[j]?=some u->w.cell? (a.add j)=some u:=by
  intro j u C;have I:j<d.length:=(aQ.1 C).1;have s:0<m:=by
   rcases dP m with h|h
   .subst h;simp at E;simp[E]at I
   exact h
  have⟨b,O,Y,h3,r⟩:=R s;cases Y;rw[Addr.add_lit,r j I];rwa[aJ I]at C
 have⟨B,D,r1,r2,r3,_,r4⟩:=run_append_own_at (P:=P) w l t T e i z f k L H hz y G N K v n Q o a m c d E x X F p q;exact⟨B,D,r1,r2,r3,r4⟩
def rB(w:aI){r:Array Oper}{j:List Oper}{o:Oper}{a:Act}{Q:Exit->Act->aI->Prop}(D:o.guard=none)(s x:Operand)(t:cC) (M:o.op=.call {callee:=.builtin .append,args:=#[s,x],argTypes:=#[t,t]}) (d:Nat) (e:cC) (i:TypeInfo) (z:aN) (b c:Nat) (P:A.underlying t=some (.slice e)) (L:A.info? e=i) (S:i.zero=z) (l:i.size=b) (C:i.bytes=c) (F:z.cells=b) (E:0<b) (v:aN) (n:Nat) (H:List aN) (O:a.eval s=v) (q:w.ownsRow d e b v n H) (G:aN) (m:Nat) (f:List aN) (R:a.eval x=G) (N:Reads w G b m f) (I:∀u∈f,u.oneCell'=true) (B:n+m<=maxLen) (g:(n+m)*c<=140737488355328) (k:d<=w) (h:∀p y,y.ownsRow d e b p (n+m) (H++f)->w.grownBy y v.ownBlock->(p.ownBlock=v.ownBlock\/p.ownBlock=some w.heap.size)->wpList A r Q j (a.put o.dst p) y):wpList A r Q (o::j) a w:=by have⟨p,y,T,U,V,W⟩:=JP (P:=A) w d t o.type e i z b c P L S l C F E v n H q G m f N I B g k;refine wpList_plain D λK J=>?_;unfold Oper.wp execOp;simp only[M,resolve,invoke,builtin,Sem.run_bind,Sem.run_pure,Result.andThen_ok,G4,dU,xY,O,R,T];exact J _ _ (h p y U V W)
def KN{q:Array Oper}{Q:Exit->Act->aI->Prop}(C:o.guard=none)(s x:Operand)(t:cC) (L:o.op=.call {callee:=.builtin .append,args:=#[s,x],argTypes:=#[t,t]}) (d:Nat) (e:cC) (i:TypeInfo) (z:aN) (b c:Nat) (O:A.underlying t=some (.slice e)) (J:A.info? e=i) (S:i.zero=z) (k:i.size=b) (B:i.bytes=c) (F:z.cells=b) (D:0<b) (v:aN) (n:Nat) (H:List aN) (N:a.eval s=v) (p:w.ownsRow d e b v n H) (G:aN) (m:Nat) (f:List aN) (R:a.eval x=G) (M:Reads w G b m f) (I:∀u∈f,u.oneCell'=true) (y:n+m<=maxLen) (g:(n+m)*c<=140737488355328) (j:d<=w) (h:∀l r,r.ownsRow d e b l (n+m) (H++f)->w.grownBy r v.ownBlock->(l.ownBlock=v.ownBlock\/l.ownBlock=some w.heap.size)->K (a.put o.dst l) r):if Region.wanted o (yielded q a.tmps)=true then Oper.wp A o a w K Q else E:=by have P:Region.wanted o (yielded q a.tmps)=true:=(by simp[Region.wanted,C]);rw[aV P];have⟨l,r,T,U,V,W⟩:=JP (P:=A) w d t o.type e i z b c O J S k B F D v n H p G m f M I y g j;unfold Oper.wp;simp[execOp,L,resolve,invoke,builtin,N,R,T,Result.andThen];exact h l r U V W
def jI(w:aI)(p:Addr)(v:aN):w.grownBy (w.setCell p v) p.block:=⟨rfl,rfl,rfl,by simp,λk b a=>aU w p v k (λh=>a (by rw[h]))⟩
def jN(h:w.ownsRow n T m v k X):∀f,v.ownBlock=some f->f<w.heap.size:=by
 intro f b;rcases h.2 with⟨rfl,_⟩|⟨g,c,d,rfl,e,a,_⟩
 .simp[Value.ownBlock]at b
 simp[Value.ownBlock]at b;subst b;exact(fG.1 a).1
def dX{k:Nat}(h:w.ownsRow n T i v m X)(c:v.ownBlock=k):Row w k T X:=by
 rcases h.2 with⟨rfl,_⟩|⟨g,d,a,rfl,f,b,l,o,p,e⟩
 .simp[Value.ownBlock]at c
 simp[Value.ownBlock]at c;subst c;exact⟨a,(0,0),b,by rw[h.1];exact e,by intro j _;simp⟩
def dD(h:Row w n T X)(c:Row w n U Y):T=U:=by obtain⟨C,f,d,-⟩:=h;obtain⟨e,b,a,-⟩:=c;rw[d]at a;cases a;rfl
def bH4(h:w.ownsRow n T m v k X)(j:Row w i U Y)(c:T≠U):∀p,v.ownBlock=some p->p≠i:=by
 intro p b f;subst f;obtain⟨C,l,g,-⟩:=j;rcases h.2 with⟨rfl,_⟩|⟨o,d,e,rfl,_,a,_⟩
 .simp[Value.ownBlock]at b
 simp[Value.ownBlock]at b;subst b;rw[g]at a;simp at a;exact c a.2.1.symm
structure kP(w a:aI)(g:Nat)(b:Option Nat):Prop where
 os:a.os=w.os
 tape:a.tape=w.tape
 output:a.output=w.output
 size:w.heap.size<=a.heap.size
 block:∀k,k<w.heap.size->k≠g->some k≠b->a.heap[k]?=w.heap[k]?
def kP.cT(h:aR w w x)(g:Nat)(b:Option Nat):kP w x g b:=⟨h.os,h.tape,h.output,h.size,λk a _ _=>h.block k a⟩
def kP.trans{a w x:aI}{n:Nat}{o:Option Nat}(b:kP a w n o)(c:kP w x n o):kP a x n o:=⟨c.os.trans b.os,c.tape.trans b.tape,c.output.trans b.output,aM b.size c.size,λk f e d=>(c.block k (aW f b.size) e d).trans (b.block k f e d)⟩
def kP.cc1{r:Option Nat}(h:w.grownBy x r)(g:Nat):kP w x g r:=⟨h.os,h.tape,h.output,h.size,λk b _ a=>h.block k b a⟩
def kP.AT(j:Nat)(v:aN)(b:Option Nat):kP w (w.setCell (zp n j) v) n b:=by have h:=jI w (zp n j) v;exact⟨h.os,h.tape,h.output,h.size,λk c a _=>h.block k c (by simpa using a)⟩
def kP.below{B:Nat}{b:Option Nat}(h:kP w x n b)(a:B<=w)(e:B<=n)(c:∀k,b=some k->B<=k):aR B w x:=⟨h.os,h.tape,h.output,h.size,λk d=>h.block k (aW d a) (by omega) (λh=>by have:=c k h.symm;omega)⟩
def eS(h:w.ownsRow n T m v k X)(g:∀j,v.ownBlock=some j->x.heap[j]?=w.heap[j]?):x.ownsRow n T m v k X:=by
 refine⟨h.1,?_⟩;rcases h.2 with i|⟨f,b,c,rfl,d,e,a⟩
 .exact .inl i
 exact .inr ⟨f,b,c,rfl,d,(g f (by simp[Value.ownBlock])).trans e,a⟩
def pK(w:aI)(g a:Nat)(l:List bB):Prop:=l.length<=a/\a<=maxLen/\(∀j (h:j<l.length),w.cell? ⟨g,j,none⟩=some (.int .u8 (l[j].toNat:Int)))/\(∀j,j<a->(w.cell? ⟨g,j,none⟩).isSome=true/\w.frozen? ⟨g,j,none⟩=false)/\g<w.heap.size
def pK.next{w:aI}{g cap:Nat}(h:pK w g cap Q)(b:aR w w x):pK x g cap Q:=by have⟨d,e,f,i,a⟩:=h;have c:∀j,x.cell? (zp g j)=w.cell? (zp g j):=λj=>b.cell (p:=zp g j) a;have k:∀j,x.frozen? (zp g j)=w.frozen? (zp g j):=λj=>b.frozen (p:=zp g j) a;exact⟨d,e,λj h=>(c j).trans (f j h),λj h=>by rw[c,k];exact i j h,aW a b.size⟩
def pK.conv{P:Program}{cap n:Nat}{a:cC}(h:pK w k cap Q)(e:Q=n) (f:P.underlying U=some (.slice T)) (c:P.underlying T=some (.int .u8)) (b:P.underlying a=some .string) :(convert U a (.slice (zp k) n cap)).run P w=.ok (bs Q) w:=by subst e;exact run_convert_bytes_back w U a T (zp k) cap Q f c b (λj d=>by rw[Addr.add_lit,jC,h.2.2.1 j d])
def pK.ofString{P:Program}(w:aI)(d c e:cC)(s:aS)(p:s.size<=1000000000)(o:P.underlying d=some .string)(f:P.underlying c=some (.slice e))(n:P.underlying e=some (.int .u8)):∃l g,(convert d c s).run P w=.ok (.slice (zp w) s g) l/\pK l w g (lb s)/\aR w w l:=by
 have h:=grownCap_le_maxLen w s.size 0 e (by unfold maxLen;omega);have k:=grownCap_ge w s.size 0 e;refine⟨_,_,run_bytes_of_string w d c e s o f n,?_,(iH.drew).alloc dQ _⟩;have a:=heap_alloc_new w.drew (.cells (bytesRow s (grownCap w s.size 0 e)) e ((bytesRow s (grownCap w s.size 0 e)).size,(bytesRow s (grownCap w s.size 0 e)).size+1));have b:(bytesRow s (grownCap w s.size 0 e))=grownCap w s 0 e:=by have f:s.data.size=s:=rfl;unfold bytesRow;rw[DO,co1,f,Array.size_replicate];omega
 generalize m:w.drew.alloc (.cells (bytesRow s (grownCap w s.size 0 e)) e ((bytesRow s (grownCap w s.size 0 e)).size,(bytesRow s (grownCap w s.size 0 e)).size+1))=W at a|-;refine⟨by rw[bI];exact k,h,λj i=>?_,λj i=>?_,?_⟩
 .rw[bI]at i;unfold World.cell?;rw[show W.heap[w.heap.size]?=_ from a];unfold bytesRow;simp only[];have f:s.data.size=s:=rfl;rw[co2 (by rw[co1,f];exact i),Array.getElem?_map,O1 (by rw[f];exact i)];rfl
 .constructor
  .unfold World.cell?;rw[show W.heap[w.heap.size]?=_ from a];simp only[];rw[O1 (by rw[b];exact i)];rfl
  unfold World.frozen?;rw[show W.heap[w.heap.size]?=_ from a];simp only[b];simp;omega
 rw[<-m];simp
def KP{B:Nat}{a:aI}(g:Nat)(b:B<=g):∀(c:List aN)(o:Nat)(w:aI),aR B a w->aR B a (w.setCells g o c)/\(w.setCells g o c).heap.size=w.heap.size
 |[],_,w,h=>⟨h,rfl⟩
 |v::r,o,w,h=>by have:=KP g b r (o+1) (w.setCell (zp g o) v) (h.setCell b v);exact⟨this.1,this.2.trans (by simp)⟩
def SO(s:aS):byteCells s=dM (lb s):=by simp[byteCells,dM,lb]
def pK.append{P:Program}{k:Nat}{ty e:cC}{i:TypeInfo}(h:pK w n k Q)(r:Q=m)(s:aS)(R:P.underlying T=some (.slice e))(Z:P.underlying U=some .string)(M:P.info? e=i)(hz:i.zero=v)(b:i.size=1)(E:i.bytes=1)(H:v.cells.size=1) (c:Nat) (L:c<=n) (K:c<=w) (N:m+s<=1000000000) :∃D p I,(Builtin.append_ #[T,U] ty #[.slice (zp n) m k,s]).run P w=.ok (.slice (zp D) (m+s) p) I/\pK I D p (Q++lb s)/\c<=D/\aR c w I:=by
 have⟨h1,V,J,t,W⟩:=h;have O:Src P i.size U s s.size (byteCells s) w:=(by rw[b];exact Src.ofString w Z s);have u:(byteCells s)=s.size:=byteCells_length s;have l:(lb s)=s.size:=bI s;by_cases o:m+s<=k
 .have f:=run_append_room_src (P:=P) w T U ty e i R M n 0 m k s s.size (byteCells s) O o
   (λj d=>by rw[b,sG,jC];exact(t (m+j) (by omega)).1) (λj d=>by rw[b,sG,jC];exact(t (m+j) (by omega)).2)
  rw[b,sG,jC]at f;have⟨k1,k2⟩:=KP (B:=c) (a:=w) n L (byteCells s) m w iH;refine⟨n,k,_,f,⟨by rw[aO,r,l];exact o,V,λj d=>?_,λj d=>?_,by rw[k2];exact W⟩,L,k1⟩
  .rw[aO,r,l]at d;rcases cK j m with g|g
   .rw[QF n (byteCells s) m w (zp n j) (λ_ _=>.inl g),J j (by omega),jT (by omega)]
   have:=cD5 n (byteCells s) m w (λh0 Y=>(t (m+h0) (by omega)).1) (j-m) (by omega);rw[show m+(j-m)=j from by omega]at this;rw[this,fM (by omega)];simp only[SO,dM,tT,r]
  refine⟨?_,by rw[World.frozen?_setCells];exact(t j d).2⟩;rcases cK j m with g|g
  .rw[QF n (byteCells s) m w (zp n j) (λ_ _=>.inl g)];exact(t j d).1
  rcases cK j (m+s.size)with z|z
  .have:=cD5 n (byteCells s) m w (λh0 Y=>(t (m+h0) (by omega)).1) (j-m) (by omega);rw[show m+(j-m)=j from by omega]at this;rw[this];rfl
  rw[QF n (byteCells s) m w (zp n j) (λ_ _=>.inr (by rw[u];exact z))];exact(t j d).1
 have C:(Builtin.firstCells i.size m (.slice (zp n) m k)).run P w.drew=.ok (dM Q).toArray w.drew:=by
  rw[b];exact run_firstCells_some w.drew 1 m (zp n) m k (dM Q) (by simp[r]) (λj h6 d=>by have y:j<Q.length:=(by have:=(aQ.1 d).1;simpa using this);rw[Addr.add_lit,jC];have X:(dM Q)[j]?=some (.int .u8 (Q[j].toNat:Int)):=QA Q j y;rw[X]at d;rw[<-d];exact J j y)
 have x:Builtin.nextslicecap (m+s.size) k*i.bytes<=281474976710656:=growslice_fits (by omega) (by rw[E];omega);have f:=run_append_grow_src (P:=P) w T U ty e i v R M hz (zp n) m k (dM Q) C s s.size (byteCells s) O (by omega) (by omega) x;have G:=grownCap_ge w (m+s.size) k e;have F:=grownCap_le_maxLen w (m+s.size) k e (by unfold maxLen;omega);have A:(dM Q++byteCells s).length=m+s:=(by rw[aO,u,oV,r]);refine⟨w,_,_,f,⟨by rw[aO,r,l];exact G,F,λj d=>?_,λj d=>?_,by simp⟩,K,(bR c w).drew.alloc K _⟩
 iterate 2
  .have q:=heap_alloc_new w.drew (.cells ((dM Q++byteCells s).toArray++Builtin.zeroCells v.cells (grownCap w (m+s.size) k e-(m+s.size))) e)
   first
    |unfold World.cell?
     rw[show(w.drew.alloc _).heap[w.heap.size]?=_ from q];rw[aO,r,l]at d;simp only[];rw[co2 (by simpa[A]using d)];have S:dM Q++byteCells s=dM (Q++lb s):=(by rw[SO];simp[dM]);rw[S,List.getElem?_toArray,QA (Q++lb s) j (by rw[aO,r,l];exact d)];rfl
    |constructor
     iterate 2
      ·(first|unfold World.cell?|unfold World.frozen?);rw[show(w.drew.alloc _).heap[w.heap.size]?=_ from q];first|(simp only[];(rw[O1 (by rw[DO,size_zeroCells,H];simp[A];omega)];rfl))|simp
def NW(w:aI){l:Array Oper}{d:List Oper}{o:Oper}{a:Act}{S:Exit->Act->aI->Prop}(r:o.guard=none)(z x:Operand)(t u:cC) (J:o.op=.call {callee:=.builtin .append,args:=#[z,x],argTypes:=#[t,u]}) {n m k:Nat} {Q:List bB} {T:cC} {i:TypeInfo} {v:aN} (M:a.eval z=.slice (zp n) k m) (j:pK w n m Q) (I:Q=k) (s:aS) (P:a.eval x=s) (N:A.underlying t=some (.slice T)) (O:A.underlying u=some .string) (H:A.info? T=i) (R:i.zero=v) (e:i.size=1) (q:i.bytes=1) (y:v.cells.size=1) (b:Nat) (G:b<=n) (F:b<=w) (g:k+s<=1000000000) (h:∀f c p,pK p f c (Q++lb s)->b<=f->aR b w p->wpList A l S d (a.put o.dst (.slice (zp f) (k+s) c)) p):wpList A l S (o::d) a w:=by have⟨f,c,p,L,B,C,D⟩:=j.append (P:=A) (ty:=o.type) I s N O H R e q y b G F g;refine wpList_plain r λK E=>?_;unfold Oper.wp execOp;simp only[J,resolve,invoke,builtin,Sem.run_bind,Sem.run_pure,Result.andThen_ok,G4,dU,xY,M,P,L];exact E _ _ (h f c p B C D)
end Go.Proofs.YtpopikndggffaaaGreatDoor
