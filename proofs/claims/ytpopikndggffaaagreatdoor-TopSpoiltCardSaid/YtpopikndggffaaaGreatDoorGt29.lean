/- TOP, part 29. -/
import Derived.WideKeyEntry
import Derived.Test.YtpopikndggffaaaGreatDoorGt20
import Derived.Test.YtpopikndggffaaaGreatDoorGt28
namespace Go.Proofs.YtpopikndggffaaaGreatDoor
set_option linter.all false
set_option maxRecDepth 100000
set_option maxHeartbeats 16000000
open Go.RowKit Go.Maps Tryz
variable{d i j k m n:Nat}{A:Program}{w x y:aI}{R:aN->Option (Du×List MemPlace)}{P T U:cC}
section
open Go.ChangeMaps Go.ChangeShapes Go.MapKept Go.WideElems Go.WideShapes
def aT6{e:Array MapEntry}(K:Keyed A U)(C:A.underlying T=some (.map U P)){v:aN}(N:∀V:aI,(zeroValue P).run A V=.ok v V)(q:w.heap[n]?=some (.map e k))(F:WideElems.Fit A U R e k) {u:aN} {O:Lit} (d:keyOf A U u=O) :∃(E:aN)(I:Nat)(t:Array MapEntry)(g:Nat),(Instr.mapEntry T (.map n) u).run A w=.ok (.tuple #[E,goInt I]) (setBlock w n (.map t g))/\((∃h∈e.toList,h.key=u/\E=h.val)\/((∀x∈e.toList,x.key≠u)/\E=v))/\∀(B:aI)(b:aN),B.heap[n]?=some (.map t g)->∃s f,(Instr.entryStore T (.map n) (goInt I) b).run A B=.ok () (setBlock B n (.map s f))/\(Instr.mapUpdate T (.map n) u b).run A w=.ok () (setBlock w n (.map s f)):=by
 have⟨Q,H,_⟩:=F.stamped;rcases K.find w d e.toList F.keys with⟨y,p⟩|⟨j,h,y,p,z⟩
 .refine⟨v,k,e.push ⟨u,v,k⟩,k+1,?_,Or.inr ⟨p,rfl⟩,λB b o=>⟨e.push ⟨u,b,k⟩,k+1,?_,?_⟩⟩
  .simp[Instr.mapEntry,run_underlying C,MapKept.run_getObj_map q,K.check w false d,y,N,MapKept.run_setObj_map _ q,Result.andThen,setBlock]
  .have i:(e.push ⟨u,v,k⟩).findIdx? (λP=>((P.born:Nat):Int)==((k:Nat):Int))=some e:=by
    rw[findIdx_arr];have:=findIdx_born (l:=(e.push ⟨u,v,k⟩).toList) (j:=e.size) (e0:=⟨u,v,k⟩) (by
     simp only[aZ6,iC,dU,xY];refine mG.2 ⟨H,by simp,λa J c L S=>?_⟩;simp only[bP]at L;obtain⟨x,M,rfl⟩:=dS.1 J;have:=Q x M;omega) (by simp)
    exact this
   have m:(e.push ⟨u,v,k⟩).modify e (λP=>{P with val:=b})=e.push ⟨u,b,k⟩:=by apply Array.ext';rw[JW,aZ6,aZ6,<-ak6,modify_last]
   simp[Instr.entryStore,MapKept.run_getObj_map o,asInt,asIntOf,goInt,i,m,MapKept.run_setObj_map _ o,Result.andThen,setBlock]
  simp[Instr.mapUpdate,run_underlying C,MapKept.run_getObj_map q,K.check w false d,y,MapKept.run_setObj_map _ q,Result.andThen,setBlock]
 have G:e[j]?=some h:=by simpa using p
 have r:e.modify j (λP=>{P with key:=u})=e:=by apply Array.ext';rw[JW,modify_eq_set _ _ _ _ p];have:({h with key:=u}:MapEntry)=h:=(by rw[<-z]);rw[this];exact set_self _ _ _ p
 refine⟨h.val,h.born,e,k,?_,Or.inl ⟨h,bC p,z,rfl⟩,λB b o=>⟨e.modify j (λD=>{D with key:=u,val:=b}),k,?_,?_⟩⟩
 .simp[Instr.mapEntry,run_underlying C,MapKept.run_getObj_map q,K.check w false d,y,G,z,K.stays w d,r,MapKept.run_setObj_map _ q,Result.andThen,setBlock]
 .have i:e.findIdx? (λP=>((P.born:Nat):Int)==((h.born:Nat):Int))=some j:=by rw[findIdx_arr];exact findIdx_born H p
  have m:e.modify j (λP=>{P with val:=b})=e.modify j (λD=>{D with key:=u,val:=b}):=by apply Array.ext';rw[JW,JW,modify_eq_set _ _ _ _ p,modify_eq_set _ _ _ _ p,<-z]
  simp[Instr.entryStore,MapKept.run_getObj_map o,asInt,asIntOf,goInt,i,m,MapKept.run_setObj_map _ o,Result.andThen,setBlock]
 simp[Instr.mapUpdate,run_underlying C,MapKept.run_getObj_map q,K.check w false d,y,G,z,K.stays w d,MapKept.run_setObj_map _ q,Result.andThen,setBlock]
def ai1{D:Du}(h:w.ownsMap A U R k n D)(K:Keyed A U)(t:A.underlying T=some (.map U P)){v:aN}(H:∀N:aI,(zeroValue P).run A N=.ok v N)(E:n<maxLen){u z:aN}{x:Lit}{d:Du}{I:List MemPlace}(c:keyOf A U u=x)(G:R z=some (d,I)):∃(q:aN)(l:Nat)(y r:aI),(Instr.mapEntry T (.map k) u).run A w=.ok (.tuple #[q,l]) y/\(Instr.entryStore T (.map k) l z).run A y=.ok () r/\r.ownsMap A U R k (n+1) (D.put x d)/\w.grownBy r k:=by
 have⟨M,p,j,o⟩:=h.update K t E c G;obtain⟨J,m,s,F,L,rfl⟩:=h;obtain⟨q,l,i,b,B,-,C⟩:=aT6 K t H s F c;have⟨g,a,e,f⟩:=C (setBlock w k (.map i b)) z (heap_setBlock_same s _);rw[p]at f;cases f;have P:setBlock (setBlock w k (.map i b)) k (.map g a)=setBlock w k (.map g a):=by simp[setBlock]
 rw[P]at e;exact⟨q,l,_,_,B,e,j,o⟩
end
variable{X:List aN}{L:List dB}{N:Nat->Prop}{D E:aL}{I J:aZ}{K:bH->Nat}{H:bH->aN}{M:jD}
def xT(w:aI)(d m:Nat)(x:oZ)(k:Nat):Prop:=jQ w d m k\/x.T k
structure IxS(w:aI)(a m d:Nat)(x:oZ)(I:aZ)(b:Nat)(D:aL):Prop where
 eI:∃c e,bJ w a d m D c e
 idx:pI w a d x I b
 out:∀k,x.T k->¬jQ w d m k
def IxS.yH{base:Nat}{l:oZ}(H:IxS w base k n l I m D)(i:∃a b,bJ x base n k E a b)(e:gX base k w x):IxS x base k n l I m E/\p7 base (xT w n k l) (xT x n k l) w x:=by have⟨a,b,g⟩:=H.eI;have d:=p7.nA e g.IZ;have⟨f,h⟩:=d.clear (T:=l.T) (λj c=>⟨(H.idx.lt j c).2,H.out j c⟩);exact⟨⟨i,H.idx.eW e.size h,λj c=>(f j c).2⟩,d.or l.T⟩
def uM(w:aI)(X:Nat)(M:jD)(a:aN):aI:=(((w.setCell ⟨X,1,none⟩ (.int .i64 (M.next:Nat))).setCell ⟨X,2,none⟩ (.int .i64 (M.check:Nat))).setCell ⟨X,3,none⟩ (.int .u64 (M.aX:Nat))).setCell ⟨X,4,none⟩ a
def IK(w:aI)(X:Nat)(M:jD)(c:aN):w.grownBy (uM w X M c) X:=⟨rfl,rfl,rfl,by simp[uM],λk d a=>by have h:k≠X:=λb=>a (by rw[b]);unfold uM;rw[aU _ _ _ _ h,aU _ _ _ _ h,aU _ _ _ _ h,aU _ _ _ _ h]⟩
def pI.manned{h:oZ}{M:jD}{lv:aN}(H:pI w k n h I m)(t:QJ w k N lv M.fP)(g:∀E,N E->k<=E/\E<w.heap.size/\¬h.T E)(u:I.cZ.next<=M.next):pI (uM w h.X M lv) k n {h with lv:=lv,TL:=N} {I with cZ:=M} m:=by
 have j:=IK w h.X M lv;have e:∀E,E<w.heap.size->E≠h.X->(uM w h.X M lv).heap[E]?=w.heap[E]?:=λE p r=>j.block E p (λd=>r (cJ d));have⟨z,A,D,B⟩:=H.ne;have⟨C,o,l,x,y⟩:=H.map;have i:∀E,N E->E≠h.X/\E≠h.mb/\E≠h.tm/\h.mv.ownBlock≠some E:=λE e=>⟨λd=>(g E e).2.2 (.inl d),λd=>(g E e).2.2 (.inr (.inl d)),λd=>(g E e).2.2 (.inr (.inr (.inl d))),λd=>(g E e).2.2 (.inr (.inr (.inr (.inl d))))⟩;refine⟨(((H.row.set 1 _).set 2 _).set 3 _).set 4 _,t.eW λE d f=>e E f (i E d).1,⟨H.mem.1.of_block (e _ H.mem.1.lt (λh=>z h.symm)),eS H.mem.2.1 λE d=>e E (jN H.mem.2.1 E d) (B E d).1,H.mem.2.2⟩,⟨C,o,oB l (e _ l.lt (λh=>A h.symm)),x,aM y u⟩,λF L s=>(H.fI F L s).eW λq v f=>e q f (H.apart q (.inr v)).2.2.1,H.low,λE d=>?_⟩;rcases d with d|d
 .obtain⟨a,b,-⟩:=g E d;exact⟨a,aW b j.size,i E d⟩
 have⟨a,b,c⟩:=H.apart E (.inr d);exact⟨a,aW b j.size,c⟩
def aa9(q:bJ w k n m D K H)(g:w.grownBy x j)(s:n≠j)(f:¬DK x j)(r:i<w)(b:jQ x n m i):jQ w n m i:=by
 have d:x.heap[n]?=w.heap[n]?:=g.block n q.lt.1 (λc=>s (cJ c));rcases b with b|b|b
 .exact .inl b
 .by_cases c:i=j
  .subst c;exact absurd b f
  have e:=g.block i r (λp=>c (cJ p));have⟨C,t,h,l,o⟩:=b;exact .inr (.inl ⟨C,t,h,by rw[<-e];exact l,o⟩)
 refine .inr (.inr ?_);unfold OwnAt at b|-;rwa[dK (a:=zp n 9) d]at b
def ck7(a:bJ w k n m D K H)(b:Row w i T X)(c:T≠103):n≠i:=oP a.IZ b c
def bU6{g:Nat}{h5:oZ}{v:aN}{R:Nat->Prop}{X:Du}(H:IxS w k m n h5 I g D)(hl:QJ w k N v M.fP)(A:∀h4,N h4->k<=h4/\h4<w.heap.size/\¬xT w n m h5 h4)(hn:i<=999999)(h2:M.next=I.cZ.next+1)(hp:tC w R k j n i L)(h:∀h4,R h4->k<=h4/\h4<w.heap.size/\¬xT w n m h5 h4)(mt:UR X I.fI h5.tb)(h0:d<=I.cZ.next)(s:x.ownsMap prog 3 uB h5.tm (d+1) (X.put (xJ i) (.lit (.int .i64 j))))(r:(uM w h5.X M v).grownBy x h5.tm):∃F:oZ,(F.X=h5.X/\F.mb=h5.mb)/\IxS x k m n F {I with cZ:=M,fI:=jM I.fI i L} g D/\p7 k (λh4=>xT w n m h5 h4\/N h4\/R h4) (xT x n m F) w x:=by
 have⟨t,u,O⟩:=H.eI;have o:=IK w h5.X M v;have V:=H.idx.manned (M:=M) (lv:=v) hl (λh4 e=>⟨(A h4 e).1,(A h4 e).2.1,λf=>(A h4 e).2.2 (.inr f)⟩) (by omega);have rX:Row (uM w h5.X M v) h5.X 100 _:=V.row;have P:n≠h5.X:=ck7 O H.idx.row (by decide);have K:¬jQ w n m h5.X:=H.out _ (.inl rfl);have G:bJ (uM w h5.X M v) k n m D t u:=O.grown o λh4 e=>by cases e;exact K
 have Y:∀h4,h4<w.heap.size->jQ (uM w h5.X M v) n m h4->jQ w n m h4:=λh4 e S=>aa9 O o P (j7 rX GA.1) e S;have C:¬jQ (uM w h5.X M v) n m h5.tm:=λf=>H.out _ (.inr (.inr (.inl rfl))) (Y _ (H.idx.lt _ (.inr (.inr (.inl rfl)))).2 f);have T:tC (uM w h5.X M v) R k j n i L:=hp.eW λq U l=>o.block q l λf=>(h q U).2.2 (.inr (.inl (cJ f)));have Q:n≠h5.tm:=λf=>by obtain⟨W,kv,h1,-⟩:=G.row;obtain⟨h3,M9,m1,-⟩:=V.map;exact gJ m1 (f▸h1) rfl
 have z:w.heap.size=(uM w h5.X M v):=by simp[uM]
 have i3:=V.put (nt':=d+1) mt hn s (by show d+1<=M.next;omega) r T (λq U=>by have⟨a,b,c⟩:=h q U;exact⟨a,by rw[<-z];exact b,λf=>c (.inr (.inl f)),λf=>c (.inr (.inr (.inl f))),λf=>c (.inr (.inr (.inr (.inl f)))),λf=>c (.inr (.inr (.inr (.inr (.inl f)))))⟩);have d3:bJ x k n m D t u:=G.grown r λh4 e=>(by cases e;exact C);have Z:∀h4,h4<w.heap.size->jQ x n m h4->jQ w n m h4:=λh4 e S=>Y h4 e (aa9 G r Q (uD s) (by rw[<-z];exact e) S);have y:∀h4,({h5 with lv:=v,TL:=N,tb:=λq=>if q=i then j else h5.tb q,TT:=λq=>h5.TT q\/R q}:oZ).T h4->(h5.T h4\/N h4\/R h4):=λh4 e=>by
  rcases e with e|e|e|e|e|e
  .exact .inl (.inl e)
  .exact .inl (.inr (.inl e))
  .exact .inl (.inr (.inr (.inl e)))
  .exact .inl (.inr (.inr (.inr (.inl e))))
  .exact .inr (.inl e)
  rcases e with e|e
  .exact .inl (.inr (.inr (.inr (.inr (.inr e)))))
  exact .inr (.inr e)
 have l:∀h4,(h5.T h4\/N h4\/R h4)->h4<w.heap.size/\¬jQ w n m h4:=λh4 e=>by
  rcases e with e|e|e
  .exact⟨(H.idx.lt h4 e).2,H.out h4 e⟩
  .exact⟨(A h4 e).2.1,λf=>(A h4 e).2.2 (.inl f)⟩
  exact⟨(h h4 e).2.1,λf=>(h h4 e).2.2 (.inl f)⟩
 refine⟨{h5 with lv:=v,TL:=N,tb:=λq=>if q=i then j else h5.tb q,TT:=λq=>h5.TT q\/R q},⟨rfl,rfl⟩,⟨⟨t,u,d3⟩,i3,λh4 e f=>(l h4 (y h4 e)).2 (Z h4 (l h4 (y h4 e)).1 f)⟩,⟨r.os.trans o.os,r.tape.trans o.tape,r.output.trans o.output,aM o.size r.size,λh4 e p=>?_,λh4 e f=>?_⟩⟩
 .have B:h4≠h5.X:=λf=>by
   rcases p with p|p
   .have:=H.idx.low.1;omega
   exact p (.inl (.inr (.inl f)))
  have E:h4≠h5.tm:=λf=>by
   rcases p with p|p
   .have:=H.idx.low.2.2;omega
   exact p (.inl (.inr (.inr (.inr (.inl f)))))
  rw[r.block h4 (by rw[<-z];exact e) (λf=>E (cJ f)),o.block h4 e (λf=>B (cJ f))]
 rcases f with f|f
 .exact .inl (.inl (Z h4 e f))
 rcases y h4 f with J|J
 .exact .inl (.inr J)
 exact .inr J
def UM(D:aL)(r:Int×aL):Prop:=r.1=0->r.2.down=D.down
def NO(D:aL)(l:cA):UM D (D.change l):=by
 intro h;unfold aL.change at h|-;split
 .rename_i a;rw[aV a]at h;simp at h
 rfl
def ar7(D:aL)(n:bH):UM D (D.create n):=by
 intro h;unfold aL.create at h|-;repeat' split
 all_goals first|rfl|exact NO _ _ (by simp_all)
def at1(D:aL)(n s:bH):UM D (D.append n s):=by
 intro h;unfold aL.append at h|-;split
 .rfl
 split
 .rfl
 split
 .rfl
 split
 .rename_i a b c d e;simp_all
 rfl
def bt2(D:aL)(n:bH):UM D (D.sync n):=by
 intro h;unfold aL.sync at h|-;split
 .rfl
 split
 .rfl
 exact NO _ _ (by simp_all)
def bE2(D:aL)(a b:bH):UM D (D.rename a b):=by
 intro h;unfold aL.rename at h|-;split
 .rfl
 split
 .rfl
 split
 .rfl
 exact NO _ _ (by simp_all)
def ar5(D:aL)(n:bH):UM D (D.delete n):=by
 intro h;unfold aL.delete at h|-;split
 .rfl
 split
 .rfl
 exact NO _ _ (by simp_all)
def CH{r:Int×aL}{k:aL->Int×aL}(c:UM D r)(d:∀b,UM b (k b)):UM D (kS r k):=by
 intro h;unfold kS at h|-;split
 .rename_i a;rw[aV a]at h;exact(d _ h).trans (c a)
 rename_i a;rw[aP a]at h;exact absurd h a
def cf1(D:aL)(n s:bH):UM D (D.lay n s):=CH (ar7 _ _) λD=>CH (at1 _ _ _) λD=>bt2 _ _
def bT8(D:aL)(n:Nat)(L:List dB)(f:bH):UM D (o8 D n L f):=by
 intro h;unfold o8 at h|-;split
 .rfl
 split
 .rfl
 rename_i a b;rw[aP a,aP b]at h;exact CH (cf1 _ _ _) (λD=>cf1 _ _ _) h
def bU5(D:aL):UM D D.gS:=by
 intro h;unfold aL.gS at h|-;split
 .rename_i a;rw[aV a]at h;exact ar5 _ _ h
 rfl
def cq9(D:aL)(M:jD):UM D (qV D M):=by
 intro h;unfold qV at h|-;split
 .rfl
 rename_i b;rw[aP b]at h;refine CH (bU5 _) (λd=>?_) h;intro a;split
 .rfl
 rename_i c;rw[aP c]at a;exact CH (ar7 _ _) (λD=>CH (at1 _ _ _) λD=>CH (bt2 _ _) λD=>bE2 _ _ _) a
structure I4(w:aI)(a m d:Nat)(x:oZ)(I:aZ)(b:Nat)(M:jD)(e:aN)(c:Nat->Prop)(f:aN)(L:List dB)(D:aL)(y:aI):Prop where
 ix:IxS y a m d x I b D
 fP:QJ y a c e M.fP
 out:∀k,c k->a<=k/\k<y.heap.size/\¬xT y d m x k
 GV:∃B,y.ownsRow B 152 3 f L.length (gV L)
 box:Row y w.heap.size 57 (mN M e)
 fr:gX a m w y
section
variable {w y z:aI}{base m d cF:Nat}{x:oZ}{I:aZ}{M:jD}{lv vl:aN}{TN:Nat->Prop}{L:List dB}{D D':aL}
def I4.yH(H:I4 w base m d x I cF M lv TN vl L D y)(n:∃b c,bJ z base d m D' b c)(e:gX base m y z):I4 w base m d x I cF M lv TN vl L D' z:=by have⟨b,c,g⟩:=H.ix.eI;have⟨h,i⟩:=H.ix.yH n e;have⟨f,l⟩:=i.clear (T:=TN) (λk a=>⟨(H.out k a).2.1,(H.out k a).2.2⟩);have⟨B,j⟩:=H.GV;exact⟨h,H.fP.eW λk a _=>l k a,λk a=>⟨(H.out k a).1,(f k a).1,(f k a).2⟩,⟨B,e.own j qB g.map⟩,e.row H.box MV (g.rE H.box),H.fr.trans e⟩
def I4.next(H:I4 w base m d x I cF M lv TN vl L D y)(a:aR y y z):I4 w base m d x I cF M lv TN vl L D z:=by have⟨b,c,e⟩:=H.ix.eI;exact H.yH ⟨_,_,e.next a⟩ (gX.cT a _ _)
end
def XV(w:aI)(a m d:Nat)(x:oZ)(I:aZ)(b:Nat)(h:Nat->Prop)(D:aL)(M:jD)(n:Nat)(L:List dB)(e:eY)(g:aI):Prop:=∃f:bH,f.length<=128+4*L.length/\e=.returned (.int .i64 (nR I D M n L f).1)/\∃c:oZ,(c.X=x.X/\c.mb=x.mb)/\IxS g a m d c (nR I D M n L f).2.1 b (nR I D M n L f).2.2/\p7 a (fun k=>xT w d m x k\/h k) (xT g d m c) w g
variable{e:Int}{s:bH}
def aF8{I:aZ}{D:aL}{M:jD}{n:Nat}{L:List dB}{f:bH}(h:kS (o8 D n L f) (λD=>qV D M)=(e,E))(a:e≠0):nR I D M n L f=(e,I,(pG E n).2):=by unfold nR;simp only[h,ne_eq,a,not_false_eq_true,eH]
def bA7{I:aZ}(h:kS (o8 D n L s) (λD=>qV D M)=(0,E))(a:(kX E n).1≠0):nR I D M n L s=((kX E n).1,I,E):=by unfold nR;simp only[h,ne_eq,a,not_false_eq_true,not_true_eq_false,eH,dW]
def bA6{I:aZ}{O:List dB}(h:kS (o8 D n L s) (λD=>qV D M)=(0,E))(b:(kX E n).1=0)(a:(kX E n).2=O):nR I D M n L s=(0,{I with cZ:=M,fI:=jM I.fI n O},E):=by unfold nR;simp only[h,ne_eq,b,a,not_true_eq_false,dW]
def ZZ{base:Nat}{x:oZ}{cF:Nat}(S:IxS w base m d x I cF D)(hb:base<=w)(hup:D.down=false)(lv vl:aN)(M:jD)(TN:Nat->Prop)(hl:QJ w base TN lv M.fP)(hT:∀k,TN k->base<=k/\k<w.heap.size/\¬xT w d m x k)(hok:wU M=true)(hsd:M.aX<18446744073709551616)(n:Nat)(hn:n<=999999)(hnx:M.next=I.cZ.next+1)(hnx9:I.cZ.next<=1000000)(L:List dB)(B:Nat)(ho:w.ownsRow B 152 3 vl L (gV L))(hL:L.length<=10000)(hm:tN L=true)(hokL:OkL L):Calls prog 155 #[zp x.X,.agg (mN M lv).toArray,n,vl] w (XV w base m d x I cF TN D M n L):=by
 have b0:=(bR w.heap.size w).alloc (cV _) (.cells (mN M lv).toArray 57);have r0:=Row.new w (mN M lv).toArray 57;obtain⟨blk0,dat0,hd0⟩:=S.eI;have Kw:∀y,aR w.heap.size w y->Row y w.heap.size 57 (mN M lv)->I4 w base m d x I cF M lv TN vl L D y:=fun y hy hr=>by
  obtain⟨h1,h2⟩:=S.yH ⟨_,_,hd0.next hy⟩ (gX.cT hy base m);obtain⟨hc,hs⟩:=h2.clear (T:=TN) (fun k hk=>⟨(hT k hk).2.1,(hT k hk).2.2⟩);exact⟨h1,hl.eW fun k hk _=>hs k hk,fun k hk=>⟨(hT k hk).1,(hc k hk).1,(hc k hk).2⟩,⟨B,bY ho hy⟩,hr,gX.cT hy _ _⟩
 have K1:=aH (Kw _ b0 r0);have HW:=aH (fun(y:aI) (hy:I4 w base m d x I cF M lv TN vl L D y)=>show Calls prog 226 #[.pointer (some ⟨d,0,none⟩),.int .i64 (n:Int),vl,.float .f64 cF] y (XU base d m D n L y)from by
  obtain⟨bk,dk,hdk⟩:=hy.ix.eI;obtain⟨B',ho'⟩:=hy.GV;exact ca7 hdk (aM hb hy.fr.size) n hn vl L cF (fun w' hf=>⟨Reads.cX (hf.own ho' qB hdk.map),hokL⟩) hL hm hokL)
 have HS:=aH (fun(D':aL) (y:aI) (hy:I4 w base m d x I cF M lv TN vl L D' y)=>show Calls prog 227 #[.pointer (some ⟨d,0,none⟩),.agg (mN M lv).toArray] y (rI base d m (qV D' M) y)from by
  obtain⟨bk,dk,hdk⟩:=hy.ix.eI;exact cw5 hdk (aM hb hy.fr.size) lv M hy.fP.GQ (TO hok hsd) hok)
 have HD:=aH (fun(D':aL) (y:aI) (hy:I4 w base m d x I cF M lv TN vl L D' y)=>show Calls prog 162 #[.pointer (some ⟨d,0,none⟩),.int .i64 (n:Int)] y (rI base d m (pG D' n) y)from by
  obtain⟨bk,dk,hdk⟩:=hy.ix.eI;exact bu5 hdk (aM hb hy.fr.size) n hn)
 have HO:=aH (fun(D':aL) (y:aI) (hy:I4 w base m d x I cF M lv TN vl L D' y) (hu:D'.down=false)=>show Calls prog 181 #[.pointer (some ⟨d,0,none⟩),.int .i64 (n:Int)] y (SY base m d n D' y)from by
  obtain⟨bk,dk,hdk⟩:=hy.ix.eI;exact bu4 hdk (aM hb hy.fr.size) hu n hn)
 have FIN:=aH (fun(f:bH) (e:Int) (D':aL) (y:aI) (hfl:f.length<=128+4*L.length) (hX:nR I D M n L f=(e,I,D')) (hy:I4 w base m d x I cF M lv TN vl L D' y)=>show XV w base m d x I cF TN D M n L (.returned (.int .i64 e)) y from by
  refine⟨f,hfl,by rw[hX],x,⟨rfl,rfl⟩,by rw[hX];exact hy.ix,?_⟩;have h2:=(p7.nA hy.fr hd0.IZ).or x.T;exact h2.mono (fun k _ h=>.inl h) (fun k _ h=>.inl h))
 have HUP:=aH (fun(f:bH) (D1 D2:aL) (h1:o8 D n L f=(0,D1)) (h2:qV D1 M=(0,D2))=>show D2.down=false from by
  have a:=bT8 D n L f;rw[h1]at a;have b:=cq9 D1 M;rw[h2]at b;exact((b rfl).trans (a rfl)).trans hup)
 have FY:=aH (fun(f:bH) (D':aL) (y z:aI) (p nt:Nat) (NP:Nat->Prop) (L':List dB) (Mp:Du) (hfl:f.length<=128+4*L.length) (hX:nR I D M n L f=(0,{I with cZ:=M,fI:=jM I.fI n (some L')},D')) (hy:I4 w base m d x I cF M lv TN vl L D' y) (hp:tC y NP base p d n L') (hNP:∀k,NP k->w.heap.size<=k/\k<y.heap.size/\¬xT y d m x k) (mt:UR Mp I.fI x.tb) (hnt:nt<=I.cZ.next) (hown:z.ownsMap prog 3 uB x.tm (nt+1) (Mp.put (xJ n) (.lit (.int .i64 (p:Int))))) (hg:(uM y x.X M lv).grownBy z (some x.tm))=>show XV w base m d x I cF TN D M n L (.returned (.int .i64 0)) z from by
  obtain⟨x',h1,h2,h3⟩:=bU6 hy.ix hy.fP hy.out hn hnx hp (fun k hk=>⟨aM hb (hNP k hk).1,(hNP k hk).2⟩) mt hnt hown hg;refine⟨f,hfl,by rw[hX],x',h1,by rw[hX];exact h2,?_⟩;have h4:=(p7.nA hy.fr hd0.IZ).or x.T;have h5:p7 base (fun k=>xT w d m x k\/TN k) (fun k=>xT y d m x k\/TN k\/NP k) w y:=⟨h4.os,h4.tape,h4.output,h4.size,fun k hk hc=>h4.block k hk (hc.imp id fun h9 h8=>h9 (.inl h8)),fun k hk h9=>by
   rcases h9 with h9|h9|h9
   .exact .inl (h4.rJ k hk h9)
   .exact .inr h9
   have:=(hNP k h9).1;omega⟩
  exact h5.trans h3)
 obtain⟨A9,c9,hA⟩:=hl.slice;have HNX:=aH hnx9;have HBB:=aH hb;have HN9:=aH hn;subst hA;unfold mN at *;obtain⟨Ae,ce,rfl,-⟩:=id (Reads.cX ho);clear S hup hl hT hok hsd hnx hnx9 ho hL hm hokL hd0 Kw b0 r0 hb hn;obtain⟨m1,m2,m3,m4⟩:=M;simp only at *;have z0:∀y:dR (w.alloc (.cells #[.int .i64 (m1:Nat),.int .i64 (m2:Nat),.int .u64 (m3:Nat),.slice A9 m4.length c9] 57)),y.it.cell? ⟨x.X,0,none⟩=some (.pointer (some ⟨d,0,none⟩)):=fun y=>(K1.out.next y.ok).ix.idx.cells.1;have z5:∀y:dR (w.alloc (.cells #[.int .i64 (m1:Nat),.int .i64 (m2:Nat),.int .u64 (m3:Nat),.slice A9 m4.length c9] 57)),y.it.cell? ⟨x.X,5,none⟩=some (.float .f64 cF):=fun y=>(K1.out.next y.ok).ix.idx.cells.2.2.2.2.2.1;go_in;go_wp2_with fail
 refine jF (by kernel_rfl) (by kernel_rfl) (by kernel_rfl) (by kernel_rfl) (by kernel_rfl) ?_;simp only[List.dropLast,List.drop,List.length];repeat go_big_quiet_step (fail)
 refine wpQuiet_nil ?_;rintro _ ⟨⟨wq,hwq⟩,rfl⟩;have KQ:=aH (K1.out.next hwq);have hwr:=HW.out _ KQ.out;unfold XU at hwr;clear z0 z5 hwq;go_wp2_with fail
 refine hwr.mono ?_;rintro y w2 ⟨f,hfl,hop⟩;obtain⟨⟨e1,D1⟩,hr1⟩:∃r,r=o8 D n L f:=⟨_,rfl⟩;rw[<-hr1]at hop;unfold rI at hop;obtain⟨rfl,hv2,hf2⟩:=hop;have K2:=aH (KQ.out.yH hv2 hf2);have R1:=aH hr1.symm;have HFL:=aH hfl;clear hwr hv2 hf2 hr1 hfl;by_cases h1:e1=0
 .subst h1;have z0:∀y:dR w2,y.it.cell? ⟨x.X,0,none⟩=some (.pointer (some ⟨d,0,none⟩)):=fun y=>(K2.out.next y.ok).ix.idx.cells.1;have y0:∀y:dR w2,y.it.cell? ⟨w.heap.size,0,none⟩=some (.int .i64 (m1:Nat)):=fun y=>(gR (K2.out.next y.ok).box).1.1;have y1:∀y:dR w2,y.it.cell? ⟨w.heap.size,1,none⟩=some (.int .i64 (m2:Nat)):=fun y=>(gR (K2.out.next y.ok).box).1.2.1;have y2:∀y:dR w2,y.it.cell? ⟨w.heap.size,2,none⟩=some (.int .u64 (m3:Nat)):=fun y=>(gR (K2.out.next y.ok).box).1.2.2.1;have y3:∀y:dR w2,y.it.cell? ⟨w.heap.size,3,none⟩=some (.slice A9 m4.length c9):=fun y=>(gR (K2.out.next y.ok).box).1.2.2.2;go_wp2_with fail
  refine jF (by kernel_rfl) (by kernel_rfl) (by kernel_rfl) (by kernel_rfl) (by kernel_rfl) ?_;simp only[List.dropLast,List.drop,List.length];repeat go_big_quiet_step (fail)
  refine wpQuiet_nil ?_;rintro _ ⟨⟨wq2,hwq2⟩,rfl⟩;have KQ2:=aH (K2.out.next hwq2);have hsw:=HS.out D1 _ KQ2.out;obtain⟨⟨e2,D2⟩,hr2⟩:∃r,r=qV D1 ⟨m1,m2,m3,m4⟩:=⟨_,rfl⟩;rw[<-hr2]at hsw;unfold rI at hsw;simp only at hsw;have R2:=aH hr2.symm;clear z0 y0 y1 y2 y3 hwq2 hr2;go_wp2_with fail
  refine hsw.mono ?_;rintro y w3 ⟨rfl,hv3,hf3⟩;have K3:=aH (KQ2.out.yH hv3 hf3);clear hsw hv3 hf3;have TH:=aH (show kS (o8 D n L f) (fun D=>qV D ⟨m1,m2,m3,m4⟩)=(e2,D2)from by rw[R1.out];exact(GG _ _).trans R2.out);obtain⟨c0,-⟩:=K3.out.ix.idx.cells;by_cases h2:e2=0
  .subst h2;have hop:=HO.out D2 w3 K3.out (HUP.out f D1 D2 R1.out R2.out);unfold SY at hop;obtain⟨ez,hez⟩:∃ez,ez=(kX D2 n).1:=⟨_,rfl⟩;obtain⟨oz,hoz⟩:∃oz,oz=(kX D2 n).2:=⟨_,rfl⟩;by_cases h3:ez=0
   .have h3':(kX D2 n).1=0:=by rw[<-hez];exact h3
    obtain⟨L',hL'⟩:=aN1 h3';have W9:=aH (bA6 (I:=I) TH.out h3' hL');rw[h3',hL']at hop;simp only at hop;obtain⟨nt,Mp,mp1,mp2,mp3⟩:=K3.out.ix.idx.map;have MPP:=aH (And.intro mp2 mp3);have MP1:=aH mp1;clear mp1 mp2 mp3 hez hoz h3 h3' hL';(go_wp2_with fail);refine hop.mono ?_;rintro y w4 ⟨p,rfl,hv4,hf4,hpt⟩;have P4:=aH (hpt L' rfl);have K4:=aH (K3.out.yH hv4 hf4);have F4:=aH hf4;have mp4:w4.ownsMap prog 3 uB x.tm nt Mp:=by
     obtain⟨bk,dk,hdk⟩:=K3.out.ix.eI;obtain⟨hc,hs⟩:=(p7.nA hf4 hdk.IZ).clear (T:=x.T) (fun k hk=>⟨(K3.out.ix.idx.lt k hk).2,K3.out.ix.out k hk⟩);exact oB MP1.out (hs _ (.inr (.inr (.inl rfl))))
    have M4:=aH mp4;have PT:=aH (show∀k,DS w3 w4 d m k->w.heap.size<=k/\k<w4.heap.size/\¬xT w4 d m x k from fun k hk=>⟨aM K3.out.fr.size hk.1,hk.2.1,fun h9=>by
     rcases h9 with h9|h9
     .exact hk.2.2 h9
     have:=(K3.out.ix.idx.lt k h9).2;have:=hk.1;omega⟩)
    clear hop hv4 hf4 hpt mp4 c0;obtain⟨c0,c1,c2,c3,c4,-,-,c7⟩:=K4.out.ix.idx.cells;have f1:=K4.out.ix.idx.row.frozen 1 (by simp);have f2:=K4.out.ix.idx.row.frozen 2 (by simp);have f3:=K4.out.ix.idx.row.frozen 3 (by simp);have f4:=K4.out.ix.idx.row.frozen 4 (by simp);obtain⟨⟨y0,y1,y2,y3⟩,-⟩:=gR K4.out.box;have htX:x.tm≠x.X:=fun h9=>K4.out.ix.idx.ne.2.1 h9.symm;have hOM:(uM w4 x.X ⟨m1,m2,m3,m4⟩ (.slice A9 m4.length c9)).drew.ownsMap prog 3 uB x.tm nt Mp:=oB M4.out ((IK w4 x.X _ _).block x.tm M4.out.lt (fun h9=>htX (cJ h9)));obtain⟨v0,st,wA,wB,hEA,hEB,hOwn,hGr⟩:=ai1 hOM cg3 underlying98 bs8 (by have:=MPP.out.2;have:=HNX.out;unfold maxLen;omega) (GS HN9.out) (N0 p);have HE:=aH (And.intro hOwn hGr);unfold uM at hEA;clear hOM hOwn hGr;(go_wp2_with fail);go_region
    all_goals
     go_wp2;go_ret;exact FY.out _ _ _ _ _ _ _ _ _ HFL.out W9.out K4.out P4.out PT.out MPP.out.1 MPP.out.2 HE.out.1 ⟨HE.out.2.os,HE.out.2.tape,HE.out.2.output,HE.out.2.size,HE.out.2.block⟩
   have h3':(kX D2 n).1≠0:=by rw[<-hez];exact h3
   have W9:=aH (bA7 (I:=I) TH.out h3');have hnone:(kX D2 n).2=none:=by
    rcases hq:(kX D2 n).2 with _|L'
    .rfl
    exact absurd (Z6 hq) h3'
   rw[hnone,<-hez]at hop;rw[<-hez]at W9;simp only at hop;have i2:(ez==0)=false:=bA.2 h3;clear hez hoz h3' hnone;(go_wp2_with fail);refine hop.mono ?_;rintro y w4 ⟨p,rfl,hv4,hf4,-⟩;have K4:=aH (K3.out.yH hv4 hf4);clear hop hv4 hf4 c0;go_wp2;go_ret;exact FIN.out _ _ _ _ HFL.out W9.out K4.out
  have hdr:=HD.out D2 w3 K3.out;have W9:=aH (aF8 (I:=I) TH.out h2);obtain⟨⟨e9,D9⟩,hr9⟩:∃r,r=pG D2 n:=⟨_,rfl⟩;rw[<-hr9]at hdr W9;unfold rI at hdr;simp only at hdr W9;have i2:(e2==0)=false:=bA.2 h2;clear hr9;go_wp2_with fail
  refine hdr.mono ?_;rintro y w9 ⟨rfl,hv9,hf9⟩;have K9:=aH (K3.out.yH hv9 hf9);clear hdr hv9 hf9 c0;go_wp2;go_ret;exact FIN.out _ _ _ _ HFL.out W9.out K9.out
 have hdr:=HD.out D1 w2 K2.out;have W9:=aH (aF8 (I:=I) (D:=D) (M:=⟨m1,m2,m3,m4⟩) (L:=L) (n:=n) (f:=f) (by rw[R1.out];exact GH h1 _ _) h1);obtain⟨⟨e9,D9⟩,hr9⟩:∃r,r=pG D1 n:=⟨_,rfl⟩;rw[<-hr9]at hdr W9;unfold rI at hdr;simp only at hdr W9;have i2:(e1==0)=false:=bA.2 h1;obtain⟨c0,-⟩:=K2.out.ix.idx.cells;clear hr9;go_wp2_with fail
 refine hdr.mono ?_;rintro y w9 ⟨rfl,hv9,hf9⟩;have K9:=aH (K2.out.yH hv9 hf9);clear hdr hv9 hf9 c0;go_wp2;go_ret;exact FIN.out _ _ _ _ HFL.out W9.out K9.out
variable{G:cS}{S h:dV}
def lQ.cu9(H:lQ w n S D G I k):∀g,(g=S.L\/S.v.ownBlock=g)->g<w.heap.size/\¬xT w S.d S.m S.x g:=λg b=>by
 have⟨e,f,d⟩:=H.eI;have a:¬S.x.T g:=λc=>H.sep g c (.inr b);rcases b with rfl|b
 .exact⟨H.log.row.lt,λc=>c.elim (d.nS H.log.row iP.1 (by decide)) a⟩
 exact⟨jN H.log.own g b,λc=>c.elim (d.cw0 (dX H.log.own b) (H.log.apart g b)) a⟩
def lQ.CE{D':aL}{g:oZ}(H:lQ w n S D G I k)(t:∀u,N u->¬iG w S u)(m:D'.bQ=D.bQ)(h:IxS y n S.m S.d g J k D')(d:p7 n (λu=>xT w S.d S.m S.x u\/N u) (xT y S.d S.m g) w y):lQ y n {S with x:=g} D' G J k/\p7 n (λu=>iG w S u\/N u) (iG y {S with x:=g}) w y:=by
 have e:=H.cu9;have⟨o,p⟩:=d.clear (T:=λu=>u=S.L\/S.v.ownBlock=some u) (λu b=>⟨(e u b).1,λa=>a.elim (e u b).2 λj=>t u j (.inl (.inr b))⟩);have⟨q,r,l⟩:=h.eI;have f:l4 y n S.d S.L G D'.bQ false S.v:=by rw[m];exact⟨H.log.row.of_block (p _ (.inl rfl)),H.log.low,eS H.log.own λu b=>p u (.inr b),λu b a=>(o u (.inr b)).2 (.inl (.inr (.inr a))),l.IZ,H.log.many,H.log.small,H.log.sure⟩
 have i:∀u,xT w S.d S.m S.x u\/N u->iG w S u\/N u:=λu c=>by
  rcases c with(c|c)|c
  .exact .inl (.inl (.inl c))
  .exact .inl (.inr c)
  exact .inr c
 have s:∀u,g.T u->¬BH y S.d S.m S.L S.v u:=λu b a=>by
  rcases a with a|a
  .exact h.out u b a
  exact(o u a).2 (.inr b)
 refine⟨⟨h.eI,f,h.idx,s⟩,⟨d.os,d.tape,d.output,d.size,λu b a=>d.block u b (a.imp id λj c=>j (i u c)),λu b a=>?_⟩⟩;rcases a with(a|a)|a
 .exact i u (d.rJ u b (.inl a))
 .exact .inl (.inl (.inr a))
 exact i u (d.rJ u b (.inr a))
def FZ(w:aI)(a:Nat)(h:dV)(c:Nat)(g:Int)(D:aL)(G:cS)(I:aZ)(d:aI):Prop:=∃b:dV,b.d=h.d/\b.m=h.m/\b.L=h.L/\b.x.X=h.x.X/\(∃e f,bJ d a h.d h.m D e f)/\(g≠61->lQ d a b D G I c)/\p7 a (iG w h) (iG d b) w d
def lQ.left{n:Nat}{s:dV}{k:Nat}(H:lQ x n s D G I k)(a:s.d=S.d)(b:s.m=S.m)(c:s.L=S.L)(d:s.x.X=S.x.X)(f:p7 n (iG w S) (iG x s) w x):FZ w n S k e D G I x:=⟨s,a,b,c,d,by rw[<-a,<-b];exact H.eI,λ_=>H,f⟩
def vU(G:cS)(D:aL):(gO G D).2.1.bV=G.bV:=by
 unfold gO;repeat' split
 all_goals rfl
def lQ.CQ(H:lQ w n S D G I m)(h:aR w w x){k:Nat}(j:w<=k)(i:¬DK x k):¬iG x S k:=λb=>by
 have⟨e,f,c⟩:=H.eI;have d:=c.lt;rcases b with((b|b|b)|b|b)|b
 .have b:k=S.m:=b;omega
 .exact i b
 .have g:OwnAt w S.d k:=by unfold OwnAt at b|-;rw[<-dK (a:=zp S.d 9) (h.block S.d d.1)];exact b
  have:=c.ax2 g;omega
 .have:=H.log.row.lt;have b:k=S.L:=b;omega
 .have:=jN H.log.own k b;omega
 have:=(H.idx.lt k b).2;omega
def RT(h:(∃a,Row w n 3 a)\/∃a,Row w n 33 a):¬DK w n:=by
 rcases h with⟨a,h⟩|⟨a,h⟩
 .exact j7 h (by decide)
 exact j7 h (by decide)
def lQ.ixs{h:dV}(H:lQ w n h D G I k):IxS w n h.m h.d h.x I k D:=⟨H.eI,H.idx,λc b a=>H.sep c b (.inl a)⟩
def lQ.cD2{h:dV}(b:¬iG w h n):¬xT w h.d h.m h.x n:=λa=>b (a.elim (λh=>.inl (.inl h)) .inr)
def pI.aC2{h:oZ}(H:pI w k n h I m)(t:B3 x k h.mb zs [])(f:w.grownBy x h.mb):pI x k n {h with mv:=.slice none 0 0} {I with mem:=[]} m:=by have⟨v,B,y,C⟩:=H.ne;have⟨z,M,g,u⟩:=H.map;have e:∀D,D<w.heap.size->D≠h.mb->x.heap[D]?=w.heap[D]?:=λD o p=>f.block D o (λd=>p (cJ d));refine⟨H.row.of_block (e _ H.row.lt v),H.fP.eW λD d c=>e D c (H.apart D (.inl d)).2.2.2.1,t,⟨z,M,oB g (e _ g.lt (λh=>y h.symm)),u⟩,λE L r=>(H.fI E L r).eW λq s c=>e q c (H.apart q (.inr s)).2.2.2.1,H.low,λD d=>?_⟩;have⟨a,b,i,j,l,A⟩:=H.apart D d;exact⟨a,aW b f.size,i,j,l,by simp[Value.ownBlock]⟩
def lQ.aC2(H:lQ w n S D G I k)(g:B3 y n S.x.mb zs [])(b:w.grownBy y S.x.mb):lQ y n {S with x:={S.x with mv:=.slice none 0 0}} D G {I with mem:=[]} k/\p7 n (iG w S) (iG y {S with x:={S.x with mv:=.slice none 0 0}}) w y:=by
 have h:∀m,({S.x with mv:=.slice none 0 0}:oZ).T m->S.x.T m:=λm a=>by
  rcases a with a|a|a|a|a|a
  .exact .inl a
  .exact .inr (.inl a)
  .exact .inr (.inr (.inl a))
  .simp[Value.ownBlock]at a
  .exact .inr (.inr (.inr (.inr (.inl a))))
  exact .inr (.inr (.inr (.inr (.inr a))))
 refine H.PW (H.idx.aC2 g b) b.os b.tape b.output b.size (λm f a=>b.block m f λd=>a (.inr (.inl (cJ d)))) (λm _ a=>h m a) λm a d=>?_;have c:=h m a;by_cases e:m=S.x.mb
 .subst e;exact j7 g.1 (by decide) d
 refine H.sep m c (.inl (.inr (.inl ?_)));have⟨C,t,i,j,l⟩:=d;exact⟨C,t,i,by rw[<-b.block m (H.idx.lt m c).2 (λS=>e (cJ S))];exact j,l⟩
def cJ0(w z:aI)(a:Nat)(h:dV)(c:Nat)(D:aL)(G:cS)(I:aZ)(M:jD)(n:Nat)(L:List dB)(l:Nat->Prop)(e:eY)(d:aI):Prop:=∃(f:bH)(j:Int)(i:aZ)(g:aL)(b:dV),f.length<=128+4*L.length/\e=.returned (.int .i64 j)/\nR I D M n L f=(j,i,g)/\(lQ d a b g G i c/\b.d=h.d/\b.m=h.m/\b.L=h.L/\b.x.X=h.x.X/\b.x.mb=h.x.mb)/\p7 a (iG w h) (iG d b) w d/\∀k,w.heap.size<=k->k<z.heap.size->¬DK z k->¬l k->d.heap[k]?=z.heap[k]?
def lQ.cB5{e:eY}(K:lQ w n S D G I m)(h:aR w w x)(i:∀H,N H->w.heap.size<=H/\¬DK x H)(p:∀f,(nR I D M k L f).2.2.bQ=D.bQ)(C:XV x n S.m S.d S.x I m N D M k L e y):cJ0 w x n S m D G I M k L N e y:=by
 obtain⟨f,j,rfl,F,⟨z,l⟩,B,A⟩:=C;have o:∀H,N H->¬iG x S H:=λH c=>K.CQ h (i H c).1 (i H c).2;have⟨E,g⟩:=(K.next h).CE o (p f) B A;have d:=K.mB h;have b:∀H,H<w.heap.size->(iG x S H\/N H)->iG w S H:=λH c a=>by
  rcases a with a|a
  .exact d.rJ H c a
  have:=(i H a).1;omega
 refine⟨f,_,_,_,_,j,rfl,rfl,⟨E,rfl,rfl,rfl,z,l⟩,⟨g.os.trans d.os,g.tape.trans d.tape,g.output.trans d.output,aM d.size g.size,λH c q=>?_,λH c a=>?_⟩,λH r s t u=>?_⟩
 .rw[g.block H (aW c d.size) (q.imp id λv a=>v (b H c a))];exact d.block H c q
 .exact b H c (g.rJ H (aW c d.size) a)
 exact g.block H s (.inr λa=>a.elim (K.CQ h r t) u)
def UR.del{M:Du}{t:Nat->Option (List dB)}{e:Nat->Nat}(h:UR M t e){n:Nat}:UR (M.del (xJ n)) (jM t n none) e:=by
 refine⟨h.1.del _,λk f c=>?_⟩;unfold jM at c;by_cases d:k=n
 .rw[aV d]at c;cases c
 rw[aP d]at c;have⟨a,b⟩:=h.2 k f c;exact⟨by rw[has_del_other (NK d)];exact a,λz=>by rw[atKey_del_other (NK d)];exact b z⟩
def pI.dropped{h:oZ}{M:Du}(H:pI w k n h I i)(y:UR M I.fI h.tb)(o:x.ownsMap prog 3 uB h.tm j (M.del (xJ m)))(p:j<=I.cZ.next)(r:w.grownBy x h.tm):pI x k n h {I with fI:=jM I.fI m none} i:=by
 have g:∀D,D<w.heap.size->D≠h.tm->x.heap[D]?=w.heap[D]?:=λD t u=>r.block D t (λd=>u (by cases d;rfl));have⟨C,z,A,B⟩:=H.ne;refine⟨H.row.of_block (g _ H.row.lt z),H.fP.eW λD d e=>g D e (H.apart D (.inl d)).2.2.2.2.1,⟨H.mem.1.of_block (g _ H.mem.1.lt A),eS H.mem.2.1 λD d=>g D (jN H.mem.2.1 D d) (B D d).2.2,H.mem.2.2⟩,⟨j,_,o,y.del,p⟩,λD s f=>?_,H.low,λD d=>?_⟩
 .simp only at f;unfold jM at f;by_cases l:D=m
  .rw[aV l]at f;cases f
  rw[aP l]at f;exact(H.fI D s f).eW λq v e=>g q e (H.apart q (.inr v)).2.2.2.2.1
 have⟨a,b,c⟩:=H.apart D d;exact⟨a,aW b r.size,c⟩
def lQ.dropped{M:Du}(H:lQ w n S D G I m)(o:UR M I.fI S.x.tb)(a:x.ownsMap prog 3 uB S.x.tm i (M.del (xJ k)))(g:i<=I.cZ.next)(b:w.grownBy x S.x.tm):lQ x n S D G {I with fI:=jM I.fI k none} m/\p7 n (iG w S) (iG x S) w x:=by
 refine H.PW (x':=S.x) (H.idx.dropped o a g b) b.os b.tape b.output b.size (λp f c=>b.block p f λd=>c (.inr (.inr (.inl (cJ d))))) (λp _ c=>c) λp c d=>?_;by_cases e:p=S.x.tm
 .subst e;exact uD a d
 refine H.sep p c (.inl (.inr (.inl ?_)));have⟨C,t,h,j,l⟩:=d;exact⟨C,t,h,by rw[<-b.block p (H.idx.lt p c).2 (λS=>e (cJ S))];exact j,l⟩
def bj4{I:aZ}{D:aL}(f:bH)(h:e<0\/5<=e):lK I D e f=(2,I,D):=by unfold lK;rw[aV h]
def aO7{I:aZ}{D:aL}(f:bH)(h:¬(e<0\/5<=e))(a:I.cZ.fP.getD e.toNat []=[]):lK I D e f=(4,I,D):=by unfold lK;rw[aP h,aV a]
def bJ9{I I2:aZ}{D D2:aL}{a e:Int}(f:bH)(h:¬(a<0\/5<=a))(b:I.cZ.fP.getD a.toNat []≠[])(d:nR I D ⟨I.cZ.next+1,I.cZ.check,I.cZ.aX,mZ I.cZ.fP a.toNat I.cZ.next⟩ I.cZ.next (kI ((I.cZ.fP.getD a.toNat []).map λn=>(I.fI n).getD [])) f=(e,I2,D2))(c:e≠0):lK I D a f=(e,I2,D2):=by unfold lK;rw[aP h,aP b];simp only[d,ne_eq,c,not_false_eq_true,eH]
def bj3{I I2:aZ}{D D2:aL}(f:bH)(h:¬(e<0\/5<=e))(a:I.cZ.fP.getD e.toNat []≠[])(b:nR I D ⟨I.cZ.next+1,I.cZ.check,I.cZ.aX,mZ I.cZ.fP e.toNat I.cZ.next⟩ I.cZ.next (kI ((I.cZ.fP.getD e.toNat []).map λn=>(I.fI n).getD [])) f=(0,I2,D2)):lK I D e f=lE I2 D2 (I.cZ.fP.getD e.toNat []):=by unfold lK;rw[aP h,aP a];simp only[b,ne_eq,not_true_eq_false,dW]
def qP(D:aL)(n:bH):(D.delete n).2.bQ=D.bQ:=by unfold aL.delete;repeat' (first|rfl|(unfold aL.change)|(unfold aL.kJ)|split|simp only[])
def aB2(D:aL)(n:Nat):(pG D n).2.bQ=D.bQ:=by
 unfold pG;repeat' split
 .exact qP _ _
 .rw[qP,qP]
 show((D.delete (nN n)).2.delete (wE n)).2.bQ=D.bQ;rw[qP,qP]
structure aE1(D:aL)(I:aZ)(k:Int):Prop where
 fI:aD2 I D
 val:kR I.cZ.fP=true
 nn:I.cZ.next∉I.cZ.fP.flatten
 sm:∀n∈I.cZ.fP.flatten,n<4294967296
 nx:I.cZ.next<=999998
 aX:I.cZ.aX<18446744073709551616
 ok:¬(k<0\/5<=k)->I.cZ.fP.getD k.toNat []≠[]->wU ⟨I.cZ.next+1,I.cZ.check,I.cZ.aX,mZ I.cZ.fP k.toNat I.cZ.next⟩=true/\(∀f,(nR I D ⟨I.cZ.next+1,I.cZ.check,I.cZ.aX,mZ I.cZ.fP k.toNat I.cZ.next⟩ I.cZ.next (kI ((I.cZ.fP.getD k.toNat []).map fun n=>(I.fI n).getD [])) f).2.2.bQ=D.bQ)/\(kI ((I.cZ.fP.getD k.toNat []).map fun n=>(I.fI n).getD [])).length<=10000/\tN (kI ((I.cZ.fP.getD k.toNat []).map fun n=>(I.fI n).getD []))=true
def bz6(w:aI)(a:Nat)(h:dV)(b:Nat)(D:aL)(G:cS)(I:aZ)(k:Int)(e:eY)(c:aI):Prop:=∃f:bH,f.length<=128+4*(kI ((I.cZ.fP.getD k.toNat []).map fun n=>(I.fI n).getD [])).length/\e=.returned (.int .i64 (lK I D k f).1)/\FZ w a h b (lK I D k f).1 (lK I D k f).2.2 G (lK I D k f).2.1 c
def lsA(a:Nat->Option (List dB))(b:List Nat)(k:Nat):List (List dB):=(b.take k).map fun n=>(a n).getD []
def cd9{fI:Nat->Option (List dB)}{M:List Nat}(h:M[k]?=n)(a:fI n=L):lsA fI M (k+1)=lsA fI M k++[L]:=by unfold lsA;rw[dL,h];simp[a]
def cu8{a:Nat->Option (List dB)}{M:List Nat}(h:n<=M):(lsA a M n)=n:=by unfold lsA;rw[gK,b8,fX h]
def UA{C:mX}{k:Nat}(h:n∈C.getD k []):n∈C.flatten:=by
 rw[aY]at h;rcases b:C[k]? with _|a
 .rw[b]at h;simp at h
 rw[b]at h;exact tS.2 ⟨a,bC b,h⟩
def ch7{l:mX}{k:Nat}:(l.getD k []).length<=l.flatten:=by
 rw[aY];rcases b:l[k]? with _|a
 .simp
 exact(List.sublist_flatten_of_mem (bC b)).length_le
def cO2(g:aI)(a:Nat)(h:dV)(d:Nat)(G:cS)(k:aZ)(i:aL)(c:List Nat)(j:Nat)(wr:aI):Prop:=∃(f:aZ)(e:aL)(b:dV),lE k i c=lE f e (c.drop j)/\(lQ wr a b e G f d/\b.d=h.d/\b.m=h.m/\b.L=h.L/\b.x.X=h.x.X)/\p7 a (iG g h) (iG wr b) g wr
def drop_at{M:List Nat}(h:M[n]?=k):M.drop n=k::M.drop (n+1):=by have⟨a,b⟩:=aQ.1 h;rw[<-b];exact gZ a
def aT9{M:List Nat}(h:pG D n=(0,E)):lE I D (n::M)=lE {I with fI:=jM I.fI n none} E M:=by
 conv=>lhs;unfold lE
 rw[h];simp only[ne_eq,not_true_eq_false,dW]
def aT8{M:List Nat}(h:pG D n=(e,E))(a:e≠0):lE I D (n::M)=(e,{I with fI:=jM I.fI n none},E):=by unfold lE;rw[h];exact aV a
def aR3(H:lQ w n S D G I k)(hb:n<=w)(yg:D.down=false)(zd:Int)(yc:-9223372036854775808<=zd/\zd<=9223372036854775807)(hq:aE1 D I zd):Calls prog 102 #[zp S.x.X,zd] w (bz6 w n S k D G I zd):=by
 obtain⟨⟨h,K,M,o⟩,O,g⟩:=I;have⟨xa,xb,hd⟩:=H.eI;have HN:=index_none H.idx;have Y:=VQ S.x.lv o zd w H.idx.fP.GQ hq.val yc hq.sm;have⟨A8,c8,xc⟩:=H.idx.fP.slice;obtain⟨-,-,-,-,c4,-⟩:=H.idx.cells;rw[xc]at c4 Y;have⟨yn,HQ,HH,x8,xx,K0⟩:=aE xc hq H hb yg (yA.refl hd H.idx λzd Q h9=>H.sep zd Q (.inl h9));unfold af4 at Y;clear hd hq hb H yg yc xc;simp only at c4;go_in;go_wp2_with fail
 go_call HN as e w' ⟨rfl,rfl⟩;clear HN;by_cases v:zd<0\/5<=zd
 .have FX:=aH (λf=>bj4 (I:=⟨⟨h,K,M,o⟩,O,g⟩) (D:=D) f v);rw[show zV o zd=2 from by unfold zV;rw[aV v]]at Y;clear v;go_wp2_with fail
  go_call Y as e w1 ⟨v1,rfl,-,t⟩;have B1:=aH t;clear Y t c4;go_wp2;go_ret;refine⟨[],by simp,?_⟩;rw[FX.out];exact⟨rfl,(HH.out.next B1.out).left rfl rfl rfl rfl (HH.out.mB B1.out)⟩
 by_cases E:o.getD zd.toNat []=[]
 .have FX:=aH (λf=>aO7 (I:=⟨⟨h,K,M,o⟩,O,g⟩) (D:=D) f v E);rw[show zV o zd=4 from by unfold zV;rw[aP v,aV E]]at Y;clear v E;go_wp2_with fail
  go_call Y as e w1 ⟨v1,rfl,-,t⟩;have B1:=aH t;clear Y t c4;go_wp2;go_ret;refine⟨[],by simp,?_⟩;rw[FX.out];exact⟨rfl,(HH.out.next B1.out).left rfl rfl rfl rfl (HH.out.mB B1.out)⟩
 rw[show zV o zd=0 from by unfold zV;rw[aP v,aP E]]at Y;have⟨xp,xq⟩:=aA (λf e I2 D2 ht he=>bJ9 (I:=⟨⟨h,K,M,o⟩,O,g⟩) (D:=D) (e:=e) (I2:=I2) (D2:=D2) f v E ht he) (λf I2 D2 ht=>bj3 (I:=⟨⟨h,K,M,o⟩,O,g⟩) (D:=D) (I2:=I2) (D2:=D2) f v E ht);obtain⟨F,rfl⟩:∃F:Nat,zd=(F:Int):=⟨zd.toNat,by omega⟩;simp only[bW]at Y xp xq E;obtain⟨ys,yp,yr⟩:=aB (HQ.out.ok v E) (show F<5 from by omega) E;have⟨s,hh⟩:=fR (o.getD F []);have HO:=aH hh;have HT:=λ(x0 y:aI)(hy:yA n S.m S.d S.x ⟨⟨h,K,M,o⟩,O,g⟩ k D xa xb x0 y)(ze:Nat)(L:List dB)(hL:g ze=L)(hn:ze<=999999)(hr:nJ D.files ze L)=>cF6 (hy.TK hL).1 hy.eI (hy.TK hL).2 xx.out hr hn;unfold JB at HT;rw[<-hh]at Y;have⟨N,hN⟩:=fR s.length;have⟨h4,yw⟩:=aA hN HT;rw[<-hN]at Y;clear v E hh HT hN;go_wp2_with fail
 go_call Y as e w1 ⟨v1,rfl,m,t⟩;have m:=m trivial;obtain⟨A3,c3,rfl,-⟩:=id (Reads.cX m);have⟨O3,K3,KW,BW,LF⟩:=aD (iI m dQ) (show yA n S.m S.d S.x ⟨⟨h,K,M,o⟩,O,g⟩ k D xa xb w1 w1 from .refl (K0.out.next t).eI (K0.out.next t).idx (K0.out.next t).out) (HH.out.next t) t (show∀q,(Value.slice A3 N c3).ownBlock=some q->q<w1.heap.size/\¬iG w1 S q from λq xj=>⟨jN m q xj,HH.out.CQ t (dH m q xj) (j7 (dX m xj) iP.2.1)⟩);clear Y m t c4;go_wp2_with fail
 go_loopw [7,9,10,11,35] (λlv _ _ _ i wr=>∃zd:Nat,zd<=N/\i=.int .i64 zd/\mC wr w1 lv (lsA g s zd)/\yA n S.m S.d S.x ⟨⟨h,K,M,o⟩,O,g⟩ k D xa xb w1 wr/\wr.ownsRow w 3 1 (.slice A3 N c3) N (fJ s)) (λ_ _ _ _ i _=>N-(intOf i).toNat)
 .exact⟨0,bK _,rfl,⟨[],rfl,bM _ _ _ _,λzd x l hx=>by simp at hx⟩,K3.out,O3.out⟩
 obtain⟨zd,Q,rfl,hg,C,ho⟩:=hrel;obtain⟨xo,xz,rfl⟩:=hg.form;have x3:(lsA g s zd).length=zd:=cu8 (by rw[<-h4.out];exact Q);rw[x3]at hg|-;have⟨LS,KR,OR⟩:=aB hg C ho;have c7:=C.idx.cells.2.2.2.2.2.2.2;have h3:=aH x3;have yh:=C.fr.size;have za:N<=40:=by have h1:=HQ.out.val;unfold kR at h1;rw[bG]at h1;have h2:=ch7 (l:=o) (k:=F);rw[<-HO.out,<-h4.out]at h2;exact aM h2 h1.2.1
 by_cases z7:zd<N
 .have i1:(zd:Int)<N:=(by omega);obtain⟨ze,hn⟩:∃ze,s[zd]?=some ze:=⟨_,aJ (by rw[<-h4.out];exact z7)⟩;have⟨h6,L,hL,hr,xd⟩:=HQ.out.fI.fI ze (UA (k:=F) (by rw[<-HO.out];exact bC hn));simp only at hL;obtain⟨b,xn,rfl,-,-,-,u⟩:=(Reads.cX ho).UK (by omega);have c0:wr.cell? (zp b (xn+zd))=some (.int .i64 ze):=(u wr iH zd (by have V:(fJ s)=N:=ho.1.trans (sG N);omega)).trans (by rw[sP hn]);have yd:=ZR C.idx h6 hL;have yf:=yw.out w1 wr C ze L hL h6 hr;have⟨yu,xr⟩:=aA (cd9 (fI:=g) hn hL) (show OkL L from hr.ok);clear hg C ho hn hL hr u x3 xd;go_wp2_with fail
  go_call yf as y w4 ⟨v4,rfl,W,hf⟩;obtain⟨A4,c9,rfl,-⟩:=id (Reads.cX W);have⟨K4,L4,O4,Q4⟩:=aC (KR.out.yH hf.eI hf.fr) (LS.out.yH KR.out.eI hf.fr) (hf.fr.own OR.out iP.2.1 KR.out.eI.map) (iI W yh);have zb:w1.heap.size<=w4:=K4.out.fr.size;have⟨us,u1,u2,u3⟩:=id L4.out;rw[h3.out]at u1 u2;have U:=aH (And.intro u1 (And.intro u2 u3));clear yf W hf yd c0 c7 u1 u2 u3;(go_wp2_with (at_builtin;refine MG aR0 underlying222 U.out.2.1 rfl rfl rfl rfl rfl (by omega) (by omega) ?_;intro v5 w5 hi yb y6;have H5:=aH (And.intro hi yb);clear hi yb y6));have h5:=(bR w4 w4).alloc dQ (.cells #[.slice A4 L c9] 113);go_roundw
  .
   refine⟨zd+1,by omega,by go_num,?_,?_,?_⟩
   .rw[yu.out];exact mC.snoc (w:=w4) (by rw[h3.out];exact U.out.1) U.out.2.2 Q4.out xr.out h5 H5.out.2 (by rw[h3.out];exact bY U.out.2.1 h5) (by rw[h3.out];exact H5.out.1)
   .exact(K4.out.next h5).grown (λzd Q=>(KW.out.idx.lt zd Q).2) H5.out.2 λq hq=>⟨dH U.out.2.1 q hq,_,_,dX (bY U.out.2.1 h5) hq,KM.1,KM.2.1⟩
   have:=bY O4.out h5;exact eS this λq hq=>H5.out.2.block q (jN this q hq) λh9=>by have h8:=dD (dX this hq) (dX (bY U.out.2.1 h5) h9.symm);exact absurd h8 (by decide)
  simp[intOf];omega
 obtain rfl:zd=N:=(by omega);have i1:¬(zd:Int)<zd:=(by omega);have KS:=aH (KW.out.qI rfl ⟨_,_,C.eI⟩ C.fr);have hu:=HQ.out.val;unfold kR at hu;rw[bG]at hu;have ha:=BN S.x.lv ⟨h,K,M,o⟩ wr C.idx.fP.GQ (by simp only at *;omega) (by simp only at *;omega);obtain⟨-,c1,c2,y0,c4,-⟩:=C.idx.cells;rw[yn.out]at c4 ha;unfold zL mN at ha;simp only at c1 c2 y0 c4 ha;clear hg C ho x3 c7 hu;go_wp2_with fail
 go_call ha as e J ⟨zc,rfl,xl,xg⟩;have⟨A9,c9,yz⟩:=(xl.ai3 dQ).slice;subst yz;have b4:=aK xg (eA J (.cells #[h,K,zu M,.slice A9 o c9] 57));have r4:=Row.new J #[h,K,zu M,.slice A9 o c9] 57;have hA:=ZT (.slice A9 o c9) o F h _ ((xl.next (eA J (.cells #[h,K,zu M,.slice A9 o c9] 57))).GQ) HQ.out.val yp.out yr.out (by have:=HQ.out.nx;simp only at this;omega) HQ.out.nn HQ.out.sm;have⟨B4,R4,G3⟩:=aB b4 r4 xg.size;clear ha xl xg c1 c2 y0 c4 b4 r4 i1;unfold aY3 at hA;go_wp2_with fail
 go_call hA as e w5 ⟨v5,rfl,xm,hw⟩;have⟨A5,c5,yy⟩:=(xm.ai3 dQ).slice;subst yy;have⟨B5,R5,xw,G5⟩:=aC (aK B4.out hw) (R4.out.next hw) xm hw.size;obtain⟨⟨r0,r1,r2,r3⟩,f0,f1,f2,f3⟩:=gR R5.out;clear hA hw xm;(go_wp2_with fail);rw[show wrap64 ((h:Int)+1)=((h+1:Nat):Int)from by have:=HQ.out.nx;simp only at this;unfold wrap64;omega];have xe:kI (lsA g s zd)=kI ((o.getD F []).map λze=>(g ze).getD []):=by unfold lsA;rw[h4.out,eX,HO.out]
 have⟨R,hR⟩:=fR (kI ((o.getD F []).map λze=>(g ze).getD []));have h7:=ys.out;have FN:=xp.out;have FY:=xq.out;simp only[bW,<-hR]at h7 FN FY;rw[<-hR]at xe;have⟨xt,x9,FN,FY⟩:=aC h7 hR FN FY;have HD:=aH (λ(z:aI)(V:aR wr wr z)=>show Calls prog 161 #[.slice xo zd xz] z (λe w'=>∃A c,e=.returned (.slice A R c)/\w'.ownsRow z 152 3 (.slice A R c) R (gV R)/\(∀e∈R,wC e)/\aR z z w')from by
  have:=RM (.slice xo zd xz) (lsA g s zd) z (LS.out.next V).lists (by rw[h3.out];omega) (by
   have:=aG3 (ls:=lsA g s zd) (λl hl=>by unfold lsA at hl;obtain⟨ze,hn,rfl⟩:=dS.1 hl;obtain⟨-,L,hL,-,xd⟩:=HQ.out.fI.fI ze (UA (k:=F) (by rw[<-HO.out];exact lM hn));simp only at hL;rw[hL];exact xd);rw[h3.out]at this;omega)
  rwa[xe]at this)
 clear xe hR h7 r0 r1 r2 r3 f0 f1 f2 f3;have BY:=aH ((B5.out.setCell (p:=zp J 3) G3.out (.slice A5 (mZ o F h) c5)).setCell (p:=zp J) G3.out ((h+1:Nat):Int));obtain⟨KY,RY,LY⟩:=aB (KS.out.1.next BY.out) ((R5.out.set 3 (.slice A5 (mZ o F h) c5)).set 0 ((h+1:Nat):Int)) (((xw.out.aI0 R5.out 3 (.slice A5 (mZ o F h) c5)).aI0 (R5.out.set 3 _) 0 ((h+1:Nat):Int)).ai3 (base:=n) (by have:=x8.out;have:=BW.out.size;have:=G3.out;rw[bD];omega));clear xw R5 B5 G5;generalize (w5.setCell _ _).setCell _ _=y at KY BY RY LY|-;simp only[oS,oR]at RY;rw[bD]at LY;have HS:=aH (λ(z:aI)(V:aR y y z)=>show z.cell? (zp J)=((h+1:Nat):Int)/\z.cell? (zp J 1)=K/\z.cell? (zp J 2)=zu M/\z.cell? (zp J 3)=some (.slice A5 (mZ o F h) c5)from by
  obtain⟨⟨a,b,c,d⟩,-⟩:=gR (RY.out.next V);exact⟨a,b,c,d⟩)
 have yv:=aH (λ(z:aI) (vl:aN) (B:Nat) (V:aR y y z) (ho:z.ownsRow B 152 3 vl R (gV R)) (hR:∀e∈R,wC e)=>show Calls prog 155 #[zp S.x.X,.agg #[((h+1:Nat):Int),K,zu M,.slice A5 (mZ o F h) c5],h,vl] z (λe w7=>cJ0 wr z n S k D G ⟨⟨h,K,M,o⟩,O,g⟩ ⟨h+1,K,M,mZ o F h⟩ h R (λzd=>(J.heap.size+1<=zd/\zd<y.heap.size/\((∃X,Row y zd 3 X)\/∃X,Row y zd 33 X))) e w7)from by
  have hv:∀zd,(J.heap.size+1<=zd/\zd<y.heap.size/\((∃X,Row y zd 3 X)\/∃X,Row y zd 33 X))->wr.heap.size<=zd/\¬DK z zd:=λzd Q=>⟨by have:=G3.out;omega,RT (Q.2.2.imp (λ⟨X,S⟩=>⟨X,S.next V⟩) (λ⟨X,S⟩=>⟨X,S.next V⟩))⟩;have q1:n<=wr:=aM x8.out (aM BW.out.size yh);have q2:=HQ.out.nx;simp only at q2;have⟨o1,o2,o3,o4⟩:=xt.out;refine(ZZ (KY.out.next V).ixs (aM q1 (aM BY.out.size V.size)) xx.out _ vl ⟨h+1,K,M,mZ o F h⟩ _ (LY.out.eW λzd _ Q=>V.block zd Q) (λzd Q=>⟨aM q1 (hv zd Q).1,aW Q.2.1 V.size,lQ.cD2 (h:=S) (KS.out.1.CQ (aK BY.out V) (hv zd Q).1 (hv zd Q).2)⟩) o1 HQ.out.aX h (by omega) rfl (by simp only;omega) R B ho o3 o4 hR).mono ?_;intro e w7 ht;exact KS.out.1.cB5 (aK BY.out V) hv o2 ht)
 have yt:=aH (λ(z w7:aI) (V:aR y y z) (Q:∀zd,wr.heap.size<=zd->zd<z.heap.size->¬DK z zd->¬(J.heap.size+1<=zd/\zd<y.heap.size/\((∃X,Row y zd 3 X)\/∃X,Row y zd 33 X))->w7.heap[zd]?=z.heap[zd]?)=>show w7.cell? (zp J)=((h+1:Nat):Int)/\w7.cell? (zp J 1)=K/\w7.cell? (zp J 2)=zu M/\w7.cell? (zp J 3)=some (.slice A5 (mZ o F h) c5)from by
  have rz:=RY.out.next V;obtain⟨⟨a,b,c,d⟩,-⟩:=gR (rz.of_block (Q _ G3.out rz.lt (j7 rz (by decide)) (λh9=>by omega)));exact⟨a,b,c,d⟩)
 go_region_held3 (λz=>z.cell? (zp J)=((h+1:Nat):Int)/\z.cell? (zp J 1)=K/\z.cell? (zp J 2)=zu M/\z.cell? (zp J 3)=some (.slice A5 (mZ o F h) c5))
  (first|(exact yt.out _ _ (aK iH.drew x1) y4)|(exact HS.out _ (aK iH.drew x1))|(exact HS.out _ iH.drew)|fail)
  (first|(go_at_call 161;go_call HD.out _ (aK BY.out iH.drew) as e wD ⟨Ad,cd,rfl,hp,x5,x1⟩)|(go_at_call 155;go_call yv.out _ _ _ (aK iH.drew x1) hp x5 as e w7 ⟨f,e2,I2,D2,h2,ya,rfl,y5,y2,y1,y4⟩)|fail)
 all_goals
  have⟨X7,K7,E7,FL⟩:=aC y5 y2 (KS.out.2.trans y1) ya;clear y5 y2 y1 y4 ya hp x1 x5;by_cases h9:e2=0
  .subst h9;have x7:=aH (FY.out f I2 D2 X7.out);rw[<-HO.out]at x7;have⟨z1,z2,z3,z4,z5,z6⟩:=K7.out;have D7:=aH (show cO2 w1 n S k G I2 D2 s 0 w7 from⟨I2,D2,h2,by rw[mQ],⟨z1,z2,z3,z4,z5⟩,E7.out⟩);clear z1 z2 z3 z4 z5 z6;(go_wp2_with fail);go_loopw [16,17,90] (λ_ _ i wq=>∃j:Nat,j<=zd/\i=.int .i64 j/\cO2 w1 n S k G I2 D2 s j wq) (λ_ _ i _=>zd-(intOf i).toNat)
   .exact⟨0,bK _,rfl,D7.out⟩
   obtain⟨j,hj,rfl,I',D',h',y8,⟨hs,xh,ye,y3,xf⟩,x2⟩:=hrel;have⟨q0,q1⟩:=x2.clear (T:=λq=>(Value.slice A3 zd c3).ownBlock=q) LF.out;have ho:=eS O3.out q1;obtain⟨c0,-,-,-,-,-,-,c7⟩:=hs.idx.cells;rw[xf]at c0 c7;rw[xh]at c0;have⟨SS,SE,P,SD⟩:=aC hs x2 (And.intro xh (And.intro ye (And.intro y3 xf))) y8;have yi:=x2.size;clear q0 q1 hs x2 xh ye y3 xf y8;by_cases z0:j<zd
   .have i1:(j:Int)<zd:=(by omega);obtain⟨ze,hn⟩:∃ze,s[j]?=some ze:=⟨_,aJ (by rw[<-h4.out];exact z0)⟩;obtain⟨h6,-⟩:=HQ.out.fI.fI ze (UA (k:=F) (by rw[<-HO.out];exact bC hn));obtain⟨b,xn,rfl,-,-,-,u⟩:=(Reads.cX ho).UK (by omega);have cn:wr.cell? (zp b (xn+j))=some (.int .i64 ze):=(u _ iH j (by have V:(fJ s)=zd:=ho.1.trans (sG zd);omega)).trans (by rw[sP hn]);have⟨nt,Mp,yj,yk,yl⟩:=SS.out.idx.map;have⟨xy,yx⟩:=aA (And.intro yk yl) yj;have x4:=GS h6;have⟨yo,yq,HJ⟩:=aB (show n<=wr from aM x8.out (aM BW.out.size yi)) h6 (drop_at hn);clear ho u yj yk yl hn h6;go_wp2_with (first
     |(at_delete;refine wpList_delete_own _ rfl _ _ 98 3 rfl 214 cg3 underlying98 uB h'.x.tm nt Mp rfl yx.out _ _ rfl x4 ?_;intro w8 hm h0;have H8:=aH (SS.out.dropped xy.out.1 hm xy.out.2 h0.grown);have q8:=H8.out.1.idx.cells.1;rw[P.out.1,P.out.2.2.2]at q8;clear hm h0))
    have⟨z8,z9,xi⟩:=H8.out.1.eI;rw[P.out.1,P.out.2.1]at xi;have hc:=bu5 xi (aM yo.out H8.out.2.size) ze yq.out;have Z:=aB2 D' ze;obtain⟨⟨e8,D8⟩,xk⟩:∃r,r=pG D' ze:=⟨_,rfl⟩;rw[<-xk]at hc Z;unfold rI at hc;simp only at hc Z;have⟨xu,xv⟩:=aA xk.symm Z;clear xi xk Z q8 cn c0 c7 x4;go_call hc as e w9 ⟨rfl,y7,y9⟩;have H9:=aH (H8.out.1.qI (w':=w9) xv.out (by rw[P.out.1,P.out.2.1];exact y7) (by rw[P.out.2.1];exact y9));clear hc y7 y9;by_cases h9:e8=0
    .subst h9;go_wp2;go_roundw
     .refine⟨j+1,by omega,by go_num,{I' with fI:=jM I'.fI ze none},D8,h',?_,⟨H9.out.1,P.out⟩,SE.out.trans (H8.out.2.trans H9.out.2)⟩;rw[SD.out,HJ.out];exact aT9 xu.out
     simp[intOf];omega
    have HF:=aH (show lE I2 D2 s=(e8,{I' with fI:=jM I'.fI ze none},D8)from by
     rw[SD.out,HJ.out];exact aT8 xu.out h9)
    have x6:=aH (x7.out.trans HF.out);go_wp2;go_ret;refine⟨f,by rw[bW,<-x9.out];exact FL.out,?_⟩;rw[x6.out];exact⟨rfl,H9.out.1.left P.out.1 P.out.2.1 P.out.2.2.1 P.out.2.2.2 (((HH.out.mB BW.out).trans SE.out).trans (H8.out.2.trans H9.out.2))⟩
   obtain rfl:j=zd:=(by omega);have HF:=aH (show lE I2 D2 s=(0,I',D')from by
    rw[SD.out,h4.out,List.drop_length];rfl)
   have x6:=aH (x7.out.trans HF.out);have i1:¬(j:Int)<j:=(by omega);clear ho;go_wp2;go_ret;refine⟨f,by rw[bW,<-x9.out];exact FL.out,?_⟩;rw[x6.out];exact⟨rfl,SS.out.left P.out.1 P.out.2.1 P.out.2.2.1 P.out.2.2.2 ((HH.out.mB BW.out).trans SE.out)⟩
  have ym:=aH (FN.out f e2 I2 D2 X7.out h9);go_wp2;go_ret;refine⟨f,by rw[bW,<-x9.out];exact FL.out,?_⟩;rw[ym.out];have⟨s1,s2,s3,s4,s5,s6⟩:=K7.out;exact⟨rfl,s1.left s2 s3 s4 s5 ((HH.out.mB BW.out).trans E7.out)⟩
structure aE6(D:aL)(G:cS)(I:aZ):Prop where
 sync:(gO G D).1≠61->(gO G D).2.2.down=false/\(gO G D).2.2.bQ=D.bQ
 val:kR I.cZ.fP=true
 nn:I.cZ.next∉I.cZ.fP.flatten
 sm:∀n∈I.cZ.fP.flatten,n<4294967296
 nx:I.cZ.next<=999998
 ok:¬40<=I.cZ.fP.flatten.length->I.mem≠[]->wU ⟨I.cZ.next+1,kF G.bV,I.cZ.aX,pY I.cZ.fP I.cZ.next⟩=true
 aX:I.cZ.aX<18446744073709551616
 st:∀f,(jS I G D f).2.2.2.bQ=D.bQ
 mem:I.mem.length<=10000/\tN I.mem=true/\OkL I.mem
def Y0(w:aI)(a:Nat)(h:dV)(b:Nat)(D:aL)(G:cS)(I:aZ)(e:eY)(c:aI):Prop:=∃f:bH,f.length<=128+4*I.mem.length/\e=.returned (.int .i64 (jS I G D f).1)/\FZ w a h b (jS I G D f).1 (jS I G D f).2.2.2 (jS I G D f).2.2.1 (jS I G D f).2.1 c
def bn4{I:aZ}{M:cS}(f:bH)(h:gO G D=(e,M,E))(a:e≠0):jS I G D f=(e,I,M,E):=by unfold jS;simp only[h,ne_eq,a,not_false_eq_true,eH]
def bn3{I:aZ}{M:cS}(f:bH)(h:gO G D=(0,M,E))(a:I.mem=[]):jS I G D f=(0,I,M,E):=by unfold jS;simp only[h,ne_eq,not_true_eq_false,dW,a,eH]
def aS5{I:aZ}{M:cS}(f:bH)(h:gO G D=(0,M,E))(b:I.mem≠[])(a:40<=I.cZ.fP.flatten.length):jS I G D f=(60,I,M,E):=by unfold jS;simp only[h,ne_eq,not_true_eq_false,dW,b,eH,a]
def VZ{M:cS}{F:aL}(f:bH)(h:gO G D=(0,M,E))(b:I.mem≠[])(a:¬40<=I.cZ.fP.flatten.length)(c:nR I E ⟨I.cZ.next+1,kF G.bV,I.cZ.aX,pY I.cZ.fP I.cZ.next⟩ I.cZ.next I.mem f=(e,J,F)):jS I G D f=(e,if e=0 then {J with mem:=[]} else J,M,F):=by unfold jS;simp only[h,ne_eq,not_true_eq_false,dW,b,a,c]
def aR4(H:lQ w n S D G I k)(hb:n<=w)(hg:D.down=false)(hq:aE6 D G I):Calls prog 101 #[zp S.x.X,zp S.L] w (Y0 w n S k D G I):=by
 obtain⟨⟨g,P,q,i⟩,h,l⟩:=I;have⟨xe,xf,hd⟩:=H.eI;have HN:=index_none H.idx;have HL:=ap2 H.log hd hb hg;obtain⟨⟨e1,G1,D1⟩,hr⟩:∃r,r=gO G D:=⟨_,rfl⟩;have hy:G1.bV=G.bV:=by have:=vU G D;rwa[<-hr]at this
 rw[<-hr]at HL;unfold LOp at HL;simp only at HL;have⟨R,s,HH,x3,xd⟩:=aD hr.symm hq H hy hb;clear hr hd hy hq hb H;go_in;go_wp2_with fail
 go_call HN as e w' ⟨rfl,rfl⟩;clear HN;go_wp2_with fail
 go_call HL as e w1 ⟨rfl,N,⟨v',x7,h0,L,o⟩,J⟩;clear HL;have E1:=aH (p7.orS (h:=S) (h':={S with v:=v'}) rfl (p7.PH J HH.zz.log.eI L));by_cases h1:e1=0
 .subst h1;obtain rfl:=o (by decide);have hx:=s.zz.sync (by rw[R.zz];show¬((0:Int)=61);decide);rw[R.zz]at hx;have⟨h6,h5⟩:=hx;obtain⟨t,x6⟩:=aA (HH.zz.yN N (by rw[h5];exact h0) J L).1 h6;clear N h0 L o J h6 h5;have K:=cq5 t.zz.idx.mem;simp only at K;have⟨c0,c1,c2,c3,c4,T,c6,c7⟩:=t.zz.idx.cells;by_cases A:h=[]
  .have FX:=aH (λf=>bn3 (I:=⟨⟨g,P,q,i⟩,h,l⟩) f R.zz A);rw[A]at K;clear A;(go_wp2_with fail);go_call K as e w' ⟨rfl,rfl⟩;go_wp2;go_ret;refine⟨[],by simp,?_⟩;rw[FX.zz];exact⟨rfl,t.zz.left rfl rfl rfl rfl E1.zz⟩
  have hv:(((h.length:Nat):Int)==0)=false:=by rw[bA];intro C;have:=eG.1 (Int.ofNat.inj C);exact A this
  have N2:=aH A;obtain⟨xb,xa,-⟩:=id t.zz.idx.cd3;have O:=s.zz.val;unfold kR at O;rw[bG]at O;have Z:=BN S.x.lv ⟨g,P,q,i⟩ w1 t.zz.idx.fP.GQ (by simp only at *;omega) (by simp only at *;omega);have⟨A8,c8,ha⟩:=t.zz.idx.fP.slice;rw[ha]at c4 Z;unfold zL mN at Z;simp only at *;have xc:=aH ha;clear ha;clear A xa xb O;go_wp2_with fail
  go_call K as e w' ⟨rfl,rfl⟩;clear K;go_wp2_with fail
  go_call Z as e j ⟨xg,rfl,h3,X⟩;have⟨A9,c9,x9⟩:=(h3.ai3 dQ).slice;subst x9;have⟨x4,x1⟩:=aA h3 X;have b4:=aK X (eA j (.cells #[.int .i64 g,.int .i64 P,.int .u64 q,.slice A9 i.length c9] 57));have r4:=Row.new j #[.int .i64 g,.int .i64 P,.int .u64 q,.slice A9 i.length c9] 57;have hA:=bk6 (.slice A9 i.length c9) i g _ ((h3.next (eA j (.cells #[.int .i64 g,.int .i64 P,.int .u64 q,.slice A9 i.length c9] 57))).GQ) s.zz.val (by have:=s.zz.nx;simp only at this;omega) s.zz.nn s.zz.sm;have⟨B4,R4⟩:=aA b4 r4;have hs:w1.heap.size<=j.heap.size:=X.size;have V:=aH hs;clear Z h3 X c0 c1 c2 c3 c4 T c6 c7 hv hg x4 x1 hs b4 r4;unfold bz9 at hA;by_cases h4:40<=i.flatten.length
  .simp only[h4,eH]at hA;have FX:=aH (λf=>aS5 (I:=⟨⟨g,P,q,i⟩,h,l⟩) f R.zz N2.zz h4);clear h4;(go_wp2_with fail);go_call hA as e w5 ⟨v5,rfl,-,m⟩;have⟨K5,E5⟩:=aA (t.zz.next (aK B4.zz m)) (E1.zz.trans (t.zz.mB (aK B4.zz m)));clear hA m;go_wp2;go_ret;refine⟨[],by simp,?_⟩;rw[FX.zz];exact⟨rfl,K5.zz.left rfl rfl rfl rfl E5.zz⟩
  simp only[h4,dW]at hA;have N4:=aH h4;clear h4;go_wp2_with fail
  go_call hA as e w5 ⟨v5,rfl,hw,m⟩;have hf:=(hw (λC=>C)).toU (by have:=(aX5 i g (by have:=s.zz.val;unfold kR at this;rw[bG]at this;exact this.1)).1;omega);have⟨A5,T,x8⟩:=(hf.ai3 dQ).slice;subst x8;have⟨K5,B5,R5⟩:=aB (t.zz.next (aK B4.zz m)) (aK B4.zz m) (R4.zz.next m);have HE:=XP K5.zz.log;simp only[x3.zz]at HE;have⟨x5,G5⟩:=aA hf m.size;clear hA m hw hf;go_wp2_with fail
  go_call HE as e w6 ⟨rfl,F⟩;have⟨R6,B6,hj,G6⟩:=aC (R5.zz.next F) (aK B5.zz F) (x5.zz.next F) F.size;obtain⟨⟨r0,r1,r2,r3⟩,f0,f1,f2,f3⟩:=gR R6.zz;clear HE F;(go_wp2_with fail);have⟨E,hE⟩:=fR (kF G.bV);have h7:=s.zz.ok N4.zz N2.zz;have hi:∀f,(nR ⟨⟨g,P,q,i⟩,h,l⟩ D1 ⟨g+1,E,q,pY i g⟩ g h f).2.2.bQ=D1.bQ:=λf=>by have C:=s.zz.st f;rw[VZ f R.zz N2.zz N4.zz rfl,<-hE]at C;have h8:=s.zz.sync (by rw[R.zz];show¬((0:Int)=61);decide);rw[R.zz]at h8;exact C.trans h8.2.symm
  have FX:=aH (λ(f:bH) (e2:Int) (I2:aZ) (D2:aL) (ht:nR ⟨⟨g,P,q,i⟩,h,l⟩ D1 ⟨g+1,E,q,pY i g⟩ g h f=(e2,I2,D2))=>VZ f R.zz N2.zz N4.zz (hE▸ht));simp only[<-hE]at h7|-;clear hE;rw[show wrap64 ((g:Int)+1)=((g+1:Nat):Int)from by have:=s.zz.nx;simp only at this;unfold wrap64;omega];obtain⟨KY,BY,RY,LY⟩:=aC (t.zz.next (((B6.zz.setCell (p:=⟨j.heap.size,3,none⟩) V.zz (.slice A5 (pY i g).length T)).setCell (p:=⟨j.heap.size,0,none⟩) V.zz (.int .i64 ((g+1:Nat):Int))).setCell (p:=⟨j.heap.size,1,none⟩) V.zz (.int .i64 E))) (((B6.zz.setCell (p:=⟨j.heap.size,3,none⟩) V.zz (.slice A5 (pY i g).length T)).setCell (p:=⟨j.heap.size,0,none⟩) V.zz (.int .i64 ((g+1:Nat):Int))).setCell (p:=⟨j.heap.size,1,none⟩) V.zz (.int .i64 E)) (((R6.zz.set 3 (.slice A5 (pY i g).length T)).set 0 (.int .i64 ((g+1:Nat):Int))).set 1 (.int .i64 E)) ((((hj.zz.aI0 R6.zz 3 (.slice A5 (pY i g).length T)).aI0 (R6.zz.set 3 _) 0 (.int .i64 ((g+1:Nat):Int))).aI0 ((R6.zz.set 3 _).set 0 _) 1 (.int .i64 E)).ai3 (base:=n) (by have:=t.zz.idx.row.lt;have:=t.zz.idx.low.1;have:=V.zz;rw[bD];omega));clear r0 r1 r2 r3 f0 f1 f2 f3;clear hj R6 B6;generalize ((w6.setCell _ _).setCell _ _).setCell _ _=y at KY BY RY LY|-;simp only[oS,oR]at RY;rw[bD]at LY;have HS:=aH (λ(z:aI)(u:aR y.heap.size y z)=>show z.cell? ⟨j.heap.size,0,none⟩=some (.int .i64 ((g+1:Nat):Int))/\z.cell? ⟨j.heap.size,1,none⟩=some (.int .i64 E)/\z.cell? ⟨j.heap.size,2,none⟩=some (.int .u64 q)/\z.cell? ⟨j.heap.size,3,none⟩=some (.slice A5 (pY i g).length T)/\z.cell? ⟨S.x.X,6,none⟩=some (.pointer (some ⟨S.x.mb,0,none⟩))from by
   obtain⟨⟨a,b,c,d⟩,-⟩:=gR (RY.zz.next u);exact⟨a,b,c,d,(KY.zz.next u).idx.cells.2.2.2.2.2.2.1⟩)
  have HD:=aH (λ(z:aI)(u:aR y.heap.size y z)=>bV3 (KY.zz.next u).idx.mem (by have:=s.zz.mem.1;simp only at this|-;omega));have HT:=aH (λ(z:aI) (vl:aN) (B:Nat) (u:aR y.heap.size y z) (ho:z.ownsRow B 152 3 vl h.length (gV h))=>show Calls prog 155 #[.pointer (some ⟨S.x.X,0,none⟩),.agg #[.int .i64 ((g+1:Nat):Int),.int .i64 E,.int .u64 q,.slice A5 (pY i g).length T],.int .i64 g,vl] z (λe Q=>cJ0 w1 z n {S with v:=v'} k D1 G1 ⟨⟨g,P,q,i⟩,h,l⟩ ⟨g+1,E,q,pY i g⟩ g h (λxh=>j.heap.size+1<=xh/\xh<y.heap.size/\((∃x,Row y xh 3 x)\/∃x,Row y xh 33 x)) e Q)from by
   have W:∀xh,(j.heap.size+1<=xh/\xh<y.heap.size/\((∃x,Row y xh 3 x)\/∃x,Row y xh 33 x))->w1.heap.size<=xh/\¬DK z xh:=λxh U=>⟨by have:=V.zz;omega,RT (U.2.2.imp (λ⟨x,S⟩=>⟨x,S.next u⟩) (λ⟨x,S⟩=>⟨x,S.next u⟩))⟩;have q1:n<=w1.heap.size:=(by have:=t.zz.idx.row.lt;have:=t.zz.idx.low.1;simp only at *;omega);have q2:=s.zz.nx;simp only at q2;refine(ZZ (KY.zz.next u).ixs (aM q1 (aM BY.zz.size u.size)) x6.zz _ vl ⟨g+1,E,q,pY i g⟩ _ (LY.zz.eW λxh _ U=>u.block xh U) (λxh U=>⟨aM q1 (W xh U).1,aW U.2.1 u.size,lQ.cD2 (h:={S with v:=v'}) (t.zz.CQ (aK BY.zz u) (W xh U).1 (W xh U).2)⟩) h7 s.zz.aX g (by omega) rfl (by simp only;omega) h B ho s.zz.mem.1 s.zz.mem.2.1 s.zz.mem.2.2).mono ?_;intro e Q ht;exact t.zz.cB5 (aK BY.zz u) W hi ht)
  have x2:=aH (λ(z Q:aI) (u:aR y.heap.size y z) (A:dV) (I2:aZ) (D2:aL) (k7:lQ Q n A D2 G1 I2 k/\A.d=S.d/\A.m=S.m/\A.L=S.L/\A.x.X=S.x.X/\A.x.mb=S.x.mb) (U:∀xh,w1.heap.size<=xh->xh<z.heap.size->¬DK z xh->¬(j.heap.size+1<=xh/\xh<y.heap.size/\((∃x,Row y xh 3 x)\/∃x,Row y xh 33 x))->Q.heap[xh]?=z.heap[xh]?)=>show Q.cell? ⟨j.heap.size,0,none⟩=some (.int .i64 ((g+1:Nat):Int))/\Q.cell? ⟨j.heap.size,1,none⟩=some (.int .i64 E)/\Q.cell? ⟨j.heap.size,2,none⟩=some (.int .u64 q)/\Q.cell? ⟨j.heap.size,3,none⟩=some (.slice A5 (pY i g).length T)/\Q.cell? ⟨S.x.X,6,none⟩=some (.pointer (some ⟨S.x.mb,0,none⟩))from by
   have rz:=RY.zz.next u;obtain⟨⟨a,b,c,d⟩,-⟩:=gR (rz.of_block (U _ V.zz rz.lt (j7 rz (by decide)) (λC=>by omega)));have⟨s1,s2,s3,s4,s5,s6⟩:=k7;have:=s1.idx.cells.2.2.2.2.2.2.1;rw[s5,s6]at this;exact⟨a,b,c,d,this⟩)
  clear h7 hi;go_region_held3 (λz=>z.cell? ⟨j.heap.size,0,none⟩=some (.int .i64 ((g+1:Nat):Int))/\z.cell? ⟨j.heap.size,1,none⟩=some (.int .i64 E)/\z.cell? ⟨j.heap.size,2,none⟩=some (.int .u64 q)/\z.cell? ⟨j.heap.size,3,none⟩=some (.slice A5 (pY i g).length T)/\z.cell? ⟨S.x.X,6,none⟩=some (.pointer (some ⟨S.x.mb,0,none⟩)))
   (first|(exact x2.zz _ _ (aK iH.drew Y) _ _ _ he hm)|(exact HS.zz _ (aK iH.drew Y))|(exact HS.zz _ iH.drew)|fail)
   (first|(go_at_call 156;go_call HD.zz _ iH.drew as e wD ⟨vd,rfl,M,Y⟩)|(go_at_call 155;go_call HT.zz _ _ _ (aK iH.drew Y) M as e Q ⟨f,e2,I2,D2,A,hp,rfl,hn,he,hl,hm⟩)|fail)
  all_goals
   have⟨X7,K7,E7,FL⟩:=aC hn he (E1.zz.trans hl) hp;clear hn he hl hm hp M Y;have c6:=K7.zz.1.idx.cells.2.2.2.2.2.2.1;rw[K7.zz.2.2.2.2.1,K7.zz.2.2.2.2.2]at c6;by_cases C:e2=0
   .subst C;have hc:=bB7 K7.zz.1.idx.mem;rw[K7.zz.2.2.2.2.2]at hc;(go_wp2_with fail);go_call hc as e w8 ⟨rfl,x0,hu⟩;have T8:=aH (And.intro x0 hu);clear hc x0 hu;go_wp2;go_ret;refine⟨f,FL.zz,?_⟩;rw[FX.zz _ _ _ _ X7.zz];have⟨s1,s2,s3,s4,s5,s6⟩:=K7.zz;have⟨t8,g8⟩:=T8.zz;rw[<-s6]at t8 g8;have⟨k8,v8⟩:=s1.aC2 t8 g8;exact⟨rfl,k8.left s2 s3 s4 s5 (E7.zz.trans v8)⟩
   have hh:=aH (And.intro (FX.zz _ _ _ _ X7.zz) C);go_wp2;go_ret;refine⟨f,FL.zz,?_⟩;rw[hh.zz.1,aP hh.zz.2];have⟨s1,s2,s3,s4,s5,s6⟩:=K7.zz;exact⟨rfl,s1.left s2 s3 s4 s5 E7.zz⟩
 have⟨FX,HV⟩:=aA (λf=>bn4 (I:=⟨⟨g,P,q,i⟩,h,l⟩) f R.zz h1) N;have t:=aH (λ(C:e1≠61)=>show lQ w1 n {S with v:=v'} D1 G1 ⟨⟨g,P,q,i⟩,h,l⟩ k from by
  obtain rfl:=o C;have h8:=s.zz.sync (by rw[R.zz];exact C);rw[R.zz]at h8;exact(HH.zz.yN N (by rw[h8.2];exact h0) J L).1)
 clear N h0 L o J hg;go_wp2;go_ret;refine⟨[],by simp,?_⟩;rw[FX.zz];exact⟨rfl,{S with v:=v'},rfl,rfl,rfl,rfl,HV.zz,t.zz,E1.zz⟩
def AG(a:Nat)(r:lW)(k:Nat):List dB:=(List.range k).map fun i:Nat=>(mA a (lb (lH r.2).1),(lH r.2).2.1+(i:Int),(r.1:Int))
def aq9(a:Nat)(r:lW):AG a r (lH r.2).2.2=uY a r:=rfl
def bn8(a:Nat)(r:lW)(k:Nat):AG a r (k+1)=AG a r k++[(mA a (lb (lH r.2).1),(lH r.2).2.1+(k:Int),(r.1:Int))]:=by unfold AG;rw[sD,iC];rfl
def aT5(a:Nat)(A:List lW)(r:lW):fZ a (A++[r])=fZ a A++uY a r:=by unfold fZ;rw[eB];simp
def wM(w:aI)(a:Nat)(h:dV)(c:Nat)(D:aL)(G:cS)(I:aZ)(d:aI):Prop:=∃b:dV,(b.d=h.d/\b.m=h.m/\b.L=h.L/\b.x.X=h.x.X)/\lQ d a b D G I c/\p7 a (iG w h) (iG d b) w d
def wM.start(H:lQ w n S D G I k){x:aI}(a:aR w w x):wM w n S k D G I x:=⟨S,⟨rfl,rfl,rfl,rfl⟩,H.next a,H.mB a⟩
def wM.next{w:aI}{base:Nat}{h:dV}{I:aZ}{n:Nat}(H:wM w base h n D G I x)(a:aR x x y):wM w base h n D G I y:=by have⟨b,e,s,v⟩:=H;exact⟨b,e,s.next a,v.trans (s.mB a)⟩
def wM.size{w w':aI}{base:Nat}{h:dV}{D:aL}{n:Nat}(H:wM w base h n D G I w'):w.heap.size<=w':=by have⟨a,e,s,v⟩:=H;exact v.size
def wM.read{s:dV}(d:s.d=S.d/\s.m=S.m/\s.L=S.L/\s.x.X=S.x.X)(h:lQ x n s D G I k)(v:p7 n (iG w S) (iG x s) w x)(c:∃a b,bJ y n s.d s.m D a b)(e:gX n s.m x y):wM w n S k D G I y:=by have⟨f,g⟩:=h.qI rfl c e;exact⟨s,d,f,v.trans g⟩
def wM.stays(H:wM w n S m D G I x){k:Nat}(b:k<w)(a:¬iG w S k):x.heap[k]?=w.heap[k]?:=by have⟨c,e,s,v⟩:=H;exact v.block k b (.inr a)
variable{B:List lW}{r:lW}
def ag1(G:cS)(D:aL):Prop:=∀n,n<G.bV.length->∃f,bO D.files (iJ n)=some f/\f.data.length=G.bV.getD n 0/\f.data.length<=4096
structure cD6(G:cS)(D:aL)(I:aZ)(a:List lW):Prop where
 cZ:wU I.cZ=true
 aX:I.cZ.aX<18446744073709551616
 on:ag1 G D
 cF4:∀r∈a,rN r.2=true/\r.2.length<=2000/\r.1+r.2.length+12<=1000000
 GV:∀e∈fZ I.cZ.aX a,wC e/\qF e=true
 yG:I.mem.length+(fZ I.cZ.aX a).length<=1000000
def cQ4(w:aI)(b:Nat)(h:dV)(c:Nat)(D:aL)(G:cS)(I:aZ)(d:List lW)(i:aN)(wr:aI):Prop:=∃(A B:List lW)(a:Nat),i=.int .i64 (a:Int)/\d=A++B/\MT G D a B/\a<=1000000/\wM w b h c D G {I with mem:=(fZ I.cZ.aX A).foldl pW I.mem} wr
def cu3{I:aZ}{P R:List lW}(g:I.mem.length+(fZ I.cZ.aX P)<=1000000)(a:P=R++r::B)(k:Nat)(h:k<(lH r.2).2.2):((AG I.cZ.aX r k).foldl pW ((fZ I.cZ.aX R).foldl pW I.mem)).length<=1000000:=by
 subst a;have b:=xM (AG I.cZ.aX r k) ((fZ I.cZ.aX R).foldl pW I.mem);have c:=xM (fZ I.cZ.aX R) I.mem;have d:(fZ I.cZ.aX (R++r::B)).length=(fZ I.cZ.aX R)+(uY I.cZ.aX r)+(fZ I.cZ.aX B):=by unfold fZ;simp[eB,gC]
 have e:(uY I.cZ.aX r).length=(lH r.2).2.2:=(by simp[uY]);have f:(AG I.cZ.aX r k)=k:=(by simp[AG]);omega
def ci9{aX:Nat}{A B:List lW}{r:lW}{k:Nat}(a:k<(lH r.2).2.2):(mA aX (lb (lH r.2).1),(lH r.2).2.1+(k:Int),(r.1:Int))∈fZ aX (A++r::B):=by refine oC.2 ⟨r,by simp,?_⟩;unfold uY;exact dS.2 ⟨k,gB.2 a,rfl⟩
def QN(w:aI)(a:Nat)(h:dV)(c:Nat)(D:aL)(G:cS)(I:aZ)(B:Nat)(f:List aN)(d:Nat)(r:lW)(k:Nat)(e:aI):Prop:=∃b:dV,(b.d=h.d/\b.m=h.m/\b.L=h.L/\b.x.X=h.x.X)/\lQ e a b D G {I with mem:=(AG d r k).foldl pW I.mem} c/\p7 a (iG w h) (iG e b) w e/\Row e B 129 f/\¬iG e b B
def QN.start{x:aI}(C:Array aN)(a:Nat)(r:lW)(f:wM w n S k D G I x):QN w n S k D G I x C.toList a r 0 (x.alloc (.cells C 129)):=by have⟨d,e,s,v⟩:=f;have b:=eA x (.cells C 129);have c:=Row.new x C 129;exact⟨d,e,s.next b,v.trans (s.mB b),c,s.CQ b dQ (j7 c (by decide))⟩
def QN.to(H:QN w n S k D G I i X j r m x):wM w n S k D G {I with mem:=(AG j r m).foldl pW I.mem} x:=by obtain⟨a,b,s,v,-⟩:=H;exact⟨a,b,s,v⟩
def QN.call(H:QN w n S k D G I i X j r m x)(t:n<=x)(e:dB)(d:e=(mA j (lb (lH r.2).1),(lH r.2).2.1+(m:Int),(r.1:Int)))(u:wC e)(y:qF e=true)(z:((AG j r m).foldl pW I.mem).length<=1000000):Calls prog 94 #[zp S.x.X,.agg (iT e)] x (λC l=>C=.returned (.int .i64 0)/\QN w n S k D G I i X j r (m+1) l):=by have⟨g,b,s,v,a,h⟩:=H;have:=bM3 s.idx t e u y z;rw[b.2.2.2]at this;refine this.mono λC l c=>?_;obtain⟨rfl,B,o,p,q⟩:=c;have⟨A,f⟩:=s.PO p o q;refine⟨rfl,{g with x:={g.x with mv:=B}},b,?_,v.trans f,a.of_block (f.block i a.lt (.inr h)),λc=>h (f.rJ i a.lt c)⟩;rw[bn8,mH,<-d];exact A
def bg1(H:lQ w n S D G I k)(hb:n<=w)(h0:D.down=false)(K:List lW)(hq:cD6 G D I K)(fr:Nat)(he:fr<=1000000)(hc:MT G D fr K):Calls prog 123 #[zp S.x.X,zp S.L,fr] w (λe w'=>e=()/\wM w n S k D G {I with mem:=(fZ I.cZ.aX K).foldl pW I.mem} w'):=by
 have N:=CO H.idx hq.cZ;unfold zL at N;obtain⟨⟨m1,m2,b,m4⟩,d,p⟩:=I;have⟨z,h8,L,S0,HH,HC⟩:=aE hq h0 hb (wM.start H (bR w w)) H hc;unfold mN at N;simp only at N;clear hq h0 hb H hc;go_in;go_wp2_with fail
 go_call N as e w1 ⟨hj,rfl,-,Q⟩;have S1:=aH (S0.next Q);have hp:∀x:aI,(Instr.field 57 (.agg #[m1,m2,zu b,hj]) 2).run prog x=.ok (zu b) x:=λ_=>(by kernel_rfl);clear N Q;go_wp2_with fail
 go_loopw [8,9,10,11,12,13,14,15,16] (λi _ _ _ _ _ _ _ _ wr=>cQ4 w n S k D G ⟨⟨m1,m2,b,m4⟩,d,p⟩ K i wr) (λi _ _ _ _ _ _ _ _ _=>1000000-(intOf i).toNat)
 .exact⟨[],K,fr,rfl,rfl,HC,he,S1⟩
 obtain⟨A,B,h3,rfl,l,F,hl,h',t,s,v⟩:=hrel;have⟨hm,ho,hd⟩:=s.eI;have q:=aP8 s.log hd h8 (aM L v.size) z.on h3 (by omega);rw[t.2.2.1]at q;have⟨SS,SV,SE,j⟩:=aC s v t l;cases B with
 |nil=>
  rw[show EH G D (h3:Nat)=(4,[],0,0)from F]at q;have HR:=aH (show K=A from by rw[l,gM]);clear F hd s v t l;simp only at q;go_wp2_with fail
  go_call q as e w2 ⟨rfl,o,-,c⟩;have S2:=aH (wM.read SE SS SV ⟨_,_,o⟩ c);clear q o c;go_wp2;go_ret;rw[HR.zz];exact⟨rfl,S2⟩
 |cons r B=>
  have⟨W,hg,u⟩:=F;rw[W]at q;have⟨q1,q2,q3⟩:=z.cF4 r (by rw[l];simp);have h4:=aH u;have⟨g,h⟩:=r;have m:=λy:aI=>WQ (bs h) y (by rw[eO];simp only at q2;omega);rw[gP]at m;rw[show QD h=0 from by unfold QD;rw[aV q1]]at m;unfold M1 at q;simp only at q q2 q3 hg;obtain⟨bv,hV⟩:∃bv,lH h=bv:=⟨_,rfl⟩;rw[hV]at m;have⟨J,O,l1⟩:=bv;have C:=aH hV;clear hV;clear W u hd s v t l q1;go_wp2_with fail
  go_call q as e w2 ⟨rfl,o,-,c⟩;have S2:=aH (wM.read SE SS SV ⟨_,_,o⟩ c);clear q o c;go_wp2_with fail
  go_call m w2 as e w3 ⟨vb,rfl,⟨A9,c9,rfl,U,hh,ha,c⟩,R⟩;have S3:=S2.next R;simp only at hh ha c;obtain⟨A',c',hi,T,h9,-⟩:=id U.1;cases hi;have Y:=z.aX;have hf:l1.length<=8:=by have h1:=(z.cF4 (g,h) (by rw[j.zz];simp)).1;have h2:=(j8 (GU h1).1).2.2.2.1;simp only[C.zz]at h2;exact h2
  have Z:J.size<=1000000:=by have h1:=(z.cF4 (g,h) (by rw[j.zz];simp)).1;have h2:=(j8 (GU h1).1).2.1;simp only[C.zz]at h2;omega
  have M:=λy:aI=>EO b J y Y Z;have⟨hs,P⟩:=fR l1.length;have E:=QN.start #[J,O,.slice A9 l1 c9] b (g,h) S3;simp only at T|-;rw[<-P]at E T hf|-;have HN:=aH P;have HX:=aH (λ(hr:Nat)(hk:hr<hs)=>show wC (mA b (lb J),O+(hr:Int),(g:Int))/\qF (mA b (lb J),O+(hr:Int),(g:Int))=true from by
   have:=ci9 (aX:=b) (A:=A) (B:=B) (r:=(g,h)) (k:=hr) (by simp only;rw[C.zz,<-P];exact hk);rw[<-j.zz]at this;simp only[C.zz]at this;exact z.GV _ this)
  obtain⟨h5,S4⟩:=aA (λ(hr:Nat)(hk:hr<hs)=>show((AG b (g,h) hr).foldl pW ((fZ b A).foldl pW d)).length<=1000000 from cu3 (I:=⟨⟨m1,m2,b,m4⟩,d,p⟩) z.yG j hr (by simp only;rw[C.zz,<-P];exact hk)) E;clear m R U S3 P E Y Z h9;go_wp2_with fail
  go_call M _ as e w' ⟨rfl,rfl⟩;clear M;go_wp2_with fail
  go_loopw [15,16,50] (λ_ _ i wq=>∃hr:Nat,hr<=hs/\i=.int .i64 hr/\QN w n S k D G ⟨⟨m1,m2,b,m4⟩,(fZ b A).foldl pW d,p⟩ w3 [J,O,.slice A9 hs c9] b (g,h) hr wq) (λ_ _ i _=>hs-(intOf i).toNat)
  .exact⟨0,bK _,rfl,S4⟩
  obtain⟨hr,hk,rfl,f⟩:=hrel;have cf:=f.choose_spec.2.2.2.1.qD;by_cases V:hr<hs
  .have i1:(hr:Int)<hs:=(by omega);have⟨x1,x2⟩:=HX hr V;have a:=f.call (aM L f.to.size) (mA b (lb J),O+(hr:Int),(g:Int)) (by simp only[C.zz]) x1 x2 (h5 hr V);obtain⟨-,y1,y2⟩:=id x1;unfold iT at a;simp only at a y1;clear f x1 x2 y2;(go_wp2_with fail);go_call a as e w6 ⟨rfl,X⟩;have h6:=aH X;clear a X cf;go_wp2;go_roundw
   .exact⟨hr+1,by omega,by go_num,h6⟩
   simp[intOf];omega
  obtain rfl:hr=hs:=(by omega);have i1:¬(hr:Int)<hr:=(by omega);have h7:=aH f.to;clear f cf;go_wp2;go_roundw
  .
   refine⟨A++[(g,h)],B,g+h+12,by go_num,by rw[j.zz];simp,h4,q3,?_⟩;have e9:(fZ b (A++[(g,h)])).foldl pW d=(AG b (g,h) hr).foldl pW ((fZ b A).foldl pW d):=by rw[aT5,mH,<-aq9];simp only[C.zz];rw[<-HN.zz]
   simp only[e9];exact h7
  simp[intOf];omega
structure oE(w:aI)(a q:Nat)(h:dV)(D:aL)(G:cS)(I:aZ)(b c:Nat):Prop where
 sys:lQ w a h D G I b
 row:Row w q 73 [.pointer (some ⟨h.L,0,none⟩),.pointer (some ⟨h.x.X,0,none⟩),.int .u64 (c:Nat)]
 low:a<=q
 out:¬iG w h q
def oE.cells{w:aI}{base n:Nat}{h:dV}{cF aX:Nat}(H:oE w base n h D G I cF aX):w.cell? (zp n)=zp h.L/\w.cell? (zp n 1)=zp h.x.X/\w.cell? (zp n 2)=zu aX:=⟨H.row.lO,H.row.qD,H.row.tW⟩
def oE.CE{h':dV}{D':aL}{M:cS}(H:oE w n k S D G I m i)(a:h'.L=S.L/\h'.x.X=S.x.X)(s:lQ x n h' D' M J m)(v:p7 n (iG w S) (iG x h') w x):oE x n k h' D' M J m i:=⟨s,by rw[a.1,a.2];exact H.row.of_block (v.block k H.row.lt (.inr H.out)),H.low,λb=>H.out (v.rJ k H.row.lt b)⟩
def oE.next{w:aI}{base n:Nat}{h:dV}{I:aZ}{k:Nat}(H:oE w base n h D G I k m)(a:aR w w x):oE x base n h D G I k m:=H.CE ⟨rfl,rfl⟩ (H.sys.next a) (H.sys.mB a)
def lQ.far{y:aI}{n:Nat}{h:dV}{cF:Nat}(H:lQ w n h D G I cF)(A:w.heap.size<=y)(i:∀k,k<w.heap.size->iG w h k->y.heap[k]?=w.heap[k]?):lQ y n h D G I cF/\∀k,k<w.heap.size->y.heap[k]?=w.heap[k]?->iG y h k->iG w h k:=by
 have⟨j,l,v⟩:=H.eI;have r:bJ y n h.d h.m D j l:=v.far λk c x=>i k c (.inl (.inl x));have s:iG w h h.d:=.inl (.inl (.inr (.inl (by
  have⟨C,m,z⟩:=H.log.eI;exact⟨C,_,m,z,.inl rfl⟩))))
 have o:=i h.d v.lt.1 s;have u:=H.log.far o (i _ H.log.row.lt (.inl (.inr (.inl rfl)))) λk b=>i k (jN H.log.own k b) (.inl (.inr (.inr b)));have d:∀k,OwnAt y h.d k↔OwnAt w h.d k:=λk=>by unfold OwnAt;rw[dK (a:=zp h.d 9) o]
 have f:∀k,k<w.heap.size->y.heap[k]?=w.heap[k]?->iG y h k->iG w h k:=λk c e b=>by
  rcases b with((b|b|b)|b)|b
  .exact .inl (.inl (.inl b))
  .have⟨C,t,m,p,q⟩:=b;exact .inl (.inl (.inr (.inl ⟨C,t,m,by rw[<-e];exact p,q⟩)))
  .exact .inl (.inl (.inr (.inr ((d k).1 b))))
  .exact .inl (.inr b)
  exact .inr b
 refine⟨⟨⟨j,l,r⟩,u,H.idx.eW A λk g=>i k (H.idx.lt k g).2 (.inr g),λk g b=>?_⟩,f⟩;have c:=(H.idx.lt k g).2;have e:=i k c (.inr g);refine H.sep k g ?_;rcases b with(b|b|b)|b
 .exact .inl (.inl b)
 .have⟨C,t,m,p,q⟩:=b;exact .inl (.inr (.inl ⟨C,t,m,by rw[<-e];exact p,q⟩))
 .exact .inl (.inr (.inr ((d k).1 b)))
 exact .inr b
def oE.far{y:aI}{n q:Nat}{h:dV}{cF aX:Nat}(H:oE w n q h D G I cF aX)(g:w.heap.size<=y)(b:∀k,k<w.heap.size->(iG w h k\/k=q)->y.heap[k]?=w.heap[k]?):oE y n q h D G I cF aX:=by have⟨s,d⟩:=H.sys.far g λk a f=>b k a (.inl f);have e:=b q H.row.lt (.inr rfl);exact⟨s,H.row.of_block e,H.low,λc=>H.out (d q H.row.lt e c)⟩
def aY8(w:aI)(q:Nat)(h:dV):Prop:=∀k,(h.x.T k\/k=h.L\/h.v.ownBlock=some k\/k=q)->k<w.heap.size
def oE.old(H:oE w n k S D G I m i):aY8 w k S:=λb a=>by
 rcases a with a|rfl|a|rfl
 .exact(H.sys.idx.lt b a).2
 .exact H.sys.log.row.lt
 .exact jN H.sys.log.own b a
 exact H.row.lt
structure lL(a q:Nat)(h:dV)(D:aL)(G:cS)(I:aZ)(b c:Nat)(d:bH->Nat)(e:bH->aN)(w x:aI):Prop where
 wX:oE x a q h D G I b c
 eI:bJ x a h.d h.m D d e
 fr:gX a h.m w x
section
variable {base q:Nat}{h:dV}{D:aL}{G:cS}{I:aZ}{cF aX:Nat}{blk:bH->Nat}{dat:bH->aN}{w x y:aI}
def lL.yH(H:lL base q h D G I cF aX blk dat w x)(b:bJ y base h.d h.m D blk dat)(a:gX base h.m x y):lL base q h D G I cF aX blk dat w y:=by have⟨s,v⟩:=H.wX.sys.qI rfl ⟨_,_,b⟩ a;exact⟨H.wX.CE ⟨rfl,rfl⟩ s v,b,H.fr.trans a⟩
def lL.next(H:lL base q h D G I cF aX blk dat w x)(a:aR x x y):lL base q h D G I cF aX blk dat w y:=H.yH (H.eI.next a) (gX.cT a _ _)
def lL.idx(H:lL base q h D G I cF aX blk dat w x):yA base h.m h.d h.x I cF D blk dat x x:=.refl H.eI H.wX.sys.idx λk b a=>H.wX.sys.sep k b (.inl a)
def lL.start(H:oE w base q h D G I cF aX)(a:bJ w base h.d h.m D blk dat):lL base q h D G I cF aX blk dat w w:=⟨H,a,gX.refl _ _ _⟩
def lL.size(H:lL base q h D G I cF aX blk dat w x):w.heap.size<=x:=H.fr.size
def lL.nS(H:lL base q h D G I cF aX blk dat w x)(b:aY8 w q h){n:Nat}{T:cC}{X:List aN}(d:Row x n T X)(f:w<=n)(e:¬(T=103\/T=112\/T=5))(c:T≠3):¬(iG x h n\/n=q):=by
 rintro (((a|a)|a)|a)
 .exact H.eI.nS d e c a
 .rcases a with a|a
  .have:=b n (.inr (.inl a));omega
  have:=b n (.inr (.inr (.inl a)));omega
 .have:=b n (.inl a);omega
 have:=b n (.inr (.inr (.inr a)));omega
def lL.set(H:lL base q h D G I cF aX blk dat w x)(m:aY8 w q h){g:Nat}{T:cC}{X:List aN}(n:Row x g T X)(i:w<=g)(o:¬(T=103\/T=112\/T=5))(l:T≠3)(j:Nat)(u:aN):lL base q h D G I cF aX blk dat w (x.setCell (zp g j) u):=by
 have c:=H.nS m n i o l;have a:=jI x (zp g j) u;have f:∀k,(iG x h k\/k=q)->some k≠some g:=λk b d=>(by cases d;exact c b);refine⟨H.wX.far a.size λk e b=>a.block k e (f k b),H.eI.grown a λk b d=>?_,H.fr.grown a λk b=>?_⟩
 .simp at b;subst b;exact c (.inl (.inl (.inl d)))
 simp at b;omega
def lL.grown(H:lL base q h D G I cF aX blk dat w x){r:Option Nat}(b:x.grownBy y r)(e:∀g,r=some g->w.heap.size<=g/\¬(iG x h g\/g=q)):lL base q h D G I cF aX blk dat w y:=by refine⟨H.wX.far b.size λk d a=>b.block k d λc=>(e k c.symm).2 a,H.eI.grown b λk a c=>?_,H.fr.grown b λk a=>(e k a).1⟩;exact(e k a).2 (.inl (.inl (.inl c)))
def lL.trans(H:lL base q h D G I cF aX blk dat w x)(K:lL base q h D G I cF aX blk dat x y):lL base q h D G I cF aX blk dat w y:=⟨K.wX,K.eI,H.fr.trans K.fr⟩
end
section
variable {D:aL}{G:cS}{I:aZ}{aX:Nat}{C:List (List bH)}{Bs:List kM}
def J9.cl1(h:J9 D G I aX C Bs):ag1 G D:=λn e=>by have d:G.bV.length=C:=(by rw[h.bV];simp);have a:n<C.length:=(by omega);have⟨f,c,b⟩:=h.whole n a;refine⟨f,c,?_,by rw[b];exact h.ok.2.2 n a⟩;rw[b,h.bV,aY];unfold fB;rw[IC,aJ a];rfl
def J9.bc2(h:J9 D G I aX C Bs):aD2 I D:=by have⟨s,P,i⟩:=h.ix;have⟨k,j⟩:=h.ZN;refine⟨i.cZ,λn g=>?_,by omega,λe f=>(j e f).1⟩;have⟨a,L,b,c,d⟩:=h.cE6 g;exact⟨a,L,b,c,by omega⟩
end
def tG(H:oE w n k S D G I m i):Calls prog 23 #[zp k] w λe a=>e=false/\w=a:=by obtain⟨b,-,-⟩:=H.cells;clear H;go_in;go_wp2;go_ret;exact⟨rfl,rfl⟩
def cq3:jU:=(⟨#[]⟩,0,(⟨#[]⟩,⟨#[]⟩,0))
def vQ:¬(133=103\/133=112\/133=5)/\(133:cC)≠3/\(152:cC)≠3:=by decide
structure BC(a q:Nat)(h:dV)(D:aL)(G:cS)(I:aZ)(b c:Nat)(d:bH->Nat)(e:bH->aN)(f g:List aN)(w x:aI):Prop where
 k:lL a q h D G I b c d e w x
 ent:Row x w.heap.size 152 f
 tld:Row x (w.heap.size+1) 133 g
section
variable {base q:Nat}{h:dV}{D:aL}{G:cS}{I:aZ}{cF aX:Nat}{blk:bH->Nat}{dat:bH->aN}{xs ys:List aN}{w x y:aI}
def BC.yH(H:BC base q h D G I cF aX blk dat xs ys w x)(b:bJ y base h.d h.m D blk dat)(a:gX base h.m x y):BC base q h D G I cF aX blk dat xs ys w y:=⟨H.k.yH b a,a.row H.ent qB (H.k.eI.rE H.ent),a.row H.tld vQ.1 (H.k.eI.rE H.tld)⟩
def BC.next(H:BC base q h D G I cF aX blk dat xs ys w x)(a:aR x x y):BC base q h D G I cF aX blk dat xs ys w y:=⟨H.k.next a,H.ent.next a,H.tld.next a⟩
def BC.set(H:BC base q h D G I cF aX blk dat xs ys w x)(a:aY8 w q h)(j:Nat)(u:aN):BC base q h D G I cF aX blk dat xs (ys.set j u) w (x.setCell (zp (w+1) j) u):=⟨H.k.set a H.tld (gI _) vQ.1 vQ.2.1 j u,H.ent.of_block (aU _ _ _ _ (by show w≠w.heap.size+1;omega)),H.tld.set j u⟩
def BC.cL0(H:BC base q h D G I cF aX blk dat xs ys w x)(f:aY8 w q h)(a b c d e:aN):BC base q h D G I cF aX blk dat xs (((((ys.set 0 a).set 1 b).set 2 c).set 3 d).set 4 e) w (((((x.setCell (zp (w+1)) a).setCell (zp (w+1) 1) b).setCell (zp (w+1) 2) c).setCell (zp (w+1) 3) d).setCell (zp (w+1) 4) e):=((((H.set f 0 a).set f 1 b).set f 2 c).set f 3 d).set f 4 e
def BC.start(H:oE w base q h D G I cF aX)(c:bJ w base h.d h.m D blk dat)(A B:Array aN):BC base q h D G I cF aX blk dat A.toList B.toList w ((w.alloc (.cells A 152)).alloc (.cells B 133)):=by have b:=eA w (.cells A 152);have a:=eA (w.alloc (.cells A 152)) (.cells B 133);refine⟨((lL.start H c).next b).next a,(Row.new w A _).next a,?_⟩;have:=Row.new (w.alloc (.cells A 152)) B 133;rwa [bD]at this
end
def Y1(a q:Nat)(h:dV)(D:aL)(G:cS)(I:aZ)(b c:Nat)(d:bH->Nat)(f:bH->aN)(o:Option jU)(w:aI)(e:eY)(g:aI):Prop:=e=.returned (.tuple #[.agg (pB (o.getD cq3)),.bool o.isSome,.int .i64 0])/\lL a q h D G I b c d f w g
def aH2{b:bH->Nat}{C:List (List bH)}{B:List kM}(hw:oE w n k S D G I m i)(hd:bJ w n S.d S.m D b H)(P:J9 D G I i C B)(hb:n<=w)(e:dB)(he:wC e)(r:lW)(hr:r∈dF C)(h4:e.2.2=(r.1:Int))(hk:L2 (dF C) e.2.2=r.2)(hz:Nat)(hi:hz<(lH r.2).2.2)(j:e.2.1=(lH r.2).2.1+(hz:Int))(o:aS)(hv:o<=maxLen):Calls prog 148 #[zp k,.agg (iT e),o] w (Y1 n k S D G I m i b H (xL (dF C) o e) w):=by
 have⟨f,ha,hc,hf,hg,hh,hj,ho⟩:=bF2 P.whole P.ok hr;have hq:=P.bu0 hr;have hp:=P.bu1 hr;have g:=(P.GV.2 r hr).2;have J:xL (dF C) o e=if(lH r.2).1=o then some (o,(lH r.2).2.1+(hz:Int),(lH r.2).2.2.getD hz ev0)else none:=by
  unfold xL;rw[hk,j];simp only;rw[show(lH r.2).2.1+(hz:Int)-(lH r.2).2.1=(hz:Int)from by omega,bW];by_cases p:(lH r.2).1=o
  .rw[aV p,aV ⟨p,by omega,by omega⟩]
  rw[aP p,aP (λh8=>p h8.1)]
 have d:=j8 (GU g).1;have⟨s,F,e3⟩:=e;simp only at h4 J j;subst h4;rw[J];have W:=BC.start hw hd (iT (s,F,(r.1:Int))) (pB cq3);have E:=hw.old;unfold iT pB cq3 at W;simp only at W;have hK:∀x,BC n k S D G I m i b H [.int .u64 s,.int .i64 F,.int .i64 (r.1:Int)] [.string ⟨#[]⟩,.int .i64 0,.string ⟨#[]⟩,.string ⟨#[]⟩,.float .f64 0] w x->BC n k S D G I m i b H [.int .u64 s,.int .i64 F,.int .i64 (r.1:Int)] [.string ⟨#[]⟩,.int .i64 0,.string ⟨#[]⟩,.string ⟨#[]⟩,.float .f64 0] w x.drew:=λx hx=>hx.next iH.drew;have HR:∀y,BC n k S D G I m i b H [.int .u64 s,.int .i64 F,.int .i64 (r.1:Int)] [.string ⟨#[]⟩,.int .i64 0,.string ⟨#[]⟩,.string ⟨#[]⟩,.float .f64 0] w y->Calls prog 215 #[.pointer (some ⟨S.L,0,none⟩),.int .i64 (r.1:Int)] y λe w'=>e=.returned (.tuple #[.string (bs r.2),.int .i64 0])/\BC n k S D G I m i b H [.int .u64 s,.int .i64 F,.int .i64 (r.1:Int)] [.string ⟨#[]⟩,.int .i64 0,.string ⟨#[]⟩,.string ⟨#[]⟩,.float .f64 0] w w':=λy hy=>by have:=ce4 hy.k.wX.sys.log hy.k.eI P.up (aM hb hy.k.size) r.1 (r.1/4096) (r.1%4096) rfl rfl (by rw[P.bV];simpa using ha) hc (by rw[P.bV];exact hf) hg hh;rw[hj]at this;exact this.mono λe w' p=>⟨p.1,hy.yH p.2.1 p.2.2.2⟩
 have h:=λy:aI=>WQ (bs r.2) y (by rw[eO];omega);rw[gP,show QD r.2=0 from by unfold QD;rw[aV g]]at h;have z0:∀x:xS (BC n k S D G I m i b H [.int .u64 s,.int .i64 F,.int .i64 (r.1:Int)] [.string ⟨#[]⟩,.int .i64 0,.string ⟨#[]⟩,.string ⟨#[]⟩,.float .f64 0] w),x.it.cell? ⟨k,0,none⟩=some (.pointer (some ⟨S.L,0,none⟩)):=λx=>x.ok.k.wX.cells.1;have z1:∀x:xS (BC n k S D G I m i b H [.int .u64 s,.int .i64 F,.int .i64 (r.1:Int)] [.string ⟨#[]⟩,.int .i64 0,.string ⟨#[]⟩,.string ⟨#[]⟩,.float .f64 0] w),x.it.cell? ⟨w.heap.size,2,none⟩=some (.int .i64 (r.1:Int)):=λx=>x.ok.ent.tW;have⟨r1,r2⟩:=r;simp only at *;have⟨T,hT⟩:=fR (bs r2);rw[<-hT]at HR h;generalize hV:lH r2=bv at h d hi j|-;have⟨z,q,b3⟩:=bv;simp only at d hi j|-;obtain⟨p1,p2,p3,p4,p5,p6,-⟩:=d;have⟨x3,hN⟩:=fR b3.length;obtain⟨L,l⟩:∃L,b3[hz]?=some L:=⟨_,aJ hi⟩;have h5:b3.getD hz ev0=L:=(by rw[aY,l];rfl);rw[h5];have⟨u,HE,M⟩:=aB E he l;rw[<-hN]at hi p4 p6;have HN:=aH hN;subst j;obtain⟨O,hO⟩:∃O:Option jU,O=if z=o then some (o,q+(hz:Int),L)else none:=⟨_,rfl⟩;rw[<-hO];have HO:=aH hO;clear hO;clear hw hd P ha hc hf hg hh hj ho hq hp g J hk hr hT hV E he p1 p2 p3 h5 l hN;unfold Y1;go_in;go_wp2_with fail
 haveI:Nonempty (xS (BC n k S D G I m i b H [.int .u64 s,.int .i64 (q+(hz:Int)),.int .i64 r1] [.string ⟨#[]⟩,.int .i64 0,.string ⟨#[]⟩,.string ⟨#[]⟩,.float .f64 0] w)):=⟨⟨_,W⟩⟩;refine KJ (K:=(BC n k S D G I m i b H [.int .u64 s,.int .i64 (q+(hz:Int)),.int .i64 r1] [.string ⟨#[]⟩,.int .i64 0,.string ⟨#[]⟩,.string ⟨#[]⟩,.float .f64 0] w)) W hK (by kernel_rfl) (by kernel_rfl) ?_;repeat go_big_quiet_step (first|(go_at_call 215;exact NS _ HR))
 refine wpQuiet_nil ?_;rintro _ ⟨⟨w1,h6⟩,rfl⟩;have N:=aH h6;clear h6 HR z0 z1 hK W;go_wp2_with fail
 go_call h _ as e w2 ⟨vb,rfl,⟨A,c,rfl,t,X,Y,Z⟩,h2⟩;simp only at t X Y Z|-;have h7:=Y2.later t (by have:=HN.zz;omega);have hu:x3<=c:=by obtain⟨A',c',ht,h1,-⟩:=id t.1;cases ht;rw[HN.zz];exact h1
 rw[<-HN.zz];obtain⟨bb,hl,rfl,hn,h3⟩:=h7;have b4:=eA w2 (.cells #[.string z,.int .i64 q,.slice (some ⟨bb,hl,none⟩) x3 c] 129);have r4:=Row.new w2 #[.string z,.int .i64 q,.slice (some ⟨bb,hl,none⟩) x3 c] 129;have a:=(N.next h2).next b4;have⟨x0,x1,x2⟩:=h3 hz L M _ b4;have g1:=a.ent.qD;have t0:=a.tld.lO;have t1:=a.tld.qD;have t2:=a.tld.tW;have t3:=a.tld.JF;have t4:=a.tld.zc4;have u0:=a.tld.NV;have u1:=a.tld.JE;have u2:=a.tld.QP;have u3:=a.tld.zf3;have u4:=a.tld.zf4;have q0:=r4.lO;have q1:=r4.qD;have q2:=r4.tW;have Q:=aH a;have⟨R,U,V⟩:=L;simp only at x0 x1 x2;clear h N h3 hn t X Y Z h2 b4 r4 a;have i8:q+(hz:Int)-q=(hz:Int):=(by omega);by_cases hs:z=o
 .subst hs;have hm:=aH (show O=some (z,q+(hz:Int),R,U,V)from by rw[HO.zz,aV rfl]);clear HO;(go_wp2_with fail);go_region;go_wp2;refine bE (v:=.tuple #[.agg #[.string z,.int .i64 (q+(hz:Int)),.string R,.string U,.float .f64 V],.bool true,.int .i64 0]) (by simp[results,results148,go_sem,t0,t1,t2,t3,t4]) rfl ⟨by rw[hm.zz];rfl,?_⟩;exact((BC.cL0 Q u _ _ _ _ _).next iH.drew).k
 have i9:(z.toList==o.toList)=false:=by rw[bA,jL,jL];exact λp=>hs (by rw[<-BG z,p,BG])
 (go_wp2_with fail);refine bE (v:=.tuple #[.agg #[.string ⟨#[]⟩,.int .i64 0,.string ⟨#[]⟩,.string ⟨#[]⟩,.float .f64 0],.bool false,.int .i64 0]) (by simp[results,results148,go_sem,t0,t1,t2,t3,t4]) rfl ⟨by rw[HO.zz,aP hs];rfl,?_⟩;exact(BC.cL0 Q u _ _ _ _ _).k
end Go.Proofs.YtpopikndggffaaaGreatDoor
