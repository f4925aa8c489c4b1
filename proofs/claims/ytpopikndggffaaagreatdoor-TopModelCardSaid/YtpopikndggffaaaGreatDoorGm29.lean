/- TOP, part 29. -/
import Derived.WideKeyEntry
import Derived.Test.YtpopikndggffaaaGreatDoorGm28
namespace Go.Proofs.YtpopikndggffaaaGreatDoor
set_option linter.all false
set_option maxRecDepth 100000
set_option maxHeartbeats 16000000
open Go.RowKit Go.Maps Tryz
variable{d i j k m n:Nat}{A:Program}{w x y:aI}{R:aN->Option (Du×List MemPlace)}{P T U:cD}
section
open Go.ChangeMaps Go.ChangeShapes Go.MapKept Go.WideElems Go.WideShapes
def aK9{e:Array MapEntry}(K:Keyed A U)(C:A.underlying T=some (.map U P)){v:aN}(N:∀V:aI,(zeroValue P).run A V=.ok v V)(q:w.heap[n]?=some (.map e k))(F:WideElems.Fit A U R e k)
 {u:aN} {O:Lit} (d:keyOf A U u=some O) :
 ∃(E:aN)(I:Nat)(t:Array MapEntry)(g:Nat),(Instr.mapEntry T (.map (some n)) u).run A w=.ok (.tuple #[E,goInt I]) (setBlock w n (.map t g))/\
  ((∃h∈e.toList,h.key=u/\E=h.val)\/((∀x∈e.toList,x.key≠u)/\E=v))/\
  ∀(B:aI)(b:aN),B.heap[n]?=some (.map t g)->∃s f,(Instr.entryStore T (.map (some n)) (goInt I) b).run A B=.ok () (setBlock B n (.map s f))/\
   (Instr.mapUpdate T (.map (some n)) u b).run A w=.ok () (setBlock w n (.map s f)):=by
    obtain⟨Q,H,_⟩:=F.stamped;rcases K.find w d e.toList F.keys with⟨y,p⟩|⟨j,h,y,p,z⟩
    .refine⟨v,k,e.push ⟨u,v,k⟩,k+1,?_,Or.inr ⟨p,rfl⟩,λB b o=>⟨e.push ⟨u,b,k⟩,k+1,?_,?_⟩⟩
     .simp[Instr.mapEntry,run_underlying C,MapKept.run_getObj_map q,K.check w false d,y,N,MapKept.run_setObj_map _ q,Result.andThen,setBlock]
     .have i:(e.push ⟨u,v,k⟩).findIdx? (λP=>((P.born:Nat):Int)==((k:Nat):Int))=some e.size:=by
       rw[findIdx_arr];have:=findIdx_born (l:=(e.push ⟨u,v,k⟩).toList) (j:=e.size) (e0:=⟨u,v,k⟩) (by
        simp only[aR2,iJ,dN,wS];refine n5.2 ⟨H,by simp,λa J c L S=>?_⟩;simp only[bT]at L;obtain⟨x,M,rfl⟩:=dR.1 J;have:=Q x M;omega) (by simp)
       exact this
      have m:(e.push ⟨u,v,k⟩).modify e.size (λP=>{P with val:=b})=e.push ⟨u,b,k⟩:=by apply Array.ext';rw[IU,aR2,aR2,<-ae6,modify_last]
      simp[Instr.entryStore,MapKept.run_getObj_map o,asInt,asIntOf,goInt,i,m,MapKept.run_setObj_map _ o,Result.andThen,setBlock]
     simp[Instr.mapUpdate,run_underlying C,MapKept.run_getObj_map q,K.check w false d,y,MapKept.run_setObj_map _ q,Result.andThen,setBlock]
    have G:e[j]?=some h:=(by simpa using p);have r:e.modify j (λP=>{P with key:=u})=e:=by apply Array.ext';rw[IU,modify_eq_set _ _ _ _ p];have:({h with key:=u}:MapEntry)=h:=(by rw[<-z]);rw[this];exact set_self _ _ _ p
    refine⟨h.val,h.born,e,k,?_,Or.inl ⟨h,bD p,z,rfl⟩,λB b o=>⟨e.modify j (λD=>{D with key:=u,val:=b}),k,?_,?_⟩⟩
    .simp[Instr.mapEntry,run_underlying C,MapKept.run_getObj_map q,K.check w false d,y,G,z,K.stays w d,r,MapKept.run_setObj_map _ q,Result.andThen,setBlock]
    .have i:e.findIdx? (λP=>((P.born:Nat):Int)==((h.born:Nat):Int))=some j:=by rw[findIdx_arr];exact findIdx_born H p
     have m:e.modify j (λP=>{P with val:=b})=e.modify j (λD=>{D with key:=u,val:=b}):=by apply Array.ext';rw[IU,IU,modify_eq_set _ _ _ _ p,modify_eq_set _ _ _ _ p,<-z]
     simp[Instr.entryStore,MapKept.run_getObj_map o,asInt,asIntOf,goInt,i,m,MapKept.run_setObj_map _ o,Result.andThen,setBlock]
    simp[Instr.mapUpdate,run_underlying C,MapKept.run_getObj_map q,K.check w false d,y,G,z,K.stays w d,MapKept.run_setObj_map _ q,Result.andThen,setBlock]
def ac2{D:Du}(h:w.ownsMap A U R k n D)(K:Keyed A U)(t:A.underlying T=some (.map U P)){v:aN}(H:∀N:aI,(zeroValue P).run A N=.ok v N)(E:n<maxLen){u z:aN}{x:Lit}{d:Du}{I:List MemPlace}(c:keyOf A U u=some x)(G:R z=some (d,I)):
 ∃(q:aN)(l:Nat)(y r:aI),(Instr.mapEntry T (.map (some k)) u).run A w=.ok (.tuple #[q,.int .i64 l]) y/\(Instr.entryStore T (.map (some k)) (.int .i64 l) z).run A y=.ok () r/\r.ownsMap A U R k (n+1) (D.put x d)/\w.grownBy r (some k):=by
  obtain⟨M,p,j,o⟩:=h.update K t E c G;obtain⟨J,m,s,F,L,rfl⟩:=h;obtain⟨q,l,i,b,B,-,C⟩:=aK9 K t H s F c;obtain⟨g,a,e,f⟩:=C (setBlock w k (.map i b)) z (heap_setBlock_same s _);rw[p]at f;cases f;have P:setBlock (setBlock w k (.map i b)) k (.map g a)=setBlock w k (.map g a):=by simp[setBlock]
  rw[P]at e;exact⟨q,l,_,_,B,e,j,o⟩
end
variable{X:List aN}{L:List cZ}{N:Nat->Prop}{D E:aM}{I J:bA}{K:bK->Nat}{H:bK->aN}{M:iY}
def wJ(w:aI)(d m:Nat)(x:oG)(k:Nat):Prop:=jE w d m k\/x.T k
structure IxS(w:aI)(a m d:Nat)(x:oG)(I:bA)(b:Nat)(D:aM):Prop where
 eD:∃c e,bM w a d m D c e
 idx:oQ w a d x I b
 out:∀k,x.T k->¬jE w d m k
def IxS.xC{base:Nat}{l:oG}(H:IxS w base k n l I m D)(i:∃a b,bM x base n k E a b)(e:gS base k w x):IxS x base k n l I m E/\oD base (wJ w n k l) (wJ x n k l) w x:=by obtain⟨a,b,g⟩:=H.eD;have d:=oD.lX e g.FJ;obtain⟨f,h⟩:=d.clear (T:=l.T) (λj c=>⟨(H.idx.lt j c).2,H.out j c⟩);exact⟨⟨i,H.idx.eO e.size h,λj c=>(f j c).2⟩,d.or l.T⟩
def tF(w:aI)(X:Nat)(M:iY)(a:aN):aI:=(((w.setCell ⟨X,1,none⟩ (.int .i64 (M.next:Nat))).setCell ⟨X,2,none⟩ (.int .i64 (M.check:Nat))).setCell ⟨X,3,none⟩ (.int .u64 (M.aZ:Nat))).setCell ⟨X,4,none⟩ a
def GG(w:aI)(X:Nat)(M:iY)(c:aN):w.grownBy (tF w X M c) (some X):=
 ⟨rfl,rfl,rfl,by simp[tF],λk d a=>by
  have h:k≠X:=λb=>a (by rw[b]);unfold tF;rw[aV _ _ _ _ h,aV _ _ _ _ h,aV _ _ _ _ h,aV _ _ _ _ h]⟩
def oQ.manned{h:oG}{M:iY}{lv:aN}(H:oQ w k n h I m)(t:OU w k N lv M.fC)(g:∀E,N E->k<=E/\E<w.heap.size/\¬h.T E)(u:I.cV.next<=M.next):
 oQ (tF w h.X M lv) k n {h with lv:=lv,TL:=N} {I with cV:=M} m:=by
  have j:=GG w h.X M lv;have e:∀E,E<w.heap.size->E≠h.X->(tF w h.X M lv).heap[E]?=w.heap[E]?:=λE p r=>j.block E p (λd=>r (cS d));obtain⟨z,A,D,B⟩:=H.ne;obtain⟨C,o,l,x,y⟩:=H.map;have i:∀E,N E->E≠h.X/\E≠h.mb/\E≠h.tm/\h.mv.ownBlock≠some E:=λE e=>⟨λd=>(g E e).2.2 (.inl d),λd=>(g E e).2.2 (.inr (.inl d)),λd=>(g E e).2.2 (.inr (.inr (.inl d))),λd=>(g E e).2.2 (.inr (.inr (.inr (.inl d))))⟩;refine⟨(((H.row.set 1 _).set 2 _).set 3 _).set 4 _,t.eO λE d f=>e E f (i E d).1,⟨H.mem.1.of_block (e _ H.mem.1.lt (λh=>z h.symm)),fG H.mem.2.1 λE d=>e E (jG H.mem.2.1 E d) (B E d).1,H.mem.2.2⟩,⟨C,o,nO l (e _ l.lt (λh=>A h.symm)),x,aL y u⟩,λF L s=>(H.fA F L s).eO λq v f=>e q f (H.apart q (.inr v)).2.2.1,H.low,λE d=>?_⟩;rcases d with d|d
  .obtain⟨a,b,-⟩:=g E d;exact⟨a,aW b j.size,i E d⟩
  obtain⟨a,b,c⟩:=H.apart E (.inr d);exact⟨a,aW b j.size,c⟩
def YO(q:bM w k n m D K H)(g:w.grownBy x (some j))(s:n≠j)(f:¬CD x j)(r:i<w.heap.size)(b:jE x n m i):jE w n m i:=by
 have d:x.heap[n]?=w.heap[n]?:=g.block n q.lt.1 (λc=>s (cS c));rcases b with b|b|b
 .exact .inl b
 .by_cases c:i=j
  .subst c;exact absurd b f
  have e:=g.block i r (λp=>c (cS p));obtain⟨C,t,h,l,o⟩:=b;exact .inr (.inl ⟨C,t,h,by rw[<-e];exact l,o⟩)
 refine .inr (.inr ?_);unfold OwnAt at b|-;rwa[dH (a:=⟨n,9,none⟩) d]at b
def bW1(a:bM w k n m D K H)(b:Row w i T X)(c:T≠103):n≠i:=oT a.FJ b c
def bI4{g:Nat}{h5:oG}{v:aN}{R:Nat->Prop}{X:Du}(H:IxS w k m n h5 I g D)(hl:OU w k N v M.fC)(A:∀h4,N h4->k<=h4/\h4<w.heap.size/\¬wJ w n m h5 h4)(hn:i<=999999)(h2:M.next=I.cV.next+1)(hp:s7 w R k j n i L)(h:∀h4,R h4->k<=h4/\h4<w.heap.size/\¬wJ w n m h5 h4)(mt:TC X I.fA h5.tb)(h0:d<=I.cV.next)(s:x.ownsMap prog 3 sU h5.tm (d+1) (X.put (vV i) (.lit (.int .i64 j))))(r:(tF w h5.X M v).grownBy x (some h5.tm)):
 ∃F:oG,(F.X=h5.X/\F.mb=h5.mb)/\IxS x k m n F {I with cV:=M,fA:=jA I.fA i (some L)} g D/\oD k (λh4=>wJ w n m h5 h4\/N h4\/R h4) (wJ x n m F) w x:=by
  obtain⟨t,u,O⟩:=H.eD;have o:=GG w h5.X M v;have V:=H.idx.manned (M:=M) (lv:=v) hl (λh4 e=>⟨(A h4 e).1,(A h4 e).2.1,λf=>(A h4 e).2.2 (.inr f)⟩) (by omega);have rX:Row (tF w h5.X M v) h5.X 100 _:=V.row;have P:n≠h5.X:=bW1 O H.idx.row (by decide);have K:¬jE w n m h5.X:=H.out _ (.inl rfl);have G:bM (tF w h5.X M v) k n m D t u:=O.grown o λh4 e=>by cases e;exact K
  have Y:∀h4,h4<w.heap.size->jE (tF w h5.X M v) n m h4->jE w n m h4:=λh4 e S=>YO O o P (iL rX ET.1) e S;have C:¬jE (tF w h5.X M v) n m h5.tm:=λf=>H.out _ (.inr (.inr (.inl rfl))) (Y _ (H.idx.lt _ (.inr (.inr (.inl rfl)))).2 f);have T:s7 (tF w h5.X M v) R k j n i L:=hp.eO λq U l=>o.block q l λf=>(h q U).2.2 (.inr (.inl (cS f)));have Q:n≠h5.tm:=λf=>by obtain⟨W,kv,h1,-⟩:=G.row;obtain⟨h3,M9,m1,-⟩:=V.map;exact fP m1 (f▸h1) rfl
  have z:w.heap.size=(tF w h5.X M v).heap.size:=by simp[tF]
  have i3:=V.put (nt':=d+1) mt hn s (by show d+1<=M.next;omega) r T (λq U=>by obtain⟨a,b,c⟩:=h q U;exact⟨a,by rw[<-z];exact b,λf=>c (.inr (.inl f)),λf=>c (.inr (.inr (.inl f))),λf=>c (.inr (.inr (.inr (.inl f)))),λf=>c (.inr (.inr (.inr (.inr (.inl f)))))⟩);have d3:bM x k n m D t u:=G.grown r λh4 e=>(by cases e;exact C);have Z:∀h4,h4<w.heap.size->jE x n m h4->jE w n m h4:=λh4 e S=>Y h4 e (YO G r Q (sW s) (by rw[<-z];exact e) S);have y:∀h4,({h5 with lv:=v,TL:=N,tb:=λq=>if q=i then j else h5.tb q,TT:=λq=>h5.TT q\/R q}:oG).T h4->(h5.T h4\/N h4\/R h4):=λh4 e=>by
   rcases e with e|e|e|e|e|e
   .exact .inl (.inl e)
   .exact .inl (.inr (.inl e))
   .exact .inl (.inr (.inr (.inl e)))
   .exact .inl (.inr (.inr (.inr (.inl e))))
   .exact .inr (.inl e)
   rcases e with e|e
   .exact .inl (.inr (.inr (.inr (.inr (.inr e)))))
   exact .inr (.inr e)
  have l:∀h4,(h5.T h4\/N h4\/R h4)->h4<w.heap.size/\¬jE w n m h4:=λh4 e=>by
   rcases e with e|e|e
   .exact⟨(H.idx.lt h4 e).2,H.out h4 e⟩
   .exact⟨(A h4 e).2.1,λf=>(A h4 e).2.2 (.inl f)⟩
   exact⟨(h h4 e).2.1,λf=>(h h4 e).2.2 (.inl f)⟩
  refine⟨{h5 with lv:=v,TL:=N,tb:=λq=>if q=i then j else h5.tb q,TT:=λq=>h5.TT q\/R q},⟨rfl,rfl⟩,⟨⟨t,u,d3⟩,i3,λh4 e f=>(l h4 (y h4 e)).2 (Z h4 (l h4 (y h4 e)).1 f)⟩,⟨r.os.trans o.os,r.tape.trans o.tape,r.output.trans o.output,aL o.size r.size,λh4 e p=>?_,λh4 e f=>?_⟩⟩
  .have B:h4≠h5.X:=λf=>by
    rcases p with p|p
    .have:=H.idx.low.1;omega
    exact p (.inl (.inr (.inl f)))
   have E:h4≠h5.tm:=λf=>by
    rcases p with p|p
    .have:=H.idx.low.2.2;omega
    exact p (.inl (.inr (.inr (.inr (.inl f)))))
   rw[r.block h4 (by rw[<-z];exact e) (λf=>E (cS f)),o.block h4 e (λf=>B (cS f))]
  rcases f with f|f
  .exact .inl (.inl (Z h4 e f))
  rcases y h4 f with J|J
  .exact .inl (.inr J)
  exact .inr J
def T9(D:aM)(r:Int×aM):Prop:=r.1=0->r.2.down=D.down
def M8(D:aM)(l:bZ):T9 D (D.change l):=by
 intro h;unfold aM.change at h|-;split
 .rename_i a;rw[aU a]at h;simp at h
 rfl
def al2(D:aM)(n:bK):T9 D (D.create n):=by
 intro h;unfold aM.create at h|-;repeat' split
 all_goals first|rfl|exact M8 _ _ (by simp_all)
def am4(D:aM)(n s:bK):T9 D (D.append n s):=by
 intro h;unfold aM.append at h|-;split
 .rfl
 split
 .rfl
 split
 .rfl
 split
 .rename_i a b c d e;simp_all
 rfl
def bi8(D:aM)(n:bK):T9 D (D.sync n):=by
 intro h;unfold aM.sync at h|-;split
 .rfl
 split
 .rfl
 exact M8 _ _ (by simp_all)
def bt1(D:aM)(a b:bK):T9 D (D.rename a b):=by
 intro h;unfold aM.rename at h|-;split
 .rfl
 split
 .rfl
 split
 .rfl
 exact M8 _ _ (by simp_all)
def al0(D:aM)(n:bK):T9 D (D.delete n):=by
 intro h;unfold aM.delete at h|-;split
 .rfl
 split
 .rfl
 exact M8 _ _ (by simp_all)
def BE{r:Int×aM}{k:aM->Int×aM}(c:T9 D r)(d:∀b,T9 b (k b)):T9 D (kE r k):=by
 intro h;unfold kE at h|-;split
 .rename_i a;rw[aU a]at h;exact(d _ h).trans (c a)
 rename_i a;rw[aQ a]at h;exact absurd h a
def bR0(D:aM)(n s:bK):T9 D (D.lay n s):=BE (al2 _ _) λD=>BE (am4 _ _ _) λD=>bi8 _ _
def bH7(D:aM)(n:Nat)(L:List cZ)(f:bK):T9 D (nL D n L f):=by
 intro h;unfold nL at h|-;split
 .rfl
 split
 .rfl
 rename_i a b;rw[aQ a,aQ b]at h;exact BE (bR0 _ _ _) (λD=>bR0 _ _ _) h
def bI3(D:aM):T9 D D.gE:=by
 intro h;unfold aM.gE at h|-;split
 .rename_i a;rw[aU a]at h;exact al0 _ _ h
 rfl
def cc4(D:aM)(M:iY):T9 D (pV D M):=by
 intro h;unfold pV at h|-;split
 .rfl
 rename_i b;rw[aQ b]at h;refine BE (bI3 _) (λd=>?_) h;intro a;split
 .rfl
 rename_i c;rw[aQ c]at a;exact BE (al2 _ _) (λD=>BE (am4 _ _ _) λD=>BE (bi8 _ _) λD=>bt1 _ _ _) a
structure FT(w:aI)(a m d:Nat)(x:oG)(I:bA)(b:Nat)(M:iY)(e:aN)(c:Nat->Prop)(f:aN)(L:List cZ)(D:aM)(y:aI):Prop where
 ix:IxS y a m d x I b D
 fC:OU y a c e M.fC
 out:∀k,c k->a<=k/\k<y.heap.size/\¬wJ y d m x k
 FI:∃B,y.ownsRow B 152 3 f L.length (fX L)
 box:Row y w.heap.size 57 (mH M e)
 fr:gS a m w y
section
variable {w y z:aI}{base m d cK:Nat}{x:oG}{I:bA}{M:iY}{lv vl:aN}{TN:Nat->Prop}{L:List cZ}{D D':aM}
def FT.xC(H:FT w base m d x I cK M lv TN vl L D y)(n:∃b c,bM z base d m D' b c)(e:gS base m y z):FT w base m d x I cK M lv TN vl L D' z:=by obtain⟨b,c,g⟩:=H.ix.eD;obtain⟨h,i⟩:=H.ix.xC n e;obtain⟨f,l⟩:=i.clear (T:=TN) (λk a=>⟨(H.out k a).2.1,(H.out k a).2.2⟩);obtain⟨B,j⟩:=H.FI;exact⟨h,H.fC.eO λk a _=>l k a,λk a=>⟨(H.out k a).1,(f k a).1,(f k a).2⟩,⟨B,e.own j pF g.map⟩,e.row H.box ER (g.pX H.box),H.fr.trans e⟩
def FT.next(H:FT w base m d x I cK M lv TN vl L D y)(a:aS y.heap.size y z):FT w base m d x I cK M lv TN vl L D z:=by obtain⟨b,c,e⟩:=H.ix.eD;exact H.xC ⟨_,_,e.next a⟩ (gS.cQ a _ _)
end
def W6(w:aI)(a m d:Nat)(x:oG)(I:bA)(b:Nat)(h:Nat->Prop)(D:aM)(M:iY)(n:Nat)(L:List cZ)(e:eT)(g:aI):Prop:=
 ∃f:bK,f.length<=128+4*L.length/\e=.returned (.int .i64 (nD I D M n L f).1)/\∃c:oG,(c.X=x.X/\c.mb=x.mb)/\IxS g a m d c (nD I D M n L f).2.1 b (nD I D M n L f).2.2/\oD a (fun k=>wJ w d m x k\/h k) (wJ g d m c) w g
variable{e:Int}{s:bK}
def ax8{I:bA}{D:aM}{M:iY}{n:Nat}{L:List cZ}{f:bK}(h:kE (nL D n L f) (λD=>pV D M)=(e,E))(a:e≠0):nD I D M n L f=(e,I,(oN E n).2):=by unfold nD;simp only[h,ne_eq,a,not_false_eq_true,eE]
def bq3{I:bA}(h:kE (nL D n L s) (λD=>pV D M)=(0,E))(a:(kG E n).1≠0):nD I D M n L s=((kG E n).1,I,E):=by unfold nD;simp only[h,ne_eq,a,not_false_eq_true,not_true_eq_false,eE,dP]
def bq2{I:bA}{O:List cZ}(h:kE (nL D n L s) (λD=>pV D M)=(0,E))(b:(kG E n).1=0)(a:(kG E n).2=O):nD I D M n L s=(0,{I with cV:=M,fA:=jA I.fA n O},E):=by unfold nD;simp only[h,ne_eq,b,a,not_true_eq_false,dP]
def YF{base:Nat}{x:oG}{cK:Nat}(S:IxS w base m d x I cK D)(hb:base<=w)(hup:D.down=false)(lv vl:aN)(M:iY)(TN:Nat->Prop)(hl:OU w base TN lv M.fC)(hT:∀k,TN k->base<=k/\k<w.heap.size/\¬wJ w d m x k)(hok:zH M=true)(hsd:M.aZ<18446744073709551616)(n:Nat)(hn:n<=999999)(hnx:M.next=I.cV.next+1)(hnx9:I.cV.next<=1000000)(L:List cZ)(B:Nat)(ho:w.ownsRow B 152 3 vl L (fX L))(hL:L.length<=10000)(hm:vU L=true)(hokL:OkL L):
 Calls prog 155 #[zp x.X,.agg (mH M lv).toArray,n,vl] w (W6 w base m d x I cK TN D M n L):=by
 have b0:=(aY w.heap.size w).alloc (aO _) (.cells (mH M lv).toArray 57);have r0:=Row.new w (mH M lv).toArray 57;obtain⟨blk0,dat0,hd0⟩:=S.eD;have Kw:∀y,aS w.heap.size w y->Row y w.heap.size 57 (mH M lv)->FT w base m d x I cK M lv TN vl L D y:=fun y hy hr=>by
  obtain⟨h1,h2⟩:=S.xC ⟨_,_,hd0.next hy⟩ (gS.cQ hy base m);obtain⟨hc,hs⟩:=h2.clear (T:=TN) (fun k hk=>⟨(hT k hk).2.1,(hT k hk).2.2⟩);exact⟨h1,hl.eO fun k hk _=>hs k hk,fun k hk=>⟨(hT k hk).1,(hc k hk).1,(hc k hk).2⟩,⟨B,cA ho hy⟩,hr,gS.cQ hy _ _⟩
 have K1:=aH (Kw _ b0 r0);have HW:=aH (fun(y:aI) (hy:FT w base m d x I cK M lv TN vl L D y)=>show Calls prog 226 #[.pointer (some ⟨d,0,none⟩),.int .i64 (n:Int),vl,.float .f64 cK] y (W4 base d m D n L y)from by
  obtain⟨bk,dk,hdk⟩:=hy.ix.eD;obtain⟨B',ho'⟩:=hy.FI;exact bN0 hdk (aL hb hy.fr.size) n hn vl L cK (fun w' hf=>⟨Reads.dC (hf.own ho' pF hdk.map),hokL⟩) hL hm hokL)
 have HS:=aH (fun(D':aM) (y:aI) (hy:FT w base m d x I cK M lv TN vl L D' y)=>show Calls prog 227 #[.pointer (some ⟨d,0,none⟩),.agg (mH M lv).toArray] y (rI base d m (pV D' M) y)from by
  obtain⟨bk,dk,hdk⟩:=hy.ix.eD;exact ch9 hdk (aL hb hy.fr.size) lv M hy.fC.E9 (LK hok hsd) hok)
 have HD:=aH (fun(D':aM) (y:aI) (hy:FT w base m d x I cK M lv TN vl L D' y)=>show Calls prog 162 #[.pointer (some ⟨d,0,none⟩),.int .i64 (n:Int)] y (rI base d m (oN D' n) y)from by
  obtain⟨bk,dk,hdk⟩:=hy.ix.eD;exact bk2 hdk (aL hb hy.fr.size) n hn)
 have HO:=aH (fun(D':aM) (y:aI) (hy:FT w base m d x I cK M lv TN vl L D' y) (hu:D'.down=false)=>show Calls prog 181 #[.pointer (some ⟨d,0,none⟩),.int .i64 (n:Int)] y (RC base m d n D' y)from by
  obtain⟨bk,dk,hdk⟩:=hy.ix.eD;exact bk1 hdk (aL hb hy.fr.size) hu n hn)
 have FIN:=aH (fun(f:bK) (e:Int) (D':aM) (y:aI) (hfl:f.length<=128+4*L.length) (hX:nD I D M n L f=(e,I,D')) (hy:FT w base m d x I cK M lv TN vl L D' y)=>show W6 w base m d x I cK TN D M n L (.returned (.int .i64 e)) y from by
  refine⟨f,hfl,by rw[hX],x,⟨rfl,rfl⟩,by rw[hX];exact hy.ix,?_⟩;have h2:=(oD.lX hy.fr hd0.FJ).or x.T;exact h2.mono (fun k _ h=>.inl h) (fun k _ h=>.inl h))
 have HUP:=aH (fun(f:bK) (D1 D2:aM) (h1:nL D n L f=(0,D1)) (h2:pV D1 M=(0,D2))=>show D2.down=false from by
  have a:=bH7 D n L f;rw[h1]at a;have b:=cc4 D1 M;rw[h2]at b;exact((b rfl).trans (a rfl)).trans hup)
 have FY:=aH (fun(f:bK) (D':aM) (y z:aI) (p nt:Nat) (NP:Nat->Prop) (L':List cZ) (Mp:Du) (hfl:f.length<=128+4*L.length) (hX:nD I D M n L f=(0,{I with cV:=M,fA:=jA I.fA n (some L')},D')) (hy:FT w base m d x I cK M lv TN vl L D' y) (hp:s7 y NP base p d n L') (hNP:∀k,NP k->w.heap.size<=k/\k<y.heap.size/\¬wJ y d m x k) (mt:TC Mp I.fA x.tb) (hnt:nt<=I.cV.next) (hown:z.ownsMap prog 3 sU x.tm (nt+1) (Mp.put (vV n) (.lit (.int .i64 (p:Int))))) (hg:(tF y x.X M lv).grownBy z (some x.tm))=>show W6 w base m d x I cK TN D M n L (.returned (.int .i64 0)) z from by
  obtain⟨x',h1,h2,h3⟩:=bI4 hy.ix hy.fC hy.out hn hnx hp (fun k hk=>⟨aL hb (hNP k hk).1,(hNP k hk).2⟩) mt hnt hown hg;refine⟨f,hfl,by rw[hX],x',h1,by rw[hX];exact h2,?_⟩;have h4:=(oD.lX hy.fr hd0.FJ).or x.T;have h5:oD base (fun k=>wJ w d m x k\/TN k) (fun k=>wJ y d m x k\/TN k\/NP k) w y:=⟨h4.os,h4.tape,h4.output,h4.size,fun k hk hc=>h4.block k hk (hc.imp id fun h9 h8=>h9 (.inl h8)),fun k hk h9=>by
   rcases h9 with h9|h9|h9
   .exact .inl (h4.rC k hk h9)
   .exact .inr h9
   have:=(hNP k h9).1;omega⟩
  exact h5.trans h3)
 obtain⟨A9,c9,hA⟩:=hl.slice;have HNX:=aH hnx9;have HBB:=aH hb;have HN9:=aH hn;subst hA;unfold mH at *;obtain⟨Ae,ce,rfl,-⟩:=id (Reads.dC ho);clear S hup hl hT hok hsd hnx hnx9 ho hL hm hokL hd0 Kw b0 r0 hb hn;obtain⟨m1,m2,m3,m4⟩:=M;simp only at *;have z0:∀y:dY (w.alloc (.cells #[.int .i64 (m1:Nat),.int .i64 (m2:Nat),.int .u64 (m3:Nat),.slice A9 m4.length c9] 57)),y.it.cell? ⟨x.X,0,none⟩=some (.pointer (some ⟨d,0,none⟩)):=fun y=>(K1.out.next y.ok).ix.idx.cells.1;have z5:∀y:dY (w.alloc (.cells #[.int .i64 (m1:Nat),.int .i64 (m2:Nat),.int .u64 (m3:Nat),.slice A9 m4.length c9] 57)),y.it.cell? ⟨x.X,5,none⟩=some (.float .f64 cK):=fun y=>(K1.out.next y.ok).ix.idx.cells.2.2.2.2.2.1;go_in;go_wp2_with fail
 refine iS (by kernel_rfl) (by kernel_rfl) (by kernel_rfl) (by kernel_rfl) (by kernel_rfl) ?_;simp only[List.dropLast,List.drop,List.length];repeat go_big_quiet_step (fail)
 refine wpQuiet_nil ?_;rintro _ ⟨⟨wq,hwq⟩,rfl⟩;have KQ:=aH (K1.out.next hwq);have hwr:=HW.out _ KQ.out;unfold W4 at hwr;clear z0 z5 hwq;go_wp2_with fail
 refine hwr.mono ?_;rintro y w2 ⟨f,hfl,hop⟩;obtain⟨⟨e1,D1⟩,hr1⟩:∃r,r=nL D n L f:=⟨_,rfl⟩;rw[<-hr1]at hop;unfold rI at hop;obtain⟨rfl,hv2,hf2⟩:=hop;have K2:=aH (KQ.out.xC hv2 hf2);have R1:=aH hr1.symm;have HFL:=aH hfl;clear hwr hv2 hf2 hr1 hfl;by_cases h1:e1=0
 .subst h1;have z0:∀y:dY w2,y.it.cell? ⟨x.X,0,none⟩=some (.pointer (some ⟨d,0,none⟩)):=fun y=>(K2.out.next y.ok).ix.idx.cells.1;have y0:∀y:dY w2,y.it.cell? ⟨w.heap.size,0,none⟩=some (.int .i64 (m1:Nat)):=fun y=>(gY (K2.out.next y.ok).box).1.1;have y1:∀y:dY w2,y.it.cell? ⟨w.heap.size,1,none⟩=some (.int .i64 (m2:Nat)):=fun y=>(gY (K2.out.next y.ok).box).1.2.1;have y2:∀y:dY w2,y.it.cell? ⟨w.heap.size,2,none⟩=some (.int .u64 (m3:Nat)):=fun y=>(gY (K2.out.next y.ok).box).1.2.2.1;have y3:∀y:dY w2,y.it.cell? ⟨w.heap.size,3,none⟩=some (.slice A9 m4.length c9):=fun y=>(gY (K2.out.next y.ok).box).1.2.2.2;go_wp2_with fail
  refine iS (by kernel_rfl) (by kernel_rfl) (by kernel_rfl) (by kernel_rfl) (by kernel_rfl) ?_;simp only[List.dropLast,List.drop,List.length];repeat go_big_quiet_step (fail)
  refine wpQuiet_nil ?_;rintro _ ⟨⟨wq2,hwq2⟩,rfl⟩;have KQ2:=aH (K2.out.next hwq2);have hsw:=HS.out D1 _ KQ2.out;obtain⟨⟨e2,D2⟩,hr2⟩:∃r,r=pV D1 ⟨m1,m2,m3,m4⟩:=⟨_,rfl⟩;rw[<-hr2]at hsw;unfold rI at hsw;simp only at hsw;have R2:=aH hr2.symm;clear z0 y0 y1 y2 y3 hwq2 hr2;go_wp2_with fail
  refine hsw.mono ?_;rintro y w3 ⟨rfl,hv3,hf3⟩;have K3:=aH (KQ2.out.xC hv3 hf3);clear hsw hv3 hf3;have TH:=aH (show kE (nL D n L f) (fun D=>pV D ⟨m1,m2,m3,m4⟩)=(e2,D2)from by rw[R1.out];exact(EZ _ _).trans R2.out);obtain⟨c0,-⟩:=K3.out.ix.idx.cells;by_cases h2:e2=0
  .subst h2;have hop:=HO.out D2 w3 K3.out (HUP.out f D1 D2 R1.out R2.out);unfold RC at hop;obtain⟨ez,hez⟩:∃ez,ez=(kG D2 n).1:=⟨_,rfl⟩;obtain⟨oz,hoz⟩:∃oz,oz=(kG D2 n).2:=⟨_,rfl⟩;by_cases h3:ez=0
   .have h3':(kG D2 n).1=0:=by rw[<-hez];exact h3
    obtain⟨L',hL'⟩:=aE4 h3';have W9:=aH (bq2 (I:=I) TH.out h3' hL');rw[h3',hL']at hop;simp only at hop;obtain⟨nt,Mp,mp1,mp2,mp3⟩:=K3.out.ix.idx.map;have MPP:=aH (And.intro mp2 mp3);have MP1:=aH mp1;clear mp1 mp2 mp3 hez hoz h3 h3' hL';(go_wp2_with fail);refine hop.mono ?_;rintro y w4 ⟨p,rfl,hv4,hf4,hpt⟩;have P4:=aH (hpt L' rfl);have K4:=aH (K3.out.xC hv4 hf4);have F4:=aH hf4;have mp4:w4.ownsMap prog 3 sU x.tm nt Mp:=by
     obtain⟨bk,dk,hdk⟩:=K3.out.ix.eD;obtain⟨hc,hs⟩:=(oD.lX hf4 hdk.FJ).clear (T:=x.T) (fun k hk=>⟨(K3.out.ix.idx.lt k hk).2,K3.out.ix.out k hk⟩);exact nO MP1.out (hs _ (.inr (.inr (.inl rfl))))
    have M4:=aH mp4;have PT:=aH (show∀k,CH w3 w4 d m k->w.heap.size<=k/\k<w4.heap.size/\¬wJ w4 d m x k from fun k hk=>⟨aL K3.out.fr.size hk.1,hk.2.1,fun h9=>by
     rcases h9 with h9|h9
     .exact hk.2.2 h9
     have:=(K3.out.ix.idx.lt k h9).2;have:=hk.1;omega⟩)
    clear hop hv4 hf4 hpt mp4 c0;obtain⟨c0,c1,c2,c3,c4,-,-,c7⟩:=K4.out.ix.idx.cells;have f1:=K4.out.ix.idx.row.frozen 1 (by simp);have f2:=K4.out.ix.idx.row.frozen 2 (by simp);have f3:=K4.out.ix.idx.row.frozen 3 (by simp);have f4:=K4.out.ix.idx.row.frozen 4 (by simp);obtain⟨⟨y0,y1,y2,y3⟩,-⟩:=gY K4.out.box;have htX:x.tm≠x.X:=fun h9=>K4.out.ix.idx.ne.2.1 h9.symm;have hOM:(tF w4 x.X ⟨m1,m2,m3,m4⟩ (.slice A9 m4.length c9)).drew.ownsMap prog 3 sU x.tm nt Mp:=nO M4.out ((GG w4 x.X _ _).block x.tm M4.out.lt (fun h9=>htX (cS h9)));obtain⟨v0,st,wA,wB,hEA,hEB,hOwn,hGr⟩:=ac2 hOM bS1 underlying98 bi6 (by have:=MPP.out.2;have:=HNX.out;unfold maxLen;omega) (FF HN9.out) (LM p);have HE:=aH (And.intro hOwn hGr);unfold tF at hEA;clear hOM hOwn hGr;(go_wp2_with fail);go_region
    all_goals
     go_wp2;go_ret;exact FY.out _ _ _ _ _ _ _ _ _ HFL.out W9.out K4.out P4.out PT.out MPP.out.1 MPP.out.2 HE.out.1 ⟨HE.out.2.os,HE.out.2.tape,HE.out.2.output,HE.out.2.size,HE.out.2.block⟩
   have h3':(kG D2 n).1≠0:=by rw[<-hez];exact h3
   have W9:=aH (bq3 (I:=I) TH.out h3');have hnone:(kG D2 n).2=none:=by
    rcases hq:(kG D2 n).2 with _|L'
    .rfl
    exact absurd (XN hq) h3'
   rw[hnone,<-hez]at hop;rw[<-hez]at W9;simp only at hop;have i2:(ez==0)=false:=bI.2 h3;clear hez hoz h3' hnone;(go_wp2_with fail);refine hop.mono ?_;rintro y w4 ⟨p,rfl,hv4,hf4,-⟩;have K4:=aH (K3.out.xC hv4 hf4);clear hop hv4 hf4 c0;go_wp2;go_ret;exact FIN.out _ _ _ _ HFL.out W9.out K4.out
  have hdr:=HD.out D2 w3 K3.out;have W9:=aH (ax8 (I:=I) TH.out h2);obtain⟨⟨e9,D9⟩,hr9⟩:∃r,r=oN D2 n:=⟨_,rfl⟩;rw[<-hr9]at hdr W9;unfold rI at hdr;simp only at hdr W9;have i2:(e2==0)=false:=bI.2 h2;clear hr9;go_wp2_with fail
  refine hdr.mono ?_;rintro y w9 ⟨rfl,hv9,hf9⟩;have K9:=aH (K3.out.xC hv9 hf9);clear hdr hv9 hf9 c0;go_wp2;go_ret;exact FIN.out _ _ _ _ HFL.out W9.out K9.out
 have hdr:=HD.out D1 w2 K2.out;have W9:=aH (ax8 (I:=I) (D:=D) (M:=⟨m1,m2,m3,m4⟩) (L:=L) (n:=n) (f:=f) (by rw[R1.out];exact F1 h1 _ _) h1);obtain⟨⟨e9,D9⟩,hr9⟩:∃r,r=oN D1 n:=⟨_,rfl⟩;rw[<-hr9]at hdr W9;unfold rI at hdr;simp only at hdr W9;have i2:(e1==0)=false:=bI.2 h1;obtain⟨c0,-⟩:=K2.out.ix.idx.cells;clear hr9;go_wp2_with fail
 refine hdr.mono ?_;rintro y w9 ⟨rfl,hv9,hf9⟩;have K9:=aH (K2.out.xC hv9 hf9);clear hdr hv9 hf9 c0;go_wp2;go_ret;exact FIN.out _ _ _ _ HFL.out W9.out K9.out
variable{G:cT}{S h:dW}
def lB.cg5(H:lB w n S D G I k):∀g,(g=S.L\/S.v.ownBlock=some g)->g<w.heap.size/\¬wJ w S.d S.m S.x g:=λg b=>by
 obtain⟨e,f,d⟩:=H.eD;have a:¬S.x.T g:=λc=>H.sep g c (.inr b);rcases b with rfl|b
 .exact⟨H.log.row.lt,λc=>c.elim (d.nE H.log.row iE.1 (by decide)) a⟩
 exact⟨jG H.log.own g b,λc=>c.elim (d.ch4 (dZ H.log.own b) (H.log.apart g b)) a⟩
def lB.BA{D':aM}{g:oG}(H:lB w n S D G I k)(t:∀u,N u->¬gX w S u)(m:D'.bP=D.bP)(h:IxS y n S.m S.d g J k D')(d:oD n (λu=>wJ w S.d S.m S.x u\/N u) (wJ y S.d S.m g) w y):
 lB y n {S with x:=g} D' G J k/\oD n (λu=>gX w S u\/N u) (gX y {S with x:=g}) w y:=by
  have e:=H.cg5;obtain⟨o,p⟩:=d.clear (T:=λu=>u=S.L\/S.v.ownBlock=some u) (λu b=>⟨(e u b).1,λa=>a.elim (e u b).2 λj=>t u j (.inl (.inr b))⟩);obtain⟨q,r,l⟩:=h.eD;have f:kD y n S.d S.L G D'.bP false S.v:=by rw[m];exact⟨H.log.row.of_block (p _ (.inl rfl)),H.log.low,fG H.log.own λu b=>p u (.inr b),λu b a=>(o u (.inr b)).2 (.inl (.inr (.inr a))),l.FJ,H.log.many,H.log.small,H.log.sure⟩
  have i:∀u,wJ w S.d S.m S.x u\/N u->gX w S u\/N u:=λu c=>by
   rcases c with(c|c)|c
   .exact .inl (.inl (.inl c))
   .exact .inl (.inr c)
   exact .inr c
  have s:∀u,g.T u->¬AE y S.d S.m S.L S.v u:=λu b a=>by
   rcases a with a|a
   .exact h.out u b a
   exact(o u a).2 (.inr b)
  refine⟨⟨h.eD,f,h.idx,s⟩,⟨d.os,d.tape,d.output,d.size,λu b a=>d.block u b (a.imp id λj c=>j (i u c)),λu b a=>?_⟩⟩;rcases a with(a|a)|a
  .exact i u (d.rC u b (.inl a))
  .exact .inl (.inl (.inr a))
  exact i u (d.rC u b (.inr a))
def EK(w:aI)(a:Nat)(h:dW)(c:Nat)(g:Int)(D:aM)(G:cT)(I:bA)(d:aI):Prop:=
 ∃b:dW,b.d=h.d/\b.m=h.m/\b.L=h.L/\b.x.X=h.x.X/\(∃e f,bM d a h.d h.m D e f)/\(g≠61->lB d a b D G I c)/\oD a (gX w h) (gX d b) w d
def lB.left{n:Nat}{s:dW}{k:Nat}(H:lB x n s D G I k)(a:s.d=S.d)(b:s.m=S.m)(c:s.L=S.L)(d:s.x.X=S.x.X)(f:oD n (gX w S) (gX x s) w x):EK w n S k e D G I x:=
 ⟨s,a,b,c,d,by rw[<-a,<-b];exact H.eD,λ_=>H,f⟩
def uP(G:cT)(D:aM):(fY G D).2.1.bW=G.bW:=by
 unfold fY;repeat' split
 all_goals rfl
def lB.BM(H:lB w n S D G I m)(h:aS w.heap.size w x){k:Nat}(j:w.heap.size<=k)(i:¬CD x k):¬gX x S k:=λb=>by
 obtain⟨e,f,c⟩:=H.eD;have d:=c.lt;rcases b with((b|b|b)|b|b)|b
 .have b:k=S.m:=b;omega
 .exact i b
 .have g:OwnAt w S.d k:=(by unfold OwnAt at b|-;rw[<-dH (a:=⟨S.d,9,none⟩) (h.block S.d d.1)];exact b);have:=c.ap6 g;omega
 .have:=H.log.row.lt;have b:k=S.L:=b;omega
 .have:=jG H.log.own k b;omega
 have:=(H.idx.lt k b).2;omega
def QA(h:(∃a,Row w n 3 a)\/∃a,Row w n 33 a):¬CD w n:=by
 rcases h with⟨a,h⟩|⟨a,h⟩
 .exact iL h (by decide)
 exact iL h (by decide)
def lB.ixs{h:dW}(H:lB w n h D G I k):IxS w n h.m h.d h.x I k D:=
 ⟨H.eD,H.idx,λc b a=>H.sep c b (.inl a)⟩
def lB.cn3{h:dW}(b:¬gX w h n):¬wJ w h.d h.m h.x n:=λa=>b (a.elim (λh=>.inl (.inl h)) .inr)
def oQ.au6{h:oG}(H:oQ w k n h I m)(t:zS x k h.mb (.slice none 0 0) [])(f:w.grownBy x (some h.mb)):
 oQ x k n {h with mv:=.slice none 0 0} {I with mem:=[]} m:=by obtain⟨v,B,y,C⟩:=H.ne;obtain⟨z,M,g,u⟩:=H.map;have e:∀D,D<w.heap.size->D≠h.mb->x.heap[D]?=w.heap[D]?:=λD o p=>f.block D o (λd=>p (cS d));refine⟨H.row.of_block (e _ H.row.lt v),H.fC.eO λD d c=>e D c (H.apart D (.inl d)).2.2.2.1,t,⟨z,M,nO g (e _ g.lt (λh=>y h.symm)),u⟩,λE L r=>(H.fA E L r).eO λq s c=>e q c (H.apart q (.inr s)).2.2.2.1,H.low,λD d=>?_⟩;obtain⟨a,b,i,j,l,A⟩:=H.apart D d;exact⟨a,aW b f.size,i,j,l,by simp[Value.ownBlock]⟩
def lB.au6(H:lB w n S D G I k)(g:zS y n S.x.mb (.slice none 0 0) [])(b:w.grownBy y (some S.x.mb)):
 lB y n {S with x:={S.x with mv:=.slice none 0 0}} D G {I with mem:=[]} k/\oD n (gX w S) (gX y {S with x:={S.x with mv:=.slice none 0 0}}) w y:=by
  have h:∀m,({S.x with mv:=.slice none 0 0}:oG).T m->S.x.T m:=λm a=>by
   rcases a with a|a|a|a|a|a
   .exact .inl a
   .exact .inr (.inl a)
   .exact .inr (.inr (.inl a))
   .simp[Value.ownBlock]at a
   .exact .inr (.inr (.inr (.inr (.inl a))))
   exact .inr (.inr (.inr (.inr (.inr a))))
  refine H.OA (H.idx.au6 g b) b.os b.tape b.output b.size (λm f a=>b.block m f λd=>a (.inr (.inl (cS d)))) (λm _ a=>h m a) λm a d=>?_;have c:=h m a;by_cases e:m=S.x.mb
  .subst e;exact iL g.1 (by decide) d
  refine H.sep m c (.inl (.inr (.inl ?_)));obtain⟨C,t,i,j,l⟩:=d;exact⟨C,t,i,by rw[<-b.block m (H.idx.lt m c).2 (λS=>e (cS S))];exact j,l⟩
def cs6(w z:aI)(a:Nat)(h:dW)(c:Nat)(D:aM)(G:cT)(I:bA)(M:iY)(n:Nat)(L:List cZ)(l:Nat->Prop)(e:eT)(d:aI):Prop:=
 ∃(f:bK)(j:Int)(i:bA)(g:aM)(b:dW),f.length<=128+4*L.length/\e=.returned (.int .i64 j)/\nD I D M n L f=(j,i,g)/\(lB d a b g G i c/\b.d=h.d/\b.m=h.m/\b.L=h.L/\b.x.X=h.x.X/\b.x.mb=h.x.mb)/\oD a (gX w h) (gX d b) w d/\∀k,w.heap.size<=k->k<z.heap.size->¬CD z k->¬l k->d.heap[k]?=z.heap[k]?
def lB.cm1{e:eT}(K:lB w n S D G I m)(h:aS w.heap.size w x)(i:∀H,N H->w.heap.size<=H/\¬CD x H)(p:∀f,(nD I D M k L f).2.2.bP=D.bP)(C:W6 x n S.m S.d S.x I m N D M k L e y):cs6 w x n S m D G I M k L N e y:=by
 obtain⟨f,j,rfl,F,⟨z,l⟩,B,A⟩:=C;have o:∀H,N H->¬gX x S H:=λH c=>K.BM h (i H c).1 (i H c).2;obtain⟨E,g⟩:=(K.next h).BA o (p f) B A;have d:=K.l7 h;have b:∀H,H<w.heap.size->(gX x S H\/N H)->gX w S H:=λH c a=>by
  rcases a with a|a
  .exact d.rC H c a
  have:=(i H a).1;omega
 refine⟨f,_,_,_,_,j,rfl,rfl,⟨E,rfl,rfl,rfl,z,l⟩,⟨g.os.trans d.os,g.tape.trans d.tape,g.output.trans d.output,aL d.size g.size,λH c q=>?_,λH c a=>?_⟩,λH r s t u=>?_⟩
 .rw[g.block H (aW c d.size) (q.imp id λv a=>v (b H c a))];exact d.block H c q
 .exact b H c (g.rC H (aW c d.size) a)
 exact g.block H s (.inr λa=>a.elim (K.BM h r t) u)
def TC.del{M:Du}{t:Nat->Option (List cZ)}{e:Nat->Nat}(h:TC M t e){n:Nat}:TC (M.del (vV n)) (jA t n none) e:=by
 refine⟨h.1.del _,λk f c=>?_⟩;unfold jA at c;by_cases d:k=n
 .rw[aU d]at c;cases c
 rw[aQ d]at c;obtain⟨a,b⟩:=h.2 k f c;exact⟨by rw[has_del_other (M1 d)];exact a,λz=>by rw[atKey_del_other (M1 d)];exact b z⟩
def oQ.dropped{h:oG}{M:Du}(H:oQ w k n h I i)(y:TC M I.fA h.tb)(o:x.ownsMap prog 3 sU h.tm j (M.del (vV m)))(p:j<=I.cV.next)(r:w.grownBy x (some h.tm)):
 oQ x k n h {I with fA:=jA I.fA m none} i:=by
  have g:∀D,D<w.heap.size->D≠h.tm->x.heap[D]?=w.heap[D]?:=λD t u=>r.block D t (λd=>u (by cases d;rfl));obtain⟨C,z,A,B⟩:=H.ne;refine⟨H.row.of_block (g _ H.row.lt z),H.fC.eO λD d e=>g D e (H.apart D (.inl d)).2.2.2.2.1,⟨H.mem.1.of_block (g _ H.mem.1.lt A),fG H.mem.2.1 λD d=>g D (jG H.mem.2.1 D d) (B D d).2.2,H.mem.2.2⟩,⟨j,_,o,y.del,p⟩,λD s f=>?_,H.low,λD d=>?_⟩
  .simp only at f;unfold jA at f;by_cases l:D=m
   .rw[aU l]at f;cases f
   rw[aQ l]at f;exact(H.fA D s f).eO λq v e=>g q e (H.apart q (.inr v)).2.2.2.2.1
  obtain⟨a,b,c⟩:=H.apart D d;exact⟨a,aW b r.size,c⟩
def lB.dropped{M:Du}(H:lB w n S D G I m)(o:TC M I.fA S.x.tb)(a:x.ownsMap prog 3 sU S.x.tm i (M.del (vV k)))(g:i<=I.cV.next)(b:w.grownBy x (some S.x.tm)):
 lB x n S D G {I with fA:=jA I.fA k none} m/\oD n (gX w S) (gX x S) w x:=by
  refine H.OA (x':=S.x) (H.idx.dropped o a g b) b.os b.tape b.output b.size (λp f c=>b.block p f λd=>c (.inr (.inr (.inl (cS d))))) (λp _ c=>c) λp c d=>?_;by_cases e:p=S.x.tm
  .subst e;exact sW a d
  refine H.sep p c (.inl (.inr (.inl ?_)));obtain⟨C,t,h,j,l⟩:=d;exact⟨C,t,h,by rw[<-b.block p (H.idx.lt p c).2 (λS=>e (cS S))];exact j,l⟩
def ba1{I:bA}{D:aM}(f:bK)(h:e<0\/5<=e):l6 I D e f=(2,I,D):=by unfold l6;rw[aU h]
def aF9{I:bA}{D:aM}(f:bK)(h:¬(e<0\/5<=e))(a:I.cV.fC.getD e.toNat []=[]):l6 I D e f=(4,I,D):=by unfold l6;rw[aQ h,aU a]
def by3{I I2:bA}{D D2:aM}{a e:Int}(f:bK)(h:¬(a<0\/5<=a))(b:I.cV.fC.getD a.toNat []≠[])(d:nD I D ⟨I.cV.next+1,I.cV.check,I.cV.aZ,mJ I.cV.fC a.toNat I.cV.next⟩ I.cV.next (jV ((I.cV.fC.getD a.toNat []).map λn=>(I.fA n).getD [])) f=(e,I2,D2))(c:e≠0):l6 I D a f=(e,I2,D2):=by unfold l6;rw[aQ h,aQ b];simp only[d,ne_eq,c,not_false_eq_true,eE]
def ba0{I I2:bA}{D D2:aM}(f:bK)(h:¬(e<0\/5<=e))(a:I.cV.fC.getD e.toNat []≠[])(b:nD I D ⟨I.cV.next+1,I.cV.check,I.cV.aZ,mJ I.cV.fC e.toNat I.cV.next⟩ I.cV.next (jV ((I.cV.fC.getD e.toNat []).map λn=>(I.fA n).getD [])) f=(0,I2,D2)):l6 I D e f=kS I2 D2 (I.cV.fC.getD e.toNat []):=by unfold l6;rw[aQ h,aQ a];simp only[b,ne_eq,not_true_eq_false,dP]
def pP(D:aM)(n:bK):(D.delete n).2.bP=D.bP:=by
 unfold aM.delete;repeat' (first|rfl|(unfold aM.change)|(unfold aM.jW)|split|simp only[])
def at8(D:aM)(n:Nat):(oN D n).2.bP=D.bP:=by
 unfold oN;repeat' split
 .exact pP _ _
 .rw[pP,pP]
 show((D.delete (nR n)).2.delete (vI n)).2.bP=D.bP;rw[pP,pP]
structure aw3(D:aM)(I:bA)(k:Int):Prop where
 fA:av6 I D
 val:nM I.cV.fC=true
 nn:I.cV.next∉I.cV.fC.flatten
 sm:∀n∈I.cV.fC.flatten,n<4294967296
 nx:I.cV.next<=999998
 aZ:I.cV.aZ<18446744073709551616
 ok:¬(k<0\/5<=k)->I.cV.fC.getD k.toNat []≠[]->zH ⟨I.cV.next+1,I.cV.check,I.cV.aZ,mJ I.cV.fC k.toNat I.cV.next⟩=true/\(∀f,(nD I D ⟨I.cV.next+1,I.cV.check,I.cV.aZ,mJ I.cV.fC k.toNat I.cV.next⟩ I.cV.next (jV ((I.cV.fC.getD k.toNat []).map fun n=>(I.fA n).getD [])) f).2.2.bP=D.bP)/\(jV ((I.cV.fC.getD k.toNat []).map fun n=>(I.fA n).getD [])).length<=10000/\vU (jV ((I.cV.fC.getD k.toNat []).map fun n=>(I.fA n).getD []))=true
def bp0(w:aI)(a:Nat)(h:dW)(b:Nat)(D:aM)(G:cT)(I:bA)(k:Int)(e:eT)(c:aI):Prop:=
 ∃f:bK,f.length<=128+4*(jV ((I.cV.fC.getD k.toNat []).map fun n=>(I.fA n).getD [])).length/\e=.returned (.int .i64 (l6 I D k f).1)/\EK w a h b (l6 I D k f).1 (l6 I D k f).2.2 G (l6 I D k f).2.1 c
def lsA(a:Nat->Option (List cZ))(b:List Nat)(k:Nat):List (List cZ):=(b.take k).map fun n=>(a n).getD []
def bP9{fA:Nat->Option (List cZ)}{M:List Nat}(h:M[k]?=n)(a:fA n=L):lsA fA M (k+1)=lsA fA M k++[L]:=by unfold lsA;rw[dQ,h];simp[a]
def cg4{a:Nat->Option (List cZ)}{M:List Nat}(h:n<=M):(lsA a M n)=n:=by unfold lsA;rw[gR,bJ,fQ h]
def SP{C:oF}{k:Nat}(h:n∈C.getD k []):n∈C.flatten:=by
 rw[b8]at h;rcases b:C[k]? with _|a
 .rw[b]at h;simp at h
 rw[b]at h;exact wR.2 ⟨a,bD b,h⟩
def bT3{l:oF}{k:Nat}:(l.getD k []).length<=l.flatten:=by
 rw[b8];rcases b:l[k]? with _|a
 .simp
 exact(List.sublist_flatten_of_mem (bD b)).length_le
def cx4(g:aI)(a:Nat)(h:dW)(d:Nat)(G:cT)(k:bA)(i:aM)(c:List Nat)(j:Nat)(wr:aI):Prop:=
 ∃(f:bA)(e:aM)(b:dW),kS k i c=kS f e (c.drop j)/\(lB wr a b e G f d/\b.d=h.d/\b.m=h.m/\b.L=h.L/\b.x.X=h.x.X)/\oD a (gX g h) (gX wr b) g wr
def drop_at{M:List Nat}(h:M[n]?=k):M.drop n=k::M.drop (n+1):=by have⟨a,b⟩:=aR.1 h;rw[<-b];exact gO a
def aL2{M:List Nat}(h:oN D n=(0,E)):kS I D (n::M)=kS {I with fA:=jA I.fA n none} E M:=by
 conv=>lhs;unfold kS
 rw[h];simp only[ne_eq,not_true_eq_false,dP]
def aL1{M:List Nat}(h:oN D n=(e,E))(a:e≠0):kS I D (n::M)=(e,{I with fA:=jA I.fA n none},E):=by unfold kS;rw[h];exact aU a
def aI6(H:lB w n S D G I k)(hb:n<=w)(yg:D.down=false)(zd:Int)(yc:-9223372036854775808<=zd/\zd<=9223372036854775807)(hq:aw3 D I zd):
 Calls prog 102 #[zp S.x.X,zd] w (bp0 w n S k D G I zd):=by
  obtain⟨⟨h,K,M,o⟩,O,g⟩:=I;have⟨xa,xb,hd⟩:=H.eD;have HN:=index_none H.idx;have Y:=U7 S.x.lv o zd w H.idx.fC.E9 hq.val yc hq.sm;have⟨A8,c8,xc⟩:=H.idx.fC.slice;obtain⟨-,-,-,-,c4,-⟩:=H.idx.cells;rw[xc]at c4 Y;have⟨yn,HQ,HH,x8,xx,K0⟩:=aE xc hq H hb yg (wV.refl hd H.idx λzd Q h9=>H.sep zd Q (.inl h9));unfold ZU at Y;clear hd hq hb H yg yc xc;simp only at c4;go_in;go_wp2_with fail
  go_call HN as e w' ⟨rfl,rfl⟩;clear HN;by_cases v:zd<0\/5<=zd
  .have FX:=aH (λf=>ba1 (I:=⟨⟨h,K,M,o⟩,O,g⟩) (D:=D) f v);rw[show yN o zd=2 from by unfold yN;rw[aU v]]at Y;clear v;(go_wp2_with fail);go_call Y as e w1 ⟨v1,rfl,-,t⟩;have B1:=aH t;clear Y t c4;go_wp2;go_ret;refine⟨[],by simp,?_⟩;rw[FX.out];exact⟨rfl,(HH.out.next B1.out).left rfl rfl rfl rfl (HH.out.l7 B1.out)⟩
  by_cases E:o.getD zd.toNat []=[]
  .have FX:=aH (λf=>aF9 (I:=⟨⟨h,K,M,o⟩,O,g⟩) (D:=D) f v E);rw[show yN o zd=4 from by unfold yN;rw[aQ v,aU E]]at Y;clear v E;(go_wp2_with fail);go_call Y as e w1 ⟨v1,rfl,-,t⟩;have B1:=aH t;clear Y t c4;go_wp2;go_ret;refine⟨[],by simp,?_⟩;rw[FX.out];exact⟨rfl,(HH.out.next B1.out).left rfl rfl rfl rfl (HH.out.l7 B1.out)⟩
  rw[show yN o zd=0 from by unfold yN;rw[aQ v,aQ E]]at Y;have⟨xp,xq⟩:=aA (λf e I2 D2 ht he=>by3 (I:=⟨⟨h,K,M,o⟩,O,g⟩) (D:=D) (e:=e) (I2:=I2) (D2:=D2) f v E ht he) (λf I2 D2 ht=>ba0 (I:=⟨⟨h,K,M,o⟩,O,g⟩) (D:=D) (I2:=I2) (D2:=D2) f v E ht);obtain⟨F,rfl⟩:∃F:Nat,zd=(F:Int):=⟨zd.toNat,by omega⟩;simp only[cB]at Y xp xq E;have⟨ys,yp,yr⟩:=aB (HQ.out.ok v E) (show F<5 from by omega) E;have⟨s,hh⟩:=kX (o.getD F []);have HO:=aH hh;have HT:=λ(x0 y:aI)(hy:wV n S.m S.d S.x ⟨⟨h,K,M,o⟩,O,g⟩ k D xa xb x0 y)(ze:Nat)(L:List cZ)(hL:g ze=L)(hn:ze<=999999)(hr:mY D.files ze L)=>cp5 (hy.RT hL).1 hy.eD (hy.RT hL).2 xx.out hr hn;unfold IB at HT;rw[<-hh]at Y;have⟨N,hN⟩:=kX s.length;have⟨h4,yw⟩:=aA hN HT;rw[<-hN]at Y;clear v E hh HT hN;go_wp2_with fail
  go_call Y as e w1 ⟨v1,rfl,m,t⟩;have m:=m trivial;obtain⟨A3,c3,rfl,-⟩:=id (Reads.dC m);have⟨O3,K3,KW,BW,LF⟩:=aD (fO m gC) (show wV n S.m S.d S.x ⟨⟨h,K,M,o⟩,O,g⟩ k D xa xb w1 w1 from .refl (K0.out.next t).eD (K0.out.next t).idx (K0.out.next t).out) (HH.out.next t) t (show∀q,(Value.slice A3 N c3).ownBlock=some q->q<w1.heap.size/\¬gX w1 S q from λq xj=>⟨jG m q xj,HH.out.BM t (dE m q xj) (iL (dZ m xj) iE.2.1)⟩);clear Y m t c4;go_wp2_with fail
  go_loopw [7,9,10,11,35] (λlv _ _ _ i wr=>∃zd:Nat,zd<=N/\i=.int .i64 zd/\lL wr w1 lv (lsA g s zd)/\wV n S.m S.d S.x ⟨⟨h,K,M,o⟩,O,g⟩ k D xa xb w1 wr/\wr.ownsRow w 3 1 (.slice A3 N c3) N (gJ s)) (λ_ _ _ _ i _=>N-(intOf i).toNat)
  .exact⟨0,bO _,rfl,⟨[],rfl,bQ _ _ _ _,λzd x l hx=>by simp at hx⟩,K3.out,O3.out⟩
  obtain⟨zd,Q,rfl,hg,C,ho⟩:=hrel;obtain⟨xo,xz,rfl⟩:=hg.form;have x3:(lsA g s zd).length=zd:=cg4 (by rw[<-h4.out];exact Q);rw[x3]at hg|-;have⟨LS,KR,OR⟩:=aB hg C ho;have c7:=C.idx.cells.2.2.2.2.2.2.2;have h3:=aH x3;have yh:=C.fr.size;have za:N<=40:=by have h1:=HQ.out.val;unfold nM at h1;rw[bH]at h1;have h2:=bT3 (l:=o) (k:=F);rw[<-HO.out,<-h4.out]at h2;exact aL h2 h1.2.1
  by_cases z7:zd<N
  .have i1:(zd:Int)<N:=(by omega);obtain⟨ze,hn⟩:∃ze,s[zd]?=some ze:=⟨_,aK (by rw[<-h4.out];exact z7)⟩;have⟨h6,L,hL,hr,xd⟩:=HQ.out.fA.fA ze (SP (k:=F) (by rw[<-HO.out];exact bD hn));simp only at hL;obtain⟨b,xn,rfl,-,-,-,u⟩:=(Reads.dC ho).W1 (by omega);have c0:wr.cell? (zp b (xn+zd))=some (.int .i64 ze):=(u wr mE zd (by have V:(gJ s)=N:=ho.1.trans (rD N);omega)).trans (by rw[xI hn]);have yd:=Y6 C.idx h6 hL;have yf:=yw.out w1 wr C ze L hL h6 hr;have⟨yu,xr⟩:=aA (bP9 (fA:=g) hn hL) (show OkL L from hr.ok);clear hg C ho hn hL hr u x3 xd;(go_wp2_with fail);go_call yf as y w4 ⟨v4,rfl,W,hf⟩;obtain⟨A4,c9,rfl,-⟩:=id (Reads.dC W);have⟨K4,L4,O4,Q4⟩:=aC (KR.out.xC hf.eD hf.fr) (LS.out.xC KR.out.eD hf.fr) (hf.fr.own OR.out iE.2.1 KR.out.eD.map) (fO W yh);have zb:w1.heap.size<=w4:=K4.out.fr.size;have⟨us,u1,u2,u3⟩:=id L4.out;rw[h3.out]at u1 u2;have U:=aH (And.intro u1 (And.intro u2 u3));clear yf W hf yd c0 c7 u1 u2 u3;(go_wp2_with (at_builtin;refine R7 aI3 underlying222 U.out.2.1 rfl rfl rfl rfl rfl (by omega) (by omega) ?_;intro v5 w5 hi yb y6;have H5:=aH (And.intro hi yb);clear hi yb y6));have h5:=(aY w4 w4).alloc gC (.cells #[.slice A4 L c9] 113);go_roundw
   .
    refine⟨zd+1,by omega,by go_num,?_,?_,?_⟩
    .rw[yu.out];exact lL.snoc (w:=w4) (by rw[h3.out];exact U.out.1) U.out.2.2 Q4.out xr.out h5 H5.out.2 (by rw[h3.out];exact cA U.out.2.1 h5) (by rw[h3.out];exact H5.out.1)
    .exact(K4.out.next h5).grown (λzd Q=>(KW.out.idx.lt zd Q).2) H5.out.2 λq hq=>⟨dE U.out.2.1 q hq,_,_,dZ (cA U.out.2.1 h5) hq,J8.1,J8.2.1⟩
    have:=cA O4.out h5;exact fG this λq hq=>H5.out.2.block q (jG this q hq) λh9=>by have h8:=dI (dZ this hq) (dZ (cA U.out.2.1 h5) h9.symm);exact absurd h8 (by decide)
   simp[intOf];omega
  obtain rfl:zd=N:=(by omega);have i1:¬(zd:Int)<zd:=(by omega);have KS:=aH (KW.out.oC rfl ⟨_,_,C.eD⟩ C.fr);have hu:=HQ.out.val;unfold nM at hu;rw[bH]at hu;have ha:=AO S.x.lv ⟨h,K,M,o⟩ wr C.idx.fC.E9 (by simp only at *;omega) (by simp only at *;omega);obtain⟨-,c1,c2,y0,c4,-⟩:=C.idx.cells;rw[yn.out]at c4 ha;unfold wL mH at ha;simp only at c1 c2 y0 c4 ha;clear hg C ho x3 c7 hu;go_wp2_with fail
  go_call ha as e J ⟨zc,rfl,xl,xg⟩;have⟨A9,c9,yz⟩:=(xl.Y9 gC).slice;subst yz;have b4:=aJ xg (dO J (.cells #[h,K,zu M,.slice A9 o c9] 57));have r4:=Row.new J #[h,K,zu M,.slice A9 o c9] 57;have hA:=Y8 (.slice A9 o c9) o F h _ ((xl.next (dO J (.cells #[h,K,zu M,.slice A9 o c9] 57))).E9) HQ.out.val yp.out yr.out (by have:=HQ.out.nx;simp only at this;omega) HQ.out.nn HQ.out.sm;have⟨B4,R4,G3⟩:=aB b4 r4 xg.size;clear ha xl xg c1 c2 y0 c4 b4 r4 i1;unfold aQ1 at hA;go_wp2_with fail
  go_call hA as e w5 ⟨v5,rfl,xm,hw⟩;have⟨A5,c5,yy⟩:=(xm.Y9 gC).slice;subst yy;have⟨B5,R5,xw,G5⟩:=aC (aJ B4.out hw) (R4.out.next hw) xm hw.size;obtain⟨⟨r0,r1,r2,r3⟩,f0,f1,f2,f3⟩:=gY R5.out;clear hA hw xm;(go_wp2_with fail);rw[show wrap64 ((h:Int)+1)=((h+1:Nat):Int)from by have:=HQ.out.nx;simp only at this;unfold wrap64;omega];have xe:jV (lsA g s zd)=jV ((o.getD F []).map λze=>(g ze).getD []):=by unfold lsA;rw[h4.out,eQ,HO.out]
  have⟨R,hR⟩:=kX (jV ((o.getD F []).map λze=>(g ze).getD []));have h7:=ys.out;have FN:=xp.out;have FY:=xq.out;simp only[cB,<-hR]at h7 FN FY;rw[<-hR]at xe;have⟨xt,x9,FN,FY⟩:=aC h7 hR FN FY;have HD:=aH (λ(z:aI)(V:aS wr wr z)=>show Calls prog 161 #[.slice xo zd xz] z (λe w'=>∃A c,e=.returned (.slice A R c)/\w'.ownsRow z 152 3 (.slice A R c) R (fX R)/\(∀e∈R,wN e)/\aS z z w')from by
   have:=PY (.slice xo zd xz) (lsA g s zd) z (LS.out.next V).lists (by rw[h3.out];omega) (by
    have:=ay3 (ls:=lsA g s zd) (λl hl=>by unfold lsA at hl;obtain⟨ze,hn,rfl⟩:=dR.1 hl;obtain⟨-,L,hL,-,xd⟩:=HQ.out.fA.fA ze (SP (k:=F) (by rw[<-HO.out];exact mL hn));simp only at hL;rw[hL];exact xd);rw[h3.out]at this;omega)
   rwa[xe]at this)
  clear xe hR h7 r0 r1 r2 r3 f0 f1 f2 f3;have BY:=aH ((B5.out.setCell (p:=zp J 3) G3.out (.slice A5 (mJ o F h) c5)).setCell (p:=zp J) G3.out ((h+1:Nat):Int));have⟨KY,RY,LY⟩:=aB (KS.out.1.next BY.out) ((R5.out.set 3 (.slice A5 (mJ o F h) c5)).set 0 ((h+1:Nat):Int)) (((xw.out.az8 R5.out 3 (.slice A5 (mJ o F h) c5)).az8 (R5.out.set 3 _) 0 ((h+1:Nat):Int)).Y9 (base:=n) (by have:=x8.out;have:=BW.out.size;have:=G3.out;rw[bC];omega));clear xw R5 B5 G5;generalize (w5.setCell _ _).setCell _ _=y at KY BY RY LY|-;simp only[nZ,nY]at RY;rw[bC]at LY;have HS:=aH (λ(z:aI)(V:aS y y z)=>show z.cell? (zp J)=((h+1:Nat):Int)/\z.cell? (zp J 1)=K/\z.cell? (zp J 2)=zu M/\z.cell? (zp J 3)=some (.slice A5 (mJ o F h) c5)from by
   obtain⟨⟨a,b,c,d⟩,-⟩:=gY (RY.out.next V);exact⟨a,b,c,d⟩)
  have yv:=aH (λ(z:aI) (vl:aN) (B:Nat) (V:aS y y z) (ho:z.ownsRow B 152 3 vl R (fX R)) (hR:∀e∈R,wN e)=>show Calls prog 155 #[zp S.x.X,.agg #[((h+1:Nat):Int),K,zu M,.slice A5 (mJ o F h) c5],h,vl] z (λe w7=>cs6 wr z n S k D G ⟨⟨h,K,M,o⟩,O,g⟩ ⟨h+1,K,M,mJ o F h⟩ h R (λzd=>(J.heap.size+1<=zd/\zd<y.heap.size/\((∃X,Row y zd 3 X)\/∃X,Row y zd 33 X))) e w7)from by
   have hv:∀zd,(J.heap.size+1<=zd/\zd<y.heap.size/\((∃X,Row y zd 3 X)\/∃X,Row y zd 33 X))->wr.heap.size<=zd/\¬CD z zd:=λzd Q=>⟨by have:=G3.out;omega,QA (Q.2.2.imp (λ⟨X,S⟩=>⟨X,S.next V⟩) (λ⟨X,S⟩=>⟨X,S.next V⟩))⟩;have q1:n<=wr:=aL x8.out (aL BW.out.size yh);have q2:=HQ.out.nx;simp only at q2;have⟨o1,o2,o3,o4⟩:=xt.out;refine(YF (KY.out.next V).ixs (aL q1 (aL BY.out.size V.size)) xx.out _ vl ⟨h+1,K,M,mJ o F h⟩ _ (LY.out.eO λzd _ Q=>V.block zd Q) (λzd Q=>⟨aL q1 (hv zd Q).1,aW Q.2.1 V.size,lB.cn3 (h:=S) (KS.out.1.BM (aJ BY.out V) (hv zd Q).1 (hv zd Q).2)⟩) o1 HQ.out.aZ h (by omega) rfl (by simp only;omega) R B ho o3 o4 hR).mono ?_;intro e w7 ht;exact KS.out.1.cm1 (aJ BY.out V) hv o2 ht)
  have yt:=aH (λ(z w7:aI) (V:aS y y z) (Q:∀zd,wr.heap.size<=zd->zd<z.heap.size->¬CD z zd->¬(J.heap.size+1<=zd/\zd<y.heap.size/\((∃X,Row y zd 3 X)\/∃X,Row y zd 33 X))->w7.heap[zd]?=z.heap[zd]?)=>show w7.cell? (zp J)=((h+1:Nat):Int)/\w7.cell? (zp J 1)=K/\w7.cell? (zp J 2)=zu M/\w7.cell? (zp J 3)=some (.slice A5 (mJ o F h) c5)from by
   have rz:=RY.out.next V;obtain⟨⟨a,b,c,d⟩,-⟩:=gY (rz.of_block (Q _ G3.out rz.lt (iL rz (by decide)) (λh9=>by omega)));exact⟨a,b,c,d⟩)
  go_region_held3 (λz=>z.cell? (zp J)=((h+1:Nat):Int)/\z.cell? (zp J 1)=K/\z.cell? (zp J 2)=zu M/\z.cell? (zp J 3)=some (.slice A5 (mJ o F h) c5))
   (first|(exact yt.out _ _ (aJ mE.drew x1) y4)|(exact HS.out _ (aJ mE.drew x1))|(exact HS.out _ mE.drew)|fail)
   (first|(go_at_call 161;go_call HD.out _ (aJ BY.out mE.drew) as e wD ⟨Ad,cd,rfl,hp,x5,x1⟩)|(go_at_call 155;go_call yv.out _ _ _ (aJ mE.drew x1) hp x5 as e w7 ⟨f,e2,I2,D2,h2,ya,rfl,y5,y2,y1,y4⟩)|fail)
  all_goals
   have⟨X7,K7,E7,FL⟩:=aC y5 y2 (KS.out.2.trans y1) ya;clear y5 y2 y1 y4 ya hp x1 x5;by_cases h9:e2=0
   .subst h9;have x7:=aH (FY.out f I2 D2 X7.out);rw[<-HO.out]at x7;have⟨z1,z2,z3,z4,z5,z6⟩:=K7.out;have D7:=aH (show cx4 w1 n S k G I2 D2 s 0 w7 from⟨I2,D2,h2,by rw[mA],⟨z1,z2,z3,z4,z5⟩,E7.out⟩);clear z1 z2 z3 z4 z5 z6;(go_wp2_with fail);go_loopw [16,17,90] (λ_ _ i wq=>∃j:Nat,j<=zd/\i=.int .i64 j/\cx4 w1 n S k G I2 D2 s j wq) (λ_ _ i _=>zd-(intOf i).toNat)
    .exact⟨0,bO _,rfl,D7.out⟩
    obtain⟨j,hj,rfl,I',D',h',y8,⟨hs,xh,ye,y3,xf⟩,x2⟩:=hrel;have⟨q0,q1⟩:=x2.clear (T:=λq=>(Value.slice A3 zd c3).ownBlock=q) LF.out;have ho:=fG O3.out q1;obtain⟨c0,-,-,-,-,-,-,c7⟩:=hs.idx.cells;rw[xf]at c0 c7;rw[xh]at c0;have⟨SS,SE,P,SD⟩:=aC hs x2 (And.intro xh (And.intro ye (And.intro y3 xf))) y8;have yi:=x2.size;clear q0 q1 hs x2 xh ye y3 xf y8;by_cases z0:j<zd
    .have i1:(j:Int)<zd:=(by omega);obtain⟨ze,hn⟩:∃ze,s[j]?=some ze:=⟨_,aK (by rw[<-h4.out];exact z0)⟩;obtain⟨h6,-⟩:=HQ.out.fA.fA ze (SP (k:=F) (by rw[<-HO.out];exact bD hn));obtain⟨b,xn,rfl,-,-,-,u⟩:=(Reads.dC ho).W1 (by omega);have cn:wr.cell? (zp b (xn+j))=some (.int .i64 ze):=(u _ mE j (by have V:(gJ s)=zd:=ho.1.trans (rD zd);omega)).trans (by rw[xI hn]);have⟨nt,Mp,yj,yk,yl⟩:=SS.out.idx.map;have⟨xy,yx⟩:=aA (And.intro yk yl) yj;have x4:=FF h6;have⟨yo,yq,HJ⟩:=aB (show n<=wr from aL x8.out (aL BW.out.size yi)) h6 (drop_at hn);clear ho u yj yk yl hn h6;go_wp2_with (first
      |(at_delete;refine wpList_delete_own _ rfl _ _ 98 3 rfl 214 bS1 underlying98 sU h'.x.tm nt Mp rfl yx.out _ _ rfl x4 ?_;intro w8 hm h0;have H8:=aH (SS.out.dropped xy.out.1 hm xy.out.2 h0.grown);have q8:=H8.out.1.idx.cells.1;rw[P.out.1,P.out.2.2.2]at q8;clear hm h0))
     have⟨z8,z9,xi⟩:=H8.out.1.eD;rw[P.out.1,P.out.2.1]at xi;have hc:=bk2 xi (aL yo.out H8.out.2.size) ze yq.out;have Z:=at8 D' ze;obtain⟨⟨e8,D8⟩,xk⟩:∃r,r=oN D' ze:=⟨_,rfl⟩;rw[<-xk]at hc Z;unfold rI at hc;simp only at hc Z;have⟨xu,xv⟩:=aA xk.symm Z;clear xi xk Z q8 cn c0 c7 x4;go_call hc as e w9 ⟨rfl,y7,y9⟩;have H9:=aH (H8.out.1.oC (w':=w9) xv.out (by rw[P.out.1,P.out.2.1];exact y7) (by rw[P.out.2.1];exact y9));clear hc y7 y9;by_cases h9:e8=0
     .subst h9;go_wp2;go_roundw
      .refine⟨j+1,by omega,by go_num,{I' with fA:=jA I'.fA ze none},D8,h',?_,⟨H9.out.1,P.out⟩,SE.out.trans (H8.out.2.trans H9.out.2)⟩;rw[SD.out,HJ.out];exact aL2 xu.out
      simp[intOf];omega
     have HF:=aH (show kS I2 D2 s=(e8,{I' with fA:=jA I'.fA ze none},D8)from by
      rw[SD.out,HJ.out];exact aL1 xu.out h9)
     have x6:=aH (x7.out.trans HF.out);go_wp2;go_ret;refine⟨f,by rw[cB,<-x9.out];exact FL.out,?_⟩;rw[x6.out];exact⟨rfl,H9.out.1.left P.out.1 P.out.2.1 P.out.2.2.1 P.out.2.2.2 (((HH.out.l7 BW.out).trans SE.out).trans (H8.out.2.trans H9.out.2))⟩
    obtain rfl:j=zd:=(by omega);have HF:=aH (show kS I2 D2 s=(0,I',D')from by
     rw[SD.out,h4.out,List.drop_length];rfl)
    have x6:=aH (x7.out.trans HF.out);have i1:¬(j:Int)<j:=(by omega);clear ho;go_wp2;go_ret;refine⟨f,by rw[cB,<-x9.out];exact FL.out,?_⟩;rw[x6.out];exact⟨rfl,SS.out.left P.out.1 P.out.2.1 P.out.2.2.1 P.out.2.2.2 ((HH.out.l7 BW.out).trans SE.out)⟩
   have ym:=aH (FN.out f e2 I2 D2 X7.out h9);go_wp2;go_ret;refine⟨f,by rw[cB,<-x9.out];exact FL.out,?_⟩;rw[ym.out];have⟨s1,s2,s3,s4,s5,s6⟩:=K7.out;exact⟨rfl,s1.left s2 s3 s4 s5 ((HH.out.l7 BW.out).trans E7.out)⟩
structure aw8(D:aM)(G:cT)(I:bA):Prop where
 sync:(fY G D).1≠61->(fY G D).2.2.down=false/\(fY G D).2.2.bP=D.bP
 val:nM I.cV.fC=true
 nn:I.cV.next∉I.cV.fC.flatten
 sm:∀n∈I.cV.fC.flatten,n<4294967296
 nx:I.cV.next<=999998
 ok:¬40<=I.cV.fC.flatten.length->I.mem≠[]->zH ⟨I.cV.next+1,jJ G.bW,I.cV.aZ,pC I.cV.fC I.cV.next⟩=true
 aZ:I.cV.aZ<18446744073709551616
 st:∀f,(jI I G D f).2.2.2.bP=D.bP
 mem:I.mem.length<=10000/\vU I.mem=true/\OkL I.mem
def WC(w:aI)(a:Nat)(h:dW)(b:Nat)(D:aM)(G:cT)(I:bA)(e:eT)(c:aI):Prop:=
 ∃f:bK,f.length<=128+4*I.mem.length/\e=.returned (.int .i64 (jI I G D f).1)/\EK w a h b (jI I G D f).1 (jI I G D f).2.2.2 (jI I G D f).2.2.1 (jI I G D f).2.1 c
def bd9{I:bA}{M:cT}(f:bK)(h:fY G D=(e,M,E))(a:e≠0):jI I G D f=(e,I,M,E):=by unfold jI;simp only[h,ne_eq,a,not_false_eq_true,eE]
def bd8{I:bA}{M:cT}(f:bK)(h:fY G D=(0,M,E))(a:I.mem=[]):jI I G D f=(0,I,M,E):=by unfold jI;simp only[h,ne_eq,not_true_eq_false,dP,a,eE]
def aJ9{I:bA}{M:cT}(f:bK)(h:fY G D=(0,M,E))(b:I.mem≠[])(a:40<=I.cV.fC.flatten.length):jI I G D f=(60,I,M,E):=by unfold jI;simp only[h,ne_eq,not_true_eq_false,dP,b,eE,a]
def UF{M:cT}{F:aM}(f:bK)(h:fY G D=(0,M,E))(b:I.mem≠[])(a:¬40<=I.cV.fC.flatten.length)(c:nD I E ⟨I.cV.next+1,jJ G.bW,I.cV.aZ,pC I.cV.fC I.cV.next⟩ I.cV.next I.mem f=(e,J,F)):jI I G D f=(e,if e=0 then {J with mem:=[]} else J,M,F):=by unfold jI;simp only[h,ne_eq,not_true_eq_false,dP,b,a,c]
def aI7(H:lB w n S D G I k)(hb:n<=w)(hg:D.down=false)(hq:aw8 D G I):
 Calls prog 101 #[zp S.x.X,zp S.L] w (WC w n S k D G I):=by
  obtain⟨⟨g,P,q,i⟩,h,l⟩:=I;have⟨xe,xf,hd⟩:=H.eD;have HN:=index_none H.idx;have HL:=ai7 H.log hd hb hg;obtain⟨⟨e1,G1,D1⟩,hr⟩:∃r,r=fY G D:=⟨_,rfl⟩;have hy:G1.bW=G.bW:=by have:=uP G D;rwa[<-hr]at this
  rw[<-hr]at HL;unfold LOp at HL;simp only at HL;have⟨R,s,HH,x3,xd⟩:=aD hr.symm hq H hy hb;clear hr hd hy hq hb H;go_in;go_wp2_with fail
  go_call HN as e w' ⟨rfl,rfl⟩;clear HN;go_wp2_with fail
  go_call HL as e w1 ⟨rfl,N,⟨v',x7,h0,L,o⟩,J⟩;clear HL;have E1:=aH (oD.orS (h:=S) (h':={S with v:=v'}) rfl (oD.NV J HH.zz.log.eD L));by_cases h1:e1=0
  .subst h1;obtain rfl:=o (by decide);have hx:=s.zz.sync (by rw[R.zz];show¬((0:Int)=61);decide);rw[R.zz]at hx;have⟨h6,h5⟩:=hx;obtain⟨t,x6⟩:=aA (HH.zz.xJ N (by rw[h5];exact h0) J L).1 h6;clear N h0 L o J h6 h5;have K:=cc1 t.zz.idx.mem;simp only at K;have⟨c0,c1,c2,c3,c4,T,c6,c7⟩:=t.zz.idx.cells;by_cases A:h=[]
   .have FX:=aH (λf=>bd8 (I:=⟨⟨g,P,q,i⟩,h,l⟩) f R.zz A);rw[A]at K;clear A;(go_wp2_with fail);go_call K as e w' ⟨rfl,rfl⟩;go_wp2;go_ret;refine⟨[],by simp,?_⟩;rw[FX.zz];exact⟨rfl,t.zz.left rfl rfl rfl rfl E1.zz⟩
   have hv:(((h.length:Nat):Int)==0)=false:=by rw[bI];intro C;have:=fE.1 (Int.ofNat.inj C);exact A this
   have N2:=aH A;obtain⟨xb,xa,-⟩:=id t.zz.idx.cg1;have O:=s.zz.val;unfold nM at O;rw[bH]at O;have Z:=AO S.x.lv ⟨g,P,q,i⟩ w1 t.zz.idx.fC.E9 (by simp only at *;omega) (by simp only at *;omega);have⟨A8,c8,ha⟩:=t.zz.idx.fC.slice;rw[ha]at c4 Z;unfold wL mH at Z;simp only at *;have xc:=aH ha;clear ha;clear A xa xb O;(go_wp2_with fail);go_call K as e w' ⟨rfl,rfl⟩;clear K;(go_wp2_with fail);go_call Z as e j ⟨xg,rfl,h3,X⟩;have⟨A9,c9,x9⟩:=(h3.Y9 gC).slice;subst x9;have⟨x4,x1⟩:=aA h3 X;have b4:=aJ X (dO j (.cells #[.int .i64 g,.int .i64 P,.int .u64 q,.slice A9 i.length c9] 57));have r4:=Row.new j #[.int .i64 g,.int .i64 P,.int .u64 q,.slice A9 i.length c9] 57;have hA:=bb2 (.slice A9 i.length c9) i g _ ((h3.next (dO j (.cells #[.int .i64 g,.int .i64 P,.int .u64 q,.slice A9 i.length c9] 57))).E9) s.zz.val (by have:=s.zz.nx;simp only at this;omega) s.zz.nn s.zz.sm;have⟨B4,R4⟩:=aA b4 r4;have hs:w1.heap.size<=j.heap.size:=X.size;have V:=aH hs;clear Z h3 X c0 c1 c2 c3 c4 T c6 c7 hv hg x4 x1 hs b4 r4;unfold bp5 at hA;by_cases h4:40<=i.flatten.length
   .simp only[h4,eE]at hA;have FX:=aH (λf=>aJ9 (I:=⟨⟨g,P,q,i⟩,h,l⟩) f R.zz N2.zz h4);clear h4;(go_wp2_with fail);go_call hA as e w5 ⟨v5,rfl,-,m⟩;have⟨K5,E5⟩:=aA (t.zz.next (aJ B4.zz m)) (E1.zz.trans (t.zz.l7 (aJ B4.zz m)));clear hA m;go_wp2;go_ret;refine⟨[],by simp,?_⟩;rw[FX.zz];exact⟨rfl,K5.zz.left rfl rfl rfl rfl E5.zz⟩
   simp only[h4,dP]at hA;have N4:=aH h4;clear h4;(go_wp2_with fail);go_call hA as e w5 ⟨v5,rfl,hw,m⟩;have hf:=(hw (λC=>C)).toU (by have:=(aP3 i g (by have:=s.zz.val;unfold nM at this;rw[bH]at this;exact this.1)).1;omega);have⟨A5,T,x8⟩:=(hf.Y9 gC).slice;subst x8;have⟨K5,B5,R5⟩:=aB (t.zz.next (aJ B4.zz m)) (aJ B4.zz m) (R4.zz.next m);have HE:=Q6 K5.zz.log;simp only[x3.zz]at HE;have⟨x5,G5⟩:=aA hf m.size;clear hA m hw hf;(go_wp2_with fail);go_call HE as e w6 ⟨rfl,F⟩;have⟨R6,B6,hj,G6⟩:=aC (R5.zz.next F) (aJ B5.zz F) (x5.zz.next F) F.size;obtain⟨⟨r0,r1,r2,r3⟩,f0,f1,f2,f3⟩:=gY R6.zz;clear HE F;(go_wp2_with fail);have⟨E,hE⟩:=kX (jJ G.bW);have h7:=s.zz.ok N4.zz N2.zz;have hi:∀f,(nD ⟨⟨g,P,q,i⟩,h,l⟩ D1 ⟨g+1,E,q,pC i g⟩ g h f).2.2.bP=D1.bP:=λf=>by have C:=s.zz.st f;rw[UF f R.zz N2.zz N4.zz rfl,<-hE]at C;have h8:=s.zz.sync (by rw[R.zz];show¬((0:Int)=61);decide);rw[R.zz]at h8;exact C.trans h8.2.symm
   have FX:=aH (λ(f:bK) (e2:Int) (I2:bA) (D2:aM) (ht:nD ⟨⟨g,P,q,i⟩,h,l⟩ D1 ⟨g+1,E,q,pC i g⟩ g h f=(e2,I2,D2))=>UF f R.zz N2.zz N4.zz (hE▸ht));simp only[<-hE]at h7|-;clear hE;rw[show wrap64 ((g:Int)+1)=((g+1:Nat):Int)from by have:=s.zz.nx;simp only at this;unfold wrap64;omega];have⟨KY,BY,RY,LY⟩:=aC (t.zz.next (((B6.zz.setCell (p:=⟨j.heap.size,3,none⟩) V.zz (.slice A5 (pC i g).length T)).setCell (p:=⟨j.heap.size,0,none⟩) V.zz (.int .i64 ((g+1:Nat):Int))).setCell (p:=⟨j.heap.size,1,none⟩) V.zz (.int .i64 E))) (((B6.zz.setCell (p:=⟨j.heap.size,3,none⟩) V.zz (.slice A5 (pC i g).length T)).setCell (p:=⟨j.heap.size,0,none⟩) V.zz (.int .i64 ((g+1:Nat):Int))).setCell (p:=⟨j.heap.size,1,none⟩) V.zz (.int .i64 E)) (((R6.zz.set 3 (.slice A5 (pC i g).length T)).set 0 (.int .i64 ((g+1:Nat):Int))).set 1 (.int .i64 E)) ((((hj.zz.az8 R6.zz 3 (.slice A5 (pC i g).length T)).az8 (R6.zz.set 3 _) 0 (.int .i64 ((g+1:Nat):Int))).az8 ((R6.zz.set 3 _).set 0 _) 1 (.int .i64 E)).Y9 (base:=n) (by have:=t.zz.idx.row.lt;have:=t.zz.idx.low.1;have:=V.zz;rw[bC];omega));clear r0 r1 r2 r3 f0 f1 f2 f3;clear hj R6 B6;generalize ((w6.setCell _ _).setCell _ _).setCell _ _=y at KY BY RY LY|-;simp only[nZ,nY]at RY;rw[bC]at LY;have HS:=aH (λ(z:aI)(u:aS y.heap.size y z)=>show z.cell? ⟨j.heap.size,0,none⟩=some (.int .i64 ((g+1:Nat):Int))/\z.cell? ⟨j.heap.size,1,none⟩=some (.int .i64 E)/\z.cell? ⟨j.heap.size,2,none⟩=some (.int .u64 q)/\z.cell? ⟨j.heap.size,3,none⟩=some (.slice A5 (pC i g).length T)/\z.cell? ⟨S.x.X,6,none⟩=some (.pointer (some ⟨S.x.mb,0,none⟩))from by
    obtain⟨⟨a,b,c,d⟩,-⟩:=gY (RY.zz.next u);exact⟨a,b,c,d,(KY.zz.next u).idx.cells.2.2.2.2.2.2.1⟩)
   have HD:=aH (λ(z:aI)(u:aS y.heap.size y z)=>bJ1 (KY.zz.next u).idx.mem (by have:=s.zz.mem.1;simp only at this|-;omega));have HT:=aH (λ(z:aI) (vl:aN) (B:Nat) (u:aS y.heap.size y z) (ho:z.ownsRow B 152 3 vl h.length (fX h))=>show Calls prog 155 #[.pointer (some ⟨S.x.X,0,none⟩),.agg #[.int .i64 ((g+1:Nat):Int),.int .i64 E,.int .u64 q,.slice A5 (pC i g).length T],.int .i64 g,vl] z (λe Q=>cs6 w1 z n {S with v:=v'} k D1 G1 ⟨⟨g,P,q,i⟩,h,l⟩ ⟨g+1,E,q,pC i g⟩ g h (λxh=>j.heap.size+1<=xh/\xh<y.heap.size/\((∃x,Row y xh 3 x)\/∃x,Row y xh 33 x)) e Q)from by
    have W:∀xh,(j.heap.size+1<=xh/\xh<y.heap.size/\((∃x,Row y xh 3 x)\/∃x,Row y xh 33 x))->w1.heap.size<=xh/\¬CD z xh:=λxh U=>⟨by have:=V.zz;omega,QA (U.2.2.imp (λ⟨x,S⟩=>⟨x,S.next u⟩) (λ⟨x,S⟩=>⟨x,S.next u⟩))⟩;have q1:n<=w1.heap.size:=(by have:=t.zz.idx.row.lt;have:=t.zz.idx.low.1;simp only at *;omega);have q2:=s.zz.nx;simp only at q2;refine(YF (KY.zz.next u).ixs (aL q1 (aL BY.zz.size u.size)) x6.zz _ vl ⟨g+1,E,q,pC i g⟩ _ (LY.zz.eO λxh _ U=>u.block xh U) (λxh U=>⟨aL q1 (W xh U).1,aW U.2.1 u.size,lB.cn3 (h:={S with v:=v'}) (t.zz.BM (aJ BY.zz u) (W xh U).1 (W xh U).2)⟩) h7 s.zz.aZ g (by omega) rfl (by simp only;omega) h B ho s.zz.mem.1 s.zz.mem.2.1 s.zz.mem.2.2).mono ?_;intro e Q ht;exact t.zz.cm1 (aJ BY.zz u) W hi ht)
   have x2:=aH (λ(z Q:aI) (u:aS y.heap.size y z) (A:dW) (I2:bA) (D2:aM) (k7:lB Q n A D2 G1 I2 k/\A.d=S.d/\A.m=S.m/\A.L=S.L/\A.x.X=S.x.X/\A.x.mb=S.x.mb) (U:∀xh,w1.heap.size<=xh->xh<z.heap.size->¬CD z xh->¬(j.heap.size+1<=xh/\xh<y.heap.size/\((∃x,Row y xh 3 x)\/∃x,Row y xh 33 x))->Q.heap[xh]?=z.heap[xh]?)=>show Q.cell? ⟨j.heap.size,0,none⟩=some (.int .i64 ((g+1:Nat):Int))/\Q.cell? ⟨j.heap.size,1,none⟩=some (.int .i64 E)/\Q.cell? ⟨j.heap.size,2,none⟩=some (.int .u64 q)/\Q.cell? ⟨j.heap.size,3,none⟩=some (.slice A5 (pC i g).length T)/\Q.cell? ⟨S.x.X,6,none⟩=some (.pointer (some ⟨S.x.mb,0,none⟩))from by
    have rz:=RY.zz.next u;obtain⟨⟨a,b,c,d⟩,-⟩:=gY (rz.of_block (U _ V.zz rz.lt (iL rz (by decide)) (λC=>by omega)));have⟨s1,s2,s3,s4,s5,s6⟩:=k7;have:=s1.idx.cells.2.2.2.2.2.2.1;rw[s5,s6]at this;exact⟨a,b,c,d,this⟩)
   clear h7 hi;go_region_held3 (λz=>z.cell? ⟨j.heap.size,0,none⟩=some (.int .i64 ((g+1:Nat):Int))/\z.cell? ⟨j.heap.size,1,none⟩=some (.int .i64 E)/\z.cell? ⟨j.heap.size,2,none⟩=some (.int .u64 q)/\z.cell? ⟨j.heap.size,3,none⟩=some (.slice A5 (pC i g).length T)/\z.cell? ⟨S.x.X,6,none⟩=some (.pointer (some ⟨S.x.mb,0,none⟩)))
    (first|(exact x2.zz _ _ (aJ mE.drew Y) _ _ _ he hm)|(exact HS.zz _ (aJ mE.drew Y))|(exact HS.zz _ mE.drew)|fail)
    (first|(go_at_call 156;go_call HD.zz _ mE.drew as e wD ⟨vd,rfl,M,Y⟩)|(go_at_call 155;go_call HT.zz _ _ _ (aJ mE.drew Y) M as e Q ⟨f,e2,I2,D2,A,hp,rfl,hn,he,hl,hm⟩)|fail)
   all_goals
    have⟨X7,K7,E7,FL⟩:=aC hn he (E1.zz.trans hl) hp;clear hn he hl hm hp M Y;have c6:=K7.zz.1.idx.cells.2.2.2.2.2.2.1;rw[K7.zz.2.2.2.2.1,K7.zz.2.2.2.2.2]at c6;by_cases C:e2=0
    .subst C;have hc:=br2 K7.zz.1.idx.mem;rw[K7.zz.2.2.2.2.2]at hc;(go_wp2_with fail);go_call hc as e w8 ⟨rfl,x0,hu⟩;have T8:=aH (And.intro x0 hu);clear hc x0 hu;go_wp2;go_ret;refine⟨f,FL.zz,?_⟩;rw[FX.zz _ _ _ _ X7.zz];have⟨s1,s2,s3,s4,s5,s6⟩:=K7.zz;have⟨t8,g8⟩:=T8.zz;rw[<-s6]at t8 g8;have⟨k8,v8⟩:=s1.au6 t8 g8;exact⟨rfl,k8.left s2 s3 s4 s5 (E7.zz.trans v8)⟩
    have hh:=aH (And.intro (FX.zz _ _ _ _ X7.zz) C);go_wp2;go_ret;refine⟨f,FL.zz,?_⟩;rw[hh.zz.1,aQ hh.zz.2];have⟨s1,s2,s3,s4,s5,s6⟩:=K7.zz;exact⟨rfl,s1.left s2 s3 s4 s5 E7.zz⟩
  have⟨FX,HV⟩:=aA (λf=>bd9 (I:=⟨⟨g,P,q,i⟩,h,l⟩) f R.zz h1) N;have t:=aH (λ(C:e1≠61)=>show lB w1 n {S with v:=v'} D1 G1 ⟨⟨g,P,q,i⟩,h,l⟩ k from by
   obtain rfl:=o C;have h8:=s.zz.sync (by rw[R.zz];exact C);rw[R.zz]at h8;exact(HH.zz.xJ N (by rw[h8.2];exact h0) J L).1)
  clear N h0 L o J hg;go_wp2;go_ret;refine⟨[],by simp,?_⟩;rw[FX.zz];exact⟨rfl,{S with v:=v'},rfl,rfl,rfl,rfl,HV.zz,t.zz,E1.zz⟩
def yW(a:Nat)(r:lI)(k:Nat):List cZ:=(List.range k).map fun i:Nat=>(lJ a (lb (kW r.2).1),(kW r.2).2.1+(i:Int),(r.1:Int))
def ak5(a:Nat)(r:lI):yW a r (kW r.2).2.2.length=tV a r:=rfl
def be2(a:Nat)(r:lI)(k:Nat):yW a r (k+1)=yW a r k++[(lJ a (lb (kW r.2).1),(kW r.2).2.1+(k:Int),(r.1:Int))]:=by unfold yW;rw[r8,iJ];rfl
def aK8(a:Nat)(A:List lI)(r:lI):fJ a (A++[r])=fJ a A++tV a r:=by unfold fJ;rw[dU];simp
def vB(w:aI)(a:Nat)(h:dW)(c:Nat)(D:aM)(G:cT)(I:bA)(d:aI):Prop:=
 ∃b:dW,(b.d=h.d/\b.m=h.m/\b.L=h.L/\b.x.X=h.x.X)/\lB d a b D G I c/\oD a (gX w h) (gX d b) w d
def vB.start(H:lB w n S D G I k){x:aI}(a:aS w.heap.size w x):vB w n S k D G I x:=
 ⟨S,⟨rfl,rfl,rfl,rfl⟩,H.next a,H.l7 a⟩
def vB.next{w:aI}{base:Nat}{h:dW}{I:bA}{n:Nat}(H:vB w base h n D G I x)(a:aS x.heap.size x y):vB w base h n D G I y:=by obtain⟨b,e,s,v⟩:=H;exact⟨b,e,s.next a,v.trans (s.l7 a)⟩
def vB.size{w w':aI}{base:Nat}{h:dW}{n:Nat}(H:vB w base h n D G I w'):w.heap.size<=w'.heap.size:=by obtain⟨a,e,s,v⟩:=H;exact v.size
def vB.read{s:dW}(d:s.d=S.d/\s.m=S.m/\s.L=S.L/\s.x.X=S.x.X)(h:lB x n s D G I k)(v:oD n (gX w S) (gX x s) w x)(c:∃a b,bM y n s.d s.m D a b)(e:gS n s.m x y):vB w n S k D G I y:=by obtain⟨f,g⟩:=h.oC rfl c e;exact⟨s,d,f,v.trans g⟩
def vB.stays(H:vB w n S m D G I x){k:Nat}(b:k<w.heap.size)(a:¬gX w S k):x.heap[k]?=w.heap[k]?:=by obtain⟨c,e,s,v⟩:=H;exact v.block k b (.inr a)
variable{B:List lI}{r:lI}
def aa0(G:cT)(D:aM):Prop:=∀n,n<G.bW.length->∃f,bR D.files (gZ n)=some f/\f.data.length=G.bW.getD n 0/\f.data.length<=4096
structure co0(G:cT)(D:aM)(I:bA)(a:List lI):Prop where
 cV:zH I.cV=true
 aZ:I.cV.aZ<18446744073709551616
 on:aa0 G D
 cp3:∀r∈a,qN r.2=true/\r.2.length<=2000/\r.1+r.2.length+12<=1000000
 FI:∀e∈fJ I.cV.aZ a,wN e/\pZ e=true
 yV:I.mem.length+(fJ I.cV.aZ a).length<=1000000
def cA1(w:aI)(b:Nat)(h:dW)(c:Nat)(D:aM)(G:cT)(I:bA)(d:List lI)(i:aN)(wr:aI):Prop:=
 ∃(A B:List lI)(a:Nat),i=.int .i64 (a:Int)/\d=A++B/\LG G D a B/\a<=1000000/\vB w b h c D G {I with mem:=(fJ I.cV.aZ A).foldl oV I.mem} wr
def cf7{I:bA}{P R:List lI}(g:I.mem.length+(fJ I.cV.aZ P).length<=1000000)(a:P=R++r::B)(k:Nat)(h:k<(kW r.2).2.2.length):((yW I.cV.aZ r k).foldl oV ((fJ I.cV.aZ R).foldl oV I.mem)).length<=1000000:=by
 subst a;have b:=vY (yW I.cV.aZ r k) ((fJ I.cV.aZ R).foldl oV I.mem);have c:=vY (fJ I.cV.aZ R) I.mem;have d:(fJ I.cV.aZ (R++r::B)).length=(fJ I.cV.aZ R).length+(tV I.cV.aZ r).length+(fJ I.cV.aZ B).length:=by unfold fJ;simp[dU,fL]
 have e:(tV I.cV.aZ r).length=(kW r.2).2.2.length:=(by simp[tV]);have f:(yW I.cV.aZ r k).length=k:=(by simp[yW]);omega
def bU4{aZ:Nat}{A B:List lI}{r:lI}{k:Nat}(a:k<(kW r.2).2.2.length):(lJ aZ (lb (kW r.2).1),(kW r.2).2.1+(k:Int),(r.1:Int))∈fJ aZ (A++r::B):=by refine nP.2 ⟨r,by simp,?_⟩;unfold tV;exact dR.2 ⟨k,gB.2 a,rfl⟩
def OY(w:aI)(a:Nat)(h:dW)(c:Nat)(D:aM)(G:cT)(I:bA)(B:Nat)(f:List aN)(d:Nat)(r:lI)(k:Nat)(e:aI):Prop:=
 ∃b:dW,(b.d=h.d/\b.m=h.m/\b.L=h.L/\b.x.X=h.x.X)/\lB e a b D G {I with mem:=(yW d r k).foldl oV I.mem} c/\oD a (gX w h) (gX e b) w e/\Row e B 129 f/\¬gX e b B
def OY.start{x:aI}(C:Array aN)(a:Nat)(r:lI)(f:vB w n S k D G I x):OY w n S k D G I x.heap.size C.toList a r 0 (x.alloc (.cells C 129)):=by obtain⟨d,e,s,v⟩:=f;have b:=dO x (.cells C 129);have c:=Row.new x C 129;exact⟨d,e,s.next b,v.trans (s.l7 b),c,s.BM b (aO _) (iL c (by decide))⟩
def OY.to(H:OY w n S k D G I i X j r m x):vB w n S k D G {I with mem:=(yW j r m).foldl oV I.mem} x:=by obtain⟨a,b,s,v,-⟩:=H;exact⟨a,b,s,v⟩
def OY.call(H:OY w n S k D G I i X j r m x)(t:n<=x.heap.size)(e:cZ)(d:e=(lJ j (lb (kW r.2).1),(kW r.2).2.1+(m:Int),(r.1:Int)))(u:wN e)(y:pZ e=true)(z:((yW j r m).foldl oV I.mem).length<=1000000):
 Calls prog 94 #[.pointer (some ⟨S.x.X,0,none⟩),.agg (iX e)] x (λC l=>C=.returned (.int .i64 0)/\OY w n S k D G I i X j r (m+1) l):=by obtain⟨g,b,s,v,a,h⟩:=H;have:=bA6 s.idx t e u y z;rw[b.2.2.2]at this;refine this.mono λC l c=>?_;obtain⟨rfl,B,o,p,q⟩:=c;obtain⟨A,f⟩:=s.O1 p o q;refine⟨rfl,{g with x:={g.x with mv:=B}},b,?_,v.trans f,a.of_block (f.block i a.lt (.inr h)),λc=>h (f.rC i a.lt c)⟩;rw[be2,lP,<-d];exact A
def X9(H:lB w n S D G I k)(hb:n<=w.heap.size)(h0:D.down=false)(K:List lI)(hq:co0 G D I K)(fr:Nat)(he:fr<=1000000)(hc:LG G D fr K):
 Calls prog 123 #[.pointer (some ⟨S.x.X,0,none⟩),.pointer (some ⟨S.L,0,none⟩),.int .i64 fr] w (λe w'=>e=.returned (.int .i64 0)/\vB w n S k D G {I with mem:=(fJ I.cV.aZ K).foldl oV I.mem} w'):=by
  have N:=vW H.idx hq.cV;unfold wL at N;obtain⟨⟨m1,m2,b,m4⟩,d,p⟩:=I;have⟨z,h8,L,S0,HH,HC⟩:=aE hq h0 hb (vB.start H (aY w.heap.size w)) H hc;unfold mH at N;simp only at N;clear hq h0 hb H hc;go_in;(go_wp2_with fail);refine N.mono ?_;rintro e w1 ⟨hj,rfl,-,Q⟩;have S1:=aH (S0.out.next Q);have hp:∀x:aI,(Instr.field 57 (.agg #[.int .i64 m1,.int .i64 m2,.int .u64 b,hj]) 2).run prog x=.ok (.int .u64 b) x:=λ_=>(by kernel_rfl);clear N Q;go_wp2_with fail
  go_loopw [8,9,10,11,12,13,14,15,16] (λi _ _ _ _ _ _ _ _ wr=>cA1 w n S k D G ⟨⟨m1,m2,b,m4⟩,d,p⟩ K i wr) (λi _ _ _ _ _ _ _ _ _=>1000000-(intOf i).toNat)
  .exact⟨[],K,fr,rfl,rfl,HC.out,he,S1.out⟩
  obtain⟨A,B,h3,rfl,l,F,hl,h',t,s,v⟩:=hrel;obtain⟨hm,ho,hd⟩:=s.eD;have q:=aH0 s.log hd h8.out (aL L.out v.size) z.out.on h3 (by omega);rw[t.2.2.1]at q;have⟨SS,SV,SE,j⟩:=aC s v t l;cases B with
  |nil=>rw[show CU G D (h3:Nat)=(4,[],0,0)from F]at q;have HR:=aH (show K=A from by rw[l,fU]);clear F hd s v t l;simp only at q;(go_wp2_with fail);refine q.mono ?_;rintro e w2 ⟨rfl,o,-,c⟩;have S2:=aH (vB.read SE.out SS.out SV.out ⟨_,_,o⟩ c);clear q o c;go_wp2;go_ret;rw[HR.out];exact⟨rfl,S2.out⟩
  |cons r B=>
   obtain⟨W,hg,u⟩:=F;rw[W]at q;obtain⟨q1,q2,q3⟩:=z.out.cp3 r (by rw[l];simp);have h4:=aH u;obtain⟨g,h⟩:=r;have m:=λy:aI=>UX (bs h) y (by rw[eK];simp only at q2;omega);rw[gF]at m;rw[show OO h=0 from by unfold OO;rw[aU q1]]at m;unfold KD at q;simp only at q q2 q3 hg;obtain⟨bv,hV⟩:∃bv,kW h=bv:=⟨_,rfl⟩;rw[hV]at m;obtain⟨J,O,l1⟩:=bv;have C:=aH hV;clear hV;clear W u hd s v t l q1;(go_wp2_with fail);refine q.mono ?_;rintro e w2 ⟨rfl,o,-,c⟩;have S2:=aH (vB.read SE.out SS.out SV.out ⟨_,_,o⟩ c);clear q o c;(go_wp2_with fail);refine(m w2).mono ?_;rintro e w3 ⟨vb,rfl,⟨A9,c9,rfl,U,hh,ha,c⟩,R⟩;have S3:=S2.out.next R;simp only at hh ha c;obtain⟨A',c',hi,T,h9,-⟩:=id U.1;cases hi;have Y:=z.out.aZ;have hf:l1.length<=8:=by have h1:=(z.out.cp3 (g,h) (by rw[j.out];simp)).1;have h2:=(iM (FH h1).1).2.2.2.1;simp only[C.out]at h2;exact h2
   have Z:J.size<=1000000:=by have h1:=(z.out.cp3 (g,h) (by rw[j.out];simp)).1;have h2:=(iM (FH h1).1).2.1;simp only[C.out]at h2;omega
   have M:=λy:aI=>DA b J y Y Z;obtain⟨hs,P⟩:∃hs,hs=l1.length:=⟨_,rfl⟩;have E:=OY.start #[.string J,.int .i64 O,.slice A9 l1.length c9] b (g,h) S3;simp only at T|-;rw[<-P]at E T hf|-;have HN:=aH P;have HX:=aH (λ(hr:Nat)(hk:hr<hs)=>show wN (lJ b (lb J),O+(hr:Int),(g:Int))/\pZ (lJ b (lb J),O+(hr:Int),(g:Int))=true from by
    have:=bU4 (aZ:=b) (A:=A) (B:=B) (r:=(g,h)) (k:=hr) (by simp only;rw[C.out,<-P];exact hk);rw[<-j.out]at this;simp only[C.out]at this;exact z.out.FI _ this)
   have⟨h5,S4⟩:=aA (λ(hr:Nat)(hk:hr<hs)=>show((yW b (g,h) hr).foldl oV ((fJ b A).foldl oV d)).length<=1000000 from cf7 (I:=⟨⟨m1,m2,b,m4⟩,d,p⟩) z.out.yV j.out hr (by simp only;rw[C.out,<-P];exact hk)) E;clear m R U S3 P E Y Z h9;(go_wp2_with fail);refine(M _).mono ?_;rintro e w' ⟨rfl,rfl⟩;clear M;(go_wp2_with fail);go_loopw [15,16,50] (λ_ _ i wq=>∃hr:Nat,hr<=hs/\i=.int .i64 hr/\OY w n S k D G ⟨⟨m1,m2,b,m4⟩,(fJ b A).foldl oV d,p⟩ w3.heap.size [.string J,.int .i64 O,.slice A9 hs c9] b (g,h) hr wq) (λ_ _ i _=>hs-(intOf i).toNat)
   .exact⟨0,bO _,rfl,S4.out⟩
   obtain⟨hr,hk,rfl,f⟩:=hrel;have cf:=f.choose_spec.2.2.2.1.cell 1 (by simp);simp only[bX,bE]at cf;by_cases V:hr<hs
   .have i1:(hr:Int)<hs:=(by omega);obtain⟨x1,x2⟩:=HX.out hr V;have a:=f.call (aL L.out f.to.size) (lJ b (lb J),O+(hr:Int),(g:Int)) (by simp only[C.out]) x1 x2 (h5.out hr V);obtain⟨-,y1,y2⟩:=id x1;unfold iX at a;simp only at a y1;clear f x1 x2 y2;(go_wp2_with fail);refine a.mono ?_;rintro e w6 ⟨rfl,X⟩;have h6:=aH X;clear a X cf;go_wp2;go_roundw
    .exact⟨hr+1,by omega,by go_num,h6.out⟩
    simp[intOf];omega
   obtain rfl:hr=hs:=(by omega);have i1:¬(hr:Int)<hr:=(by omega);have h7:=aH f.to;clear f cf;go_wp2;go_roundw
   .
    refine⟨A++[(g,h)],B,g+h.length+12,by go_num,by rw[j.out];simp,h4.out,q3,?_⟩;have e9:(fJ b (A++[(g,h)])).foldl oV d=(yW b (g,h) hr).foldl oV ((fJ b A).foldl oV d):=by rw[aK8,lP,<-ak5];simp only[C.out];rw[<-HN.out]
    simp only[e9];exact h7.out
   simp[intOf];omega
structure nQ(w:aI)(a q:Nat)(h:dW)(D:aM)(G:cT)(I:bA)(b c:Nat):Prop where
 sys:lB w a h D G I b
 row:Row w q 73 [.pointer (some ⟨h.L,0,none⟩),.pointer (some ⟨h.x.X,0,none⟩),.int .u64 (c:Nat)]
 low:a<=q
 out:¬gX w h q
def nQ.cells{w:aI}{base n:Nat}{cK aZ:Nat}(H:nQ w base n S D G I cK aZ):w.cell? ⟨n,0,none⟩=some (.pointer (some ⟨S.L,0,none⟩))/\w.cell? ⟨n,1,none⟩=some (.pointer (some ⟨S.x.X,0,none⟩))/\w.cell? ⟨n,2,none⟩=some (.int .u64 aZ):=
 ⟨H.row.cell 0 (by simp),H.row.cell 1 (by simp),H.row.cell 2 (by simp)⟩
def nQ.BA{h':dW}{D':aM}{M:cT}(H:nQ w n k S D G I m i)(a:h'.L=S.L/\h'.x.X=S.x.X)(s:lB x n h' D' M J m)(v:oD n (gX w S) (gX x h') w x):nQ x n k h' D' M J m i:=
 ⟨s,by rw[a.1,a.2];exact H.row.of_block (v.block k H.row.lt (.inr H.out)),H.low,λb=>H.out (v.rC k H.row.lt b)⟩
def nQ.next{w:aI}{base n:Nat}{h:dW}{I:bA}{k:Nat}(H:nQ w base n h D G I k m)(a:aS w.heap.size w x):nQ x base n h D G I k m:=
 H.BA ⟨rfl,rfl⟩ (H.sys.next a) (H.sys.l7 a)
def lB.far{y:aI}{n:Nat}{h:dW}{cK:Nat}(H:lB w n h D G I cK)(A:w.heap.size<=y.heap.size)(i:∀k,k<w.heap.size->gX w h k->y.heap[k]?=w.heap[k]?):
 lB y n h D G I cK/\∀k,k<w.heap.size->y.heap[k]?=w.heap[k]?->gX y h k->gX w h k:=by
  obtain⟨j,l,v⟩:=H.eD;have r:bM y n h.d h.m D j l:=v.far λk c x=>i k c (.inl (.inl x));have s:gX w h h.d:=.inl (.inl (.inr (.inl (by
   obtain⟨C,m,z⟩:=H.log.eD;exact⟨C,_,m,z,.inl rfl⟩))))
  have o:=i h.d v.lt.1 s;have u:=H.log.far o (i _ H.log.row.lt (.inl (.inr (.inl rfl)))) λk b=>i k (jG H.log.own k b) (.inl (.inr (.inr b)));have d:∀k,OwnAt y h.d k↔OwnAt w h.d k:=λk=>by unfold OwnAt;rw[dH (a:=⟨h.d,9,none⟩) o]
  have f:∀k,k<w.heap.size->y.heap[k]?=w.heap[k]?->gX y h k->gX w h k:=λk c e b=>by
   rcases b with((b|b|b)|b)|b
   .exact .inl (.inl (.inl b))
   .obtain⟨C,t,m,p,q⟩:=b;exact .inl (.inl (.inr (.inl ⟨C,t,m,by rw[<-e];exact p,q⟩)))
   .exact .inl (.inl (.inr (.inr ((d k).1 b))))
   .exact .inl (.inr b)
   exact .inr b
  refine⟨⟨⟨j,l,r⟩,u,H.idx.eO A λk g=>i k (H.idx.lt k g).2 (.inr g),λk g b=>?_⟩,f⟩;have c:=(H.idx.lt k g).2;have e:=i k c (.inr g);refine H.sep k g ?_;rcases b with(b|b|b)|b
  .exact .inl (.inl b)
  .obtain⟨C,t,m,p,q⟩:=b;exact .inl (.inr (.inl ⟨C,t,m,by rw[<-e];exact p,q⟩))
  .exact .inl (.inr (.inr ((d k).1 b)))
  exact .inr b
def nQ.far{y:aI}{n q:Nat}{h:dW}{cK aZ:Nat}(H:nQ w n q h D G I cK aZ)(g:w.heap.size<=y.heap.size)(b:∀k,k<w.heap.size->(gX w h k\/k=q)->y.heap[k]?=w.heap[k]?):nQ y n q h D G I cK aZ:=by obtain⟨s,d⟩:=H.sys.far g λk a f=>b k a (.inl f);have e:=b q H.row.lt (.inr rfl);exact⟨s,H.row.of_block e,H.low,λc=>H.out (d q H.row.lt e c)⟩
def aQ5(w:aI)(q:Nat)(h:dW):Prop:=∀k,(h.x.T k\/k=h.L\/h.v.ownBlock=some k\/k=q)->k<w.heap.size
def nQ.old(H:nQ w n k S D G I m i):aQ5 w k S:=λb a=>by
 rcases a with a|rfl|a|rfl
 .exact(H.sys.idx.lt b a).2
 .exact H.sys.log.row.lt
 .exact jG H.sys.log.own b a
 exact H.row.lt
structure l8(a q:Nat)(h:dW)(D:aM)(G:cT)(I:bA)(b c:Nat)(d:bK->Nat)(e:bK->aN)(w x:aI):Prop where
 wM:nQ x a q h D G I b c
 eD:bM x a h.d h.m D d e
 fr:gS a h.m w x
section
variable {base q:Nat}{h:dW}{D:aM}{G:cT}{I:bA}{cK aZ:Nat}{blk:bK->Nat}{dat:bK->aN}{w x y:aI}
def l8.xC(H:l8 base q h D G I cK aZ blk dat w x)(b:bM y base h.d h.m D blk dat)(a:gS base h.m x y):l8 base q h D G I cK aZ blk dat w y:=by obtain⟨s,v⟩:=H.wM.sys.oC rfl ⟨_,_,b⟩ a;exact⟨H.wM.BA ⟨rfl,rfl⟩ s v,b,H.fr.trans a⟩
def l8.next(H:l8 base q h D G I cK aZ blk dat w x)(a:aS x.heap.size x y):l8 base q h D G I cK aZ blk dat w y:=H.xC (H.eD.next a) (gS.cQ a _ _)
def l8.idx(H:l8 base q h D G I cK aZ blk dat w x):wV base h.m h.d h.x I cK D blk dat x x:=.refl H.eD H.wM.sys.idx λk b a=>H.wM.sys.sep k b (.inl a)
def l8.start(H:nQ w base q h D G I cK aZ)(a:bM w base h.d h.m D blk dat):l8 base q h D G I cK aZ blk dat w w:=⟨H,a,gS.refl _ _ _⟩
def l8.size(H:l8 base q h D G I cK aZ blk dat w x):w.heap.size<=x.heap.size:=H.fr.size
def l8.nE(H:l8 base q h D G I cK aZ blk dat w x)(b:aQ5 w q h){n:Nat}{T:cD}{X:List aN}(d:Row x n T X)(f:w.heap.size<=n)(e:¬(T=103\/T=112\/T=5))(c:T≠3):¬(gX x h n\/n=q):=by
 rintro (((a|a)|a)|a)
 .exact H.eD.nE d e c a
 .rcases a with a|a
  .have:=b n (.inr (.inl a));omega
  have:=b n (.inr (.inr (.inl a)));omega
 .have:=b n (.inl a);omega
 have:=b n (.inr (.inr (.inr a)));omega
def l8.set(H:l8 base q h D G I cK aZ blk dat w x)(m:aQ5 w q h){g:Nat}{T:cD}{X:List aN}(n:Row x g T X)(i:w.heap.size<=g)(o:¬(T=103\/T=112\/T=5))(l:T≠3)(j:Nat)(u:aN):l8 base q h D G I cK aZ blk dat w (x.setCell ⟨g,j,none⟩ u):=by
 have c:=H.nE m n i o l;have a:=jN x ⟨g,j,none⟩ u;have f:∀k,(gX x h k\/k=q)->some k≠some g:=λk b d=>(by cases d;exact c b);refine⟨H.wM.far a.size λk e b=>a.block k e (f k b),H.eD.grown a λk b d=>?_,H.fr.grown a λk b=>?_⟩
 .simp at b;subst b;exact c (.inl (.inl (.inl d)))
 simp at b;omega
def l8.grown(H:l8 base q h D G I cK aZ blk dat w x){r:Option Nat}(b:x.grownBy y r)(e:∀g,r=some g->w.heap.size<=g/\¬(gX x h g\/g=q)):l8 base q h D G I cK aZ blk dat w y:=by refine⟨H.wM.far b.size λk d a=>b.block k d λc=>(e k c.symm).2 a,H.eD.grown b λk a c=>?_,H.fr.grown b λk a=>(e k a).1⟩;exact(e k a).2 (.inl (.inl (.inl c)))
def l8.trans(H:l8 base q h D G I cK aZ blk dat w x)(K:l8 base q h D G I cK aZ blk dat x y):l8 base q h D G I cK aZ blk dat w y:=⟨K.wM,K.eD,H.fr.trans K.fr⟩
end
section
variable {D:aM}{G:cT}{I:bA}{aZ:Nat}{C:List (List bK)}{Bs:List kK}
def IA.bW5(h:IA D G I aZ C Bs):aa0 G D:=λn e=>by
 have d:G.bW.length=C.length:=by rw[h.bW];simp
 have a:n<C.length:=by omega
 obtain⟨f,c,b⟩:=h.whole n a;refine⟨f,c,?_,by rw[b];exact h.ok.2.2 n a⟩;rw[b,h.bW,b8];unfold eL;rw[FZ,aK a];rfl
def IA.aT8(h:IA D G I aZ C Bs):av6 I D:=by obtain⟨s,P,i⟩:=h.ix;obtain⟨k,j⟩:=h.Y2;refine⟨i.cV,λn g=>?_,by omega,λe f=>(j e f).1⟩;obtain⟨a,L,b,c,d⟩:=h.co7 g;exact⟨a,L,b,c,by omega⟩
end
def sE(H:nQ w n k S D G I m i):
 Calls prog 23 #[.pointer (some ⟨k,0,none⟩)] w λe a=>e=.returned (.bool false)/\w=a:=by
  obtain⟨b,-,-⟩:=H.cells;clear H;go_in;go_wp2;go_ret;exact⟨rfl,rfl⟩
def cb9:jL:=(⟨#[]⟩,0,(⟨#[]⟩,⟨#[]⟩,0))
def uM:¬(133=103\/133=112\/133=5)/\(133:cD)≠3/\(152:cD)≠3:=by decide
structure zX(a q:Nat)(h:dW)(D:aM)(G:cT)(I:bA)(b c:Nat)(d:bK->Nat)(e:bK->aN)(f g:List aN)(w x:aI):Prop where
 k:l8 a q h D G I b c d e w x
 ent:Row x w.heap.size 152 f
 tld:Row x (w.heap.size+1) 133 g
section
variable {base q:Nat}{h:dW}{D:aM}{G:cT}{I:bA}{cK aZ:Nat}{blk:bK->Nat}{dat:bK->aN}{xs ys:List aN}{w x y:aI}
def zX.xC(H:zX base q h D G I cK aZ blk dat xs ys w x)(b:bM y base h.d h.m D blk dat)(a:gS base h.m x y):zX base q h D G I cK aZ blk dat xs ys w y:=
 ⟨H.k.xC b a,a.row H.ent pF (H.k.eD.pX H.ent),a.row H.tld uM.1 (H.k.eD.pX H.tld)⟩
def zX.next(H:zX base q h D G I cK aZ blk dat xs ys w x)(a:aS x.heap.size x y):zX base q h D G I cK aZ blk dat xs ys w y:=⟨H.k.next a,H.ent.next a,H.tld.next a⟩
def zX.set(H:zX base q h D G I cK aZ blk dat xs ys w x)(a:aQ5 w q h)(j:Nat)(u:aN):zX base q h D G I cK aZ blk dat xs (ys.set j u) w (x.setCell ⟨w.heap.size+1,j,none⟩ u):=
 ⟨H.k.set a H.tld (gV _) uM.1 uM.2.1 j u,H.ent.of_block (aV _ _ _ _ (by show w.heap.size≠w.heap.size+1;omega)),H.tld.set j u⟩
def zX.cu6(H:zX base q h D G I cK aZ blk dat xs ys w x)(f:aQ5 w q h)(a b c d e:aN):zX base q h D G I cK aZ blk dat xs (((((ys.set 0 a).set 1 b).set 2 c).set 3 d).set 4 e) w (((((x.setCell ⟨w.heap.size+1,0,none⟩ a).setCell ⟨w.heap.size+1,1,none⟩ b).setCell ⟨w.heap.size+1,2,none⟩ c).setCell ⟨w.heap.size+1,3,none⟩ d).setCell ⟨w.heap.size+1,4,none⟩ e):=
 ((((H.set f 0 a).set f 1 b).set f 2 c).set f 3 d).set f 4 e
def zX.start(H:nQ w base q h D G I cK aZ)(c:bM w base h.d h.m D blk dat)(A B:Array aN):zX base q h D G I cK aZ blk dat A.toList B.toList w ((w.alloc (.cells A 152)).alloc (.cells B 133)):=by have b:=dO w (.cells A 152);have a:=dO (w.alloc (.cells A 152)) (.cells B 133);refine⟨((l8.start H c).next b).next a,(Row.new w A _).next a,?_⟩;have:=Row.new (w.alloc (.cells A 152)) B 133;rwa [bC]at this
end
def WD(a q:Nat)(h:dW)(D:aM)(G:cT)(I:bA)(b c:Nat)(d:bK->Nat)(f:bK->aN)(o:Option jL)(w:aI)(e:eT)(g:aI):Prop:=
 e=.returned (.tuple #[.agg (oJ (o.getD cb9)),.bool o.isSome,.int .i64 0])/\l8 a q h D G I b c d f w g
def az1{b:bK->Nat}{C:List (List bK)}{B:List kK}(hw:nQ w n k S D G I m i)(hd:bM w n S.d S.m D b H)(P:IA D G I i C B)(hb:n<=w.heap.size)(e:cZ)(he:wN e)(r:lI)(hr:r∈dB C)(h4:e.2.2=(r.1:Int))(hk:JH (dB C) e.2.2=some r.2)(hz:Nat)(hi:hz<(kW r.2).2.2.length)(j:e.2.1=(kW r.2).2.1+(hz:Int))(o:aT)(hv:o.size<=maxLen):
 Calls prog 148 #[.pointer (some ⟨k,0,none⟩),.agg (iX e),.string o] w (WD n k S D G I m i b H (vX (dB C) o e) w):=by
  obtain⟨f,ha,hc,hf,hg,hh,hj,ho⟩:=bt9 P.whole P.ok hr;have hq:=P.bj7 hr;have hp:=P.bj8 hr;have g:=(P.FI.2 r hr).2;have J:vX (dB C) o e=if(kW r.2).1=o then some (o,(kW r.2).2.1+(hz:Int),(kW r.2).2.2.getD hz ev0)else none:=by
   unfold vX;rw[hk,j];simp only;rw[show(kW r.2).2.1+(hz:Int)-(kW r.2).2.1=(hz:Int)from by omega,cB];by_cases p:(kW r.2).1=o
   .rw[aU p,aU ⟨p,by omega,by omega⟩]
   rw[aQ p,aQ (λh8=>p h8.1)]
  have d:=iM (FH g).1;obtain⟨s,F,e3⟩:=e;simp only at h4 J j;subst h4;rw[J];have W:=zX.start hw hd (iX (s,F,(r.1:Int))) (oJ cb9);have E:=hw.old;unfold iX oJ cb9 at W;simp only at W;have hK:∀x,zX n k S D G I m i b H [.int .u64 s,.int .i64 F,.int .i64 (r.1:Int)] [.string ⟨#[]⟩,.int .i64 0,.string ⟨#[]⟩,.string ⟨#[]⟩,.float .f64 0] w x->zX n k S D G I m i b H [.int .u64 s,.int .i64 F,.int .i64 (r.1:Int)] [.string ⟨#[]⟩,.int .i64 0,.string ⟨#[]⟩,.string ⟨#[]⟩,.float .f64 0] w x.drew:=λx hx=>hx.next (aY _ _).drew;have HR:∀y,zX n k S D G I m i b H [.int .u64 s,.int .i64 F,.int .i64 (r.1:Int)] [.string ⟨#[]⟩,.int .i64 0,.string ⟨#[]⟩,.string ⟨#[]⟩,.float .f64 0] w y->Calls prog 215 #[.pointer (some ⟨S.L,0,none⟩),.int .i64 (r.1:Int)] y λe w'=>e=.returned (.tuple #[.string (bs r.2),.int .i64 0])/\zX n k S D G I m i b H [.int .u64 s,.int .i64 F,.int .i64 (r.1:Int)] [.string ⟨#[]⟩,.int .i64 0,.string ⟨#[]⟩,.string ⟨#[]⟩,.float .f64 0] w w':=λy hy=>by have:=bQ3 hy.k.wM.sys.log hy.k.eD P.up (aL hb hy.k.size) r.1 (r.1/4096) (r.1%4096) rfl rfl (by rw[P.bW];simpa using ha) hc (by rw[P.bW];exact hf) hg hh;rw[hj]at this;exact this.mono λe w' p=>⟨p.1,hy.xC p.2.1 p.2.2.2⟩
  have h:=λy:aI=>UX (bs r.2) y (by rw[eK];omega);rw[gF,show OO r.2=0 from by unfold OO;rw[aU g]]at h;have z0:∀x:wI (zX n k S D G I m i b H [.int .u64 s,.int .i64 F,.int .i64 (r.1:Int)] [.string ⟨#[]⟩,.int .i64 0,.string ⟨#[]⟩,.string ⟨#[]⟩,.float .f64 0] w),x.it.cell? ⟨k,0,none⟩=some (.pointer (some ⟨S.L,0,none⟩)):=λx=>x.ok.k.wM.cells.1;have z1:∀x:wI (zX n k S D G I m i b H [.int .u64 s,.int .i64 F,.int .i64 (r.1:Int)] [.string ⟨#[]⟩,.int .i64 0,.string ⟨#[]⟩,.string ⟨#[]⟩,.float .f64 0] w),x.it.cell? ⟨w.heap.size,2,none⟩=some (.int .i64 (r.1:Int)):=λx=>x.ok.ent.cell 2 (by simp);obtain⟨r1,r2⟩:=r;simp only at *;obtain⟨T,hT⟩:∃T,T=bs r2:=⟨_,rfl⟩;rw[<-hT]at HR h;generalize hV:kW r2=bv at h d hi j|-;obtain⟨z,q,b3⟩:=bv;simp only at d hi j|-;obtain⟨p1,p2,p3,p4,p5,p6,-⟩:=d;obtain⟨x3,hN⟩:∃x3,x3=b3.length:=⟨_,rfl⟩;obtain⟨L,l⟩:∃L,b3[hz]?=some L:=⟨_,aK hi⟩;have h5:b3.getD hz ev0=L:=(by rw[b8,l];rfl);rw[h5];have⟨u,HE,M⟩:=aB E he l;rw[<-hN]at hi p4 p6;have HN:=aH hN;subst j;obtain⟨O,hO⟩:∃O:Option jL,O=if z=o then some (o,q+(hz:Int),L)else none:=⟨_,rfl⟩;rw[<-hO];have HO:=aH hO;clear hO;clear hw hd P ha hc hf hg hh hj ho hq hp g J hk hr hT hV E he p1 p2 p3 h5 l hN;unfold WD;go_in;go_wp2_with fail
  haveI:Nonempty (wI (zX n k S D G I m i b H [.int .u64 s,.int .i64 (q+(hz:Int)),.int .i64 r1] [.string ⟨#[]⟩,.int .i64 0,.string ⟨#[]⟩,.string ⟨#[]⟩,.float .f64 0] w)):=⟨⟨_,W⟩⟩;refine J4 (K:=(zX n k S D G I m i b H [.int .u64 s,.int .i64 (q+(hz:Int)),.int .i64 r1] [.string ⟨#[]⟩,.int .i64 0,.string ⟨#[]⟩,.string ⟨#[]⟩,.float .f64 0] w)) W hK (by kernel_rfl) (by kernel_rfl) ?_;repeat go_big_quiet_step (first|(go_at_call 215;exact MB _ HR))
  refine wpQuiet_nil ?_;rintro _ ⟨⟨w1,h6⟩,rfl⟩;have N:=aH h6;clear h6 HR z0 z1 hK W;(go_wp2_with fail);refine(h _).mono ?_;rintro e w2 ⟨vb,rfl,⟨A,c,rfl,t,X,Y,Z⟩,h2⟩;simp only at t X Y Z|-;have h7:=WE.later t (by have:=HN.out;omega);have hu:x3<=c:=by obtain⟨A',c',ht,h1,-⟩:=id t.1;cases ht;rw[HN.out];exact h1
  rw[<-HN.out];obtain⟨bb,hl,rfl,hn,h3⟩:=h7;have b4:=dO w2 (.cells #[.string z,.int .i64 q,.slice (some ⟨bb,hl,none⟩) x3 c] 129);have r4:=Row.new w2 #[.string z,.int .i64 q,.slice (some ⟨bb,hl,none⟩) x3 c] 129;have a:=(N.out.next h2).next b4;obtain⟨x0,x1,x2⟩:=h3 hz L M.out _ b4;have g1:=a.ent.cell 1 (by simp);have t0:=a.tld.cell 0 (by simp);have t1:=a.tld.cell 1 (by simp);have t2:=a.tld.cell 2 (by simp);have t3:=a.tld.cell 3 (by simp);have t4:=a.tld.cell 4 (by simp);have u0:=a.tld.frozen 0 (by simp);have u1:=a.tld.frozen 1 (by simp);have u2:=a.tld.frozen 2 (by simp);have u3:=a.tld.frozen 3 (by simp);have u4:=a.tld.frozen 4 (by simp);have q0:=r4.cell 0 (by simp);have q1:=r4.cell 1 (by simp);have q2:=r4.cell 2 (by simp);simp only[bX,bE]at g1 t0 t1 t2 t3 t4 q0 q1 q2;have Q:=aH a;obtain⟨R,U,V⟩:=L;simp only at x0 x1 x2;clear h N h3 hn t X Y Z h2 b4 r4 a;have i8:q+(hz:Int)-q=(hz:Int):=(by omega);by_cases hs:z=o
  .subst hs;have hm:=aH (show O=some (z,q+(hz:Int),R,U,V)from by rw[HO.out,aU rfl]);clear HO;(go_wp2_with fail);go_region;go_wp2;refine bG (v:=.tuple #[.agg #[.string z,.int .i64 (q+(hz:Int)),.string R,.string U,.float .f64 V],.bool true,.int .i64 0]) (by simp[results,results148,go_sem,t0,t1,t2,t3,t4]) rfl ⟨by rw[hm.out];rfl,?_⟩;exact((zX.cu6 Q.out u.out _ _ _ _ _).next (aY _ _).drew).k
  have i9:(z.toList==o.toList)=false:=by rw[bI,l3,l3];exact λp=>hs (by rw[<-BZ z,p,BZ])
  (go_wp2_with fail);refine bG (v:=.tuple #[.agg #[.string ⟨#[]⟩,.int .i64 0,.string ⟨#[]⟩,.string ⟨#[]⟩,.float .f64 0],.bool false,.int .i64 0]) (by simp[results,results148,go_sem,t0,t1,t2,t3,t4]) rfl ⟨by rw[HO.out,aQ hs];rfl,?_⟩;exact(zX.cu6 Q.out u.out _ _ _ _ _).k
end Go.Proofs.YtpopikndggffaaaGreatDoor
