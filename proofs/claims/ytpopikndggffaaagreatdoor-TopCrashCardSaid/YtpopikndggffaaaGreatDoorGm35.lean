/- TOP, part 35. -/
import Derived.Test.YtpopikndggffaaaGreatDoorGm34
namespace Go.Proofs.YtpopikndggffaaaGreatDoor
set_option linter.all false
set_option maxRecDepth 100000
set_option maxHeartbeats 16000000
open Go.RowKit Go.Maps Tryz
variable{a e:Int}
section
variable {cap aZ s s' S S':Nat}{D D':aM}{G G':cT}{I I':bA}{o o':iP}{Bs:List kK}{B:List bK}{l l':bZ}
def iI.OP(P:iI cap aZ s D o Bs S)(a:D'.cap=D.cap)(g:D'.bP=D.bP){B:List kK}(d:kU B)(e:B<=s+1)(c:S'<=B)(h:jQ cap aZ (s+1) D' G' I' (B.map iT) S')(f:(D'.down=true/\o'=none)\/(D'.down=false/\o'=some (G',I'))):iI cap aZ (s+1) D' o' B S':=by
 refine⟨P.aN1,P.tM,a.trans P.tW,by have:=P.bP;omega,d,e,c,?_⟩;rcases f with⟨b,-⟩|⟨-,rfl⟩
 .rw[h.up]at b;cases b
 exact h
def iI.KU(P:iI cap aZ s D o Bs S)(a:D'.cap=D.cap)(i:D'.bP=D.bP){B:List kK}(d:kU B)(f:B<=s+1)(c:S'<=B)(e:D'.down=true)(h:lN cap aZ (s+1) D'.files (B.map iT) S')(g:(D'.down=true/\o'=none)\/(D'.down=false/\o'=some (G',I'))):iI cap aZ (s+1) D' o' B S':=by
 refine⟨P.aN1,P.tM,a.trans P.tW,by have:=P.bP;omega,d,f,c,?_⟩;rcases g with⟨-,rfl⟩|⟨b,-⟩
 .exact h
 rw[e]at b;cases b
def iI.same(P:iI cap aZ s D (some (G,I)) Bs S)(a:(D.down=true/\o'=none)\/(D.down=false/\o'=some (G,I))):iI cap aZ (s+1) D o' Bs S:=
 P.OP rfl rfl P.mO (Nat.le_succ_of_le P.yV) P.le (P.wM.more (gV s)) a
def iI.append {st:aT} {x:Int} {le:List Ev} (P:iI cap aZ s D (some (G,I)) Bs S) (hf:nB (Bs.flatMap dJ) st x le=0→tS (st,(mK Bs st:Int),le)) {er n:Int} {T:List jL} (hq:EO (bG0 D G I aZ Bs st x le) er n T D' o') :
 (nB (Bs.flatMap dJ) st x le≠0∧er=nB (Bs.flatMap dJ) st x le∧n=0∧D'.down=false∧iI cap aZ (s+1) D' o' Bs S)∨
 (nB (Bs.flatMap dJ) st x le=0∧er=60∧n=0∧D'.down=false∧iI cap aZ (s+1) D' o' Bs S)∨
 (nB (Bs.flatMap dJ) st x le=0∧er=61∧n=0∧D'.down=true∧iI cap aZ (s+1) D' o' (Bs++[(st,(mK Bs st:Int),le)]) S)∨
 (nB (Bs.flatMap dJ) st x le=0∧er=0∧n=(mK Bs st:Nat)∧D'.down=false∧iI cap aZ (s+1) D' o' (Bs++[(st,(mK Bs st:Int),le)]) S):=by
 obtain⟨G1,I1,⟨-,hq⟩,ho⟩:=hq;have hfw:=P.yV;have hle:=P.le;have hmap:(Bs++[(st,(mK Bs st:Int),le)]).map iT=Bs.map iT++[iT (st,(mK Bs st:Int),le)]:=by rw[iJ];rfl
 have hln:(Bs++[(st,(mK Bs st:Int),le)]).length=Bs.length+1:=by simp
 rcases hq with⟨h0,rfl,rfl,rfl,rfl,rfl⟩|⟨h0,h1,rfl,rfl,hD,hG,rfl⟩|⟨h0,h1,rfl,rfl,hD,hG,hI⟩
 ·exact .inl ⟨h0,rfl,rfl,P.up,P.same ho⟩
 iterate 2
  ·have ha:=QZ P.wM (aX2 (hf h0));have hbo:kU (Bs++[(st,(mK Bs st:Int),le)]):=bg7 P.mO (hf h0);obtain⟨c1,c2,c3⟩:=ha;generalize gU G D (iT (st,(mK Bs st:Int),le))=R at *;first|(rcases c3 with⟨h9,-⟩|⟨h9,-,h7⟩|⟨h9,-,h8,h7⟩)|(rcases c3 with⟨h9,-⟩|⟨h9,-⟩|⟨h9,-,h8,h7⟩)
   ·first|subst h9;cases h1|subst h9;subst hD;subst hG;exact .inr (.inl ⟨h0,rfl,rfl,P.up,P.same ho⟩)
   ·first|(subst hD;subst hG;subst hI;(exact .inr (.inr (.inr ⟨h0,rfl,rfl,h7.up,P.OP c1 c2 hbo (by omega) (by omega) (by rw[hmap];exact h7.more (gV s)) ho⟩))))|exact absurd h9 h1
   first|rw[h9]at h1;cases h1|(subst hD;(exact .inr (.inr (.inl ⟨h0,h9,rfl,h8,P.KU c1 c2 hbo (by omega) (by omega) h8 (by rw[hmap];exact h7.more (gV s)) ho⟩))))
def iI.flush(P:iI cap aZ s D (some (G,I)) Bs S){a e:Int}{T:List jL}(l:EO (cs9 D G I) a e T D' o'):
 (a=0/\D'.down=false/\iI cap aZ (s+1) D' o' Bs Bs)\/(a=61/\D'.down=true/\iI cap aZ (s+1) D' o' Bs S):=by
  obtain⟨m,n,⟨rfl,-,-,rfl,rfl,rfl⟩,h⟩:=l;have⟨f,g,i⟩:=LI P.wM;have k:=P.yV;have d:=P.le;rcases i with⟨c,b⟩|⟨c,b,j⟩
  .rw[gR]at b;exact .inl ⟨c,b.up,P.OP f g P.mO (by omega) gC (b.more (gV s)) h⟩
  exact .inr ⟨c,b,P.KU f g P.mO (by omega) d b (j.more (gV s)) h⟩
def iI.index(P:iI cap aZ s D (some (G,I)) Bs S)(r:s<90){a e:Int}{T:List jL}(q:EO (bF9 D G I) a e T D' o'):
 (a=0/\iI cap aZ (s+1) D' o' Bs Bs)\/(a=60/\iI cap aZ (s+1) D' o' Bs S)\/(a=61/\D'.down=true/\iI cap aZ (s+1) D' o' Bs S):=by
  obtain⟨t,u,⟨-,-,f,-,rfl,rfl,rfl,rfl⟩,j⟩:=q;have p:=P.yV;have b:=P.le;have l:(Bs.map iT).length=Bs:=gR ..;rcases M5 P.wM (qK P.mO.tT) r P.tM f with⟨d,h,i⟩|⟨n,d,h,i,o⟩
  .rw[l]at i;rcases i with⟨c,g,-⟩|⟨c,-,k,g⟩|⟨c,g,k⟩
   .exact .inl ⟨c,P.OP d h P.mO (by omega) gC g j⟩
   .exact .inr (.inl ⟨c,P.OP d h P.mO (by omega) b (by rw[k];exact g.less b) j⟩)
   have m:=P.KU d h P.mO (by omega) b g (k.less b) j;rcases c with⟨c,-⟩|c
   .exact .inr (.inl ⟨c,m⟩)
   exact .inr (.inr ⟨c,g,m⟩)
  exact .inr (.inr ⟨n,d,P.KU h i P.mO (by omega) b d (o.more (gV s)) j⟩)
def iI.merge(P:iI cap aZ s D (some (G,I)) Bs S)(n:s<90){a f e:Int}{T:List jL}(m:EO (bY5 D G I a) f e T D' o'):
 (f=0\/f=4\/(f=2/\(a<0\/5<=a))\/f=60\/(f=61/\D'.down=true))/\iI cap aZ (s+1) D' o' Bs S:=by
  obtain⟨o,p,⟨-,-,q,-,rfl,rfl,rfl,rfl⟩,g⟩:=m;have l:=P.yV;have d:=P.le;rcases SK P.wM (qK P.mO.tT) n P.tM a q with⟨b,c⟩|⟨b,-⟩|⟨-,-,h,i,k⟩
  .rw[b]at g|-;exact⟨.inr (.inr (.inl ⟨rfl,c⟩)),P.same g⟩
  .rw[b]at g|-;exact⟨.inr (.inl rfl),P.same g⟩
  simp only at h i k;rcases k with⟨b,c,-⟩|⟨b,-,j,c⟩|⟨b,c,j⟩
  .exact⟨.inl b,P.OP h i P.mO (by omega) d c g⟩
  .exact⟨.inr (.inr (.inr (.inl b))),P.OP h i P.mO (by omega) d (by rw[j];exact c) g⟩
  refine⟨?_,P.KU h i P.mO (by omega) d c j g⟩;rcases b with⟨b,-⟩|b
  .exact .inr (.inr (.inr (.inl b)))
  exact .inr (.inr (.inr (.inr ⟨b,c⟩)))
def iI.eD(P:iI cap aZ s D o Bs S):lN cap aZ s D.files (Bs.map iT) S:=by
 match o,P with
 |none,P=>exact P.ok
 |some (G,I),P=>exact P.wM.eD
def iI.read(P:iI cap aZ s D (some (G,I)) Bs S){a t:Int}{T:List jL}{f e:Int}{k:List jL}(h:EO (bo6 D G I a t T) f e k D' o'):f=a/\e=t/\k=T/\D'=D/\o'=some (G,I)/\iI cap aZ (s+1) D' o' Bs S:=by
 obtain⟨i,j,⟨rfl,rfl,rfl,rfl,rfl,rfl⟩,c⟩:=h;have g:=P.yV;have d:=P.same c;rcases c with⟨b,-⟩|⟨b,rfl⟩
 .rw[P.up]at b;cases b
 exact⟨rfl,rfl,rfl,rfl,rfl,d⟩
def iI.later(P:iI cap aZ s D o Bs S):iI cap aZ (s+1) D o Bs S:=by
 refine⟨P.aN1,P.tM,P.tW,by have:=P.bP;omega,P.mO,by have:=P.yV;omega,P.le,?_⟩;match o,P with
 |none,P=>exact lN.more P.ok (gV s)
 |some (G,I),P=>exact P.wM.more (gV s)
def iI.shut(P:iI cap aZ s D o Bs S):iI cap aZ (s+1) D none Bs S:=
 ⟨P.aN1,P.tM,P.tW,by have:=P.bP;omega,P.mO,by have:=P.yV;omega,P.le,P.eD.more (gV s)⟩
def iI.jW(P:iI cap aZ s D o Bs S)(a:List Int):iI cap aZ (s+1) (D.jW a).2 none Bs S:=by
 unfold aM.jW;split
 .exact P.shut
 exact⟨P.aN1,P.tM,P.tW,by have:=P.bP;show D.bP<=_;omega,P.mO,by have:=P.yV;omega,P.le,(P.eD.jW a).more (gV s)⟩
def iI.open_(P:iI cap aZ s D o Bs S){e:Int}(h:nI cap aZ s (OZ D) Bs S e o' D'):
 (e=61/\o'=none/\D'.down=true/\iI cap aZ (s+1) D' o' Bs S)\/(e=0/\∃G I k,o'=some (G,I)/\k<=Bs.length/\S<=k/\iI cap aZ (s+1) D' o' (Bs.take k) k):=by
  have f:=RQ D;have l:(OZ D).bP<=D.bP+1:=by unfold OZ aM.start;split<;>simp
  have i:=P.yV;have j:=P.bP;rcases h.it with⟨d,c,b,a⟩|⟨d,G,I,k,c,b,a,g⟩
  .subst c;exact .inl ⟨d,rfl,b,P.aN1,P.tM,h.tW.trans (f.2.trans P.tW),by rw[h.bj1];omega,P.mO,by omega,P.le,a.more (gV s)⟩
  subst c;exact .inr ⟨d,G,I,k,rfl,b,a,P.aN1,P.tM,h.tW.trans (f.2.trans P.tW),by rw[h.bj1];omega,UU P.mO k,by rw[bJ];omega,by rw[bJ];omega,g.more (gV s)⟩
end
variable{X:List aN}{d g i j k m n q:Nat}{w x:aI}{T:cD}
abbrev ad3(t:cD):Prop:=t=103\/t=112\/t=5
abbrev Gh:=Nat->Option Obj
def Gh.no:Gh:=fun _=>none
section
variable {w x y w':aI}{base W q r g c:Nat}{F:Gh}{h:dW}{D D':aM}{o o':iP}{cK aZ:Nat}{vL vM vL' vM':aN}{Bs Bs':List kK}{S S':Nat}{brk:Bool}
def iW.fresh(H:iW w base W q h D o cK aZ)(p:aS w w x){n:Nat}{T:cD}{X:List aN}(s:Row x n T X)(t:¬ad3 T)(A:w<=n):¬mD x W q h o n:=by
 have⟨j,k,i⟩:=H.it.eD;have g:¬jE x h.d h.m n:=by
  rintro (a|⟨C,E,z,e,b⟩|⟨F,b,f⟩)
  .have:=i.lt.2;omega
  .obtain⟨y,m,r,-⟩:=s;rw[r]at e;cases e;exact t b
  obtain⟨c,B,u,-,v⟩:=i.row;have d:=(u.next p).zc9;rw[b]at d;have l:=cS d;rw[l]at f;have:=(v.row f).1.lt;omega
 rintro (a|a)
 .match o,H,a with
  |none,H,a=>exact g a
  |some (G,I),H,a=>
   have S:nQ w base q h D G I cK aZ:=H.it;rcases a with((a|a|a)|a)|a
   .exact g a
   .have:=S.old n (.inr (.inl a));omega
   .have:=S.old n (.inr (.inr (.inl a)));omega
   .have:=S.old n (.inl a);omega
   have:=S.old n (.inr (.inr (.inr a)));omega
 have:=H.row.lt;omega
def iW.back(H:iW x base W q h D o cK aZ){n:Nat}{T:cD}{X:List aN}(e:x.grownBy y n)(u:Row y n T X)(v:¬ad3 T)(c:¬mD x W q h o n):¬mD y W q h o n:=by
 have⟨l,m,k⟩:=H.it.eD;have d:h.d≠n:=λb=>c (by
  obtain⟨f,A,r,-⟩:=k.row;have g:jE x h.d h.m n:=.inr (.inl (by rw[<-b];exact pK r (.inl rfl)));match o with
  |none=>exact .inl g
  |some (G,I)=>exact .inl (.inl (.inl (.inl g))))
 have j:jE y h.d h.m n->jE x h.d h.m n:=by
  rintro (b|⟨C,B,z,i,s⟩|b)
  .exact .inl b
  .obtain⟨w,p,c,-⟩:=u;rw[c]at i;cases i;exact absurd s v
  refine .inr (.inr ?_);unfold OwnAt at b|-;rw[<-dH (a:=zp h.d 9) (e.block h.d k.lt.1 (λt=>d (cS t)))];exact b
 rintro (b|b)
 .match o,c,b with
  |none,c,b=>exact c (.inl (j b))
  |some (G,I),c,b=>
   rcases b with((b|b)|b)|b
   .exact c (.inl (.inl (.inl (.inl (j b)))))
   .exact c (.inl (.inl (.inl (.inr b))))
   .exact c (.inl (.inl (.inr b)))
   exact c (.inl (.inr b))
 exact c (.inr b)
structure lC(w:aI)(a:Nat)(F:Gh)(r W q g:Nat)(h:dW)(D:aM)(o:iP)(c d:Nat)(f i:aN)(j:List kK)(S:Nat)(e:Bool):Prop where
 row:Row w r 52 [.pointer (some ⟨W,0,none⟩),.pointer (some ⟨g,0,none⟩),.bool e]
 low:a<=r
 sP:iW w a W q h D o c d
 mod:wO w a g f i (j.flatMap dJ) (kH j) S
 sep:∀k,(k=r\/k=g\/f.ownBlock=some k\/i.ownBlock=some k)->¬mD w W q h o k
 gh:∀k b,F k=some b->w.heap[k]?=some b/\¬(k=r\/k=g\/f.ownBlock=some k\/i.ownBlock=some k)/\¬mD w W q h o k
def VM(w:aI)(a:Nat)(F:Gh)(r:Nat)(D:aM)(o:iP)(b c:Nat)(e:List kK)(S:Nat)(d:Bool):Prop:=
 ∃W q g h f i,lC w a F r W q g h D o b c f i e S d
def xF:¬ad3 52/\¬ad3 48/\¬ad3 133/\¬ad3 3:=by decide
def GA:(48:cD)≠52/\(133:cD)≠52/\(3:cD)≠52:=by decide
def lC.lt(H:lC w base F r W q g h D o cK aZ vL vM Bs S brk):∀k,(k=r\/k=g\/vL.ownBlock=k\/vM.ownBlock=k)->k<w.heap.size:=by
 rintro k (rfl|rfl|h9|h9)
 .exact H.row.lt
 .exact H.mod.1.lt
 .exact(H.mod.2.2.1.row h9).1.lt
 exact(H.mod.2.2.2.1.row h9).1.lt
def lC.QE{b:Obj}(H:lC w base F r W q g h D o cK aZ vL vM Bs S brk)(a:F n=b):n<w:=(eN.1 (H.gh n b a).1).1
def lC.eO{h':dW}(H:lC w base F r W q g h D o cK aZ vL vM Bs S brk)(s:iW w' base W n h' D' o' cK aZ)(v:oD base (mD w W q h o) (mD w' W n h' o') w w'):lC w' base F r W n g h' D' o' cK aZ vL vM Bs S brk:=by have c:∀k,(k=r\/k=g\/vL.ownBlock=k\/vM.ownBlock=k)->w'.heap[k]?=w.heap[k]?:=λk c=>v.block k (H.lt k c) (.inr (H.sep k c));exact⟨H.row.of_block (c r (.inl rfl)),H.low,s,⟨H.mod.1.of_block (c g (.inr (.inl rfl))),H.mod.2.1,H.mod.2.2.1.eO λk d=>c k (.inr (.inr (.inl d))),H.mod.2.2.2.1.eO λk d=>c k (.inr (.inr (.inr d))),H.mod.2.2.2.2⟩,(λk d e=>H.sep k d (v.rC k (H.lt k d) e)),λk b a=>⟨(v.block k (H.QE a) (.inr (H.gh k b a).2.2)).trans (H.gh k b a).1,(H.gh k b a).2.1,λe=>(H.gh k b a).2.2 (v.rC k (H.QE a) e)⟩⟩
def lC.next(H:lC w base F r W q g h D o cK aZ vL vM Bs S brk)(a:aS w w w'):lC w' base F r W q g h D o cK aZ vL vM Bs S brk:=
 H.eO (H.sP.next a).1 (H.sP.next a).2
def lC.to(H:lC w base F r W q g h D o cK aZ vL vM Bs S brk)(K:oO w base W q h o D' o' cK aZ w'):∃b a,lC w' base F r W b g a D' o' cK aZ vL vM Bs S brk:=by have⟨b,a,e,s,v⟩:=K;exact⟨b,a,H.eO s v⟩
def iW.aO3(H:iW w base W q h D o cK aZ)(K:oO w base W q h o D' o' cK aZ w'):aS base w w':=by have⟨f,b,e,s,v⟩:=K;have c:=H.low;have d:=H.row.lt;exact⟨v.os,v.tape,v.output,v.size,λk a=>v.block k (by omega) (.inl a)⟩
def lC.cb2{k j:Nat}{u:aN}(H:lC w base F r W q g h D o cK aZ vL vM Bs S brk)(d:k=r\/k=g\/vL.ownBlock=k\/vM.ownBlock=k)(l:Row w k T X)(m:¬ad3 T):
 iW (w.setCell (zp k j) u) base W q h D o cK aZ/\∀i,i<w.heap.size->mD (w.setCell (zp k j) u) W q h o i->mD w W q h o i:=by
  have c:=jN w (zp k j) u;have⟨s,b⟩:=H.sP.grown c (H.sep k d);refine⟨s,λi f a=>?_⟩;by_cases e:i=k
  .subst e;exact absurd a (H.sP.back c (l.set j u) m (H.sep i d))
  exact b i f e a
def lC.model(H:lC w base F r W q g h D o cK aZ vL vM Bs S brk)(v:aS w w x)(J:w<=c)(e:wO x base c vL' vM' (Bs'.flatMap dJ) (kH Bs') S')(z:∀k,vL'.ownBlock=some k->vL.ownBlock=k\/w.heap.size<=k)(A:∀k,vM'.ownBlock=some k->vM.ownBlock=k\/w.heap.size<=k):
 lC (x.setCell (zp r 1) (zp c)) base F r W q c h D o cK aZ vL' vM' Bs' S' brk:=by
  have l:=H.next v;have⟨s,b⟩:=l.cb2 (k:=r) (j:=1) (u:=zp c) (.inl rfl) l.row xF.1;have n:∀k t B,Row x k t B->t≠52->(x.setCell (zp r 1) (zp c)).heap[k]?=x.heap[k]?:=λk t B K L=>aV _ _ _ _ (λa=>L (by
   have y:k=r:=a;subst y;exact dI K l.row))
  refine⟨l.row.set 1 _,H.low,s,⟨e.1.of_block (n _ _ _ e.1 GA.1),e.2.1,e.2.2.1.eO λk a=>n _ _ _ (e.2.2.1.row a).1 GA.2.1,e.2.2.2.1.eO λk a=>n _ _ _ (e.2.2.2.1.row a).1 GA.2.2,e.2.2.2.2⟩,λk d a=>?_,λk C m=>?_⟩;rotate_left
  .have⟨E,p,G⟩:=l.gh k C m;have I:=H.QE m;refine⟨(aV _ _ _ _ (λa=>p (.inl a))).trans E,λa=>?_,λa=>G (b k (l.QE m) a)⟩;rcases a with a|a|a|a
   .exact p (.inl a)
   .omega
   .rcases z k a with f|f
    .exact p (.inr (.inr (.inl f)))
    omega
   rcases A k a with f|f
   .exact p (.inr (.inr (.inr f)))
   omega
  have i:∀k,(k=r\/k=g\/vL.ownBlock=k\/vM.ownBlock=k)->¬mD (x.setCell (zp r 1) (zp c)) W q h o k:=λk d a=>l.sep k d (b k (l.lt k d) a);rcases d with d|d|d|d
  .exact i k (.inl d) a
  .subst d;exact H.sP.fresh v e.1 xF.2.1 J (b k e.1.lt a)
  .rcases z k d with f|f
   .exact i k (.inr (.inr (.inl f))) a
   exact H.sP.fresh v (e.2.2.1.row d).1 xF.2.2.1 f (b k (e.2.2.1.row d).1.lt a)
  rcases A k d with f|f
  .exact i k (.inr (.inr (.inr f))) a
  exact H.sP.fresh v (e.2.2.2.1.row d).1 xF.2.2.2 f (b k (e.2.2.2.1.row d).1.lt a)
def lC.aF7(H:lC w base F r W q g h D o cK aZ vL vM Bs S brk)(j:w.grownBy x g)(y:wO x base g vL' vM' (Bs'.flatMap dJ) (kH Bs') S')(u:vL'.ownBlock=vL.ownBlock)(v:vM'.ownBlock=vM.ownBlock):
 lC x base F r W q g h D o cK aZ vL' vM' Bs' S' brk:=by
  have i:=H.sep g (.inr (.inl rfl));have⟨s,b⟩:=H.sP.grown j i;have l:=H.sP.back j y.1 xF.2.1 i;have n:r≠g:=λa=>by have t:=H.row;rw[a]at t;exact GA.1 (dI H.mod.1 t)
  refine⟨H.row.of_block (j.block r H.row.lt (λa=>n (cS a))),H.low,s,y,λk m a=>?_,λk z f=>?_⟩;rotate_left
  .have⟨A,p,B⟩:=H.gh k z f;have c:=H.QE f;have d:k≠g:=λa=>p (.inr (.inl a));exact⟨(j.block k c (λa=>d (cS a))).trans A,by rw[u,v];exact p,λa=>B (b k c d a)⟩
  rw[u,v]at m;by_cases e:k=g
  .subst e;exact l a
  exact H.sep k m (b k (H.lt k m) e a)
def lC.ghost{c:Gh}(H:lC w base F r W q g h D o cK aZ vL vM Bs S brk)(d:aS w w x)(n:∀k b,c k=some b->x.heap[k]?=b/\w.heap.size<=k/\∃t e,Row x k t e/\¬ad3 t):lC x base c r W q g h D o cK aZ vL vM Bs S brk:=by have a:=H.next d;refine⟨a.row,a.low,a.sP,a.mod,a.sep,λk b p=>?_⟩;have⟨f,i,t,e,j,l⟩:=n k b p;exact⟨f,λm=>by have:=H.lt k m;omega,H.sP.fresh d j l i⟩
end
variable{F:Gh}{l:List Ev}{M:List Nat}{B:List kK}{A:Option Addr}{D:aM}{u v:aN}{s:aT}{S:dW}{o:iP}
def PN(e:Int)(up:Bool)(w:aI):
 Calls prog 39 #[e,up] w λx w'=>x=.returned (.bool (decide (e=60)||(decide (e=61)&&!up)))/\w=w':=by
  by_cases h1:e=60
  .subst h1;go_in;go_wp2;go_ret;exact⟨rfl,rfl⟩
  by_cases h2:e=61
  .subst h2;cases up
   all_goals
    go_in;go_wp2;go_ret;exact⟨rfl,rfl⟩
  have i1:(e==60)=false:=(by rw[bI];exact h1);have i2:(e==61)=false:=(by rw[bI];exact h2);have hR:(decide (e=60)||(decide (e=61)&&!up))=false:=(by rw[cC h1,cC h2];rfl);rw[hR];clear h1 h2 hR;go_in;go_wp2;go_ret;exact⟨rfl,rfl⟩
def wO.copy{B:Option Addr}{T:List jL}(H:wO w n k (.slice A T m) (.slice B M i) T M j)(g:T.length<=1000000)(f:M.length<=1000000)(b:aS w w x)(a:n<=w):
 wO (x.alloc (.cells #[.slice A T T,.slice B M M,j] 48)) n x (.slice A T T) (.slice B M M) T M j:=by have e:=H.next (b.alloc b.size (.cells #[.slice A T T,.slice B M M,j] 48));have c:=GP e.2.2.1 gC g;have d:=GP e.2.2.2.1 gC f;rw[TR,aX gC]at c;rw[XX,aX gC]at d;exact⟨Row.new x #[.slice A T T,.slice B M M,j] _,aL a b.size,c,d,H.2.2.2.2⟩
def bl2(h:lK w n T k (.slice A i i) m X):(none:Option Nat)=(Value.slice A i i).ownBlock\/((none:Option Nat)=none/\∃b e,Value.slice A i i=.slice (zp b) e e):=by
 rcases h with h|⟨b,a,-⟩
 .rcases h.2 with⟨a,-⟩|⟨g,c,d,a,-⟩
  .rw[a];exact .inl rfl
  obtain⟨rfl,-,-⟩:=eV a;exact .inr ⟨rfl,g,i,rfl⟩
 obtain⟨rfl,-,-⟩:=eV a;exact .inr ⟨rfl,b,i,rfl⟩
def bZ7(T:List jL)(c:aT)(a:Int)(l:List Ev)(d n:Int)(b:Bool):Prop:=
 (nB T c a l≠0/\d=nB T c a l/\n=0/\b=false)\/(nB T c a l=0/\d=60/\n=0/\b=false)\/
 (nB T c a l=0/\d=61/\n=0/\b=true)\/(nB T c a l=0/\d=0/\n=((dF T c).length:Nat)/\b=false)
def EH(b:List kK)(c:aT)(a:Int)(l:List Ev)(d:Int):List kK:=if nB (b.flatMap dJ) c a l=0/\d≠60 then b++[(c,(mK b c:Int),l)]else b
def DI{er:Int}(h:nB (B.flatMap dJ) s e l≠0\/er=60):EH B s e l er=B:=aQ (by omega)
def ON(h:nB (B.flatMap dJ) s e l=0)(b:a≠60):EH B s e l a=B++[(s,(mK B s:Int),l)]:=aU ⟨h,b⟩
def bP4(a:List kK)(b:aT)(l:List Ev):(a++[(b,(mK a b:Int),l)]).flatMap dJ=a.flatMap dJ++eG b ((dF (a.flatMap dJ) b):Int) l/\kH (a++[(b,(mK a b:Int),l)])=kH a++[l.length]:=by
 constructor
 .rw[dU];simp[dJ,mK]
 unfold kH;rw[iJ];rfl
def aa1(a:Nat)(F:Gh)(r:Nat)(D:aM)(o:iP)(b c:Nat)(f:List kK)(S:Nat)(w:aI)(e:eT)(d:aI):Prop:=
 e=.returned (.bool true)/\aS a w d/\VM d a F r D o b c f S false
def aA2 {w:aI} {base r W q g:Nat} {F:Gh} {h:dW} {D:aM} {o:iP} {cK aZ:Nat} {vL vM:aN} {Bs:List kK} {S:Nat} (H:lC w base F r W q g h D o cK aZ vL vM Bs S false) (hb:base≤w.heap.size) (hf:∀b∈Bs,tS b) (hfew:Bs.length≤1000) (p:Sp) (hk1:p.k=1) (hst:p.n.size≤1000000) (ha:DQ p.a) (l:List Ev) (hl:WE w (.slice p.E p.e p.f) l) (hn:l.length≤1000) (x:An) (hc:bZ7 (Bs.flatMap dJ) p.n p.a l x.r x.n D.down) :
 Calls prog 18 #[.pointer (some ⟨r,0,none⟩),.agg p.c,.agg x.v,.bool true] w (aa1 base F r D o cK aZ (EH Bs p.n p.a l x.r) S w):=by
 obtain⟨w0,hw0,b0,hs0,hr1,hr2⟩:=an5 w p.c x.v;obtain⟨kd,st,a,b,EA,En,Ec,KA,Kn,Kc,tx⟩:=p;obtain⟨er,n,A9,k9,c9⟩:=x;obtain rfl:kd=1:=hk1;dsimp only[Sp.c,An.v]at *;have hfl:=BN hf;obtain⟨A,cL,rfl,hcL1,hcL2,-⟩:=id H.mod.2.2.1.reads;obtain⟨A',cM,rfl,hcM1,hcM2,-⟩:=id H.mod.2.2.2.1.reads;have hml:(kH Bs).length=Bs.length:=gR ..;obtain⟨Tn,hTn⟩:∃Tn,Tn=(Bs.flatMap dJ).length:=⟨_,rfl⟩;obtain⟨Mn,hMn⟩:∃Mn,Mn=(kH Bs).length:=⟨_,rfl⟩;have hT9:Tn≤8000:=by omega
 have hM9:Mn≤1000:=by omega
 have HTn:=aH hTn;have HMn:=aH hMn;rw[←hTn]at hcL1;rw[←hMn]at hcM1;unfold maxLen at hcL2 hcM2;have H0:=H.next b0;have z1:∀x:dY w0,x.it.cell? ⟨r,1,none⟩=some (.pointer (some ⟨g,0,none⟩)):=fun x=>(H0.row.next x.ok).cell 1 (by simp);have z2:∀x:dY w0,x.it.cell? ⟨g,0,none⟩=some (.slice A Tn cL):=fun x=>by rw[HTn.out];exact(H0.mod.1.next x.ok).cell 0 (by simp)
 have z3:∀x:dY w0,x.it.cell? ⟨g,1,none⟩=some (.slice A' Mn cM):=fun x=>by rw[HMn.out];exact(H0.mod.1.next x.ok).cell 1 (by simp)
 have z4:∀x:dY w0,x.it.cell? ⟨g,2,none⟩=some (.int .i64 (S:Nat)):=fun x=>(H0.mod.1.next x.ok).cell 2 (by simp);have HH:=aH H;have HH0:=aH H0;have HR1:=aH hr1;have HR2:=aH hr2;have HB0:=aH b0;have HS0:=aH hs0;have HB:=aH hb;have HL:=aH hl;have HC:=aH hc;have HFEW:=aH hfew;have HFL:=aH hfl;have HML:=aH hml;have HW0:=aH hw0;have HAI:=aH ha;clear H H0 hr1 hr2 b0 hs0 hb hl hc hf hfl hfew hml hTn hMn ha;go_in;go_wp2_with fail
 rw[←hw0];clear hw0;refine iS (by kernel_rfl) (by kernel_rfl) (by kernel_rfl) (by kernel_rfl) (by kernel_rfl) ?_;simp only[List.dropLast,List.drop,List.length];repeat go_big_quiet_step (fail)
 refine wpQuiet_nil ?_;rintro _ ⟨⟨wq,hbq⟩,rfl⟩;rename_i wq;have hm:=HH0.out.mod.copy (by rw[←HTn.out];omega) (by rw[←HMn.out];omega) hbq (aL HB.out HB0.out.size);rw[←HTn.out,←HMn.out]at hm;have hb1:aS w0.heap.size w0 (wq.alloc (.cells #[.slice A Tn Tn,.slice A' Mn Mn,.int .i64 (S:Nat)] 48)):=hbq.alloc hbq.size _;have hsc:(wq.alloc (.cells #[.slice A Tn Tn,.slice A' Mn Mn,.int .i64 (S:Nat)] 48)).heap.size=wq.heap.size+1:=bC _ _;have hcs:=hbq.size;have hr1':=HR1.out.next hb1;have k1:=hr1'.cell 1 (by simp);have k2:=hr1'.cell 2 (by simp);have k4:=hr1'.cell 4 (by simp);simp only[bE,bX]at k1 k2 k4;clear z1 z2 z3 z4;go_wp2_with fail
 generalize hw1:(wq.alloc (.cells #[.slice A Tn Tn,.slice A' Mn Mn,.int .i64 (S:Nat)] 48))=w1 at hm hb1 hsc k1 k2 k4 hr1' ⊢;generalize hcc:wq.heap.size=c at hm hsc hcs ⊢;clear hw1 hcc hbq k1 k2 k4;have hbw1:aS w.heap.size w w1:=aJ HB0.out hb1;have HAP:=aH (ao6 hm st a (.slice EA En Ec) l hn (by unfold maxLen;omega) (by rw[←HTn.out];omega) (by rw[←HMn.out];omega) (aL HB.out hbw1.size) HAI.out none none (fun w' hw' hk'=>HL.out.next ⟨hk'.os.trans hbw1.os,hk'.tape.trans hbw1.tape,hk'.output.trans hbw1.output,aL hbw1.size hk'.size,fun k hk=>(hk'.block k (aW hk hbw1.size) (by have:=HS0.out;omega) (by simp)).trans (hbw1.block k hk)⟩) (bl2 hm.2.2.1) (bl2 hm.2.2.2.1));have HM1:=aH hm;have HB1:=aH hb1;clear hm hb1 hr1' hbw1;have KEY:=aH (fun(y:aI) (hy:aS w0.heap.size w0 y)=>show y.cell? ⟨r,0,none⟩=some (.pointer (some ⟨W,0,none⟩))∧(Calls prog 28 #[.pointer (some ⟨W,0,none⟩)] y (fun e w'=>e=.returned (.pointer (some ⟨h.d,0,none⟩))∧y=w'))∧(Calls prog 29 #[.pointer (some ⟨h.d,0,none⟩)] y (fun e w'=>e=.returned (.bool (!D.down))∧y=w'))∧y.cell? ⟨w.heap.size+1,0,none⟩=some (.int .i64 er)∧y.cell? ⟨w.heap.size+1,1,none⟩=some (.int .i64 n)from by
  have H9:=HH0.out.next hy;obtain⟨blk,dat,hd⟩:=H9.sP.it.eD;exact⟨H9.row.cell 0 (by simp),N1 H9.sP,HY hd,(HR2.out.next hy).cell 0 (by simp),(HR2.out.next hy).cell 1 (by simp)⟩)
 have BW:=aH (fun(y:aI) (hy:aS w0.heap.size w0 y)=>show aS base w y from by
  have h9:=aJ HB0.out hy;exact⟨h9.os,h9.tape,h9.output,h9.size,fun k hk=>h9.block k (aW hk HB.out)⟩)
 have SAME:=aH (fun(y:aI) (hy:aS w0.heap.size w0 y) (hbt:EH Bs st a l er=Bs)=>show aa1 base F r D o cK aZ (EH Bs st a l er) S w (.returned (.bool true)) y from⟨rfl,BW.out y hy,by rw[hbt];exact⟨W,q,g,h,_,_,HH0.out.next hy⟩⟩);have NEW:=aH (fun(y:aI) (hy:aS w0.heap.size w0 y) (hbt:EH Bs st a l er=Bs++[(st,(mK Bs st:Int),l)]) (vL' vM':aN) (hrw:wO y base c vL' vM' (Bs.flatMap dJ++eG st ((dF (Bs.flatMap dJ) st).length:Int) l) (kH Bs++[l.length]) S) (h1:∀k,vL'.ownBlock=some k→(Value.slice A Tn Tn).ownBlock=some k∨w1.heap.size≤k) (h2:∀k,vM'.ownBlock=some k→(Value.slice A' Mn Mn).ownBlock=some k∨w1.heap.size≤k)=>show aa1 base F r D o cK aZ (EH Bs st a l er) S w (.returned (.bool true)) (y.setCell ⟨r,1,none⟩ (.pointer (some ⟨c,0,none⟩)))from by
  obtain⟨m1,m2⟩:=bP4 Bs st l;rw[←m1,←m2]at hrw;have h9:=HH0.out.model hy hcs hrw (fun k hk=>(h1 k hk).imp (fun h8=>by rw[←h8];exact LQ _ _ _ _ _) (fun h8=>by have:=HB1.out.size;omega)) (fun k hk=>(h2 k hk).imp (fun h8=>by rw[←h8];exact LQ _ _ _ _ _) (fun h8=>by have:=HB1.out.size;omega));exact⟨rfl,(BW.out y hy).setCell HH.out.low _,by rw[hbt];exact⟨W,q,c,h,vL',vM',h9⟩⟩)
 rcases HC.out with⟨hc0,hc1,hc2,hc3⟩|⟨hc0,hc1,hc2,hc3⟩|⟨hc0,hc1,hc2,hc3⟩|⟨hc0,hc1,hc2,hc3⟩
 ·have hbt:=DI (er:=er) (.inl hc0);have hcd:=ZM (Bs.flatMap dJ) st a l;subst hc2;refine HAP.out.mono ?_;rintro e w2 ⟨hno,-⟩;obtain⟨rfl,hb2⟩:=hno hc0;rw[←hc1]at hc0 hcd ⊢;have hb02:=aJ HB1.out hb2;have hE:=aH (SAME.out w2 hb02 hbt);obtain⟨y0,yd,yu,y1,y2⟩:=KEY.out w2 hb02;rw[hc3]at yu;have i1:(er==61)=false:=by rw[bI];exact hcd.2
  have i2:(er==0)=false:=by rw[bI];exact hc0
  have hR:Calls prog 39 #[.int .i64 er,.bool true] w2 fun x w'=>x=.returned (.bool false)∧w2=w':=by
   have h9:=PN er true w2;rwa [cC hcd.1,cC hcd.2]at h9
  clear hno hb2 hb02 hbt hcd hc0 HC SAME NEW BW KEY hc1 hc3 HAP HM1 HB1 HH HH0 HR1 HR2 HW0 HL HTn HMn HFL HFEW HML HAI HB0 HS0 HB;go_wp2_with fail
  refine yd.mono ?_;rintro e w' ⟨rfl,rfl⟩;go_wp2_with fail
  refine yu.mono ?_;rintro e w' ⟨rfl,rfl⟩;go_wp2_with fail
  refine hR.mono ?_;rintro e w' ⟨rfl,rfl⟩;go_wp2;go_ret;exact hE.out
 all_goals
  subst hc1 hc2;refine HAP.out.mono ?_;rintro e w2 ⟨-,hyes⟩;obtain⟨rfl,vL',vM',hrw,hbel,hblk,hfl',hfm'⟩:=hyes hc0;have hb02:aS w0.heap.size w0 w2:=⟨hbel.os.trans HB1.out.os,hbel.tape.trans HB1.out.tape,hbel.output.trans HB1.out.output,aL HB1.out.size hbel.size,fun k hk=>(hblk k (aW hk HB1.out.size) (by omega) (by simp) (by simp)).trans (HB1.out.block k hk)⟩;obtain⟨y0,yd,yu,y1,y2⟩:=KEY.out w2 hb02;rw[hc3]at yu;obtain⟨N9,hN9⟩:=kX (dF (Bs.flatMap dJ) st).length
  first
   |have hE:=aH (SAME.out w2 hb02 (DI (.inr rfl)))
   |have hE:=aH (NEW.out w2 hb02 (ON hc0 (by decide)) vL' vM' hrw hfl' hfm')
    have yr1:=(HH0.out.next hb02).row.xD;have yf1:=(HH0.out.next hb02).row.J3;have hrb:⟨r,1,none⟩≠(⟨w.heap.size+1,0,none⟩:Addr)∧⟨r,1,none⟩≠(⟨w.heap.size+1,1,none⟩:Addr):=by
     have:=HH.out.row.lt;constructor<;>(intro h9;have:=gQ Addr.block h9;simp only at this;omega)
    have x1:=(ca3 w2 ⟨r,1,none⟩ ⟨w.heap.size+1,0,none⟩ (.pointer (some ⟨c,0,none⟩)) hrb.1).trans y1;have x2:=(ca3 w2 ⟨r,1,none⟩ ⟨w.heap.size+1,1,none⟩ (.pointer (some ⟨c,0,none⟩)) hrb.2).trans y2;(try rw[←hN9]at x2);rw[←hN9];clear hrb
  have hR:Calls prog 39 #[.int .i64 60,.bool true] w2 fun x w'=>x=.returned (.bool true)∧w2=w':=PN 60 true w2;have hR0:Calls prog 39 #[.int .i64 0,.bool true] w2 fun x w'=>x=.returned (.bool false)∧w2=w':=PN 0 true w2;clear hN9 hyes hrw hbel hblk hfl' hfm' hb02 hc0 hc3 HC SAME NEW BW KEY HAP HM1 HB1 HH HH0 HR1 HR2 HW0 HL HTn HMn HFL HFEW HML HAI HB0 HS0 HB;go_wp2_with fail
  refine yd.mono ?_;rintro e w' ⟨rfl,rfl⟩;go_wp2_with fail
  refine yu.mono ?_;rintro e w' ⟨rfl,rfl⟩;go_wp2_with fail
  try
   (first|(with_reducible refine hR.mono ?_)|(with_reducible refine hR0.mono ?_));rintro e w' ⟨rfl,rfl⟩;go_wp2
  go_ret;exact hE.out
def PgR(b:List kK)(a:aT)(f c:Int)(d:Bool)(y:aI)(e:eT)(x:aI):Prop:=
 ∃(A:Option Addr)(k n:Nat),e=.returned (.tuple #[.slice A k n,.int .i64 (pgE a f c)])/\vA x (.slice A k n) (pgT b a f c d)/\aS y.heap.size y x
def WM(w:aI):vA w (.slice none 0 0) []:=⟨Reads.nil _ _,by simp⟩
def PC(h:kU B):∀t∈B.flatMap dJ,okT t:=λt d=>by
 obtain⟨b,c,a⟩:=lG.1 d;exact(h.tT b c).told t a
def aD0{T:List jL}{b:Bool}{t:jL}(h:t∈AB T e a b):t∈T:=by
 unfold AB at h;split at h
 .exact(eW.1 (List.mem_reverse.1 h)).1
 exact(eW.1 h).1
def bN5(h:kU B)(b:aT)(f c:Int)(d:Bool):∀t∈pgT B b f c d,okT t:=λt a=>by
 unfold pgT at a;split at a
 .cases a
 exact PC h t (eW.1 (aD0 a)).1
def cd9(h:kU B)(a:aT)(f c:Int)(d:Bool):(pgT B a f c d).length<=8*B.length:=by
 unfold pgT;split
 .simp
 have b:=BN h.tT;have e:=yI (B.flatMap dJ) a;unfold AB;split
 iterate 2
  ·(try rw[yA]);exact aL (iR _ _) (by omega)
def cp2(h:ZR w n v u (B.flatMap dJ) M k)(i:kU B)(m:B.length<=1000)(b:aT)(s:b.size<=1000000)(f c:Int)(r:DQ f)(q:DQ c)(d:Bool):
 Calls prog 40 #[.pointer (some ⟨n,0,none⟩),.string b,.int .i64 f,.int .i64 c,.bool d] w (PgR B b f c d w):=by
  have z:=BN i.tT;refine(bt5 n v u _ M k b f c d w h (by omega) (by unfold maxLen;omega) r q (λt l=>by have:=uD i l;omega)).mono ?_;rintro e x ⟨o,p⟩;unfold PgR pgE pgT;rcases a:IY b f c with _|_
  .obtain⟨C,rfl,j,y⟩:=p a;have g:0<=f/\1<=c:=by unfold IY at a;simp at a;omega
   rw[bU8 (i.row b) g.1 g.2]at j;obtain⟨A,D,rfl,-⟩:=Reads.dC j;refine⟨A,_,D,rfl,⟨Reads.dC j,λt l=>?_⟩,y⟩;exact PC i t (eW.1 (aD0 l)).1
  obtain⟨rfl,rfl⟩:=o a;exact⟨none,0,0,rfl,WM _,aY _ _⟩
def rS(a:Nat)(F:Gh)(r:Nat)(D:aM)(o:iP)(b c:Nat)(f:List kK)(S:Nat)(w:aI)(e:eT)(d:aI):Prop:=
 e=.returned (.bool true)/\aS a w d/\VM d a F r D o b c f S false
def lC.RZ(H:lC w m F k n i j S D o g q v u B d false)(b:m<=w.heap.size)(a:aS w.heap.size w x):rS m F k D o g q B d w (.returned (.bool true)) x:=
 ⟨rfl,⟨a.os,a.tape,a.output,a.size,λe c=>a.block e (aW c b)⟩,n,i,j,S,v,u,H.next a⟩
def lC.boxed(H:lC w m F k n i j S D o g q v u B d false):w.cell? ⟨k,1,none⟩=some (.pointer (some ⟨j,0,none⟩))/\w.cell? ⟨j,0,none⟩=some v/\k<w.heap.size/\j<w.heap.size:=⟨H.row.xD,H.mod.1.rY,H.row.lt,H.mod.1.lt⟩
def RdS(r g B:Nat)(p:Sp)(z:aI):Prop:=z.cell? ⟨r,1,none⟩=some (.pointer (some ⟨g,0,none⟩))/\z.cell? ⟨B,1,none⟩=some (.string p.n)/\z.cell? ⟨B,2,none⟩=some (.int .i64 p.a)/\z.cell? ⟨B,3,none⟩=some (.int .i64 p.b)
def RdN(g:Nat)(p:Sp)(er n:Int)(L:List jL)(y:aI):Prop:=
 match p.k with
 |2=>Calls prog 40 #[.pointer (some ⟨g,0,none⟩),.string p.n,.int .i64 p.a,.int .i64 p.b,.bool false] y fun e x=>∃(A:Option Addr)(k c:Nat),e=.returned (.tuple #[.slice A k c,.int .i64 er])/\vA x (.slice A k c) L/\aS y.heap.size y x
 |3=>Calls prog 40 #[.pointer (some ⟨g,0,none⟩),.string p.n,.int .i64 p.a,.int .i64 p.b,.bool true] y fun e x=>∃(A:Option Addr)(k c:Nat),e=.returned (.tuple #[.slice A k c,.int .i64 er])/\vA x (.slice A k c) L/\aS y.heap.size y x
 |4=>L=[]/\Calls prog 41 #[.pointer (some ⟨g,0,none⟩),.string p.n] y fun e x=>e=.returned (.tuple #[.int .i64 n,.int .i64 er])/\aS y.heap.size y x
 |_=>False
def bs6(H:lC w m F k n i j S D o g q v u B d false)(hb:m<=w.heap.size)(C:kU B)(E:B.length<=1000)(p:Sp)(hk:2<=p.k/\p.k<=5)(Y:p.n.size<=1000000)(ha:DQ p.a)(W:DQ p.b)(x:An)(hx:(x.r,x.n)=((rdA B p).1,(rdA B p).2.1))(ht:vA w (.slice x.A x.k x.c) (rdA B p).2.2):
 Calls prog 19 #[.pointer (some ⟨k,0,none⟩),.agg p.c,.agg x.v,.bool true] w (rS m F k D o g q B d w):=by
  obtain⟨G,Z,b0,-,l,c⟩:=an5 w p.c x.v;have X:=BN C.tT;have K:(rdA B p).2.2.length<=1000000:=by
   unfold rdA;split
   iterate 2
    .exact aL (cd9 C _ _ _ _) (by omega)
   .exact bO _
   dsimp only;omega
  have O:=H.next b0;have hC:p.k≠5->∀y:aI,aS G.heap.size G y->RdN j p x.r x.n (rdA B p).2.2 y:=by
   intro h5 y f;obtain⟨e1,e2⟩:=Prod.mk.inj hx;unfold RdN rdA at *;have h2:=cp2 (O.mod.r.next f) C E p.n Y p.a p.b ha W;rcases(show p.k=2\/p.k=3\/p.k=4 by omega)with t|t|t
   all_goals
    simp only[t]at e1 e2|-;rw[e1]
   .exact h2 false
   .exact h2 true
   refine⟨trivial,(bt6 j v u _ (kH B) d p.n y (O.mod.r.next f) (by omega) (by unfold maxLen;omega)).mono ?_⟩;rintro e z ⟨rfl,hz⟩;exact⟨by rw[e2];split<;>rfl,hz⟩
  have h1:(p.k≠4->x.n=0)/\(p.k=5->x.r=0):=by
   obtain⟨e1,e2⟩:=Prod.mk.inj hx;rw[e1,e2];unfold rdA;constructor
   .intro t;split<;>first|rfl|exact absurd ‹_› t
   intro t;simp only[t]
  have⟨R,HE,HA⟩:=aB (λ(y:aI)(f:aS G.heap.size G y)=>And.intro (ht.next (aJ b0 f)) (c.next f)) (λ(y:aI)(f:aS G.heap.size G y)=>H.RZ hb (aJ b0 f)) (And.intro H.mod.r.2.1 (O.mod.r.2.1));generalize hL:(rdA B p).2.2=L at K hC R;have U:p.k=5->L=B.flatMap dJ:=λt=>(by rw[<-hL];unfold rdA;simp only[t]);obtain⟨z1,z2,lr,lg⟩:=H.boxed;have⟨N,Q⟩:=aA (And.intro K (And.intro U X)) (λ(y:aI)(f:aS G.heap.size G y)=>show RdS k j w.heap.size p y from⟨(O.next f).row.xD,(l.next f).xD,(l.next f).G8,(l.next f).zc3⟩);unfold RdS at Q;have P:=aH hC;have k0:=l.rY;obtain⟨kd,st,a,b,EA,En,Ec,KA,Kn,Kc,tx⟩:=p;obtain⟨er,h3,A9,k9,c9⟩:=x;dsimp only[Sp.c,An.v]at *;obtain⟨HK,J⟩:=aA (show(kd=2/\h3=0)\/(kd=3/\h3=0)\/kd=4\/(kd=5/\h3=0/\er=0)from by omega) Z;clear H O l c b0 hb ht C E Y ha W hx K hC hL U hk X Z h1;rcases HK.out with⟨rfl,rfl⟩|⟨rfl,rfl⟩|rfl|⟨rfl,rfl,rfl⟩
  iterate 3
   .clear z1 z2 lr lg HA HK;go_in;(go_wp2_with fail);rw[<-J.out];clear J;(go_wp2_with fail);go_region_held3 (λz=>z.cell? ⟨k,1,none⟩=some (.pointer (some ⟨j,0,none⟩))/\z.cell? ⟨w.heap.size,1,none⟩=some (.string st)/\z.cell? ⟨w.heap.size,2,none⟩=some (.int .i64 a)/\z.cell? ⟨w.heap.size,3,none⟩=some (.int .i64 b))
     (first|(exact Q.out _ s)|(exact Q.out _ (aY _ _).drew)|fail)
     (first|(go_at_call 40;refine(P.out (by decide) _ (aY _ _).drew).mono ?_;rintro e x1 ⟨A1,k1,n1,rfl,M,A⟩;have s:=aJ (aY _ _).drew A)|(go_at_call 41;refine(P.out (by decide) _ (aY _ _).drew).2.mono ?_;rintro e x1 ⟨rfl,A⟩;have s:=aJ (aY _ _).drew A;have M:vA x1 (.slice none 0 0) L:=(by rw[(P.out (by decide) _ (aY _ _)).1];exact WM x1)))
    obtain⟨r,c⟩:=R.out _ s;have r0:=c.rY;have r1:=c.xD;have r2:=c.G8;have⟨h0,HX⟩:=aA (aj0 _ _ _ _ _ r M ⟨N.out.1,N.out.1⟩) s;clear s M r c P R Q A;(go_wp2_with fail);refine h0.out.mono ?_;rintro e x5 ⟨rfl,h⟩;have I:=aH (HE.out _ (aJ HX.out h));clear h;go_wp2;go_ret;simpa using I.out
  obtain⟨r,-⟩:=R.out _ (aY _ _);obtain⟨A1,n1,rfl,-⟩:=id HA.out.1.1;obtain⟨N9,V⟩:=kX (B.flatMap dJ).length;have e5:=N.out.2.1 rfl;have T:=aH ((aj0 _ _ _ _ _ r HA.out.2 ⟨N.out.1,by rw[<-e5];exact N.out.1⟩).mono (R':=λe w'=>e=.returned (.bool true)/\rS m F k D o g q B d w (.returned (.bool true)) w') (by
   rintro e x ⟨rfl,hx⟩;exact⟨by simp[e5],HE.out _ hx⟩))
  rw[<-V]at z2 T;clear r e5 V HA P R Q HE N HK;go_in;(go_wp2_with fail);rw[<-J.out];refine T.out.mono ?_;rintro e x5 ⟨rfl,h⟩;have I:=aH h;clear h;go_wp2;go_ret;exact I.out
def bX5{G:cT}{I:bA}(H:iW w k n m S D (some (G,I)) i j)(s:Sp)(d:s.k<1\/14<s.k):
 Calls prog 37 #[.pointer (some ⟨n,0,none⟩),.agg s.c] w (ax2 k m S i j (λg O T l o p=>g=2/\O=0/\T=[]/\l=D/\o=G/\p=I) w):=by
  have e:nQ w k m S D G I i j:=H.it;obtain⟨q,r,h⟩:=e.sys.eD;have f:=aH (rJ.kept (er:=2) e ((l8.start e h).next (aJ (cI w (.cells s.c 35)) (cI _ (.cells #[.int .i64 2,.int .i64 0,.slice none 0 0] 63)))));obtain⟨c,M,a,b,t,x,u,y,Kn,z,N⟩:=s;dsimp only[Sp.c]at f d|-;obtain⟨A,B,C,E,F,J,K,L⟩:(c==1)=false/\(c==2)=false/\(c==3)=false/\(c==4)=false/\(c==5)=false/\(c==6)=false/\(c==7)=false/\(c==8)=false:=(by simp;omega);clear d H e h;go_in;go_wp2;refine bG (v:=.agg #[.int .i64 2,.int .i64 0,.slice none 0 0]) (by simp[results,results37,go_sem]) rfl ⟨2,0,none,0,0,[],D,G,I,rfl,⟨rfl,rfl,rfl,rfl,rfl,rfl⟩,bQ _ _ _ _,f.out⟩
end Go.Proofs.YtpopikndggffaaaGreatDoor
