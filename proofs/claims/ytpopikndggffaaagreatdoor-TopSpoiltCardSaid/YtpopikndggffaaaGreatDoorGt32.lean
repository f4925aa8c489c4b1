/- TOP, part 32. -/
import Derived.Test.YtpopikndggffaaaGreatDoorGt31
namespace Go.Proofs.YtpopikndggffaaaGreatDoor
set_option linter.all false
set_option maxRecDepth 100000
set_option maxHeartbeats 16000000
open Go.RowKit Go.Maps Tryz
variable{k m n:Nat}{w:aI}
def aF0(a q:Nat)(h:dV)(b d:Nat)(Q:Int->Int->List jU->aL->cS->aZ->Prop)(w:aI)(e:eY)(g:aI):Prop:=∃(f n:Int)(A:Option Addr)(k c:Nat)(T:List jU)(D:aL)(G:cS)(I:aZ),e=.returned (.agg #[.int .i64 f,.int .i64 n,.slice A k c])/\Q f n T D G I/\(g.ownsRow w.heap.size 133 5 (.slice A k c) T.length (fU T))/\sM a q h b d w f D G I g
def bS9(W q B:Nat)(c:aS)(a b:Int)(E:aN)(z:aI):Prop:=z.cell? ⟨W,1,none⟩=some (.pointer (some ⟨q,0,none⟩))/\z.cell? ⟨B,1,none⟩=some (.string c)/\z.cell? ⟨B,2,none⟩=some (.int .i64 a)/\z.cell? ⟨B,3,none⟩=some (.int .i64 b)/\z.cell? ⟨B,4,none⟩=some E
section
variable {base q W:Nat}{h:dV}{D D':aL}{G G':cS}{I I':aZ}{cF aX:Nat}{w x y z:aI}{er:Int}{kd a b:Int}{st tx:aS}{E K:aN}
def bs7.c(H:bs7 w base W q h cF aX [kd,st,a,b,E,K,tx] x):bS9 W q w st a b E x:=⟨H.pN.qD,H.box.qD,H.box.tW,H.box.JF,H.box.zc4⟩
def bS9.set(H:bS9 W q w st a b E x)(n:W<w)(j:Nat)(u:aN):bS9 W q w st a b E (x.setCell (zp (w+1) j) u):=by
 have⟨d,e,f,g,l⟩:=H;have c:∀{k i:Nat} {v:aN},k≠w+1->x.cell? (zp k i)=v->(x.setCell (zp (w+1) j) u).cell? (zp k i)=some v:=fun {k i v} m h=>by rw[dK (a:=zp k i) (aU _ _ _ _ m)];exact h
 exact⟨c (by omega) d,c (by omega) e,c (by omega) f,c (by omega) g,c (by omega) l⟩
end
def cN3(a q:Nat)(h:dV)(b c:Nat)(Q:Int->Int->List jU->aL->cS->aZ->Prop)(w:aI)(e:eY)(f:aI):Prop:=∃(d n:Int)(D:aL)(G:cS)(I:aZ),e=.returned (.tuple #[.int .i64 n,.int .i64 d])/\Q d n [] D G I/\sM a q h b c w d D G I f
def cJ1(a q:Nat)(h:dV)(b d:Nat)(Q:Int->Int->List jU->aL->cS->aZ->Prop)(w:aI)(e:eY)(g:aI):Prop:=∃(f:Int)(A:Option Addr)(k c:Nat)(T:List jU)(D:aL)(G:cS)(I:aZ),e=.returned (.tuple #[.slice A k c,.int .i64 f])/\Q f 0 T D G I/\g.ownsRow w.heap.size 133 5 (.slice A k c) T.length (fU T)/\sM a q h b d w f D G I g
def cJ9(a q:Nat)(h:dV)(b c:Nat)(Q:Int->Int->List jU->aL->cS->aZ->Prop)(w:aI)(e:eY)(f:aI):Prop:=∃(d:Int)(D:aL)(G:cS)(I:aZ),e=.returned (.int .i64 d)/\Q d 0 [] D G I/\sM a q h b c w d D G I f
def LG{v u0 u1 u2:aN}{X:List aN}(h:w.ownsRow n 133 5 v k X)(b:m<n):(((w.setCell (zp m) u0).setCell (zp m 1) u1).setCell (zp m 2) u2).ownsRow n 133 5 v k X:=ownsRow_setCell_below (ownsRow_setCell_below (ownsRow_setCell_below h (a:=zp m) b u0) (a:=zp m 1) b u1) (a:=zp m 2) b u2
def bS8(base q:Nat)(h:dV)(cF aX:Nat)(s:Sp)(Q:Int->Int->List jU->aL->cS->aZ->Prop)(y:aI):Prop:=match s.k with
 |1=>Calls prog 60 #[.pointer (some ⟨q,0,none⟩),.string s.n,.int .i64 s.a,.slice s.E s.e s.f] y (cN3 base q h cF aX Q y)
 |2=>Calls prog 62 #[.pointer (some ⟨q,0,none⟩),.string s.n,.int .i64 s.a,.int .i64 s.b] y (cJ1 base q h cF aX Q y)
 |3=>Calls prog 63 #[.pointer (some ⟨q,0,none⟩),.string s.n,.int .i64 s.a,.int .i64 s.b] y (cJ1 base q h cF aX Q y)
 |4=>Calls prog 64 #[.pointer (some ⟨q,0,none⟩),.string s.n] y (cN3 base q h cF aX Q y)
 |5=>Calls prog 44 #[.pointer (some ⟨q,0,none⟩)] y (cJ1 base q h cF aX Q y)
 |6=>Calls prog 65 #[.pointer (some ⟨q,0,none⟩)] y (cJ9 base q h cF aX Q y)
 |7=>Calls prog 66 #[.pointer (some ⟨q,0,none⟩)] y (cJ9 base q h cF aX Q y)
 |8=>Calls prog 67 #[.pointer (some ⟨q,0,none⟩),.int .i64 s.a] y (cJ9 base q h cF aX Q y)
 |_=>False
def cz7{S:dV}{D:aL}{G:cS}{I:aZ}{i j:Nat}(H:iY w k n m S D (some (G,I)) i j)(hb:k<=w)(s:Sp)(hk:1<=s.k/\s.k<=8)(Q:Int->Int->List jU->aL->cS->aZ->Prop)(F:∀y:aI,aR w w y->bS8 k m S i j s Q y):Calls prog 37 #[zp n,.agg s.c] w (aF0 k m S i j Q w):=by
 have⟨B,X,a,b,O,U,P,KA,Kn,Kc,tx⟩:=s;dsimp only[Sp.c]at hk|-;have hW:=H.row.lt;have h0:=aK (cD w (.cells #[.int .i64 B,.string X,.int .i64 a,.int .i64 b,.slice O U P,.slice KA Kn Kc,.string tx] 35)) (cD _ (.cells vN 63));have E:=O0.start H #[.int .i64 B,.string X,.int .i64 a,.int .i64 b,.slice O U P,.slice KA Kn Kc,.string tx];have kw:w.cell? ⟨n,1,none⟩=some (.pointer (some ⟨m,0,none⟩)):=H.cells.2.1;have⟨C,W⟩:=fR ((w.alloc (.cells #[.int .i64 B,.string X,.int .i64 a,.int .i64 b,.slice O U P,.slice KA Kn Kc,.string tx] 35)).alloc (.cells vN 63));rw[<-W]at h0 E;have k0:=E.box.lO;have k1:C.cell? ⟨n,1,none⟩=some (.pointer (some ⟨m,0,none⟩)):=E.pN.qD;have k2:=E.box.tW;have⟨F,HS,V,HF,HL,HD,Y⟩:=aF (λ(y:aI)(t:aR C.heap.size C y)=>F y (aK h0 t)) (λ(y:aI)(t:aR C.heap.size C y)=>(E.next t).r.c) (λ(y z:aI)(t:aR C.heap.size C y)(g:Int)(D:aL)(G:cS)(I:aZ)(K:sM k m S i j y g D G I z)=>(E.next t).behind K) (λ(y z x:aI)(t:aR C.heap.size C y)(g:Int)(D:aL)(G:cS)(I:aZ)(K:sM k m S i j y g D G I z)(hx:aR z.heap.size z x)(u0 u1 u2:aN)=>O0.put H (aK h0 t) (E.next t) K hx u0 u1 u2) (λ(y:aI)(t:aR C.heap.size C y)=>show w.heap.size+1<y.heap.size/\w.heap.size<=y.heap.size from⟨(E.next t).AQ.lt,qT (Nat.lt_of_succ_lt (E.next t).AQ.lt)⟩) (λ(z:aI) (hz:bS9 n m w.heap.size X a b (.slice O U P) z) (h1:Nat) (u:aN)=>hz.set hW h1 u) hW;clear H E hb h0;unfold bS9 at HS;have HZ:=aH W;clear W;rcases(show(B=1\/B=4)\/(B=2\/B=3)\/B=5\/(B=6\/B=7)\/B=8 from by omega)with(rfl|rfl)|(rfl|rfl)|rfl|(rfl|rfl)|rfl
 all_goals
  go_in;go_wp2_with fail;rw[<-HZ.zz];clear kw HZ hW
 iterate 2
  ·(go_wp2_with fail);go_region_held3 (λz=>z.cell? ⟨n,1,none⟩=some (.pointer (some ⟨m,0,none⟩))/\z.cell? ⟨w.heap.size,1,none⟩=some (.string X)/\z.cell? ⟨w.heap.size,2,none⟩=some (.int .i64 a)/\z.cell? ⟨w.heap.size,3,none⟩=some (.int .i64 b)/\z.cell? ⟨w.heap.size,4,none⟩=some (.slice O U P))
    (first|(exact((HD _ f.c 0 _).set Y 1 _).set Y 2 _)|(exact f.c)|(exact d.c)|(exact HS _ iH.drew)|fail)
    (first|(go_at_call 59;go_call ag7 _ _ _ as e x2 ⟨rfl,h⟩;have f:=d.next h;have L:=f.AQ.lO;have M:=f.AQ.qD;have N:=f.AQ.tW;have f0:=f.AQ.NV;have f1:=f.AQ.JE;have f2:=f.AQ.QP)|(go_at_call 60;go_call F _ iH.drew as e x1 ⟨g,h3,p,q,r,rfl,o,l⟩;have d:=V _ _ iH.drew _ _ _ _ l)|(go_at_call 64;go_call F _ iH.drew as e x1 ⟨g,h3,p,q,r,rfl,o,l⟩;have d:=V _ _ iH.drew _ _ _ _ l))
   have⟨R,J⟩:=aA (HF _ _ _ iH.drew _ _ _ _ l h (.int .i64 g) (.int .i64 h3) (.slice none 0 0)) o;clear l o d f h;go_wp2;refine bE (v:=.agg #[.int .i64 g,.int .i64 h3,.slice none 0 0]) (by simp[results,results37,go_sem,L,M,N]) rfl ⟨g,h3,none,0,0,[],p,q,r,rfl,J,bM _ _ _ _,R⟩
 iterate 2
  ·(go_wp2_with fail);go_region_held3 (λz=>z.cell? ⟨n,1,none⟩=some (.pointer (some ⟨m,0,none⟩))/\z.cell? ⟨w.heap.size,1,none⟩=some (.string X)/\z.cell? ⟨w.heap.size,2,none⟩=some (.int .i64 a)/\z.cell? ⟨w.heap.size,3,none⟩=some (.int .i64 b)/\z.cell? ⟨w.heap.size,4,none⟩=some (.slice O U P))
    (first|(exact((HD _ f.c 0 _).set Y 1 _).set Y 2 _)|(exact f.c)|(exact d.c)|(exact HS _ iH.drew)|fail)
    (first|(go_at_call 61;go_call UZ _ _ _ _ _ as e x2 ⟨rfl,h⟩;have f:=d.next h;have L:=f.AQ.lO;have M:=f.AQ.qD;have N:=f.AQ.tW;have f0:=f.AQ.NV;have f1:=f.AQ.JE;have f2:=f.AQ.QP)|(go_at_call 62;go_call F _ iH.drew as e x1 ⟨g,A,h2,c,T,p,q,r,rfl,o,Z,l⟩;have d:=V _ _ iH.drew _ _ _ _ l)|(go_at_call 63;go_call F _ iH.drew as e x1 ⟨g,A,h2,c,T,p,q,r,rfl,o,Z,l⟩;have d:=V _ _ iH.drew _ _ _ _ l))
   have⟨R,J,O9⟩:=aB (HF _ _ _ iH.drew _ _ _ _ l h (.int .i64 g) (.int .i64 0) (.slice A h2 c)) o (iI (LG (u0:=.int .i64 g) (u1:=.int .i64 0) (u2:=.slice A h2 c) (bY Z h) ((HL _ iH.drew).1)) ((HL _ iH.drew).2));clear Z l o d f h;go_wp2;refine bE (v:=.agg #[.int .i64 g,.int .i64 0,.slice A h2 c]) (by simp[results,results37,go_sem,L,M,N]) rfl ⟨g,0,A,h2,c,T,p,q,r,rfl,J,O9,R⟩
 .go_call F _ iH as e x1 ⟨g,A,h2,c,T,p,q,r,rfl,o,Z,l⟩;have d:=V _ _ iH _ _ _ _ l;go_wp2_with fail;go_call UZ _ _ _ _ _ as e x2 ⟨rfl,h⟩;have f:=d.next h;have L:=f.AQ.lO;have M:=f.AQ.qD;have N:=f.AQ.tW;have f0:=f.AQ.NV;have f1:=f.AQ.JE;have f2:=f.AQ.QP;have⟨R,J,O9⟩:=aB (HF _ _ _ iH _ _ _ _ l h (.int .i64 g) (.int .i64 0) (.slice A h2 c)) o (iI (LG (u0:=.int .i64 g) (u1:=.int .i64 0) (u2:=.slice A h2 c) (bY Z h) ((HL _ iH).1)) ((HL _ iH).2));clear Z l o d f h;go_wp2;refine bE (v:=.agg #[.int .i64 g,.int .i64 0,.slice A h2 c]) (by simp[results,results37,go_sem,L,M,N]) rfl ⟨g,0,A,h2,c,T,p,q,r,rfl,J,O9,R⟩
 iterate 2
  .go_call F _ iH as e x1 ⟨g,p,q,r,rfl,o,l⟩;have d:=V _ _ iH _ _ _ _ l;have L:=d.AQ.lO;have M:=d.AQ.qD;have N:=d.AQ.tW;have f0:=d.AQ.NV;have f1:=d.AQ.JE;have f2:=d.AQ.QP;have⟨R,J⟩:=aA (HF _ _ _ iH _ _ _ _ l iH (.int .i64 g) (.int .i64 0) (.slice none 0 0)) o;clear l o d;go_wp2;refine bE (v:=.agg #[.int .i64 g,.int .i64 0,.slice none 0 0]) (by simp[results,results37,go_sem,L,M,N]) rfl ⟨g,0,none,0,0,[],p,q,r,rfl,J,bM _ _ _ _,R⟩
 go_wp2_with fail
 go_region_held3 (λz=>z.cell? ⟨n,1,none⟩=some (.pointer (some ⟨m,0,none⟩))/\z.cell? ⟨w.heap.size,1,none⟩=some (.string X)/\z.cell? ⟨w.heap.size,2,none⟩=some (.int .i64 a)/\z.cell? ⟨w.heap.size,3,none⟩=some (.int .i64 b)/\z.cell? ⟨w.heap.size,4,none⟩=some (.slice O U P))
  (first|(exact((HD _ d.c 0 _).set Y 1 _).set Y 2 _)|(exact d.c)|(exact d.c)|(exact HS _ iH.drew)|fail)
  (first|(go_at_call 67;go_call F _ iH.drew as e x1 ⟨g,p,q,r,rfl,o,l⟩;have d:=V _ _ iH.drew _ _ _ _ l;have L:=d.AQ.lO;have M:=d.AQ.qD;have N:=d.AQ.tW;have f0:=d.AQ.NV;have f1:=d.AQ.JE;have f2:=d.AQ.QP))
 have⟨R,J⟩:=aA (HF _ _ _ iH.drew _ _ _ _ l iH (.int .i64 g) (.int .i64 0) (.slice none 0 0)) o;clear l o d;go_wp2;refine bE (v:=.agg #[.int .i64 g,.int .i64 0,.slice none 0 0]) (by simp[results,results37,go_sem,L,M,N]) rfl ⟨g,0,none,0,0,[],p,q,r,rfl,J,bM _ _ _ _,R⟩
end Go.Proofs.YtpopikndggffaaaGreatDoor
