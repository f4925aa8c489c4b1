/- TOP, part 32. -/
import Derived.Test.YtpopikndggffaaaGreatDoorGm31
namespace Go.Proofs.YtpopikndggffaaaGreatDoor
set_option linter.all false
set_option maxRecDepth 100000
set_option maxHeartbeats 16000000
open Go.RowKit Go.Maps Tryz
variable{k m n:Nat}{w:aI}
def ax2(a q:Nat)(h:dW)(b d:Nat)(Q:Int->Int->List jL->aM->cT->bA->Prop)(w:aI)(e:eT)(g:aI):Prop:=
 ∃(f n:Int)(A:Option Addr)(k c:Nat)(T:List jL)(D:aM)(G:cT)(I:bA),e=.returned (.agg #[.int .i64 f,.int .i64 n,.slice A k c])/\Q f n T D G I/\(g.ownsRow w.heap.size 133 5 (.slice A k c) T.length (fH T))/\rJ a q h b d w f D G I g
def bG8(W q B:Nat)(c:aT)(a b:Int)(E:aN)(z:aI):Prop:=
 z.cell? ⟨W,1,none⟩=some (.pointer (some ⟨q,0,none⟩))/\z.cell? ⟨B,1,none⟩=some (.string c)/\z.cell? ⟨B,2,none⟩=some (.int .i64 a)/\z.cell? ⟨B,3,none⟩=some (.int .i64 b)/\z.cell? ⟨B,4,none⟩=some E
section
variable {base q W:Nat}{h:dW}{D D':aM}{G G':cT}{I I':bA}{cK aZ:Nat}{w x y z:aI}{er:Int}{kd a b:Int}{st tx:aT}{E K:aN}
def bi5.c(H:bi5 w base W q h cK aZ [kd,st,a,b,E,K,tx] x):bG8 W q w st a b E x:=
 ⟨H.sP.xD,H.box.xD,H.box.G8,H.box.zc3,H.box.zc4⟩
def bG8.set(H:bG8 W q w st a b E x)(n:W<w)(j:Nat)(u:aN):bG8 W q w st a b E (x.setCell (zp (w+1) j) u):=by
 have⟨d,e,f,g,l⟩:=H;have c:∀{k i:Nat} {v:aN},k≠w+1->x.cell? (zp k i)=v->(x.setCell (zp (w+1) j) u).cell? (zp k i)=some v:=fun {k i v} m h=>by rw[dH (a:=zp k i) (aV _ _ _ _ m)];exact h
 exact⟨c (by omega) d,c (by omega) e,c (by omega) f,c (by omega) g,c (by omega) l⟩
end
def cw5(a q:Nat)(h:dW)(b c:Nat)(Q:Int->Int->List jL->aM->cT->bA->Prop)(w:aI)(e:eT)(f:aI):Prop:=
 ∃(d n:Int)(D:aM)(G:cT)(I:bA),e=.returned (.tuple #[.int .i64 n,.int .i64 d])/\Q d n [] D G I/\rJ a q h b c w d D G I f
def cs7(a q:Nat)(h:dW)(b d:Nat)(Q:Int->Int->List jL->aM->cT->bA->Prop)(w:aI)(e:eT)(g:aI):Prop:=
 ∃(f:Int)(A:Option Addr)(k c:Nat)(T:List jL)(D:aM)(G:cT)(I:bA),e=.returned (.tuple #[.slice A k c,.int .i64 f])/\Q f 0 T D G I/\g.ownsRow w.heap.size 133 5 (.slice A k c) T.length (fH T)/\rJ a q h b d w f D G I g
def ct6(a q:Nat)(h:dW)(b c:Nat)(Q:Int->Int->List jL->aM->cT->bA->Prop)(w:aI)(e:eT)(f:aI):Prop:=
 ∃(d:Int)(D:aM)(G:cT)(I:bA),e=.returned (.int .i64 d)/\Q d 0 [] D G I/\rJ a q h b c w d D G I f
def JN{v u0 u1 u2:aN}{X:List aN}(h:w.ownsRow n 133 5 v k X)(b:m<n):(((w.setCell (zp m) u0).setCell (zp m 1) u1).setCell (zp m 2) u2).ownsRow n 133 5 v k X:=
 ownsRow_setCell_below (ownsRow_setCell_below (ownsRow_setCell_below h (a:=zp m) b u0) (a:=zp m 1) b u1) (a:=zp m 2) b u2
def bG7(base q:Nat)(h:dW)(cK aZ:Nat)(s:Sp)(Q:Int->Int->List jL->aM->cT->bA->Prop)(y:aI):Prop:=
 match s.k with
 |1=>Calls prog 60 #[.pointer (some ⟨q,0,none⟩),.string s.n,.int .i64 s.a,.slice s.E s.e s.f] y (cw5 base q h cK aZ Q y)
 |2=>Calls prog 62 #[.pointer (some ⟨q,0,none⟩),.string s.n,.int .i64 s.a,.int .i64 s.b] y (cs7 base q h cK aZ Q y)
 |3=>Calls prog 63 #[.pointer (some ⟨q,0,none⟩),.string s.n,.int .i64 s.a,.int .i64 s.b] y (cs7 base q h cK aZ Q y)
 |4=>Calls prog 64 #[.pointer (some ⟨q,0,none⟩),.string s.n] y (cw5 base q h cK aZ Q y)
 |5=>Calls prog 44 #[.pointer (some ⟨q,0,none⟩)] y (cs7 base q h cK aZ Q y)
 |6=>Calls prog 65 #[.pointer (some ⟨q,0,none⟩)] y (ct6 base q h cK aZ Q y)
 |7=>Calls prog 66 #[.pointer (some ⟨q,0,none⟩)] y (ct6 base q h cK aZ Q y)
 |8=>Calls prog 67 #[.pointer (some ⟨q,0,none⟩),.int .i64 s.a] y (ct6 base q h cK aZ Q y)
 |_=>False
def ck6{S:dW}{D:aM}{G:cT}{I:bA}{i j:Nat}(H:iW w k n m S D (some (G,I)) i j)(hb:k<=w)(s:Sp)(hk:1<=s.k/\s.k<=8)(Q:Int->Int->List jL->aM->cT->bA->Prop)(F:∀y:aI,aS w w y->bG7 k m S i j s Q y):
 Calls prog 37 #[zp n,.agg s.c] w (ax2 k m S i j Q w):=by
  have⟨B,X,a,b,O,U,P,KA,Kn,Kc,tx⟩:=s;dsimp only[Sp.c]at hk|-;have hW:=H.row.lt;have h0:=aJ (cI w (.cells #[.int .i64 B,.string X,.int .i64 a,.int .i64 b,.slice O U P,.slice KA Kn Kc,.string tx] 35)) (cI _ (.cells uK 63));have E:=MI.start H #[.int .i64 B,.string X,.int .i64 a,.int .i64 b,.slice O U P,.slice KA Kn Kc,.string tx];have kw:w.cell? ⟨n,1,none⟩=some (.pointer (some ⟨m,0,none⟩)):=H.cells.2.1;have⟨C,W⟩:=kX ((w.alloc (.cells #[.int .i64 B,.string X,.int .i64 a,.int .i64 b,.slice O U P,.slice KA Kn Kc,.string tx] 35)).alloc (.cells uK 63));rw[<-W]at h0 E;have k0:=E.box.rY;have k1:C.cell? ⟨n,1,none⟩=some (.pointer (some ⟨m,0,none⟩)):=E.sP.xD;have k2:=E.box.G8;have⟨F,HS,V,HF,HL,HD,Y⟩:=aF (λ(y:aI)(t:aS C.heap.size C y)=>F y (aJ h0 t)) (λ(y:aI)(t:aS C.heap.size C y)=>(E.next t).r.c) (λ(y z:aI)(t:aS C.heap.size C y)(g:Int)(D:aM)(G:cT)(I:bA)(K:rJ k m S i j y g D G I z)=>(E.next t).behind K) (λ(y z x:aI)(t:aS C.heap.size C y)(g:Int)(D:aM)(G:cT)(I:bA)(K:rJ k m S i j y g D G I z)(hx:aS z.heap.size z x)(u0 u1 u2:aN)=>MI.put H (aJ h0 t) (E.next t) K hx u0 u1 u2) (λ(y:aI)(t:aS C.heap.size C y)=>show w.heap.size+1<y.heap.size/\w.heap.size<=y.heap.size from⟨(E.next t).zI.lt,tH (Nat.lt_of_succ_lt (E.next t).zI.lt)⟩) (λ(z:aI) (hz:bG8 n m w.heap.size X a b (.slice O U P) z) (h1:Nat) (u:aN)=>hz.set hW h1 u) hW;clear H E hb h0;unfold bG8 at HS;have HZ:=aH W;clear W;rcases(show(B=1\/B=4)\/(B=2\/B=3)\/B=5\/(B=6\/B=7)\/B=8 from by omega)with(rfl|rfl)|(rfl|rfl)|rfl|(rfl|rfl)|rfl
  all_goals
   go_in;go_wp2_with fail;rw[<-HZ.zz];clear kw HZ hW
  iterate 2
   ·(go_wp2_with fail);go_region_held3 (λz=>z.cell? ⟨n,1,none⟩=some (.pointer (some ⟨m,0,none⟩))/\z.cell? ⟨w.heap.size,1,none⟩=some (.string X)/\z.cell? ⟨w.heap.size,2,none⟩=some (.int .i64 a)/\z.cell? ⟨w.heap.size,3,none⟩=some (.int .i64 b)/\z.cell? ⟨w.heap.size,4,none⟩=some (.slice O U P))
     (first|(exact((HD _ f.c 0 _).set Y 1 _).set Y 2 _)|(exact f.c)|(exact d.c)|(exact HS _ mE.drew)|fail)
     (first|(go_at_call 59;go_call aa7 _ _ _ as e x2 ⟨rfl,h⟩;have f:=d.next h;have L:=f.zI.rY;have M:=f.zI.xD;have N:=f.zI.G8;have f0:=f.zI.TI;have f1:=f.zI.J3;have f2:=f.zI.zf2)|(go_at_call 60;go_call F _ mE.drew as e x1 ⟨g,h3,p,q,r,rfl,o,l⟩;have d:=V _ _ mE.drew _ _ _ _ l)|(go_at_call 64;go_call F _ mE.drew as e x1 ⟨g,h3,p,q,r,rfl,o,l⟩;have d:=V _ _ mE.drew _ _ _ _ l))
    have⟨R,J⟩:=aA (HF _ _ _ mE.drew _ _ _ _ l h (.int .i64 g) (.int .i64 h3) (.slice none 0 0)) o;clear l o d f h;go_wp2;refine bG (v:=.agg #[.int .i64 g,.int .i64 h3,.slice none 0 0]) (by simp[results,results37,go_sem,L,M,N]) rfl ⟨g,h3,none,0,0,[],p,q,r,rfl,J,bQ _ _ _ _,R⟩
  iterate 2
   ·(go_wp2_with fail);go_region_held3 (λz=>z.cell? ⟨n,1,none⟩=some (.pointer (some ⟨m,0,none⟩))/\z.cell? ⟨w.heap.size,1,none⟩=some (.string X)/\z.cell? ⟨w.heap.size,2,none⟩=some (.int .i64 a)/\z.cell? ⟨w.heap.size,3,none⟩=some (.int .i64 b)/\z.cell? ⟨w.heap.size,4,none⟩=some (.slice O U P))
     (first|(exact((HD _ f.c 0 _).set Y 1 _).set Y 2 _)|(exact f.c)|(exact d.c)|(exact HS _ mE.drew)|fail)
     (first|(go_at_call 61;go_call TK _ _ _ _ _ as e x2 ⟨rfl,h⟩;have f:=d.next h;have L:=f.zI.rY;have M:=f.zI.xD;have N:=f.zI.G8;have f0:=f.zI.TI;have f1:=f.zI.J3;have f2:=f.zI.zf2)|(go_at_call 62;go_call F _ mE.drew as e x1 ⟨g,A,h2,c,T,p,q,r,rfl,o,Z,l⟩;have d:=V _ _ mE.drew _ _ _ _ l)|(go_at_call 63;go_call F _ mE.drew as e x1 ⟨g,A,h2,c,T,p,q,r,rfl,o,Z,l⟩;have d:=V _ _ mE.drew _ _ _ _ l))
    have⟨R,J,O9⟩:=aB (HF _ _ _ mE.drew _ _ _ _ l h (.int .i64 g) (.int .i64 0) (.slice A h2 c)) o (fO (JN (u0:=.int .i64 g) (u1:=.int .i64 0) (u2:=.slice A h2 c) (cA Z h) ((HL _ mE.drew).1)) ((HL _ mE.drew).2));clear Z l o d f h;go_wp2;refine bG (v:=.agg #[.int .i64 g,.int .i64 0,.slice A h2 c]) (by simp[results,results37,go_sem,L,M,N]) rfl ⟨g,0,A,h2,c,T,p,q,r,rfl,J,O9,R⟩
  .go_call F _ mE as e x1 ⟨g,A,h2,c,T,p,q,r,rfl,o,Z,l⟩;have d:=V _ _ mE _ _ _ _ l;go_wp2_with fail;go_call TK _ _ _ _ _ as e x2 ⟨rfl,h⟩;have f:=d.next h;have L:=f.zI.rY;have M:=f.zI.xD;have N:=f.zI.G8;have f0:=f.zI.TI;have f1:=f.zI.J3;have f2:=f.zI.zf2;have⟨R,J,O9⟩:=aB (HF _ _ _ mE _ _ _ _ l h (.int .i64 g) (.int .i64 0) (.slice A h2 c)) o (fO (JN (u0:=.int .i64 g) (u1:=.int .i64 0) (u2:=.slice A h2 c) (cA Z h) ((HL _ mE).1)) ((HL _ mE).2));clear Z l o d f h;go_wp2;refine bG (v:=.agg #[.int .i64 g,.int .i64 0,.slice A h2 c]) (by simp[results,results37,go_sem,L,M,N]) rfl ⟨g,0,A,h2,c,T,p,q,r,rfl,J,O9,R⟩
  iterate 2
   .go_call F _ mE as e x1 ⟨g,p,q,r,rfl,o,l⟩;have d:=V _ _ mE _ _ _ _ l;have L:=d.zI.rY;have M:=d.zI.xD;have N:=d.zI.G8;have f0:=d.zI.TI;have f1:=d.zI.J3;have f2:=d.zI.zf2;have⟨R,J⟩:=aA (HF _ _ _ mE _ _ _ _ l mE (.int .i64 g) (.int .i64 0) (.slice none 0 0)) o;clear l o d;go_wp2;refine bG (v:=.agg #[.int .i64 g,.int .i64 0,.slice none 0 0]) (by simp[results,results37,go_sem,L,M,N]) rfl ⟨g,0,none,0,0,[],p,q,r,rfl,J,bQ _ _ _ _,R⟩
  go_wp2_with fail
  go_region_held3 (λz=>z.cell? ⟨n,1,none⟩=some (.pointer (some ⟨m,0,none⟩))/\z.cell? ⟨w.heap.size,1,none⟩=some (.string X)/\z.cell? ⟨w.heap.size,2,none⟩=some (.int .i64 a)/\z.cell? ⟨w.heap.size,3,none⟩=some (.int .i64 b)/\z.cell? ⟨w.heap.size,4,none⟩=some (.slice O U P))
   (first|(exact((HD _ d.c 0 _).set Y 1 _).set Y 2 _)|(exact d.c)|(exact d.c)|(exact HS _ mE.drew)|fail)
   (first|(go_at_call 67;go_call F _ mE.drew as e x1 ⟨g,p,q,r,rfl,o,l⟩;have d:=V _ _ mE.drew _ _ _ _ l;have L:=d.zI.rY;have M:=d.zI.xD;have N:=d.zI.G8;have f0:=d.zI.TI;have f1:=d.zI.J3;have f2:=d.zI.zf2))
  have⟨R,J⟩:=aA (HF _ _ _ mE.drew _ _ _ _ l mE (.int .i64 g) (.int .i64 0) (.slice none 0 0)) o;clear l o d;go_wp2;refine bG (v:=.agg #[.int .i64 g,.int .i64 0,.slice none 0 0]) (by simp[results,results37,go_sem,L,M,N]) rfl ⟨g,0,none,0,0,[],p,q,r,rfl,J,bQ _ _ _ _,R⟩
end Go.Proofs.YtpopikndggffaaaGreatDoor
