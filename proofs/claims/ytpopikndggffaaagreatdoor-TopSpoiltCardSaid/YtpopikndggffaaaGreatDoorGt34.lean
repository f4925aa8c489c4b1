/- TOP, part 34. -/
import Derived.Test.YtpopikndggffaaaGreatDoorGt33
namespace Go.Proofs.YtpopikndggffaaaGreatDoor
set_option linter.all false
set_option maxRecDepth 100000
set_option maxHeartbeats 16000000
open Go.RowKit Go.Maps Tryz
variable{i j k m n:Nat}{s:Sp}{w:aI}{D:aL}{S:dV}{o:iL}
def iY.aB6{x:aI}{E:aL}(H:iY w k n m S D o i j)(c:E.bQ=D.bQ)(e:∃a b,bJ x k S.d S.m E a b)(d:gX k S.m w x):oH w k n m S o E o i j x:=by
 match o,H with
 |none,H=>have⟨p,v⟩:=H.by3 e d;exact⟨m,S,⟨rfl,rfl⟩,p,v⟩
 |some (G,I),H=>have l:oE w k m S D G I i j:=H.it;have⟨s,v⟩:=l.sys.qI c e d;have⟨f,g⟩:=l.M8 ⟨rfl,rfl⟩ s v;have⟨p,h⟩:=H.CE (q':=m) (h':=S) (o':=some (G,I)) rfl rfl f g;exact⟨m,S,⟨rfl,rfl⟩,p,h⟩
def DkS(W d B:Nat)(s:Sp)(z:aI):Prop:=z.cell? ⟨W,0,none⟩=some (.pointer (some ⟨d,0,none⟩))/\z.cell? ⟨B,1,none⟩=some (.string s.n)/\z.cell? ⟨B,2,none⟩=some (.int .i64 s.a)/\z.cell? ⟨B,5,none⟩=some (.slice s.K s.i s.j)/\z.cell? ⟨B,6,none⟩=some (.string s.t)
def DkS.of{W:Nat}{v u z:aN}(h:Row w W m [zp n,v,u,z])(a:Row w k 35 s.c.toList):DkS W n k s w:=⟨h.lO,a.qD,a.tW,a.zc5,a.zc6⟩
def DkS.set{n g:Nat}(h:DkS n k m s w)(d:n≠g)(e:m≠g)(j:Nat)(u:aN):DkS n k m s (w.setCell (zp g j) u):=by have c:=aU w (zp g j) u n d;have b:=aU w (zp g j) u m e;exact⟨(dK (a:=zp n) c).trans h.1,(dK (a:=zp m 1) b).trans h.2.1,(dK (a:=zp m 2) b).trans h.2.2.1,(dK (a:=zp m 5) b).trans h.2.2.2.1,(dK (a:=zp m 6) b).trans h.2.2.2.2⟩
def DkN(base:Nat)(h:dV)(s:Sp)(r:Int×aL)(y:aI):Prop:=match s.k with
 |11=>Calls prog 33 #[.pointer (some ⟨h.d,0,none⟩),.slice s.K s.i s.j] y (rI base h.d h.m r y)
 |12=>Calls prog 34 #[.pointer (some ⟨h.d,0,none⟩),.int .i64 s.a,.slice s.K s.i s.j] y (rI base h.d h.m r y)
 |13=>Calls prog 35 #[.pointer (some ⟨h.d,0,none⟩),.string s.n,.int .i64 s.a,.string s.t] y (rI base h.d h.m r y)
 |14=>Calls prog 36 #[.pointer (some ⟨h.d,0,none⟩),.string s.n,.int .i64 s.a] y (rI base h.d h.m r y)
 |_=>False
def aB5(H:iY w k n m S D o i j)(hb:k<=w)(s:Sp)(hk:11<=s.k/\s.k<=14)(r:Int×aL)(V:r.2.bQ=D.bQ) (HC:∀y:aI,aR k w y->(∃q t,bJ y k S.d S.m D q t)->DkN k S s r y) :Calls prog 17 #[zp n,.agg s.c] w (tV k n m S o i j (λer h6 T D' o'=>er=r.1/\h6=0/\T=[]/\D'=r.2/\o'=if s.k=11 then none else o) w):=by
 obtain⟨r1,Z⟩:=r;obtain⟨B,F,X,R,v1,W,f⟩:∃(B:aI)(F:iL),((s.k=11/\B=w.setCell ⟨n,1,none⟩ (.pointer none)/\F=none)\/(s.k≠11/\w=B/\o=F))/\iY B k n m S D F i j/\(∀x,oH B k n m S F Z F i j x->oH w k n m S o Z F i j x)/\B.heap.size=w.heap.size/\aR k w B:=by
  by_cases J:s.k=11
  .obtain⟨R,v1⟩:=H.closed;exact⟨_,none,.inl ⟨J,rfl,rfl⟩,R,λx K=>oH.trans (W:=n) ⟨rfl,rfl⟩ v1 K,by simp,(bR k w).setCell H.low _⟩
  exact⟨w,o,.inr ⟨J,rfl,rfl⟩,H,λ_ K=>K,rfl,bR _ _⟩
 have u:=λ(x:aI)=>DoB.behind (x:=x) (D':=Z) (o':=F) R s.c;have h:=DoB.start R s.c;have C:=aK (cD B (.cells s.c 35)) (cD _ (.cells vN 63));have h3:=H.row.lt;obtain⟨G,A⟩:=fR ((B.alloc (.cells s.c 35)).alloc (.cells vN 63));rw[<-A]at u h C;have d:=h.box;rw[W]at u d;have HS:=aH (λ(y:aI)(c:aR G.heap.size G y)=>DkS.of (h.pN.next c).1.row (d.next c));have I:=aH (λ(y x:aI)(c:aR G.heap.size G y)(E:gX k S.m y x)=>(by
  obtain⟨q,t,hd⟩:=(h.pN.next c).1.it.eI;exact DkS.of (E.row (h.pN.next c).1.row tX.1 (hd.rE (h.pN.next c).1.row)) (E.row (d.next c) CD.1 (hd.rE (d.next c))):DkS n S.d w.heap.size s x))
 have O:=aH (λ(y:aI)(c:aR G.heap.size G y)=>HC y ⟨c.os.trans (C.os.trans f.os),c.tape.trans (C.tape.trans f.tape),c.output.trans (C.output.trans f.output),aM f.size (aM C.size c.size),λh5 hk=>(c.block h5 (by have:=C.size;omega)).trans ((C.block h5 (by omega)).trans (f.block h5 hk))⟩ (h.pN.next c).1.it.eI);have N:=aH (λ(y x:aI)(c:aR G.heap.size G y)(hv:∃q t,bJ x k S.d S.m Z q t)(E:gX k S.m y x)=>u x (by
  obtain⟨q',h',e,s,v⟩:=(h.pN.next c).1.aB6 V hv E;exact⟨q',h',e,s,(h.pN.next c).2.trans v⟩))
 obtain⟨l,HV⟩:=aA (λ(x:aI)(hx:DkS n S.d w.heap.size s x)=>hx.set (g:=w.heap.size+1) (by omega) (by omega)) v1;have Hn:=tD h.pN;have Q:=tD (DoB.start H s.c).pN;have Y:w.cell? ⟨n,1,none⟩=some (sE m o):=H.cells.2.1;have h4:=H.row.JE;obtain⟨p,U⟩:=fR (sE m o);rw[<-U]at Y;obtain⟨kd,st,a,b,EA,En,Ec,KA,Kn,Kc,tx⟩:=s;unfold DkS at HS I l;dsimp only[Sp.c]at *;have⟨h2,P⟩:=aA X A;clear H h HC V u R v1 d hb U f C W;rcases(show kd=11\/kd=12\/kd=13\/kd=14 by omega)with rfl|rfl|rfl|rfl
 all_goals
  obtain⟨J,rfl,rfl⟩|⟨J,rfl,rfl⟩:=X
  all_goals
   first|exact absurd J (by decide)|exact absurd rfl J|clear J
 all_goals
  rw[A]at Hn;clear hk A h2;go_in;go_wp2_with fail
  first|refine Hn.mono ?_|refine Q.mono ?_
  rintro e w' ⟨rfl,rfl⟩;(go_wp2_with fail);rw[<-P.out];clear P Y h4 Hn Q h3;go_region_held3 (λz=>z.cell? ⟨n,0,none⟩=some (.pointer (some ⟨S.d,0,none⟩))/\z.cell? ⟨w.heap.size,1,none⟩=some (.string st)/\z.cell? ⟨w.heap.size,2,none⟩=some (.int .i64 a)/\z.cell? ⟨w.heap.size,5,none⟩=some (.slice KA Kn Kc)/\z.cell? ⟨w.heap.size,6,none⟩=some (.string tx))
   (first|(exact l.out _ (l.out _ (l.out _ M 0 _) 1 _) 2 _)|(exact M)|(exact HS.out _ (bR _ _).drew)|fail)
   (first|((first|go_at_call 33|go_at_call 34|go_at_call 35|go_at_call 36);refine(O.out _ (bR _ _).drew).mono ?_;rintro e x1 ⟨rfl,hv,E⟩;have M:=I.out _ _ (bR _ _).drew E;obtain⟨L,U⟩:=N.out _ _ (bR _ _).drew hv E;have r0:=L.lO;have q1:=L.qD;have q2:=L.tW;have f0:=L.NV;have f1:=L.JE;have f2:=L.QP))
  have R9:=aH (HV.out _ (U (.int .i64 r1) (.int .i64 0) (.slice none 0 0)));clear L U hv E M HS I O N l HV;go_wp2;refine bE (v:=.agg #[.int .i64 r1,.int .i64 0,.slice none 0 0]) (by simp[results,results17,go_sem,r0,q1,q2]) rfl ⟨r1,0,none,0,0,[],Z,_,rfl,⟨rfl,rfl,rfl,rfl,by simp⟩,bM _ _ _ _,R9.out⟩
end Go.Proofs.YtpopikndggffaaaGreatDoor
