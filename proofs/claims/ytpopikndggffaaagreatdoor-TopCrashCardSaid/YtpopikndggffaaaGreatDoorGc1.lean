/- TOP, with crashes, part 1. -/
import Derived.Test.YtpopikndggffaaaGreatDoorGm37
import Derived.Test.YtpopikndggffaaaGreatDoorGc0
namespace Go.Proofs.YtpopikndggffaaaGreatDoor
set_option linter.all false
set_option maxRecDepth 100000
set_option maxHeartbeats 16000000
open Go.RowKit Go.Maps Tryz
section
variable {cap aZ s s' S S':Nat} {D D':aM} {G G':cT} {I I':bA} {o o':iP} {Bs:List kK} {B:List bK} {l l':bZ}
def iI.fail (P:iI cap aZ s D o Bs S) (n:Int) (eO:List Int):iI cap aZ (s+1) (D.fail n eO).2 o Bs S:=by
 unfold aM.fail;split
 ·exact P.later
 split
 ·exact P.later
 refine⟨P.aN1,P.tM,P.tW,by have:=P.bP;show D.bP≤_;omega,P.mO,by have:=P.yV;omega,P.le,?_⟩;match o,P with
 |none,P=>exact lN.more P.ok (gV s)
 |some (G,I),P=>
  obtain⟨a,b,c,C,Q,d,e,f⟩:=P.wM.more (gV s);exact⟨a,b,c,C,Q,d,e,f⟩
end
section
variable {w:aI} {base r W q g:Nat} {F:Gh} {h:dW} {D:aM} {G:cT} {I:bA} {o:iP} {cK aZ cap s:Nat} {vL vM:aN} {Bs:List kK} {S:Nat}
def fail_starts (D:aM) (n:Int) (eO:List Int):(D.fail n eO).2.bP=D.bP:=by
 unfold aM.fail;split
 ·rfl
 split<;>rfl
def step_Fail (H:lC w base F r W q g h D o cK aZ vL vM Bs S false) (P:iI cap aZ s D o Bs S) (hb:base≤w.heap.size) (p:Sp) (hk:p.k=12) (ha:DQ p.a) (eO:List Int) (hi:p.i=eO.length) (hkl:eO.length≤1000000) (hkp:∀w',aS base w w'→Reads w' (.slice p.K eO.length p.j) 1 eO.length (xA eO)) (hr:∀n∈eO,DQ n) :
 Calls prog 11 #[.pointer (some ⟨r,0,none⟩),.agg p.c] w (sM base F r cK aZ cap s (fun _ _ _ _=>True) w):=by
 refine step_end H P hb p (by omega) (by omega) _ _ (fun y hy=>cj2 (H.next hy).sP (aL hb hy.size) p (by omega) (D.fail p.a eO) (fail_starts D p.a eO) fun z hz ⟨blk,dat,hd⟩=>?_) (fun h=>by omega) (fun h=>by omega) fun er n T D' o' h9=>?_
 ·have hwz:=zB (QW hy hb) hz;unfold DkN;rw[hk,hi];exact disk_Fail hd (aL hb hwz.size) p.a _ eO (hkp z hwz) hkl hr ha
 obtain⟨-,-,-,rfl,rfl⟩:=h9;rw[aQ (by omega)];exact⟨P.fail p.a eO,trivial⟩
end
section
variable {w:aI} {base r W q g:Nat} {F:Gh} {h:dW} {D:aM} {o:iP} {cK aZ cap s:Nat} {vL vM:aN} {Bs:List kK} {S:Nat}
def run_stepc (H:lC w base F r W q g h D o cK aZ vL vM Bs S false) (P:iI cap aZ s D o Bs S) (hs:s<89) (hb:base≤w.heap.size) (p:Sp) (hc:p.k≠13∧p.k≠14) (hst:p.n.size≤1000000) (ha:DQ p.a) (hb9:DQ p.b) (l:List Ev) (hl:∀w',aS base w w'→WE w' (.slice p.E p.e p.f) l) (hn:l.length≤1000) (eO:List Int) (hi:p.i=eO.length) (hkl:eO.length≤1000000) (hk:∀w',aS base w w'→Reads w' (.slice p.K eO.length p.j) 1 eO.length (xA eO)) (hr:∀n∈eO,DQ n) :
 Calls prog 11 #[.pointer (some ⟨r,0,none⟩),.agg p.c] w (fun e z=>e=.returned (.bool true)∧bY3 base F r cK aZ cap s w z):=by
 have h90:s<90:=by omega
 by_cases h9:p.k=9
 ·exact(af9 H P hb p hs h9).mono fun e z h=>sM.t h
 by_cases h10:p.k=10
 ·exact(aU6 H P hb p h10).mono fun e z h=>sM.t h
 by_cases h11:p.k=11
 ·exact(aU5 H P hb p h11 eO hi hk hr).mono fun e z h=>sM.t h
 by_cases h12:p.k=12
 ·exact(step_Fail H P hb p h12 ha eO hi hkl hk hr).mono fun e z h=>sM.t h
 by_cases h14:p.k<1∨14<p.k
 ·exact(br9 H P hb p h14).mono fun e z h=>sM.t h
 match o,H,P with
 |none,H,P=>exact cc7 H P hb p (by omega)
 |some (G,I),H,P=>
  by_cases h1:p.k=1
  ·exact(CP H P h90 hb p h1 hst ha l (fun w' h9 _=>hl w' h9) hn).mono fun e z h=>sM.t h
  by_cases h6:p.k=6
  ·exact(aU4 H P h90 hb p h6).mono fun e z h=>sM.t h
  by_cases h7:p.k=7
  ·exact(NG H P h90 hb p h7).mono fun e z h=>sM.t h
  by_cases h8:p.k=8
  ·exact(WV H P h90 hb p h8 ha).mono fun e z h=>sM.t h
  exact(GF H P h90 hb p (by omega) hst ha hb9).mono fun e z h=>sM.t h
end
open Go.RowKit Go.Maps
def L1 (w:aI) (base r cK aZ cap k:Nat) (wr:aI):Prop:=
 aS w.heap.size w wr∧base≤wr.heap.size∧∃D o Bs S s,VM wr base Gh.no r D o cK aZ Bs S false∧iI cap aZ s D o Bs S∧s≤k+1
def L1.more {w:aI} {base r cK aZ cap k:Nat} {wr z:aI} (h:L1 w base r cK aZ cap k wr) (hb:aS wr.heap.size wr z):L1 w base r cK aZ cap (k+1) z:=by
 obtain⟨h1,h2,D,o,Bs,S,s,⟨W,q,g,h,vL,vM,R⟩,P,hs⟩:=h;exact⟨aJ h1 hb,aL h2 hb.size,D,o,Bs,S,s,⟨W,q,g,h,vL,vM,R.next hb⟩,P,by omega⟩
def cw2 (w:aI) (base r cK aZ cap k:Nat) (e:eT) (z:aI):Prop:=
 e=.returned (.bool true)∧∃brk,z.cell? ⟨r,2,none⟩=some (.bool brk)∧aS w.heap.size w z∧(brk=false→L1 w base r cK aZ cap (k+1) z)
open Go.RowKit Go.Maps
def play_stepc {w:aI} {base r cK aZ cap k:Nat} {wr:aI} (h:L1 w base r cK aZ cap k wr) (hwb:w.heap.size≤base) (hk:k<80) {p:vC} (hc:p.2.kind≠13∧p.2.kind≠14) (hp:OS w p) (hsm:TA p) {EA KA:Option Addr} {En Ec Kn Kc:Nat} (he:p.1.1=.slice EA En Ec) (hq:p.1.2=.slice KA Kn Kc) :
 Calls prog 11 #[.pointer (some ⟨r,0,none⟩),.agg #[.int .i64 p.2.kind,.string p.2.name,.int .i64 p.2.a,.int .i64 p.2.b,.slice EA En Ec,.slice KA Kn Kc,.string p.2.text]] wr (cw2 w base r cK aZ cap k):=by
 obtain⟨h1,h2,D,o,Bs,S,s,⟨W,q,g,h,vL,vM,R⟩,P,hs⟩:=h;obtain⟨⟨v1,v2⟩,⟨kd,nm,pa,pb,pl,kp,tx⟩⟩:=p;dsimp only at he hq hc;subst he;subst hq;obtain⟨ev,kk,kr,-,hnm,ha,hb,htx⟩:=hp;obtain⟨s1,s2,s3,s4⟩:=hsm;dsimp only at ev kk kr hnm ha hb htx s1 s2 s3 s4;have hkn:Kn=kp.length:=by
  obtain⟨A',c',hv,-⟩:=kk;obtain⟨-,h9,-⟩:=eV hv;exact h9
 subst hkn;have hlater:∀w',aS base wr w'→aS w.heap.size w w':=fun w' h9=>⟨h9.os.trans h1.os,h9.tape.trans h1.tape,h9.output.trans h1.output,aL h1.size h9.size,fun i hi=>(h9.block i (aW hi hwb)).trans (h1.block i hi)⟩;refine(run_stepc R P (by omega) h2 ⟨kd,nm,pa,pb,EA,En,Ec,KA,kp.length,Kc,tx⟩ (by exact hc) (by dsimp only;omega) ha hb pl (fun w' h9=>ev.next (hlater w' h9)) (by omega) kp rfl (by omega) (fun w' h9=>kk.next (hlater w' h9)) kr).mono ?_;rintro e z ⟨rfl,hbz,D',o',Bs',S',brk,⟨W',q',g',h',vL',vM',R'⟩,hP⟩;exact⟨rfl,brk,R'.row.cell 2 (by simp),hlater z hbz,fun h9=>⟨hlater z hbz,aL h2 hbz.size,D',o',Bs',S',s+1,⟨W',q',g',h',vL',vM',by rw[←h9];exact R'⟩,hP h9,by omega⟩⟩
def top_playedc (v:aN) (X:List vC) (w:aI) (h:I8 w v X) (hX:X.length≤80) (hS:∀p∈X,TA p) (n aZ cK:Nat) (hn:n≤65535) (hseed:aZ<18446744073709551616) :
 Calls prog 8 #[v,.agg #[.int .u64 (aZ:Nat),.float .f64 cK,.int .u16 (n:Nat)],.int .i64 1] w (fun e z=>e=.returned (.bool true)∧aS w.heap.size w z):=by
 obtain⟨A,c,rfl,hc1,hc2,-⟩:=id h.1;obtain⟨m,hm⟩:∃m,m=X.length:=⟨_,rfl⟩;have hb0:=cI w (.cells #[.int .u64 (aZ:Nat),.float .f64 cK,.int .u16 (n:Nat)] 27);have HB:=aH (fun(x:aI)=>UA n aZ cK x hn hseed);have HM:=aH hm;have H:=aH h;have HS:=aH hS;have HB0:=aH hb0;rw[←hm]at hX hc1 ⊢;clear h hm hS hb0 hc1 hc2;generalize hcap:6000+4*n=cap at HB;clear hcap hn hseed;go_in;go_wp2_with fail
 refine(HB.out _).mono ?_;rintro e w1 ⟨base,r,D0,o0,rfl,hwb,hbz,hbw,-,hrs,hrp,-⟩;have hbw1:=aJ HB0.out hbw;have hwb2:w.heap.size≤base:=by have:=HB0.out.size;omega
 have P0:=aH (show L1 w base r cK aZ cap 0 w1 from⟨hbw1,hbz,D0,o0,[],0,1,hrs,hrp,aO _⟩);have HWB:=aH hwb2;clear hwb hbz hbw hrs hrp hbw1 hwb2 HB HB0;go_wp2_with fail
 go_loopw [9] (fun i wr=>∃k:Nat,k≤m∧i=.int .i64 (k:Int)∧L1 w base r cK aZ cap k wr) (fun i _=>m - (intOf i).toNat)
 case atStart=>exact⟨0,by omega,rfl,P0.out⟩
 case round=>
  obtain⟨k,hk,rfl,hps⟩:=hrel;have PS:=aH hps;clear hps P0;by_cases hlt:k<m
  ·have i1:(k:Int)<m:=(by omega);obtain⟨p,hp⟩:∃p,X[k]?=some p:=⟨_,aK (by have:=HM.out;omega)⟩;obtain⟨b,off,rfl,hblt,hcell⟩:=H.out.later (by have:=HM.out;omega);have hc8:=fun(x:aI) (hx:aS wr.heap.size wr x)=>hcell k p hp x (aJ PS.out.1 hx);have hok:=H.out.2 p (bD hp);have hsm:=HS.out p (bD hp);obtain⟨EA,Ec,hev,-⟩:=id hok.ev.1;obtain⟨KA,Kc,hkv,-⟩:=id hok.kp;have HDO:=aH (fun(x:aI) (hx:L1 w base r cK aZ cap k x) (hc:p.2.kind≠13∧p.2.kind≠14)=>play_stepc hx HWB.out (by omega) hc hok hsm hev hkv);obtain⟨⟨pe,pk⟩,⟨kd,nm,pa,pb,pl,kp,tx⟩⟩:=p;dsimp only at hc8 hev hkv;subst hev;subst hkv;obtain⟨N5,hN5⟩:∃N5,N5=pl.length:=⟨_,rfl⟩;obtain⟨N6,hN6⟩:∃N6,N6=kp.length:=⟨_,rfl⟩;dsimp only at HDO;rw[←hN5,←hN6]at HDO;simp only[←hN5,←hN6]at hc8;have C8:=aH hc8;obtain⟨c0,c1,c2,c3,c4,c5,c6⟩:=hc8 wr (aY _ _);clear hcell hc8 hp hok hsm hblt hN5 hN6;have PSY:=PS.out;rcases(show kd=13∨kd=14∨(kd≠13∧kd≠14)from by omega)with rfl|rfl|h9
   iterate 2
    ·have HM9:=aH (PS.out.more (aY _ _));clear PSY;go_wp2;go_roundw;case rel=>exact⟨k+1,by omega,by go_num,HM9.out⟩
     case measure=>simp[intOf];omega
   have H9:=aH h9;have e13:(kd==13)=false:=(by simp[h9.1]);have e14:(kd==14)=false:=(by simp[h9.2]);clear h9;(go_wp2_with fail);refine(HDO.out _ PSY H9.out).mono ?_;rintro e z ⟨rfl,brk,hcl,hbz,hps⟩;have HBZ:=aH hbz;have HPS:=aH hps;clear hbz hps c0 c1 c2 c3 c4 c5 c6;cases brk with
   |true=>
    go_wp2;go_ret;exact⟨rfl,HBZ.out⟩
   |false=>
    go_wp2;go_roundw;case rel=>exact⟨k+1,by omega,by go_num,HPS.out trivial⟩
    case measure=>simp[intOf];omega
  obtain rfl:k=m:=by omega
  have hb:=PS.out.1;have HBE:=aH hb;clear hb;go_wp2;go_ret;exact⟨rfl,HBE.out⟩
open Go.RowKit Go.Maps
def TopCrash_walk (v0 v1:aN) (X:List vC) (a:cx3) (W:aI) (h0:I8 W v0 X) (h1:co5 v1 a) :
 Calls prog 4 #[v0,v1] W (fun e W'=>e=.returned (.bool true)∧aS W.heap.size W W'):=by
 obtain⟨aZ,cK,n⟩:=a;obtain⟨rfl,hs,hn⟩:=h1;dsimp only at hs hn ⊢;have hb0:=cI W (.cells #[.int .u64 (aZ:Nat),.float .f64 cK,.int .u16 (n:Nat)] 27);have hr0:=Row.new W #[.int .u64 (aZ:Nat),.float .f64 cK,.int .u16 (n:Nat)] 27;generalize hW0:W.alloc (.cells #[.int .u64 (aZ:Nat),.float .f64 cK,.int .u16 (n:Nat)] 27)=W0 at hb0 hr0;have HG:=aH6 v0 X 80 W0 (h0.next hb0) (by omega);have HW:=aH hW0;have H0:=aH h0;have HB:=aH hb0;have HP:=aH (fun(y:aI) (hy:aS W0.heap.size W0 y) (hX:X.length≤80) (hS:∀p∈X,TA p)=>top_playedc v0 X y (h0.next (aJ hb0 hy)) hX hS n aZ cK hn hs);have HK:=aH (fun y:aI=>bq6 y);have HC:=aH (fun(y:aI) (hy:aS W0.heap.size W0 y)=>show y.cell? ⟨W.heap.size,0,none⟩=some (.int .u64 (aZ:Nat))∧y.cell? ⟨W.heap.size,1,none⟩=some (.float .f64 cK)∧y.cell? ⟨W.heap.size,2,none⟩=some (.int .u16 (n:Nat))from⟨(hr0.next hy).cell 0 (by simp),(hr0.next hy).cell 1 (by simp),(hr0.next hy).cell 2 (by simp)⟩);clear h0 hb0 hr0 hs hn hW0;go_in;go_wp2_with fail
 rw[HW.out];refine HG.mono ?_;rintro e y ⟨hb1,b,rfl,hbf⟩;have HB1:=aH hb1;have HF:=aH hbf;obtain⟨c0,c1,c2⟩:=HC.out y hb1;clear hb1 hbf HG;cases b with
 |true=>
  go_wp2_with fail
  refine(HK.out y).mono ?_;rintro e z ⟨rfl,hbz⟩;have HZ:=aH (aJ HB.out (aJ HB1.out hbz));clear hbz;go_wp2;go_ret;exact⟨rfl,HZ.out⟩
 |false=>
  obtain⟨hX,hS⟩:=HF.out rfl;have HPL:=aH (HP.out y HB1.out hX hS);clear hX hS HF;go_wp2_with fail
  refine HPL.out.mono ?_;rintro e z ⟨rfl,hbz⟩;have HBZ:=aH hbz;clear hbz HPL c0 c1 c2;go_wp2_with fail
  refine(HK.out z).mono ?_;rintro e z2 ⟨rfl,hbz2⟩;have HZ:=aH (aJ HB.out (aJ HB1.out (aJ HBZ.out hbz2)));clear hbz2;go_wp2;go_ret;exact⟨rfl,HZ.out⟩
end Go.Proofs.YtpopikndggffaaaGreatDoor
