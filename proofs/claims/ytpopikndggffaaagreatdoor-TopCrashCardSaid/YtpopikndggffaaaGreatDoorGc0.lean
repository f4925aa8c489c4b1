/- TOP, with crashes, part 0. -/
import Derived.Test.YtpopikndggffaaaGreatDoorGm19
import Derived.Test.YtpopikndggffaaaGreatDoorGm3
namespace Go.Proofs.YtpopikndggffaaaGreatDoor
set_option linter.all false
set_option maxRecDepth 100000
set_option maxHeartbeats 16000000
open Go.RowKit Go.Maps Tryz
def aM.fail (D:aM) (n:Int) (eO:List Int):Int×aM:=
 if D.down then(61,D)else if n<0 then(2,D)else(0,{D with tB:=true,left:=n.toNat,eO:=eO})
def gS.then9 {w a:aI} {base d m:Nat} {xs:List aN} (h:gS base m w a) (hr:Row a d 103 xs) (hb:base≤d) (u:aN) (hx:9<xs.length) (hu:∀b,u.ownBlock=some b→w.heap.size≤b):gS base m w (a.setCell ⟨d,9,none⟩ u):=by
 have hg:=jN a ⟨d,9,none⟩ u;refine⟨hg.os.trans h.os,hg.tape.trans h.tape,hg.output.trans h.output,aL h.size hg.size,fun k hk hc=>?_,fun k hd=>?_⟩
 ·have hne:k≠d:=fun h9=>by
   rcases hc with h1|⟨h1,h2⟩
   ·omega
   have e:=h.block k hk (.inr ⟨h1,h2⟩);subst h9;obtain⟨C,t,fr,h3,h4⟩:=pK hr (.inl rfl);exact h2 ⟨C,t,fr,by rw[←e];exact h3,h4⟩
  rw[aV _ _ _ _ hne];exact h.block k hk hc
 obtain⟨h1,h2⟩:=h.kept k hd;by_cases h9:k=d
 ·subst h9;have r9:=hr.set 9 u;obtain⟨C,fr,hg9,-⟩:=id r9;refine⟨⟨C,fr,hg9⟩,fun b hb9 ⟨v,h3,h4⟩=>?_⟩;rw[r9.cell 9 (by simpa using hx)]at h3;rw[List.getElem_set_self]at h3;cases h3;have:=hu b h4;omega
 obtain⟨h3,h4⟩:=kC (n:=w.heap.size) (aV a ⟨d,9,none⟩ u k h9) h1;exact⟨h3,fun b hb9 ho=>h2 b hb9 (h4 b hb9 ho)⟩
section
open Go.Shelf
def slices_Clone_int (b off n c:Nat) (zs:List Int) (w:aI) (hz:n≤zs.length) (hbig:n*8≤140737488355328) (hc:∀j,j<zs.length→w.cell? ⟨b,off+j,none⟩=some (.int .i64 (zs.getD j 0))) :
 Calls prog 57 #[.slice (some ⟨b,off,none⟩) n c] w fun e w'=>∃v',e=.returned v'∧w'.ownsRow w.heap.size 3 1 v' n ((zs.take n).map (Value.int .i64))∧v'≠.slice none 0 0∧aS w.heap.size w w':=Any.slices_Clone_int ai9 b off n c zs w hz hbig hc
end
def clone_ints (v:aN) (l:List Int) (w:aI) (h:Reads w v 1 l.length (xA l)) (hn:l.length≤1000000) :
 Calls prog 57 #[v] w fun e w'=>∃v',e=.returned v'∧w'.ownsRow w.heap.size 3 1 v' l.length (xA l)∧aS w.heap.size w w':=by
 obtain⟨A,c,rfl,h1,h2,h3,h4⟩:=h;have hmap:(l.take l.length).map (Value.int .i64)=xA l:=by rw[aX (aO _)];rfl
 rcases A with _|⟨b,off,ar⟩
 ·have hl0:l.length=0:=by
   rcases dX l.length with h|h
   ·exact h
   obtain⟨b,off,h,_⟩:=h4 h;cases h
  have hl:=fE.1 hl0;subst hl;exact(slices_Clone_int_nil 0 c w).mono fun e w' h=>⟨_,h.1,bQ _ _ _ _,by rw[h.2];exact aY _ _⟩
 rcases dX l.length with hl0|hl0
 ·have hl:=fE.1 hl0;subst hl;exact(slices_Clone_int_zero ⟨b,off,ar⟩ c w).mono fun e w' h=>by
   obtain⟨v',h1,h2,-,h3⟩:=h;exact⟨v',h1,h2,h3⟩
 obtain⟨_,_,e9,-,hc⟩:=h4 hl0;cases e9;refine(slices_Clone_int b off l.length c l w (aO _) (by omega) (fun j hj=>?_)).mono fun e w' h=>?_
 ·rw[hc j (by simpa[xA]using hj)];simp[xA,List.getD,aK hj]
 obtain⟨v',h1,h2,-,h3⟩:=h;rw[hmap]at h2;exact⟨v',h1,h2,h3⟩
def disk_Fail {w:aI} {base d m:Nat} {D:aM} {blk:bK→Nat} {dat:bK→aN} (h:bM w base d m D blk dat) (hb:base≤w.heap.size) (n:Int) (kv:aN) (eO:List Int) (hk:Reads w kv 1 eO.length (xA eO)) (hkl:eO.length≤1000000) (hr:∀z∈eO,-9223372036854775808≤z∧z≤9223372036854775807) (hn:-9223372036854775808≤n∧n≤9223372036854775807) :
 Calls prog 34 #[.pointer (some ⟨d,0,none⟩),.int .i64 n,kv] w (rI base d m (D.fail n eO) w):=by
 have HR:=BU h;unfold NK at HR;unfold rI aM.fail;rcases hd:D.down with _|_
 ·rw[hd]at HR;simp only[bU,dP]at HR ⊢;have HR2:=aH HR;have HH:=aH h;have HC:=aH (clone_ints kv eO w hk hkl);have HRR:=aH hr;obtain⟨n1,n2⟩:=hn;clear HR h hk hr;by_cases hn0:n<0
  ·rw[aU hn0];go_in;(go_wp2_with fail);refine HR2.out.mono ?_;rintro e w' ⟨rfl,rfl⟩;go_wp2;go_ret;exact⟨rfl,⟨_,_,HH.out⟩,gS.refl _ _ _⟩
  rw[aQ hn0];go_in;go_wp2_with fail
  refine HR2.out.mono ?_;rintro e w' ⟨rfl,rfl⟩;go_wp2_with fail
  refine HC.out.mono ?_;rintro e w1 ⟨v9,rfl,hown,hb1⟩;have hv1:=HH.out.next hb1;obtain⟨reads,kv',r1,h2,h3⟩:=hv1.row;obtain⟨A9,c9,rfl,-⟩:=Reads.dC hown;have q7:=r1.cell 7 (by simp);have f7:=r1.frozen 7 (by simp);have r2:=r1.set 7 (.bool true);have q8:=r2.cell 8 (by simp);have f8:=r2.frozen 8 (by simp);have r3:=r2.set 8 (.int .i64 n);have q9:=r3.cell 9 (by simp);have f9:=r3.frozen 9 (by simp);have r4:=r3.set 9 (.slice A9 eO.length c9);simp only[bX,bE,nZ,nY]at q7 q8 q9;have hk:∀k,k<w1.heap.size→k≠d→(((w1.setCell ⟨d,7,none⟩ (.bool true)).setCell ⟨d,8,none⟩ (.int .i64 n)).setCell ⟨d,9,none⟩ (.slice A9 eO.length c9)).heap[k]?=w1.heap[k]?:=fun k _ hne=>by
   rw[aV _ _ _ _ hne,aV _ _ _ _ hne,aV _ _ _ _ hne]
  have ho:lK w1 base 3 1 (.slice A9 eO.length c9) eO.length (xA eO):=.inl (FD hown hb);have ho4:=CR (i:=9) (v:=.slice A9 eO.length c9) (CR (i:=8) (v:=.int .i64 n) (CR (i:=7) (v:=.bool true) ho r1) r2) r3;have hnn:n=((n.toNat:Nat):Int):=by omega
  have hv9:bM (((w1.setCell ⟨d,7,none⟩ (.bool true)).setCell ⟨d,8,none⟩ (.int .i64 n)).setCell ⟨d,9,none⟩ (.slice A9 eO.length c9)) base d m {D with tB:=true,left:=n.toNat,eO:=eO} blk dat:=hv1.cb6 rfl rfl hv1.bP (by show n.toNat≤_;omega) HRR.out ⟨reads,.slice A9 eO.length c9,by
   show Row _ d _ [_,_,_,_,_,_,_,_,.int .i64 ((n.toNat:Nat):Int),_];rw[←hnn];exact r4,h2,ho4⟩ hk
  have hfr9:gS base m w (((w1.setCell ⟨d,7,none⟩ (.bool true)).setCell ⟨d,8,none⟩ (.int .i64 n)).setCell ⟨d,9,none⟩ (.slice A9 eO.length c9)):=((gS.cQ hb1 base m).trans ((gS.DV r1 hv1.low.1 7 _).trans (gS.DV r2 hv1.low.1 8 _))).then9 r3 hv1.low.1 _ (by simp) (fun b h9=>dE hown b h9);have HV:=aH hv9;have HFR:=aH hfr9;clear hv1 r1 r2 r3 r4 hk ho ho4 hnn hv9 hfr9 hown hb1 h3;go_wp2;go_ret;exact⟨rfl,by have:=HV.out;rw[hd]at this;exact⟨_,_,this⟩,HFR.out⟩
 rw[hd]at HR;simp only[eE]at HR ⊢;have HR2:=aH HR;have HH:=aH h;clear HR h hk hr;go_in;go_wp2_with fail
 refine HR2.out.mono ?_;rintro e w' ⟨rfl,rfl⟩;go_wp2;go_ret;exact⟨rfl,⟨_,_,HH.out⟩,gS.refl _ _ _⟩
end Go.Proofs.YtpopikndggffaaaGreatDoor
