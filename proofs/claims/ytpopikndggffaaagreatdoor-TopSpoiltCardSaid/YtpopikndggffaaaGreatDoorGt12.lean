/- TOP, part 12. -/
import Derived.Test.YtpopikndggffaaaGreatDoorGt9
namespace Go.Proofs.YtpopikndggffaaaGreatDoor
set_option linter.all false
set_option maxRecDepth 100000
set_option maxHeartbeats 16000000
open Go.RowKit Tryz
def bO4(o:Option dB):dB:=o.getD (0,0,0)
def bL9{L:List dB}{n:Nat}{e:Int}{o:dB}(a:kO L n e=o):o∈L:=by unfold kO at a;have:=IA a;exact(fL.1 this).1
def aB0(v:aN)(l:List dB)(h:Nat)(t:Int)(w:aI)(E:pJ w v l)(N:fD l=true)(hh:h<18446744073709551616) (ht:-9223372036854775808<=t/\t<=9223372036854775807) :Calls prog 216 #[v,zu h,t] w λe O=>e=.returned (.tuple #[.agg (iT (bO4 (kO l h t))),(kO l h t).isSome])/\aR w w O:=by
 have Y:=eA w (.cells #[zu 0,(),()] 152);obtain⟨⟨A,c,rfl,-,-,-,-⟩,-⟩:=id E;obtain⟨-,S,h2,-⟩:=E.cells;unfold maxLen at h2;have F:=tI l h t;have h8:=rO N h t;have⟨n,x⟩:=fR l.length;rw[<-x]at S E F|-;have⟨H,C,q⟩:=aB E x N;clear x;go_in;go_wp2_with fail
 go_call CW _ l h t _ (H.next Y) N hh ht as e w1 ⟨rfl,D⟩;have h4:=aK Y D;have hc:=λO (hb:aR (w.alloc (.cells #[zu 0,(),()] 152)) (w.alloc (.cells #[zu 0,(),()] 152)) O)=>XR w (0,0,0) _ O hb;have⟨s,y⟩:=fR (kQ l h t);rw[<-y]at F|-;have⟨I,Hc⟩:=aA y hc;clear y E hc N;go_wp2_with fail
 go_loopw [8] (λi wr=>∃m:Nat,s<=m/\m<=n/\i=.int .i64 m/\(∀i,(hi:i<l.length)->s<=i->i<m->mI h t l[i]=true)/\aR (w.alloc (.cells #[zu 0,(),()] 152)) (w.alloc (.cells #[zu 0,(),()] 152)) wr) (λi _=>n-(intOf i).toNat)
 .exact⟨s,by omega,by omega,rfl,λi _ S h2=>absurd S (by omega),D⟩
 obtain⟨m,hg,hj,rfl,V,r⟩:=hrel;have j:=aK Y r;have G:((hm:m<l)->mI h t l[m]=false)->(m=0/\kO l h t=none)\/∃k B p P,m=k+1/\l[k]?=some (B,p,P)/\((B=h/\p<=t/\kO l h t=some (B,p,P))\/(¬B=h/\kO l h t=none)\/(B=h/\¬p<=t/\kO l h t=none)):=λX=>by
  rcases dP m with J|J
  .subst J;exact .inl ⟨rfl,bl0 q (by rw[<-I.zz];omega) X⟩
  obtain⟨k,rfl⟩:∃k,m=k+1:=⟨m - 1,by omega⟩;have u:k<l.length:=(by rw[<-C.zz];omega);refine .inr ⟨k,l[k].1,l[k].2.1,l[k].2.2,rfl,aJ u,?_⟩;rcases z:mI h t l[k]with _|_
  .have T:k+1=s:=by
    rcases cK k s with L|L
    .omega
    rw[V k u L (by omega)]at z;cases z
   have:=bl2 q (by rw[<-I.zz];omega) u X z (by rw[<-I.zz];exact T);have W:=of_decide_eq_false z;by_cases g:l[k].1=h
   .exact .inr (.inr ⟨g,λR=>W ⟨g,R⟩,this⟩)
   exact .inr (.inl ⟨g,this⟩)
  have:=bl1 q (by rw[<-I.zz];omega) u X z;exact .inl ⟨(of_decide_eq_true z).1,(of_decide_eq_true z).2,this⟩
 have Hp:=aH V;have d:Row wr w 152 [zu 0,(),()]:=(Row.new w #[zu 0,(),()] 152).next r;have r0:=d.lO;have r1:=d.qD;have r2:=d.tW;have f0:=d.NV;have f1:=d.JE;have f2:=d.QP;have⟨o,h3⟩:=aA G d;clear V G d;by_cases hf:m<n
 focus
  have i1:(m:Int)<n:=(by omega);obtain⟨e,M⟩:∃e,l[m]?=some e:=⟨_,aJ (by rw[<-C.zz];omega)⟩;obtain⟨b,ho,rfl,ha,f⟩:=pJ.later H (by rw[<-C.zz];omega);obtain⟨c0,c1,-⟩:=f m e M wr j;have e1:=aQ.1 M;have U:=H.ok M;have⟨x1,x2,x3⟩:=e;have⟨o1,o2,o3⟩:=U;simp only[]at c0 c1 o1 o2;have Q:=aH e1;clear M f e1;by_cases g1:x1=h
  focus
   subst g1;by_cases R:x2<=t
   .go_wp2;go_roundw
    .
     refine⟨m+1,by omega,by omega,by go_num,λi hi L h6=>?_,r⟩;rcases cK i m with h7|h7
     .exact Hp i hi L h7
     obtain rfl:i=m:=(by omega);rw[Q.zz.2];simp[mI,R]
    simp[intOf];omega
   have K:=o (λ_=>by rw[Q.zz.2];simp[mI];omega)
  rotate_left
  focus
   have hd:¬(x1:Int)=h:=(by omega);have K:=o (λ_=>by rw[Q.zz.2];simp[mI,g1])
 rotate_left 2
 focus
  have i1:¬(m:Int)<n:=(by omega);have K:=o (λhm=>absurd hm (by rw[<-C.zz];omega))
 all_goals
  clear o;rcases K with⟨J,a⟩|⟨k,B,p,P,rfl,u,hq⟩
  focus
   subst J;(try simp only[cJ4,xX]at c0 c1);(first|have i2:(0:Int)<n:=by omega|have i2:¬(0:Int)<n:=by omega);clear i1
  rotate_left
  focus
   obtain⟨b9,o9,h9,-,f⟩:=pJ.later H (by rw[<-C.zz];omega);cases h9;have⟨d0,d1,d2⟩:=f k _ u wr j;simp only[]at d0 d1 d2;have hn:¬((k:Int)+1=0):=(by omega);have wk:IntKind.i64.wrap ((k:Int)+1-1)=k:=(by rw[cQ];omega);have k1:(k:Int)<n:=(by omega);clear f u;rcases hq with⟨Z,q2,a⟩|⟨q1,a⟩|⟨Z,q2,a⟩
   .have q3:decide (t<p)=false:=(by simp;omega);subst Z;go_wp2;refine bE (v:=.tuple #[.agg #[zu B,p,P],true]) (by simp[results,results216,go_sem,r0,r1,r2]) rfl ⟨by first|rfl|(rw[a];rfl),((j.setCell dQ _).setCell dQ _).setCell dQ _⟩
   .have hr:=mt Int.ofNat_inj.1 q1;go_wp2;refine bE (v:=.tuple #[.agg #[zu 0,(),()],false]) (by simp[results,results216,go_sem,r0,r1,r2]) rfl ⟨by first|rfl|(rw[a];rfl),((j.setCell dQ _).setCell dQ _).setCell dQ _⟩
   have q3:t<p:=(by omega);subst Z
  all_goals
   go_wp2;refine bE (v:=.tuple #[.agg #[zu 0,(),()],false]) (by simp[results,results216,go_sem,r0,r1,r2]) rfl ⟨by first|rfl|(rw[a];rfl),((j.setCell dQ _).setCell dQ _).setCell dQ _⟩
end Go.Proofs.YtpopikndggffaaaGreatDoor
