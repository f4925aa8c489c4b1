/- TOP, part 4. -/
import Derived.BigRegion
import Derived.ChangeAlike
import Derived.RegionTactic
import Derived.Test.YtpopikndggffaaaGreatDoorGm1
import Derived.Test.YtpopikndggffaaaGreatDoorGm2
namespace Go.Proofs.YtpopikndggffaaaGreatDoor
set_option linter.all false
set_option maxRecDepth 100000
set_option maxHeartbeats 16000000
open Go.RowKit Tryz
def br4(s c:Nat)(w:aI)(d:s<4294967296)(h:c<256):
 Calls prog 297 #[.int .u32 s,.int .u8 c] w λe g=>e=.returned (.int .u32 ((QO s c:Nat):Int))/\w=g:=by
  go_in;go_wp2
  go_loop [0,9] (λv i=>∃k x:Nat,k<=8/\x<4294967296/\i=.int .i64 k/\v=.int .u32 (x:Int)/\VY (8-k) x=QO s c) (λ_ i=>8-(intOf i).toNat)
  .exact⟨0,s ^^^ c,by omega,bH6 d (by omega),rfl,gQ (Value.int .u32) (u32_xor_nat s c d (by omega)),rfl⟩
  obtain⟨k,x,j,f,rfl,rfl,b⟩:=hrel;have a:=aH b;clear b;go_wp2
  .go_round
   .refine⟨k+1,SZ x,by omega,al3 f,by go_num,gQ (Value.int .u32) (aM1 x f),?_⟩;rw[<-a.zz,show 8-k=(8-(k+1))+1 from by omega];rfl
   simp[intOf];omega
  go_ret;refine⟨nF (gQ Int.ofNat ?_),rfl⟩;rw[<-a.zz,show 8-k=0 from by omega];rfl
def br5(n:Nat)(s:aT)(w:aI)(h:s<=maxLen)(g:n<4294967296):
 Calls prog 278 #[.int .u32 n,s] w λe f=>e=.returned (.int .u32 ((cm9 n (lb s):Nat):Int))/\w=f:=by
  unfold maxLen at h;go_in;go_wp2
  go_loop [5,11] (λv i=>∃k x:Nat,k<=s/\x<4294967296/\i=.int .i64 k/\v=.int .u32 (x:Int)/\x=KO (GX n) ((lb s).take k)) (λ_ i=>s.size-(intOf i).toNat)
  .exact⟨0,GX n,by omega,bn2 n,rfl,gQ (Value.int .u32) (aj7 n g),rfl⟩
  obtain⟨k,x,j,b,rfl,rfl,d⟩:=hrel;have c:=aH d;clear d;by_cases a:k<s
  ·(go_wp2_with fail);go_call br4 _ _ _ b s[k].toNat_lt as e f ⟨rfl,rfl⟩;go_wp2
   go_round
   .refine⟨k+1,_,by omega,bf0 b s[k].toNat_lt,by go_num,rfl,?_⟩;rw[GC s k a,aM0,<-c.zz]
   simp[intOf];omega
  go_wp2;go_ret;refine⟨nF ?_,rfl⟩;rw[aj7 x b,c.zz,aX (by rw[bN];omega)];rfl
def ay9(s:aT)(w:aI)(b:s<=maxLen):
 Calls prog 238 #[s] w λe a=>e=.returned (.int .u32 ((ab0 (lb s):Nat):Int))/\w=a:=by
  go_in;go_wp2_with fail
  go_call br5 0 _ _ b (by omega) as e a ⟨rfl,rfl⟩;go_wp2;go_ret;exact⟨rfl,rfl⟩
def ay8(n:Nat)(w:aI)(H:n<4294967296):
 Calls prog 237 #[.int .u32 n] w λe G=>e=(bs (VI n))/\aS w w G:=by
  go_in;go_wp2_with fail
  go_call sI _ _ _ (by omega) (by omega) as e w1 ⟨rfl,c⟩;have s:qL ((n:Nat):Int).toNat 4=be 4 n:=rfl;rw[s];clear s;have⟨f,h,b,a,i,j⟩:=bf4 (P:=prog) w1 9 110 5 (bs (be 4 n)) underlying9 underlying110 underlying5;rw[gF]at a;rw[eK,kT]at b;(go_wp2_with fail);have⟨B,m⟩:=kX w1.heap.size;rw[<-m]at a|-;have q:be 4 n=[UInt8.ofNat (n/16777216%256),UInt8.ofNat (n/65536%256),UInt8.ofNat (n/256%256),UInt8.ofNat (n%256)]:=by simp[be,tI]
  rw[q]at a;have v:f.cell? (zp B)=some (.int .u8 ((n/16777216%256:Nat):Int)):=(by rw[a.cell 0 (by simp[dS])];simp[dS]);have x:f.cell? (zp B 1)=some (.int .u8 ((n/65536%256:Nat):Int)):=(by rw[a.cell 1 (by simp[dS])];simp[dS]);have y:f.cell? (zp B 2)=some (.int .u8 ((n/256%256:Nat):Int)):=(by rw[a.cell 2 (by simp[dS])];simp[dS]);have z:f.cell? (zp B 3)=some (.int .u8 ((n%256:Nat):Int)):=(by rw[a.cell 3 (by simp[dS])];simp[dS]);have A:=a.frozen 0 (by simp[dS]);have C:=a.frozen 1 (by simp[dS]);have D:=a.frozen 2 (by simp[dS]);have E:=a.frozen 3 (by simp[dS]);have⟨t,g,o⟩:=aB m a b;clear m a b q j;go_region;have l:=(((g.set 0 (.int .u8 ((n:Int)%256))).set 1 (.int .u8 ((n:Int)/256%256))).set 2 (.int .u8 ((n:Int)/65536%256))).set 3 (.int .u8 ((n:Int)/16777216%256));have r:((((dS [UInt8.ofNat (n/16777216%256),UInt8.ofNat (n/65536%256),UInt8.ofNat (n/256%256),UInt8.ofNat (n%256)]).set 0 (.int .u8 ((n:Int)%256))).set 1 (.int .u8 ((n:Int)/256%256))).set 2 (.int .u8 ((n:Int)/65536%256))).set 3 (.int .u8 ((n:Int)/16777216%256))=dS (VI n):=by simp[dS,VI]
  rw[r]at l;have d:aS w w ((((f.setCell (zp B) (.int .u8 ((n:Int)%256))).setCell (zp B 1) (.int .u8 ((n:Int)/256%256))).setCell (zp B 2) (.int .u8 ((n:Int)/65536%256))).setCell (zp B 3) (.int .u8 ((n:Int)/16777216%256))).drew:=by have k:w<=B:=(by rw[t.zz];exact c.size);exact(((((aJ c i).setCell (p:=zp B) k _).setCell (p:=zp B 1) k _).setCell (p:=zp B 2) k _).setCell (p:=zp B 3) k _).drew
  generalize ((((f.setCell (zp B) (.int .u8 ((n:Int)%256))).setCell (zp B 1) (.int .u8 ((n:Int)/256%256))).setCell (zp B 2) (.int .u8 ((n:Int)/65536%256))).setCell (zp B 3) (.int .u8 ((n:Int)/16777216%256)))=I at l d|-;have F:=Row.conv (P:=prog) (cap:=h) (n:=4) l.drew rfl underlying110 underlying5 underlying9;clear v x y z A C D E r l;have u:=aH d;clear d c i;go_wp2;go_ret;exact⟨rfl,u⟩
def AV(s:aT)(w:aI)(d:s.size<=9223372036854775000):
 Calls prog 202 #[s] w λe b=>e=(bs (kY (lb s)))/\aS w w b:=by
  go_in;go_wp2_with fail
  go_call ay9 _ _ (by unfold maxLen;omega) as e w1 ⟨rfl,rfl⟩;go_wp2_with fail
  go_call ay8 _ _ (bi9 _) as e w1 ⟨rfl,a⟩;have c:(VI (ab0 (lb s))).length=4:=rfl;go_wp2;go_ret;refine⟨AG ?_,a⟩;conv=>lhs;rw[<-BZ s]
  rw[l4,BZ];rfl
end Go.Proofs.YtpopikndggffaaaGreatDoor
