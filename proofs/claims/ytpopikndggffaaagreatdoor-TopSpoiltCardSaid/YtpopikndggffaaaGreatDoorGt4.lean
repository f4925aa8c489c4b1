/- TOP, part 4. -/
import Derived.BigRegion
import Derived.ChangeAlike
import Derived.RegionTactic
import Derived.Test.YtpopikndggffaaaGreatDoorGt1
import Derived.Test.YtpopikndggffaaaGreatDoorGt2
namespace Go.Proofs.YtpopikndggffaaaGreatDoor
set_option linter.all false
set_option maxRecDepth 100000
set_option maxHeartbeats 16000000
open Go.RowKit Tryz
def bB9(s c:Nat)(w:aI)(d:s<4294967296)(h:c<256):Calls prog 297 #[.int .u32 s,.int .u8 c] w λe g=>e=.returned (.int .u32 ((J1 s c:Nat):Int))/\w=g:=by
 go_in;go_wp2
 go_loop [0,9] (λv i=>∃k x:Nat,k<=8/\x<4294967296/\i=.int .i64 k/\v=.int .u32 (x:Int)/\J3 (8-k) x=J1 s c) (λ_ i=>8-(intOf i).toNat)
 .exact⟨0,s ^^^ c,by omega,ba2 d (by omega),rfl,gQ (Value.int .u32) (u32_xor_nat s c d (by omega)),rfl⟩
 obtain⟨k,x,j,f,rfl,rfl,b⟩:=hrel;have a:=aH b;clear b;go_wp2
 .go_round
  .refine⟨k+1,FQ x,by omega,ar8 f,by go_num,gQ (Value.int .u32) (aU7 x f),?_⟩;rw[<-a.zz,show 8-k=(8-(k+1))+1 from by omega];rfl
  simp[intOf];omega
 go_ret;refine⟨mJ (gQ Int.ofNat ?_),rfl⟩;rw[<-a.zz,show 8-k=0 from by omega];rfl
def bY3(s c:Nat)(w:aI)(o:s<4294967296)(u:c<256):Calls prog 288 #[.int .u32 s,.int .u8 c] w λe r=>e=.returned (.int .u32 ((J1 s c:Nat):Int))/\w=r:=by
 go_in;go_wp2
 go_loop [0,5] (λv i=>∃k x y:Nat,k<=8/\x<4294967296/\y=c/2^k/\i=.int .i64 k/\v=.int .u32 (x:Int)/\J3 (8-k) (x ^^^ y)=J1 s c) (λ_ i=>8-(intOf i).toNat)
 .exact⟨0,s,c,by omega,o,by simp,rfl,rfl,rfl⟩
 obtain⟨k,x,y,z,A,b,rfl,rfl,n⟩:=hrel;have j:=aH n;have q:y<=c:=(by rw[b];exact bS2 _ _);have p:(c:Int)/2^k=(y:Int):=(by rw[b];simp);have f:y/2=c/2^(k+1):=by rw[b,nK,qU]
 have g:8<=k->y=0:=λh=>by obtain rfl:k=8:=(by omega);rw[b];omega
 have⟨t,d,l⟩:=aB b f g;clear n b f g;go_wp2
 .have m:(((x:Int)+y)%2==1)=true:=(by assumption);have a:(x+y)%2=1:=by rw[gH]at m;omega
  go_round
  .
   refine⟨k+1,x/2 ^^^ 3988292384,y/2,by omega,ba2 (by omega) (by omega),d,by go_num,?_,?_⟩
   .refine gQ (Value.int .u32) ?_;rw[show(x:Int)/2=((x/2:Nat):Int)from by omega,show(3988292384:Int)=((3988292384:Nat):Int)from rfl,u32_xor_nat _ _ (by omega) (by omega)]
   rw[<-j.zz,show 8-k=(8-(k+1))+1 from by omega];show _=J3 _ (FQ _);rw[bX7,aV a]
  simp[intOf];omega
 .have m:(((x:Int)+y)%2==1)=false:=(by assumption);have a:¬(x+y)%2=1:=by rw[bA]at m;omega
  go_round
  .refine⟨k+1,x/2,y/2,by omega,by omega,d,by go_num,by go_num,?_⟩;rw[<-j.zz,show 8-k=(8-(k+1))+1 from by omega];show _=J3 _ (FQ _);rw[bX7,aP a,Nat.xor_zero]
  simp[intOf];omega
 go_ret;refine⟨mJ (gQ Int.ofNat ?_),rfl⟩;rw[<-j.zz,show 8-k=0 from by omega,l.zz (by omega),Nat.xor_zero];rfl
def bC0(n:Nat)(s:aS)(w:aI)(h:s<=maxLen)(g:n<4294967296):Calls prog 278 #[.int .u32 n,s] w λe f=>e=.returned (.int .u32 ((bw0 n (lb s):Nat):Int))/\w=f:=by
 unfold maxLen at h;go_in;go_wp2
 go_loop [5,11] (λv i=>∃k x:Nat,k<=s/\x<4294967296/\i=.int .i64 k/\v=.int .u32 (x:Int)/\x=J2 (xN n) ((lb s).take k)) (λ_ i=>s.size-(intOf i).toNat)
 .exact⟨0,xN n,by omega,aA3 n,rfl,gQ (Value.int .u32) (aq1 n g),rfl⟩
 obtain⟨k,x,j,b,rfl,rfl,d⟩:=hrel;have c:=aH d;clear d;by_cases a:k<s
 .go_wp2_with fail
  go_call bB9 _ _ _ b s[k].toNat_lt as e f ⟨rfl,rfl⟩;go_wp2
  go_round
  .refine⟨k+1,_,by omega,ac4 b s[k].toNat_lt,by go_num,rfl,?_⟩;rw[xA s k a,WG,<-c.zz]
  simp[intOf];omega
 go_wp2;go_ret;refine⟨mJ ?_,rfl⟩;rw[aq1 x b,c.zz,aT (by rw[bI];omega)];rfl
def bY7(n:Nat)(s:aS)(w:aI)(g:s<=maxLen)(j:n<4294967296):Calls prog 250 #[.int .u32 n,s] w λe f=>e=.returned (.int .u32 ((bw0 n (lb s):Nat):Int))/\w=f:=by
 unfold maxLen at g;go_in;go_wp2
 go_loop [5,6] (λv i=>∃k x:Nat,k<=s/\x<4294967296/\i=.int .i64 k/\v=.int .u32 (x:Int)/\x=J2 (xN n) ((lb s).take k)) (λ_ i=>s.size-(intOf i).toNat)
 .exact⟨0,xN n,by omega,aA3 n,rfl,gQ (Value.int .u32) (by unfold xN;omega),rfl⟩
 obtain⟨k,x,h,d,rfl,rfl,c⟩:=hrel;have b:=aH c;clear c;by_cases a:k<s
 .go_wp2_with fail
  go_call bY3 _ _ _ d s[k].toNat_lt as e f ⟨rfl,rfl⟩;go_wp2
  go_round
  .refine⟨k+1,_,by omega,ac4 d s[k].toNat_lt,by go_num,rfl,?_⟩;rw[xA s k a,WG,<-b.zz]
  simp[intOf];omega
 go_wp2;go_ret;refine⟨mJ ?_,rfl⟩;have e:bw0 n (lb s)=xN x:=(by rw[b.zz,aT (by rw[bI];omega)];rfl);rw[e];unfold xN;omega
def aH0(s:aS)(w:aI)(b:s<=maxLen):Calls prog 238 #[s] w λe a=>e=.returned (.int .u32 ((WX (lb s):Nat):Int))/\w=a:=by
 go_in;go_wp2_with fail
 go_call bC0 0 _ _ b (by omega) as e a ⟨rfl,rfl⟩;go_wp2;go_ret;exact⟨rfl,rfl⟩
def cs1(s:aS)(w:aI)(b:s<=maxLen):Calls prog 188 #[s] w λe a=>e=.returned (.int .u32 ((WX (lb s):Nat):Int))/\w=a:=by
 go_in;go_wp2_with fail
 go_call bY7 0 _ _ b (by omega) as e a ⟨rfl,rfl⟩;go_wp2;go_ret;exact⟨rfl,rfl⟩
def aG9(n:Nat)(w:aI)(H:n<4294967296):Calls prog 237 #[.int .u32 n] w λe G=>e=(bs (U5 n))/\aR w w G:=by
 go_in;go_wp2_with fail
 go_call tM _ _ _ (by omega) (by omega) as e w1 ⟨rfl,c⟩;have s:qY ((n:Nat):Int).toNat 4=be 4 n:=rfl;rw[s];clear s;have⟨f,h,b,a,i,j⟩:=bp0 (P:=prog) w1 9 110 5 (bs (be 4 n)) underlying9 underlying110 underlying5;rw[gP]at a;rw[eO,lF]at b;(go_wp2_with fail);have⟨B,m⟩:=fR w1.heap.size;rw[<-m]at a|-;have q:be 4 n=[UInt8.ofNat (n/16777216%256),UInt8.ofNat (n/65536%256),UInt8.ofNat (n/256%256),UInt8.ofNat (n%256)]:=by simp[be,qU]
 rw[q]at a;have v:f.cell? (zp B)=some (.int .u8 ((n/16777216%256:Nat):Int)):=(by rw[a.cell 0 (by simp[dM])];simp[dM]);have x:f.cell? (zp B 1)=some (.int .u8 ((n/65536%256:Nat):Int)):=(by rw[a.cell 1 (by simp[dM])];simp[dM]);have y:f.cell? (zp B 2)=some (.int .u8 ((n/256%256:Nat):Int)):=(by rw[a.cell 2 (by simp[dM])];simp[dM]);have z:f.cell? (zp B 3)=some (.int .u8 ((n%256:Nat):Int)):=(by rw[a.cell 3 (by simp[dM])];simp[dM]);have A:=a.frozen 0 (by simp[dM]);have C:=a.frozen 1 (by simp[dM]);have D:=a.frozen 2 (by simp[dM]);have E:=a.frozen 3 (by simp[dM]);have⟨t,g,o⟩:=aB m a b;clear m a b q j;go_region;have l:=(((g.set 0 (.int .u8 ((n:Int)%256))).set 1 (.int .u8 ((n:Int)/256%256))).set 2 (.int .u8 ((n:Int)/65536%256))).set 3 (.int .u8 ((n:Int)/16777216%256));have r:((((dM [UInt8.ofNat (n/16777216%256),UInt8.ofNat (n/65536%256),UInt8.ofNat (n/256%256),UInt8.ofNat (n%256)]).set 0 (.int .u8 ((n:Int)%256))).set 1 (.int .u8 ((n:Int)/256%256))).set 2 (.int .u8 ((n:Int)/65536%256))).set 3 (.int .u8 ((n:Int)/16777216%256))=dM (U5 n):=by simp[dM,U5]
 rw[r]at l;have d:aR w w ((((f.setCell (zp B) (.int .u8 ((n:Int)%256))).setCell (zp B 1) (.int .u8 ((n:Int)/256%256))).setCell (zp B 2) (.int .u8 ((n:Int)/65536%256))).setCell (zp B 3) (.int .u8 ((n:Int)/16777216%256))).drew:=by have k:w<=B:=(by rw[t.zz];exact c.size);exact(((((aK c i).setCell (p:=zp B) k _).setCell (p:=zp B 1) k _).setCell (p:=zp B 2) k _).setCell (p:=zp B 3) k _).drew
 generalize ((((f.setCell (zp B) (.int .u8 ((n:Int)%256))).setCell (zp B 1) (.int .u8 ((n:Int)/256%256))).setCell (zp B 2) (.int .u8 ((n:Int)/65536%256))).setCell (zp B 3) (.int .u8 ((n:Int)/16777216%256)))=I at l d|-;have F:=Row.conv (P:=prog) (cap:=h) (n:=4) l.drew rfl underlying110 underlying5 underlying9;clear v x y z A C D E r l;have u:=aH d;clear d c i;go_wp2;go_ret;exact⟨rfl,u⟩
def C2(s:aS)(w:aI)(d:s.size<=9223372036854775000):Calls prog 202 #[s] w λe b=>e=(bs (kU (lb s)))/\aR w w b:=by
 go_in;go_wp2_with fail
 go_call aH0 _ _ (by unfold maxLen;omega) as e w1 ⟨rfl,rfl⟩;go_wp2_with fail
 go_call aG9 _ _ (av2 _) as e w1 ⟨rfl,a⟩;have c:(U5 (WX (lb s))).length=4:=rfl;go_wp2;go_ret;refine⟨zI ?_,a⟩;conv=>lhs;rw[<-BG s]
 rw[jX,BG];rfl
def aJ4(s:aS)(w:aI)(g:s.size<=9223372036854775000):Calls prog 131 #[s] w λe f=>e=(bs (kU (lb s)))/\aR w w f:=by
 go_in;go_wp2_with fail
 go_call cs1 _ _ (by unfold maxLen;omega) as e w1 ⟨rfl,rfl⟩;have⟨n,a⟩:=fR (WX (lb s));have d:n<4294967296:=(by rw[a];exact av2 _);rw[<-a];have b:=aH a;clear a;have c:=λW:aI=>bP8 (P:=prog) ((n:Int)%256) ((n:Int)/256%256) ((n:Int)/65536%256) ((n:Int)/16777216) (by omega) (by omega) (by omega) (by omega) underlying110 underlying5 underlying9 W;go_wp2;go_ret;refine⟨zI ?_,iH.alloc dQ _⟩;conv=>lhs;rw[<-BG s]
 rw[jX];unfold kU U5;rw[<-b.zz,show n/16777216%256=n/16777216 from by omega]
end Go.Proofs.YtpopikndggffaaaGreatDoor
