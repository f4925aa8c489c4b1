/- TOP, part 0. -/
import Derived.Below
import Derived.Handy
import Derived.Laws.BitsAllLaws
import Derived.Laws.Concat
import Derived.Laws.IdiomStrings
import Derived.Lib.Hide
import Derived.Orders
import Derived.Tactics2
import Derived.WalkKit
namespace Go.RowKit
theorem Hid.zz{p:Prop}(h:Hid p):p:=h
end Go.RowKit
namespace Go.Proofs.YtpopikndggffaaaGreatDoor
set_option linter.all false
set_option maxRecDepth 100000
set_option maxHeartbeats 16000000
open Go.RowKit
def AR:=@UInt8.toNat_inj
def B9:=@List.mem_cons_self
def BA:=@List.count_pos_iff
def DC:=@Nat.lt_trichotomy
def DE:=@List.take_zero
def DF:=@List.map_map
def DG:=@List.filter_congr
def DM:=@Bool.not_false
def DN:=@Bool.eq_false_iff
def DO:=@Array.size_append
def DP:=@Array.getElem?_eq_none
def FC:=@List.mem_append_right
def G0:=@Nat.mod_lt
def G4:=@List.map_toArray
def G9:=@Bool.false_or
def IA:=@List.mem_of_getLast?
def IB:=@List.length_dropLast
def IC:=@List.getElem?_mapIdx
def ID:=@List.drop_append_of_le_length
def IE:=@Array.replicate_zero
def IF:=@Array.replicate_succ
def JC:=@List.all_append
def JS:=@List.takeWhile_cons
def JT:=@List.map_congr_left
def JU:=@List.append_toArray
def JW:=@Array.toList_modify
def MJ:=@Option.isSome_some
def MK:=@Option.isSome_none
def ML:=@Nat.mod_two_eq_zero_or_one
def MM:=@List.find?_eq_none
def MN:=@List.dropWhile_cons_of_pos
def MO:=@List.dropWhile_cons_of_neg
def O1:=@Array.getElem?_eq_getElem
def OM:=@List.push_toArray
def OO:=@Bool.not_eq_true'
def QF:=@World.cell?_setCells_out
def QI:=@List.length_filterMap_le
def SX:=@Option.getD_none
def SZ:=@Nat.le_add_right
def T3:=@List.take_append
def T4:=@List.pairwise_singleton
def T5:=@List.isEmpty_iff
def UP:=@Nat.succ_mul
def UQ:=@Nat.le_total
def US:=@List.find?_cons_of_pos
def UT:=@List.drop_eq_nil_of_le
def WT:=@Nat.div_add_mod
def XG:=@List.filterMap_append
def XH:=@List.dropWhile_suffix
def XI:=@ByteArray.size_append
def aD7:=@Option.toList_some
def aD9:=@Nat.xor_lt_two_pow
def aE0:=@Nat.add_sub_cancel
def aE3:=@List.mem_filterMap
def aE4:=@List.getElem?_drop
def aE9:=@Bool.true_eq_false
def aH:=@Lib.hid
abbrev aI:=World
def aJ:=@List.getElem?_eq_getElem
def aM:=@Nat.le_trans
abbrev aN:=Value
def aO:=@List.length_append
def aP:=@if_neg
def aQ:=@List.getElem?_eq_some_iff
abbrev aR:=Below
abbrev aS:=ByteArray
def aT:=@List.take_of_length_le
def aU:=@Below.heap_setCell
def aV:=@if_pos
def aW:=@Nat.lt_of_lt_of_le
def aX8:=@World.ownsRow_lit
def aY:=@List.getD_eq_getElem?_getD
def aZ1:=@List.take_sublist
def aZ2:=@List.find?_append
def aZ6:=@Array.toList_push
def aZ7:=@Array.all_eq_true_iff_forall_mem
def af6:=@Nat.mul_le_mul_right
def ag2:=@Bool.and_false
def ak3:=@List.mem_map_of_mem
def ak4:=@List.drop_succ_cons
def ak5:=@Array.toList_append
def ak6:=@Array.length_toList
def au1:=@List.take_add
def au2:=@List.all_cons
def au4:=@Bool.and_true
def b8:=@List.length_take
def bA:=@beq_eq_false_iff_ne
abbrev bB:=UInt8
def bC:=@List.mem_of_getElem?
def bD:=@World.size_alloc
def bE:=@bodyPost_ret
def bG:=@decide_eq_true_eq
def bK:=@Nat.zero_le
def bL:=@Bool.and_eq_true
def bM:=@World.ownsRow_nil
def bN:=@decide_eq_false
def bP:=@List.mem_singleton
def bR:=@Below.refl
def bS1:=@Option.map_none
def bS2:=@Nat.div_le_self
def bS3:=@List.nodup_cons
def bS4:=@List.head?_drop
def bS5:=@List.find?_cons
def bT:=@List.append_assoc
def bT5:=@List.take_length_add_append
def bU:=@Bool.false_eq_true
def bW:=@Int.toNat_natCast
def bX:=@List.take_append_drop
def bZ:=@decide_eq_true
def br7:=@Nat.min_le_right
def br8:=@List.take_prefix
def br9:=@List.mapIdx_cons
def bs0:=@List.flatten_nil
def bs1:=@List.any_eq_true
def bs2:=@List.all_reverse
def bz4:=@Nat.mod_one
def cA8:=@Option.isSome_iff_exists
def cB:=@List.mem_append
def cB1:=@Bool.or_false
abbrev cC:=TypeId
def cD5:=@World.cell?_setCells_in
def cD8:=@List.prefix_iff_eq_take
def cD9:=@List.pairwise_filterMap
def cE:=@List.length_cons
def cJ:=@Option.some.inj
def cJ4:=@Nat.zero_mul
def cJ5:=@Nat.min_self
def cJ6:=@List.map_set
def cK:=@Nat.lt_or_ge
def cK2:=@List.takeWhile_prefix
def cK3:=@List.getElem_set_self
def cK4:=@List.getElem?_zipWith
def cK5:=@List.getElem?_reverse
def cK6:=@List.cons_lt_cons_iff
def cK7:=@Bool.beq_eq_decide_eq
def cN:=@decide_eq_false_iff_not
def cN4:=@Nat.div_lt_of_lt_mul
def cN5:=@Nat.add_mul
def cN8:=@List.set_append_left
def cN9:=@List.Pairwise.filter
def cP2:=@List.length_zipWith
def cP3:=@List.getElem_set_ne
def cP4:=@List.getD_cons_succ
def cP5:=@List.filterMap_cons
def cQ:=@IntKind.wrap_i64
def cR:=@Int.eq_ofNat_of_zero_le
def cV:=@Nat.le_refl
def cY:=@List.mem_cons
def cn3:=@List.drop_take
def cn9:=@Below.drew
def co0:=@Array.toList_setIfInBounds
def co1:=@Array.size_map
def co2:=@Array.getElem?_append_left
def co9:=@World.cell?_setCell_other
def cp0:=@List.pairwise_iff_getElem
def cp1:=@List.mem_or_eq_of_mem_set
def cp2:=@List.mem_of_find?_eq_some
def cp3:=@List.getLast?_eq_none_iff
def cp4:=@List.getLast?_eq_getElem?
def dA:=@List.getElem_cons_zero
def dC:=@List.getElem_mem
def dG:=@List.pairwise_cons
def dK:=@World.cell?_of_block
def dL:=@List.take_add_one
def dN:=@List.all_eq_true
def dP:=@Nat.eq_zero_or_pos
def dS:=@List.mem_map
def dU:=@List.map_cons
def dW:=@if_false
def eB:=@List.flatMap_append
def eE:=@IntKind.wrap_u64
def eF:=@List.getElem?_append_right
def eG:=@List.length_eq_zero_iff
def eH:=@if_true
def eJ:=@Value.slice.inj
def eK:=@List.length_drop
def eN:=@List.flatMap_cons
def eU:=@Exit.noGoto_ret
def eX:=@List.take_length
abbrev eY:=Ending
def fA:=@List.getElem_cons_succ
def fG:=@Array.getElem?_eq_some_iff
def fH:=@List.getElem_of_mem
def fL:=@List.mem_filter
def fM:=@List.getElem_append_right
def fO:=@List.getElem?_append_left
def fQ:=@Bool.true_and
def fX:=@Nat.min_eq_left
def gB:=@List.mem_range
def gC:=@Nat.add_assoc
def gD:=@Nat.pow_le_pow_right
def gE:=@List.take_append_of_le_length
def gF:=@List.eq_nil_of_length_eq_zero
def gH:=@beq_iff_eq
def gI:=@Nat.le_succ
def gK:=@List.length_map
def gL:=@List.dropLast_concat_getLast
def gM:=@List.append_nil
def gQ:=@congrArg
def gT:=@List.getElem_cons_drop
def gU:=@List.getElem?_set_self
def gZ:=@List.drop_eq_getElem_cons
def iA:=@List.flatten_cons
def iC:=@List.map_append
def iD:=@List.filter_eq_nil_iff
def iM:=@Nat.sub_self
def iO:=@List.flatten_append
def iR:=@List.drop_of_length_le
def iU:=@List.mem_cons_of_mem
def iV:=@List.getElem?_take_of_lt
def iX:=@Bool.eq_iff_iff
def jA:=@List.filter_append
def jC:=@Nat.zero_add
def jE:=@List.length_filter_le
def jK:=@List.filter_cons
def jO:=@List.take_succ_eq_append_getElem
def jP:=@List.getElem?_set_ne
def jT:=@List.getElem_append_left
def kC:=@List.set_append_right
def kD:=@List.getElem?_eq_none
def kG:=@List.length_nil
def kL:=@Bool.not_eq_true
def l5:=@List.take_take
def l6:=@List.sum_cons
def l8:=@List.cons_append
def lM:=@List.mem_of_mem_take
def lN:=@List.drop_drop
def lX:=@Option.getD_some
def lY:=@List.mem_flatMap
def lZ:=@ByteArray.size_extract
def mF:=@List.pairwise_map
def mG:=@List.nodup_append
def mH:=@List.foldl_append
def mP:=@List.take_left
def mQ:=@List.drop_zero
def mR:=@List.drop_left
def mV:=@List.length_set
def n8:=@Below.heap_alloc
def nK:=@Nat.pow_succ
def nL:=@List.setIfInBounds_toArray
def nM:=@Int.tdiv_eq_ediv_of_nonneg
def nO:=@List.dropWhile_cons
def nZ:=@List.foldl_cons
def o7:=@List.drop_left'
def oI:=@List.contains_iff_mem
def oQ:=@Nat.eq_or_lt_of_le
def oR:=@List.set_cons_zero
def oS:=@List.set_cons_succ
def oT:=@List.prefix_refl
def oX:=@Nat.mul_comm
def oY:=@List.getLast?_eq_getLast
def p8:=@Bool.not_true
def pH:=@List.pairwise_append
def pQ:=@List.getElem_drop
def pR:=@List.getElem?_map
def pS:=@List.ext_getElem?
def pZ:=@Option.map_some
def qA:=@List.nil_append
def qL:=@List.length_pos_iff
def qM:=@List.filter_eq_self
def qT:=@Nat.le_of_lt
def qU:=@Nat.div_div_eq_div_mul
def qX:=@List.map_take
def qZ:=@Nat.mod_eq_of_lt
def r8:=@List.not_mem_nil
def rH:=@Int.tmod_eq_emod_of_nonneg
def sD:=@List.range_succ
def sG:=@Nat.mul_one
def sH:=@List.size_toArray
def sI:=@List.mem_append_left
def sJ:=@List.getElem_take
def sW:=@bne_iff_ne
def tS:=@List.mem_flatten
def tT:=@List.getElem_map
def tU:=@List.getElem?_replicate
def uN:=@Nat.sub_zero
def uZ:=@List.take_left'
def vD:=@Bool.or_eq_true
def vO:=@List.length_singleton
def wO:=@Option.some.injEq
def wR:=@Array.getD_eq_getD_getElem?
def xR:=@List.replicate_succ'
def xU:=@Below.size
def xW:=@Nat.min_eq_right
def xX:=@Nat.add_zero
def xY:=@List.map_nil
def xZ:=@List.ext_getElem
def zA:=@Nat.add_one_sub_one
def zC:=@List.take_succ_cons
def zD:=@List.reverse_append
def zF:=@List.length_reverse
def aA{p q:Prop}(p9:p)(q9:q):Hid p/\Hid q:=⟨p9,q9⟩
def aB{p q r:Prop}(p9:p)(q9:q)(r9:r):Hid p/\Hid q/\Hid r:=⟨p9,q9,r9⟩
def aC{p q r s:Prop}(p9:p)(q9:q)(r9:r)(s9:s):Hid p/\Hid q/\Hid r/\Hid s:=⟨p9,q9,r9,s9⟩
def aD{p q r s t:Prop}(p9:p)(q9:q)(r9:r)(s9:s)(t9:t):Hid p/\Hid q/\Hid r/\Hid s/\Hid t:=⟨p9,q9,r9,s9,t9⟩
def aE{p q r s t u:Prop}(p9:p)(q9:q)(r9:r)(s9:s)(t9:t)(u9:u):Hid p/\Hid q/\Hid r/\Hid s/\Hid t/\Hid u:=⟨p9,q9,r9,s9,t9,u9⟩
def aF{p q r s t u v:Prop}(p9:p)(q9:q)(r9:r)(s9:s)(t9:t)(u9:u)(v9:v):Hid p/\Hid q/\Hid r/\Hid s/\Hid t/\Hid u/\Hid v:=⟨p9,q9,r9,s9,t9,u9,v9⟩
def aG{p q r s t u v w:Prop}(p9:p)(q9:q)(r9:r)(s9:s)(t9:t)(u9:u)(v9:v)(w9:w):Hid p/\Hid q/\Hid r/\Hid s/\Hid t/\Hid u/\Hid v/\Hid w:=⟨p9,q9,r9,s9,t9,u9,v9,w9⟩
def cT1{p q r s t u v w x:Prop}(p9:p)(q9:q)(r9:r)(s9:s)(t9:t)(u9:u)(v9:v)(w9:w)(x9:x):Hid p/\Hid q/\Hid r/\Hid s/\Hid t/\Hid u/\Hid v/\Hid w/\Hid x:=⟨p9,q9,r9,s9,t9,u9,v9,w9,x9⟩
def cT2{p q r s t u v w x y z a:Prop}(p9:p)(q9:q)(r9:r)(s9:s)(t9:t)(u9:u)(v9:v)(w9:w)(x9:x)(y9:y)(z9:z)(a9:a):Hid p/\Hid q/\Hid r/\Hid s/\Hid t/\Hid u/\Hid v/\Hid w/\Hid x/\Hid y/\Hid z/\Hid a:=⟨p9,q9,r9,s9,t9,u9,v9,w9,x9,y9,z9,a9⟩
def fR{α:Sort _}(e:α):∃x,x=e:=⟨e,rfl⟩
def dQ{n:Nat}:n<=n:=cV n
def iH{B:Nat}{w:aI}:aR B w w:=bR B w
instance:Coe Int aN:=⟨.int .i64⟩
instance:Coe Nat aN:=⟨fun n=>.int .i64 n⟩
instance:Coe Bool aN:=⟨.bool⟩
instance:Coe aS aN:=⟨.string⟩
instance:Coe aN eY:=⟨.returned⟩
instance:CoeOut aI Nat:=⟨fun w=>w.heap.size⟩
instance {α:Type _}:CoeOut (List α) Nat:=⟨List.length⟩
instance {α:Type _}:CoeOut (Array α) Nat:=⟨Array.size⟩
instance:CoeTail aS Nat:=⟨ByteArray.size⟩
instance {B:Nat}{w x:aI}:CoeOut (aR B w x) (w.heap.size<=x.heap.size):=⟨xU⟩
structure zP where
 a:Nat
 b:Nat
abbrev zp(a:Nat)(b:Nat:=0):zP:=⟨a,b⟩
instance (x y:Nat):CoeDep zP (zp x y) aN:=⟨.pointer (some ⟨x,y,none⟩)⟩
instance (x y:Nat):CoeDep zP (zp x y) (Option aN):=⟨some (.pointer (some ⟨x,y,none⟩))⟩
instance (x y:Nat):CoeDep zP (zp x y) Addr:=⟨⟨x,y,none⟩⟩
instance (x y:Nat):CoeDep zP (zp x y) (Option Addr):=⟨some ⟨x,y,none⟩⟩
structure zU where
 a:Int
abbrev zu(a:Int):zU:=⟨a⟩
instance (x:Int):CoeDep zU (zu x) aN:=⟨.int .u64 x⟩
instance (x:Int):CoeDep zU (zu x) (Option aN):=⟨some (.int .u64 x)⟩
structure zK where
 a:Nat
abbrev zs:zK:=⟨0⟩
abbrev zt:zK:=⟨1⟩
abbrev zn:zK:=⟨2⟩
instance:CoeDep zK zs aN:=⟨.slice none 0 0⟩
instance:CoeDep zK zs (Option aN):=⟨some (.slice none 0 0)⟩
instance:CoeDep zK zt aN:=⟨.tuple #[]⟩
instance:CoeDep zK zt eY:=⟨.returned (.tuple #[])⟩
instance:CoeDep zK zn aN:=⟨.string ⟨#[]⟩⟩
instance:CoeDep zK zn (Option aN):=⟨some (.string ⟨#[]⟩)⟩
instance:CoeDep Unit () aN:=⟨.int .i64 0⟩
instance:CoeDep Unit () (Option aN):=⟨some (.int .i64 0)⟩
instance:CoeDep Unit () eY:=⟨.returned (.int .i64 0)⟩
variable{e:Int}{B k m n:Nat}{A P:Program}{w x y:aI}{T U:cC}
def bs(l:List bB):aS:=⟨l.toArray⟩
def lb(s:aS):List bB:=s.data.toList
def gP(l:List bB):lb (bs l)=l:=by simp[lb,bs]
def BG(s:aS):bs (lb s)=s:=by simp[lb,bs]
@[simp,go_sem] def eO(l:List bB):(bs l).size=l:=by simp[bs,ByteArray.size]
@[simp,go_sem] def bI(s:aS):(lb s)=s.size:=ak6
def cH1(s:aS)(k:Nat)(h:k<s):(lb s)[k]?=some s[k]:=by rw[aJ (by rw[bI];exact h)];rfl
def num(l:List bB):Nat:=l.foldl (fun n c=>n*256+c.toNat) 0
def LJ(l:List bB)(c:bB):num (l++[c])=num l*256+c.toNat:=by simp[num,mH]
def AU(l:List bB):num l<256^l.length:=by
 have h:∀k (l:List bB),l.length=k->num l<256^k:=by
  intro k;induction k with
  |zero=>intro l a;simp at a;subst a;simp[num]
  |succ k d=>intro l a;have b:l≠[]:=(by intro h;subst h;simp at a);obtain⟨i,c,rfl⟩:∃i c,l=i++[c]:=⟨l.dropLast,l.getLast b,(gL b).symm⟩;simp at a;have:=d i a;have e:=c.toNat_lt;rw[LJ,nK];omega
 exact h _ l rfl
def be:Nat->Nat->List bB
 |0,_=>[]
 |k+1,n=>be k (n/256)++[UInt8.ofNat (n%256)]
@[simp,go_sem] def lF(k n:Nat):(be k n)=k:=by
 induction k generalizing n with
 |zero=>rfl
 |succ k a=>simp[be,a]
def LK(k n:Nat):num (be k n)=n%256^k:=by
 induction k generalizing n with
 |zero=>simp[be,num,bz4]
 |succ k a=>rw[be,LJ,a,nK,oX (256^k) 256,Nat.mod_mul];have:(UInt8.ofNat (n%256)).toNat=n%256:=(by simp);omega
def QB(l:List bB):be l (num l)=l:=by
 have h:∀k (l:List bB),l.length=k->be k (num l)=l:=by
  intro k;induction k with
  |zero=>intro l a;simp at a;subst a;rfl
  |succ k d=>intro l a;have b:l≠[]:=(by intro h;subst h;simp at a);obtain⟨i,c,rfl⟩:∃i c,l=i++[c]:=⟨l.dropLast,l.getLast b,(gL b).symm⟩;simp at a;have:=d i a;have e:=c.toNat_lt;rw[LJ,be,show(num i*256+c.toNat)/256=num i from by omega,show(num i*256+c.toNat)%256=c.toNat from by omega,this];simp
 exact h _ l rfl
def pF(l:List bB):Nat:=num (l.take 8)
def cw9(l:List bB):pF l<18446744073709551616:=by have h:=AU (l.take 8);have:(256:Nat)^(l.take 8).length<=256^8:=gD (by omega) (by simp;omega);unfold pF;omega
def qY(n:Nat)(a:Int):List bB:=if a<1\/8<a then[]else be a.toNat n
def mJ{k:IntKind}{a:Int}(h:e=a):Ending.returned (.int k e)=.returned (.int k a):=by rw[h]
def zI{s b:aS}(h:s=b):Ending.returned s=b:=by rw[h]
def aI9{b o:Bool}(h:b=o):Ending.returned b=o:=by rw[h]
def xA(s:aS)(k:Nat)(h:k<s):(lb s).take (k+1)=(lb s).take k++[s[k]]:=by rw[dL,cH1 s k h];rfl
def LI(s:aS)(k:Nat):num ((lb s).take k)<256^k:=by refine aW (AU _) (gD (by omega) ?_);simp;omega
def bM9(s:aS)(k:Nat)(h:k<s)(a:k<8):bits BinOp.or IntKind.u64 (IntKind.u64.wrap ((num ((lb s).take k):Int)*256)) (IntKind.u64.wrap (s[k].toNat:Int))=((num ((lb s).take (k+1)):Nat):Int):=by have d:=LI s k;have e:(256:Nat)^k<=256^7:=gD (by omega) (by omega);have b:=s[k].toNat_lt;rw[xA s k h,LJ,eE,eE];generalize num ((lb s).take k)=n at *;generalize s[k].toNat=c at *;rw[show(n:Int)*256%18446744073709551616=((n*256:Nat):Int)from by omega,show(c:Int)%18446744073709551616=(c:Int)from by omega,u64_or_nat _ _ (by omega) (by omega),nat_join 8 _ _ (by omega) (by omega)]
def by4(k n:Nat):be (k+1) n=UInt8.ofNat (n/256^k%256)::be k n:=by
 induction k generalizing n with
 |zero=>simp[be]
 |succ k a=>rw[be,a,be];simp only[l8,List.cons.injEq,and_true];rw[qU,oX,nK]
def dM(l:List bB):List aN:=l.map (fun b=>.int .u8 (b.toNat:Int))
@[simp,go_sem] def oV(l:List bB):(dM l).length=l:=by simp[dM]
def QA(l:List bB)(k:Nat)(h:k<l):(dM l)[k]?=some (.int .u8 (l[k].toNat:Int)):=by simp[dM,aJ h]
def uO(m:Nat):List aN:=List.replicate m (.int .u8 0)
def bF8(c k:Nat)(n:Int)(f:0<=n)(g:k<c):(uO (c-k)++dM (be k n.toNat)).set (c-1-k) (.int .u8 (n/2^(8*k)%256))=uO (c-(k+1))++dM (be (k+1) n.toNat):=by
 have b:c-k=(c-1-k)+1:=(by omega);have d:c-(k+1)=c-1-k:=(by omega);obtain⟨m,rfl⟩:=cR f;have e:((m:Int)/2^(8*k)%256)=((UInt8.ofNat (m/256^k%256)).toNat:Int):=by have a:(2:Nat)^(8*k)=256^k:=(by rw[Nat.pow_mul]);have:(UInt8.ofNat (m/256^k%256)).toNat=m/256^k%256:=(by simp);rw[this,<-a];simp
 rw[d,b,by4,e];unfold uO dM;rw[xR];simp
def PR(c:Nat):(madeCells (Value.int IntKind.u8 0).cells (c*1)).toList=uO c:=by
 have h:∀x,([Value.int IntKind.u8 0][x%1]?).getD default=Value.int IntKind.u8 0:=λx=>(by rw[bz4];rfl);simp only[madeCells,Value.cells,uO];apply pS;intro i;by_cases a:i<c
 .simp[a,h]
 simp[a]
def ac9{base:Nat}{P:cC}{l:List bB}(h:w.ownsRow base T 1 (.slice (zp n) k m) k (dM l)) (f:A.underlying U=some (.slice T)) (c:A.underlying T=some (.int .u8)) (b:A.underlying P=some .string) :(convert U P (.slice (zp n) k m)).run A w=.ok (bs l) w:=by
 have e:l=k:=(by have:=h.1;rw[oV]at this;omega);subst e;exact run_convert_bytes_back w U P T (zp n) m l f c b (λj d=>by
  have:=h.cellAt j (by omega);rw[QA l j d]at this;have T:(Addr.mk n 0 none).add j=⟨n,j,none⟩:=by
   unfold Addr.add;by_cases a:j=0
   .subst a;rfl
   simp[a]
  rw[T];exact this)
def aK9(n:Nat)(a:Int)(b:1<=a)(c:a<=8):(qY n a)=a.toNat:=by unfold qY;rw[aP (by omega),lF]
def oU(l:List bB):List bB:=if 65535<l.length then[]else be 2 l.length++l
def lI(l:List bB):Bool:=decide (2<=l.length/\num (l.take 2)<=l.length-2)
def pO(l:List bB):List bB:=if lI l then(l.drop 2).take (num (l.take 2))else[]
def gY(l:List bB):List bB:=if lI l then l.drop (2+num (l.take 2))else[]
def jX(a b:List bB):bs a++bs b=bs (a++b):=ByteArray.mk_append_mk a b
def dY(s:aS)(i j:Nat):s.extract i j=bs (((lb s).drop i).take (j-i)):=by apply ByteArray.ext;apply Array.toList_inj.1;simp[bs,lb,ByteArray.data_extract]
def Below.next{B:Nat}{a b w:aI}(c:aR B a b)(e:B<=a)(d:aR b b w):aR B a w:=c.trans (d.mono (aM e c.size))
def AK(a:List bB)(s:aS):bs a++s=bs (a++lb s):=by
 conv=>lhs;rw[<-BG s]
 exact jX a (lb s)
def bytesOf(a:List Int):List bB:=a.map (fun x=>UInt8.ofNat x.toNat)
def ad8(a:List Int)(h:∀x∈a,0<=x/\x<256):dM (bytesOf a)=a.map (Value.int .u8):=by unfold dM bytesOf;rw[DF];apply JT;intro x b;have:=h x b;have e:(UInt8.ofNat x.toNat).toNat=x.toNat:=(by simp;omega);simp only[Function.comp_apply,e];congr 1;omega
def ad0(w:aI){T U P:cC}(a:List Int)(n:Nat)(C:Array aN)(c:C=(a.map (Value.int .u8)).toArray)(i:a=n)(h:∀x∈a,0<=x/\x<256) (f:n<=maxLen) (g:A.underlying U=some (.slice T)) (e:A.underlying T=some (.int .u8)) (d:A.underlying P=some .string) :(convert U P (.slice (zp w) n n)).run A (w.alloc (.cells C T))=.ok (bs (bytesOf a)) (w.alloc (.cells C T)):=by subst c;have b:=aX8 (e:=T) (size:=1) w (a.map (Value.int .u8)).toArray n dQ f (by simp;omega);refine ac9 (base:=w.heap.size) (l:=bytesOf a) ?_ g e d;rw[ad8 a h];simpa using b
def as0{P:Program}{e src dst:cC}(x:Int)(d:0<=x)(f:x<256)(c:P.underlying src=some (.slice e))(b:P.underlying e=some (.int .u8))(a:P.underlying dst=some .string)(w:aI):(convert src dst (.slice (zp w) 1 1)).run P (w.alloc (.cells #[.int .u8 x] e))=.ok (bs [UInt8.ofNat x.toNat]) (w.alloc (.cells #[.int .u8 x] e)):=ad0 w [x] 1 _ rfl rfl (by simp;omega) (by unfold maxLen;omega) c b a
def bP9{P:Program}{a:cC}(x y:Int)(e:0<=x)(f:x<256)(g:0<=y)(h:y<256)(d:P.underlying U=some (.slice T))(c:P.underlying T=some (.int .u8))(b:P.underlying a=some .string)(w:aI):(convert U a (.slice (zp w) 2 2)).run P (w.alloc (.cells #[.int .u8 x,.int .u8 y] T))=.ok (bs [UInt8.ofNat x.toNat,UInt8.ofNat y.toNat]) (w.alloc (.cells #[.int .u8 x,.int .u8 y] T)):=ad0 w [x,y] 2 _ rfl rfl (by simp;omega) (by unfold maxLen;omega) d c b
def bP8{P:Program}{a:cC}(x y z u:Int)(e:0<=x/\x<256)(f:0<=y/\y<256)(g:0<=z/\z<256)(h:0<=u/\u<256)(d:P.underlying U=some (.slice T))(c:P.underlying T=some (.int .u8))(b:P.underlying a=some .string)(w:aI):(convert U a (.slice (zp w) 4 4)).run P (w.alloc (.cells #[.int .u8 x,.int .u8 y,.int .u8 z,.int .u8 u] T))=.ok (bs [UInt8.ofNat x.toNat,UInt8.ofNat y.toNat,UInt8.ofNat z.toNat,UInt8.ofNat u.toNat]) (w.alloc (.cells #[.int .u8 x,.int .u8 y,.int .u8 z,.int .u8 u] T)):=ad0 w [x,y,z,u] 4 _ rfl rfl (by simp;omega) (by unfold maxLen;omega) d c b
def aw1(s:aS)(k:Nat)(h:k<s)(a:k<8):IntKind.u64.wrap (IntKind.u64.wrap ((num ((lb s).take k):Int)*256)+IntKind.u64.wrap (s[k].toNat:Int))=((num ((lb s).take (k+1)):Nat):Int):=by have c:=LI s k;have d:(256:Nat)^k<=256^7:=gD (by omega) (by omega);have b:=s[k].toNat_lt;rw[xA s k h,LJ,eE,eE,eE];omega
def bN0(s:aS)(k:Nat)(h:k=8\/(k=s/\s.size<=8)):num ((lb s).take k)=pF (lb s):=by
 unfold pF;rcases h with rfl|⟨rfl,h⟩
 .rfl
 rw[aT (by rw[bI];omega),aT (by rw[bI];omega)]
def cI8(n:Nat)(h:n<65536):be 2 n=[UInt8.ofNat (n/256),UInt8.ofNat (n%256)]:=by simp only[be,qA,l8];rw[show n/256%256=n/256 from by omega]
def ca0(s:aS)(h:¬s.size<2):pO (lb s)=if s-2<num ((lb s).take 2)then[]else((lb s).drop 2).take (num ((lb s).take 2)):=by
 unfold pO lI;rw[bI];by_cases a:s-2<num ((lb s).take 2)
 .rw[aV a,aP (by simp;omega)]
 rw[aP a,aV (by simp;omega)]
def bZ9(s:aS)(h:¬s.size<2):gY (lb s)=if s-2<num ((lb s).take 2)then[]else(lb s).drop (2+num ((lb s).take 2)):=by
 unfold gY lI;rw[bI];by_cases a:s-2<num ((lb s).take 2)
 .rw[aV a,aP (by simp;omega)]
 rw[aP a,aV (by simp;omega)]
def bZ8(s:aS)(h:¬s.size<2):lI (lb s)=!decide (s-2<num ((lb s).take 2)):=by unfold lI;rw[bI];by_cases a:s-2<num ((lb s).take 2)<;>simp[a]<;>omega
@[simp,go_sem] def GF(l:List bB):(bs l).toList=l:=ByteArray.toList_mk l
def jL(s:aS):s.toList=lb s:=ByteArray.toList_eq s
def aK{w:aI}(a:aR w w x)(b:aR x x y):aR w w y:=Below.next a dQ b
def cU(a:aR n w x)(b:aR x x y)(c:n<=w):aR n w y:=Below.next a c b
variable{Q:List bB}
def zN(l:List bB)(h:l.length<=65535):oU l=be 2 l++l:=by unfold oU;rw[aP (by omega)]
def oJ(l:List bB)(h:l.length<=65535):(oU l).length=l+2:=by rw[zN l h,aO,lF];omega
def ZA(l r:List bB)(h:l.length<=65535):num ((be 2 l++l++r).take 2)=l:=by
 have e:(be 2 l++l++r).take 2=be 2 l:=by rw[bT,gE (by simp)];exact aT (by simp)
 rw[e,LK];omega
def zT(l r:List bB)(h:l.length<=65535):lI (oU l++r)=true:=by rw[zN l h];unfold lI;rw[ZA l r h];simp
def ab8(l r:List bB):(be 2 l++l++r).drop 2=l++r:=by rw[bT];exact o7 (by simp)
def PC(l r:List bB)(h:l.length<=65535):pO (oU l++r)=l:=by unfold pO;rw[zT l r h,aV rfl,zN l h,ZA l r h,ab8];simp
def PA(l r:List bB)(h:l.length<=65535):gY (oU l++r)=r:=by unfold gY;rw[zT l r h,aV rfl,zN l h,ZA l r h,<-lN,ab8];simp
def TJ(h:lI Q=true):oU (pO Q)++gY Q=Q/\(pO Q).length<=65535:=by have a:=h;unfold lI at a;rw[bG]at a;have⟨g,i⟩:=a;have e:(Q.take 2).length=2:=(by simp;omega);have j:num (Q.take 2)<256^2:=(by have:=AU (Q.take 2);rwa [e]at this);have d:pO Q=(Q.drop 2).take (num (Q.take 2)):=(by unfold pO;rw[h,aV rfl]);have f:gY Q=Q.drop (2+num (Q.take 2)):=(by unfold gY;rw[h,aV rfl]);have b:(pO Q)=num (Q.take 2):=(by rw[d,b8,eK];omega);have c:be 2 (num (Q.take 2))=Q.take 2:=(by have:=QB (Q.take 2);rwa [e]at this);refine⟨?_,by omega⟩;rw[zN _ (by omega),b,c,d,f,bT,<-lN,bX,bX]
def uA(s:List bB):(gY s).length<=s:=by
 unfold gY;split
 .simp
 simp
def GO(s:List bB):(pO s).length<=s:=by
 unfold pO;split
 .simp;omega
 simp
abbrev Ev:=aS×aS×Nat
def okV(e:Ev):Prop:=e.1.size<=Go.maxLen/\e.2.1.size<=Go.maxLen/\e.2.2<18446744073709551616
def kA(e:Ev):Int:=if e.1.size=0 then 2 else if 16<e.1.size\/200<e.2.1.size then 3 else 0
def LA(e:Ev):List bB:=oU (lb e.1)++(oU (lb e.2.1)++be 8 e.2.2)
def mW(e:Ev):List bB:=if kA e=0 then LA e else[]
def ev0:Ev:=(ByteArray.empty,ByteArray.empty,0)
def AE(s:List bB):List bB:=gY (gY s)
def NY(s:List bB):Ev:=(bs (pO s),bs (pO (gY s)),pF ((AE s).take 8))
def ci1(s:List bB):Bool:=lI s&&lI (gY s)&&decide (8<=(AE s).length)
def mL(s:List bB):Bool:=ci1 s&&decide (kA (NY s)=0)
def zS(s:List bB):Ev:=if mL s then NY s else ev0
def vV(s:List bB):List bB:=if mL s then(AE s).drop 8 else[]
def AI{e:Ev}(h:kA e=0):0<e.1.size/\e.1.size<=16/\e.2.1.size<=200:=by
 unfold kA at h;by_cases a:e.1.size=0
 .rw[aV a]at h;omega
 rw[aP a]at h;by_cases b:16<e.1.size\/200<e.2.1.size
 .rw[aV b]at h;omega
 omega
def VI{e:Ev}(a:e.1.size<=65535)(b:e.2.1.size<=65535):(LA e)=e.1.size+e.2.1+12:=by unfold LA;rw[aO,aO,oJ _ (by rw[bI];exact a),oJ _ (by rw[bI];exact b),lF,bI,bI];omega
def aS0(n:Nat)(h:n<18446744073709551616):pF (be 8 n)=n:=by unfold pF;rw[aT (by rw[lF];omega),LK];exact qZ h
def aW7(l:List bB)(h:l.length=8):be 8 (pF l)=l:=by unfold pF;rw[aT (by omega)];have:=QB l;rwa [h]at this
def cf2{e:Ev}(c:e.1.size<=65535)(d:e.2.1.size<=65535)(r:List bB):lI (LA e++r)=true/\pO (LA e++r)=lb e.1/\lI (gY (LA e++r))=true/\pO (gY (LA e++r))=lb e.2.1/\AE (LA e++r)=be 8 e.2.2++r:=by have a:(lb e.1).length<=65535:=(by rw[bI];exact c);have b:(lb e.2.1).length<=65535:=(by rw[bI];exact d);unfold AE LA;rw[bT,bT,PA _ _ a,PC _ _ a,zT _ _ a,PA _ _ b,PC _ _ b,zT _ _ b];exact⟨rfl,rfl,rfl,rfl,rfl⟩
def ca2{e:Ev}(h:kA e=0)(b:e.2.2<18446744073709551616)(r:List bB):mL (mW e++r)=true/\zS (mW e++r)=e/\vV (mW e++r)=r:=by
 have⟨l,m,n⟩:=AI h;have⟨f,g,i,j,a⟩:=cf2 (e:=e) (by omega) (by omega) r;have k:mW e=LA e:=by unfold mW;rw[aV h]
 have d:NY (LA e++r)=e:=by unfold NY;rw[g,j,a,BG,BG,uZ (lF 8 _),aS0 _ b]
 have c:mL (LA e++r)=true:=by unfold mL ci1;rw[f,i,a,d,h];simp
 rw[k];refine⟨c,?_,?_⟩
 .unfold zS;rw[c,aV rfl,d]
 unfold vV;rw[c,aV rfl,a,o7 (lF 8 _)]
def bI7{s:List bB}(h:mL s=false):zS s=ev0/\vV s=[]:=by unfold zS vV;rw[h];exact⟨rfl,rfl⟩
def bZ5(h:mL Q=true):kA (zS Q)=0/\mW (zS Q)++vV Q=Q:=by have i:zS Q=NY Q:=(by unfold zS;rw[h,aV rfl]);have g:vV Q=(AE Q).drop 8:=(by unfold vV;rw[h,aV rfl]);have a:=h;unfold mL ci1 at a;simp only[bL,bG]at a;obtain⟨⟨⟨e,f⟩,l⟩,b⟩:=a;rw[i,g];refine⟨b,?_⟩;unfold mW;rw[aV b];unfold LA NY;simp only[gP];have⟨c,j⟩:=TJ e;have⟨d,k⟩:=TJ f;rw[aW7 _ (by rw[b8];omega),bT,bT,bX];unfold AE;rw[d,c]
def bv0(s:List bB)(d:s<=Go.maxLen):okV (NY s):=by have a:=GO s;have b:=GO (gY s);have c:=uA s;refine⟨by unfold NY;simp only[eO];omega,by unfold NY;simp only[eO];omega,?_⟩;exact cw9 _
def cb8(s:List bB)(a:s<=Go.maxLen):okV (zS s):=by
 unfold zS;split
 .exact bv0 s a
 exact⟨bK _,bK _,by decide⟩
def yW(e:Ev):(mW e).length<=300:=by
 unfold mW;split
 .next h=>
  have⟨a,b,c⟩:=AI h;rw[VI (by omega) (by omega)];omega
 simp
def FQ(s:Nat):Nat:=(s/2) ^^^ (if s%2=1 then 3988292384 else 0)
def J3:Nat->Nat->Nat
 |0,s=>s
 |k+1,s=>J3 k (FQ s)
def J1(s c:Nat):Nat:=J3 8 (s ^^^ c)
def J2(s:Nat)(l:List bB):Nat:=l.foldl (fun s c=>J1 s c.toNat) s
def xN(s:Nat):Nat:=4294967295-s
def bw0(s:Nat)(l:List bB):Nat:=xN (J2 (xN s) l)
def WX(l:List bB):Nat:=bw0 0 l
def aF3(a b:Nat):(a ^^^ b)%2=(a%2+b%2)%2:=by have h:=Nat.xor_mod_two_pow (a:=a) (b:=b) (n:=1);simp only[Nat.pow_one]at h;rw[h];rcases ML a with ha|ha<;>rcases ML b with hb|hb<;>rw[ha,hb]<;>rfl
def ar8(h:k<4294967296):FQ k<4294967296:=by unfold FQ;exact aD9 (n:=32) (by omega) (by split<;>omega)
def ba2(a:k<4294967296)(b:m<4294967296):k ^^^ m<4294967296:=aD9 (n:=32) a b
def bo7(k:Nat){n:Nat}(h:n<4294967296):J3 k n<4294967296:=by
 induction k generalizing n with
 |zero=>exact h
 |succ k a=>exact a (ar8 h)
def le:List bB->Nat
 |[]=>0
 |c::l=>c.toNat+256*le l
def aj3(s:Nat)(a b:List bB):J2 s (a++b)=J2 (J2 s a) b:=by unfold J2;rw[mH]
def WG(s:Nat)(a:List bB)(c:bB):J2 s (a++[c])=J1 (J2 s a) c.toNat:=by rw[aj3];rfl
def ac4(h:n<4294967296)(a:k<256):J1 n k<4294967296:=bo7 8 (ba2 h (by omega))
def aA3(s:Nat):xN s<4294967296:=by unfold xN;omega
def ci0(h:n<4294967296):xN n=n ^^^ 4294967295:=by
 unfold xN;apply Nat.eq_of_testBit_eq;intro i;rw[Nat.testBit_xor];have b:(4294967295:Nat)=2^32-1:=rfl;have c:(4294967295:Nat).testBit i=decide (i<32):=(by rw[b,Nat.testBit_two_pow_sub_one]);rw[c,show 4294967295-n=2^32-(n+1)from by omega,Nat.testBit_two_pow_sub_succ h];by_cases a:i<32
 .simp[a]
 have:n.testBit i=false:=Nat.testBit_lt_two_pow (aW h (gD (by omega) (by omega):2^32<=2^i));simp[a,this]
def av2(l:List bB):WX l<4294967296:=aA3 _
def U5(n:Nat):List bB:=[UInt8.ofNat (n%256),UInt8.ofNat (n/256%256),UInt8.ofNat (n/65536%256),UInt8.ofNat (n/16777216%256)]
def kU(l:List bB):List bB:=l++U5 (WX l)
def kY(l:List bB):Bool:=decide (4<=l.length)&&(U5 (WX (l.take (l.length-4)))==l.drop (l.length-4))
def kH(l:List bB):List bB:=if kY l then l.take (l.length-4)else[]
def oK(l:List bB):(kU l).length=l+4:=by simp[kU,U5]
def aU7(x:Nat)(c:x<4294967296):bits BinOp.xor IntKind.u32 ((x:Int)/2) (bits BinOp.and IntKind.u32 3988292384 (-bits BinOp.and IntKind.u32 (x:Int) 1%4294967296))=((FQ x:Nat):Int):=by
 have b:bits BinOp.and IntKind.u32 (x:Int) 1=((x%2:Nat):Int):=by rw[show(1:Int)=((1:Nat):Int)from rfl,u32_and_nat x 1 c (by omega),nat_mask1]
 rw[b];unfold FQ;rw[show(x:Int)/2=((x/2:Nat):Int)from by omega];rcases ML x with h|h<;>rw[h]
 .have a:bits BinOp.and IntKind.u32 3988292384 (-((0:Nat):Int)%4294967296)=((0:Nat):Int):=by rw[show(-((0:Nat):Int)%4294967296)=((0:Nat):Int)from rfl,show(3988292384:Int)=((3988292384:Nat):Int)from rfl,u32_and_nat _ _ (by omega) (by omega),Nat.and_zero]
  rw[a,u32_xor_nat _ _ (by omega) (by omega)];rfl
 have a:bits BinOp.and IntKind.u32 3988292384 (-((1:Nat):Int)%4294967296)=((3988292384:Nat):Int):=by rw[show(-((1:Nat):Int)%4294967296)=((4294967295:Nat):Int)from rfl,show(3988292384:Int)=((3988292384:Nat):Int)from rfl,u32_and_nat _ _ (by omega) (by omega),nat_mask32]
 rw[a,u32_xor_nat _ _ (by omega) (by omega)];rfl
def aq1(n:Nat)(a:n<4294967296):bits BinOp.xor IntKind.u32 IntKind.u32.max (n:Int)=((xN n:Nat):Int):=by rw[show IntKind.u32.max=((4294967295:Nat):Int)from rfl,u32_xor_nat _ _ (by omega) a,ci0 a,Nat.xor_comm]
def bX7(x y:Nat):FQ (x ^^^ y)=(x/2 ^^^ (if(x+y)%2=1 then 3988292384 else 0)) ^^^ (y/2):=by unfold FQ;rw[Nat.xor_div_two,aF3,show(x%2+y%2)%2=(x+y)%2 from by omega];rw[Nat.xor_assoc,Nat.xor_comm (y/2),<-Nat.xor_assoc]
def kE(p:List bB):List bB:=kU (be 4 p.length++p)++be 4 p.length
def bg7(p:List bB):List bB:=if 2000<p.length then[]else kE p
def bg9(p:List bB):Int:=if 2000<p.length then 3 else 0
def nG(p:List bB):(kE p).length=p+12:=by unfold kE;rw[aO,oK];simp;omega
def l9(l:List bB)(a:Nat):Nat:=num ((l.drop a).take 4)
def cc3(l:List bB)(a:Nat):l9 l a<4294967296:=by have h:=AU ((l.drop a).take 4);have:(256:Nat)^((l.drop a).take 4).length<=256^4:=gD (by omega) (by simp;omega);unfold l9;omega
def recAt(l:List bB)(a:Nat):Bool:=decide (a+12<=l.length)&&(decide (l9 l a<=2000)&&(decide (a+l9 l a+12<=l.length)&&((l.drop a).take (l9 l a+12)==kE ((l.drop (a+4)).take (l9 l a)))))
def UB(l:List bB)(a:Int):Bool:=decide (0<=a)&&recAt l a.toNat
def gA(l:List bB)(a:Int):List bB:=if UB l a then(l.drop (a.toNat+4)).take (l9 l a.toNat)else[]
def gN(l:List bB)(a:Int):Nat:=if UB l a then a.toNat+l9 l a.toNat+12 else 0
def oN(h:recAt Q n=true):n+12<=Q/\l9 Q n<=2000/\n+l9 Q n+12<=Q:=by unfold recAt at h;simp only[bL,bG]at h;exact⟨h.1,h.2.1,h.2.2.1⟩
def bg0(l:List bB)(a n:Nat)(q:l9 l a=n)(h:a+n+12<=l):(kY ((l.drop a).take (n+8))&&((l.drop (a+n+8)).take 4==(l.drop a).take 4))=((l.drop a).take (n+12)==kE ((l.drop (a+4)).take n)):=by
 have o:((l.drop a).take 4).length=4:=by simp;omega
 have c:be 4 n=(l.drop a).take 4:=by have:=QB ((l.drop a).take 4);rw[o]at this;rw[<-q];exact this
 have p:((l.drop (a+4)).take n)=n:=by simp;omega
 have j:(l.drop a).take (n+8)=((l.drop a).take 4++(l.drop (a+4)).take n)++(l.drop (a+4+n)).take 4:=by rw[show n+8=(4+n)+4 from by omega,au1,au1,lN,lN];rw[gC a 4 n]
 have b:(l.drop a).take (n+12)=(l.drop a).take (n+8)++(l.drop (a+n+8)).take 4:=by rw[show n+12=(n+8)+4 from by omega,au1,lN,gC a n 8]
 have s:((l.drop (a+4+n)).take 4).length=4:=(by simp;omega);have d:((l.drop a).take (n+8))=n+8:=by simp;omega
 have e:kY ((l.drop a).take (n+8))=((l.drop a).take (n+8)==kU (be 4 n++(l.drop (a+4)).take n)):=by
  rw[c];unfold kY;rw[d,bZ (by omega:4<=n+8),fQ,show n+8-4=n+4 from by omega];generalize (l.drop a).take 4=F at *;generalize (l.drop (a+4)).take n=P at *;generalize (l.drop (a+4+n)).take 4=T at *;rw[j];have f:(F++P++T).take (n+4)=F++P:=by rw[gE (by simp;omega)];exact aT (by simp;omega)
  have g:(F++P++T).drop (n+4)=T:=by have:(F++P).length=n+4:=(by simp;omega);rw[<-this,mR]
  rw[f,g];unfold kU;rw[iX,gH,gH];constructor
  .intro h;rw[h]
  intro h;exact(List.append_cancel_left h).symm
 have i:kE ((l.drop (a+4)).take n)=kU (be 4 n++(l.drop (a+4)).take n)++be 4 n:=(by unfold kE;rw[p]);rw[e,i,b,<-c];have r:(kU (be 4 n++(l.drop (a+4)).take n))=n+8:=(by rw[oK];simp;omega);generalize (l.drop a).take (n+8)=X at *;generalize kU (be 4 n++(l.drop (a+4)).take n)=Y at *;generalize (l.drop (a+n+8)).take 4=U at *;rw[iX,bL,gH,gH,gH];constructor
 .rintro ⟨k,m⟩;rw[k,m]
 intro h;have:=List.append_inj h (by omega);exact this
def bI0(l:List bB)(a n:Nat)(h:a+n+12<=l)(c:kY ((l.drop a).take (n+8))=true):(kH ((l.drop a).take (n+8))).drop 4=(l.drop (a+4)).take n:=by unfold kH;rw[c,aV rfl];have b:((l.drop a).take (n+8))=n+8:=(by simp;omega);rw[b,show n+8-4=n+4 from by omega,l5,fX (by omega),cn3,lN];rw[show n+4-4=n from by omega]
def rC(l:List bB):Nat->Nat->List Nat×Nat
 |0,a=>([],a)
 |k+1,a=>if recAt l a then((a::(rC l k (a+l9 l a+12)).1),(rC l k (a+l9 l a+12)).2)else([],a)
def wAt(l:List bB)(a:Int):List Nat:=if a<0\/(l.length:Int)<a then[]else(rC l l.length a.toNat).1
def QR(l:List bB)(a:Int):Nat:=if a<0\/(l.length:Int)<a then 0 else(rC l l.length a.toNat).2
def qE(h:recAt Q n=false)(k:Nat):rC Q k n=([],n):=by
 cases k with
 |zero=>rfl
 |succ k=>simp[rC,h]
def CB(h:recAt Q n=true)(k:Nat):rC Q (k+1) n=(n::(rC Q k (n+l9 Q n+12)).1,(rC Q k (n+l9 Q n+12)).2):=by rw[rC];exact aV h
def aF7(l:List bB):∀(k a:Nat),l<=k+a->rC l (k+1) a=rC l k a:=by
 intro k;induction k with
 |zero=>
  intro a h;have:recAt l a=false:=by
   rcases b:recAt l a with _|_
   .rfl
   have:=oN b;omega
  rw[qE this,qE this]
 |succ k c=>
  intro a h;by_cases b:recAt l a=true
  .rw[CB b,CB b,c _ (by omega)]
  have:recAt l a=false:=(by simpa using b);rw[qE this,qE this]
def TA(h:recAt Q n=true):rC Q Q n=(n::(rC Q Q (n+l9 Q n+12)).1,(rC Q Q (n+l9 Q n+12)).2):=by rw[<-aF7 Q Q.length n (by omega),CB h]
def cc4(a b:List bB)(n:Nat)(h:n<4294967296):l9 (a++(be 4 n++b)) a=n:=by unfold l9;rw[mR,gE (by simp),aT (by simp)];rw[LK];exact qZ (by omega)
def bf9(p:List bB):∃c,c.length=4/\kE p=be 4 p++(p++(c++be 4 p)):=by
 refine⟨(kU (be 4 p++p)).drop (p+4),?_,?_⟩
 .rw[eK,oK];simp;try omega
 have h:kU (be 4 p++p)=(be 4 p++p)++(kU (be 4 p++p)).drop (p+4):=by
  conv=>lhs;rw[<-bX (p+4) (kU (be 4 p++p))]
  congr 1;unfold kU;rw[gE (by simp;omega)];exact aT (by simp;omega)
 show kU (be 4 p++p)++be 4 p=_;conv=>lhs;rw[h]
 simp only[bT]
def vI(a p b:List bB)(i:p.length<=2000):l9 (a++(kE p++b)) a=p/\recAt (a++(kE p++b)) a=true/\((a++(kE p++b)).drop (a+4)).take p=p:=by
 have⟨c,h,g⟩:=bf9 p;have f:l9 (a++(kE p++b)) a=p:=by rw[g,bT];exact cc4 _ _ _ (by omega)
 have d:((a++(kE p++b)).drop (a+4)).take p=p:=by
  rw[<-lN,mR,g];have:(be 4 p).length=4:=(by simp);rw[bT];conv=>lhs;arg 2;arg 1;rw[<-this]
  rw[mR,bT,mP]
 refine⟨f,?_,d⟩;unfold recAt;rw[f,d,mR];have e:(kE p).length=p+12:=nG p;rw[<-e,mP];simp only[aO,e];rw[bZ (by omega),bZ (by omega),bZ (by omega)];simp
def S8(a p b:List bB)(c:p.length<=2000):UB (a++(kE p++b)) (a:Int)=true:=by unfold UB;rw[bZ (by omega),fQ,bW];exact(vI a p b c).2.1
def bx7(a p b:List bB)(c:p.length<=2000):gA (a++(kE p++b)) (a:Int)=p:=by unfold gA;rw[S8 a p b c,aV rfl,bW,(vI a p b c).1];exact(vI a p b c).2.2
def cx2(a p b:List bB)(c:p.length<=2000):gN (a++(kE p++b)) (a:Int)=a+p+12:=by unfold gN;rw[S8 a p b c,aV rfl,bW,(vI a p b c).1]
def sV(a:List bB)(b:List (List bB)):List bB:=a++(b.map kE).flatten
def aI6(a:List bB):sV a []=a:=by simp[sV]
def MZ(a:List bB)(b:List (List bB))(p:List bB):sV a (b++[p])=sV a b++kE p:=by simp[sV]
def IL(a:List bB)(b:List (List bB))(i:Nat)(h:i<b):sV a b=sV a (b.take i)++(kE b[i]++((b.drop (i+1)).map kE).flatten):=by
 have e:b=b.take i++(b[i]::b.drop (i+1)):=by rw[gT,bX]
 conv=>lhs;rw[e]
 simp only[sV,iC,dU,iO,iA,bT]
def jB(a:List bB)(b:List (List bB))(i:Nat):Nat:=(sV a (b.take i)).length
def rowAt(a:List bB)(b:List (List bB)):List Nat:=(List.range (b.length+1)).map (jB a b)
@[simp] def cv1(a:List bB)(b:List (List bB)):(rowAt a b).length=b+1:=by simp[rowAt]
def bD8(a:List bB)(b:List (List bB))(i:Nat)(h:i<(rowAt a b)):(rowAt a b)[i]=jB a b i:=by simp[rowAt]
def an5(a:List bB)(b:List (List bB)):jB a b 0=a:=by simp[jB,sV]
def CK(a:List bB)(b:List (List bB)):jB a b b=(sV a b):=by simp[jB]
def vY(a:List bB)(ps:List (List bB))(i:Nat)(h:i<ps):jB a ps (i+1)=jB a ps i+ps[i].length+12:=by unfold jB;rw[jO h,MZ,aO,nG];omega
def TW(a:List bB)(b:List (List bB))(p:List bB)(i:Nat)(h:i<=b):jB a (b++[p]) i=jB a b i:=by unfold jB;rw[gE h]
def BJ(a:List bB)(b:List (List bB))(i:Nat):jB a b i<=(sV a b):=by
 by_cases h:i<b
 .rw[IL a b i h];unfold jB;simp only[aO];omega
 unfold jB;rw[aT (by omega)];exact cV _
def an6(a:List bB)(b:List (List bB))(i:Nat):jB a b i<=jB a b (i+1):=by
 by_cases h:i<b
 .rw[vY a b i h];omega
 unfold jB;rw[aT (by omega),aT (by omega)];exact cV _
def RH(a:List bB)(b:List (List bB)):∀i,a<=jB a b i:=by intro i;unfold jB sV;simp
def cI4(a:List bB)(b:List (List bB))(k i:Nat)(h:i<b)(c:b[i].length<=2000)(f:jB a b (i+1)<=k):recAt ((sV a b).take k) (jB a b i)=true/\l9 ((sV a b).take k) (jB a b i)=b[i].length:=by
 have d:=vY a b i h;have e:(sV a b).take k=sV a (b.take i)++(kE b[i]++(((b.drop (i+1)).map kE).flatten.take (k-jB a b (i+1)))):=by
  rw[IL a b i h,T3,aT (by show jB a b i<=k;omega),T3,aT (l:=kE b[i]) (by rw[nG];show _<=k-jB a b i;omega)];congr 3;rw[nG,d];show k-jB a b i-_=_;omega
 rw[e];exact⟨(vI (sV a (b.take i)) b[i] _ c).2.1,(vI (sV a (b.take i)) b[i] _ c).1⟩
def ck8(a:List bB)(b:List (List bB))(k i:Nat)(o:i<=b)(m:∀p∈b,p.length<=2000)(e:jB a b i<=k)(f:i<b->k<jB a b (i+1))(q:k<=(sV a b)):recAt ((sV a b).take k) (jB a b i)=false:=by
 rcases n:recAt ((sV a b).take k) (jB a b i)with _|_
 .rfl
 exfalso;have d:=oN n;have l:((sV a b).take k)=k:=(by simp;omega);rw[l]at d;by_cases h:i<b
 .have s:=vY a b i h;have g:=f h;have c:=m b[i] (dC h);have r:l9 ((sV a b).take k) (jB a b i)=b[i].length:=by
   have j:((sV a b).drop (jB a b i)).take 4=(((sV a b).take k).drop (jB a b i)).take 4:=(by rw[cn3,l5,fX (by omega)]);unfold l9;rw[<-j];have:=(vI (sV a (b.take i)) b[i] (((b.drop (i+1)).map kE).flatten) c).1;rwa[<-IL a b i h]at this
  omega
 have:i=b:=(by omega);subst this;rw[CK]at d e;omega
def ar6(a:List bB)(c:List (List bB))(k b:Nat)(y:b<=c)(s:∀p∈c,p.length<=2000)(o:jB a c b<=k)(v:b<c->k<jB a c (b+1))(x:k<=(sV a c)):wAt ((sV a c).take k) (a:Int)=(rowAt a c).take b/\QR ((sV a c).take k) (a:Int)=jB a c b:=by
 have r:((sV a c).take k)=k:=by simp;omega
 have m:∀j,j<=b->rC ((sV a c).take k) k (jB a c (b-j))=(((rowAt a c).take b).drop (b-j),jB a c b):=by
  intro j;induction j with
  |zero=>intro _;rw[uN,qE (ck8 a c k b y s o v x),iR (by simp;omega)]
  |succ j l=>
   intro z;have e:b-(j+1)<c:=(by omega);have g:∀d i,jB a c i<=jB a c (i+d):=by
    intro d;induction d with
    |zero=>intro i;exact cV _
    |succ d l=>intro i;exact aM (l i) (an6 a c (i+d))
   have h:jB a c (b-(j+1)+1)<=k:=by have:=g j (b-(j+1)+1);rw[show b-(j+1)+1+j=b from by omega]at this;omega
   have⟨t,u⟩:=cI4 a c k (b-(j+1)) e (s _ (dC e)) h;have q:=TA t;rw[r,u,<-vY a c _ e,show b-(j+1)+1=b-j from by omega,l (by omega)]at q;rw[q];have f:b-(j+1)<((rowAt a c).take b):=(by simp;omega);rw[<-gT f,sJ,bD8,show b-(j+1)+1=b-j from by omega]
 have n:=m b dQ;rw[iM,an5,mQ]at n;have w:a<=k:=aM (RH a c b) o;unfold wAt QR;rw[r,aP (by omega),aP (by omega),bW,n];exact⟨rfl,rfl⟩
def fC(n:Int):List bB:=if n<0\/199<n then[]else kU ([99,104,110,107]++be 4 n.toNat)
def aa1(h:e<0\/199<e):fC e=[]:=aV h
def ap9(h:n<=199):fC (n:Int)=kU ([99,104,110,107]++be 4 n):=by unfold fC;rw[aP (by omega)];rfl
def jZ{n:Nat}(h:n<=199):(fC (n:Int)).length=12:=by rw[ap9 h,oK];simp
def pre(a b:List bB):Bool:=decide (b.length<=a.length)&&(a.take b.length==b)
def WL(l:List bB)(n:Int):Bool:=(fC n != [])&&pre l (fC n)
def cOk(l:List bB)(n:Int):Bool:=(fC n != [])&&(pre l (fC n)||pre (fC n) l)
def cAt(l:List bB)(n:Int):List Nat:=if WL l n then wAt l 12 else[]
def aj8(l:List bB)(n:Int):Nat:=if WL l n then QR l 12 else 0
def yF(n:Int)(k:Nat):Bool:=decide (0<=n/\n<=4096/\k<=2000/\n+k+12<=4096)
variable{l:List Ev}
abbrev kM:=aS×Int×List Ev
def okB(b:kM):Prop:=b.1.size<=Go.maxLen/\(-9223372036854775808<=b.2.1/\b.2.1<=9223372036854775807)/\∀e∈b.2.2,okV e
def BS:List Ev->Int
 |[]=>0
 |e::l=>if kA e=0 then BS l else kA e
def eP(b:kM):Int:=if b.1.size=0\/b.2.2.length=0 then 2 else if 32<b.1.size\/8<b.2.2.length then 3
 else if b.2.1<0\/1073741824-(b.2.2.length:Int)<b.2.1 then 2 else BS b.2.2
def WR(a b:List Ev):BS (a++b)=if BS a=0 then BS b else BS a:=by
 induction a with
 |nil=>rfl
 |cons e a d=>
  have c:∀l:List Ev,BS (e::l)=if kA e=0 then BS l else kA e:=λ_=>rfl;rw[l8,c,c];by_cases h:kA e=0
  .simp only[h,eH];exact d
  simp only[h,dW]
def at0{e:Ev}(c:BS (l.take n)=0)(h:l[n]?=e):(kA e=0->BS (l.take (n+1))=0)/\(kA e≠0->BS l=kA e):=by
 constructor
 .intro b;rw[dL,h,WR,aV c];simp[BS,b]
 intro b;have a:n<l:=(aQ.1 h).1;have d:l=l.take n++e::l.drop (n+1):=by
  have:l.drop n=e::l.drop (n+1):=by rw[gZ a];rw[aJ a,wO]at h;rw[h]
  rw[<-this,bX]
 rw[d,WR,aV c];simp[BS,b]
def bR2(h:BS l=0):∀e∈l,kA e=0:=by
 induction l with
 |nil=>simp
 |cons e l c=>
  unfold BS at h;by_cases a:kA e=0
  .rw[aV a]at h;intro x b;rcases cY.1 b with rfl|b
   .exact a
   exact c h x b
  rw[aP a]at h;exact absurd h a
def j8{b:kM}(h:eP b=0):0<b.1.size/\b.1.size<=32/\0<b.2.2.length/\b.2.2.length<=8/\0<=b.2.1/\b.2.1<=1073741824-(b.2.2:Int)/\∀e∈b.2.2,kA e=0:=by
 unfold eP at h;split at h
 .omega
 split at h
 .omega
 split at h
 .omega
 exact⟨by omega,by omega,by omega,by omega,by omega,by omega,bR2 h⟩
def rF(l:List Ev):List bB:=l.flatMap mW
def aq0(b:kM):List bB:=oU (lb b.1)++(be 8 b.2.1.toNat++[UInt8.ofNat b.2.2.length])
def wS(b:kM):List bB:=aq0 b++rF b.2.2
def jG(b:kM):List bB:=if eP b=0 then wS b else[]
def aq6{e:Ev}(h:l[n]?=e):rF (l.take (n+1))=rF (l.take n)++mW e:=by unfold rF;rw[dL,h,eB];simp
def aT3{l:List Ev}(n:Nat)(h:l<=n):(rF l)<=n*300:=by
 induction l generalizing n with
 |nil=>simp[rF]
 |cons e l b=>have c:=yW e;have a:=b (n-1) (by simp at h;omega);unfold rF at a|-;rw[eN,aO];simp at h;omega
def bO0(h:∀e∈l,kA e=0):(rF l).length<=l*228:=by
 induction l with
 |nil=>simp[rF]
 |cons e l c=>
  have a:=c λx b=>h x (by simp[b]);have⟨d,f,g⟩:=AI (h e (by simp));have i:(mW e).length<=228:=by unfold mW;rw[aV (h e (by simp)),VI (by omega) (by omega)];omega
  unfold rF at a|-;rw[eN,aO,cE];omega
def aL1{b:kM}(h:eP b=0):0<(jG b).length/\(jG b).length<=2000:=by have⟨c,d,e,f,g,i,a⟩:=j8 h;have j:=bO0 a;unfold jG wS aq0;rw[aV h,aO,aO,aO,lF,oJ _ (by rw[bI];omega),bI];simp only[vO];omega
def wV:Nat->List bB->List bB
 |0,r=>r
 |k+1,r=>vV (wV k r)
def CT:Nat->List bB->List Ev
 |0,_=>[]
 |k+1,r=>CT k r++[zS (wV k r)]
def uX:Nat->List bB->Bool
 |0,_=>true
 |k+1,r=>uX k r&&mL (wV k r)
def W6(k:Nat)(r:List bB):(CT k r)=k:=by
 induction k with
 |zero=>rfl
 |succ k a=>rw[CT,aO,a];rfl
def bE1(s:List bB):(vV s).length<=s:=by
 unfold vV;split
 .have a:=uA s;have b:=uA (gY s);unfold AE;rw[eK];omega
 simp
def aT2(k:Nat)(r:List bB):(wV k r).length<=r:=by
 induction k with
 |zero=>exact cV _
 |succ k a=>rw[wV];have:=bE1 (wV k r);omega
def ct2(k:Nat)(r:List bB)(b:r<=Go.maxLen):∀e∈CT k r,okV e:=by
 induction k with
 |zero=>simp[CT]
 |succ k c=>
  intro e a;rw[CT]at a;rcases cB.1 a with h|h
  .exact c e h
  rw[bP.1 h];exact cb8 _ (aM (aT2 k r) b)
def ci4(k:Nat)(r:List bB)(h:uX k r=true):rF (CT k r)++wV k r=r/\∀e∈CT k r,kA e=0:=by
 induction k with
 |zero=>simp[CT,wV,rF]
 |succ k g=>
  rw[uX,bL]at h;have⟨a,f⟩:=g h.1;have⟨c,d⟩:=bZ5 h.2;refine⟨?_,λe b=>?_⟩
  .rw[CT,wV];unfold rF at a|-;rw[eB];simp only[eN,List.flatMap_nil,gM];rw[bT,d,a]
  rw[CT]at b;rcases cB.1 b with h|h
  .exact f e h
  rw[bP.1 h];exact c
def ci3(h:uX k Q=true)(c:n<=k):uX n Q=true:=by
 induction k with
 |zero=>obtain rfl:n=0:=(by omega);rfl
 |succ k b=>
  rw[uX,bL]at h;rcases cK n (k+1)with a|a
  .exact b h.1 (by omega)
  obtain rfl:n=k+1:=(by omega);rw[uX,h.1,h.2];rfl
def cx6(l:List Ev)(z:List bB)(h:∀e∈l,kA e=0)(i:∀e∈l,okV e):∀k,k<=l.length->uX k (rF l++z)=true/\CT k (rF l++z)=l.take k/\wV k (rF l++z)=rF (l.drop k)++z:=by
 intro k;induction k with
 |zero=>intro _;simp[uX,CT,wV]
 |succ k j=>
  intro p;have⟨b,c,d⟩:=j (by omega);have a:k<l:=(by omega);have g:l.drop k=l[k]::l.drop (k+1):=gZ a;have f:rF (l.drop k)++z=mW l[k]++(rF (l.drop (k+1))++z):=by rw[g];unfold rF;rw[eN,bT]
  have⟨m,n,o⟩:=ca2 (h _ (dC a)) (i _ (dC a)).2.2 (rF (l.drop (k+1))++z);rw[uX,CT,wV,b,c,d,f,m,n,o];exact⟨rfl,by rw[dL,aJ a];rfl,rfl⟩
def pL(s:List bB):Bool:=lI s&&decide (9<=(gY s).length)&&decide (pF ((gY s).take 8)<=1073741824)
def tO(s:List bB):Nat:=(((gY s)[8]?).getD 0).toNat
def sZ(s:List bB):List bB:=(gY s).drop 9
def K8(s:List bB):kM:=(bs (pO s),((pF ((gY s).take 8):Nat):Int),CT (tO s) (sZ s))
def rN(s:List bB):Bool:=pL s&&uX (tO s) (sZ s)&&(wV (tO s) (sZ s)==[])&&decide (eP (K8 s)=0)
def cI0(s:List bB):Bool:=pL s&&uX (tO s) (sZ s)&&decide (eP (K8 s)=0)&&(jG (K8 s)==s)
def bm9(h:pL Q=true)(f:uX (tO Q) (sZ Q)=true):wS (K8 Q)++wV (tO Q) (sZ Q)=Q:=by unfold pL at h;simp only[bL,bG]at h;obtain⟨⟨c,k⟩,l⟩:=h;have⟨b,j⟩:=ci4 _ _ f;obtain⟨i,-⟩:=TJ c;have a:((gY Q).take 8).length=8:=(by rw[b8];omega);have d:(gY Q)[8]?=some (gY Q)[8]:=aJ (by omega);have g:UInt8.ofNat (tO Q)=(gY Q)[8]:=(by unfold tO;rw[d];simp);have e:(gY Q).drop 8=(gY Q)[8]::(gY Q).drop 9:=gZ (by omega);unfold wS aq0 K8;simp only[gP,bW,W6];rw[aW7 _ a,g,bT,bT,bT,b];unfold sZ;rw[List.singleton_append,<-e,bX,i]
def bW8(s:List bB):cI0 s=rN s:=by
 unfold cI0 rN;rcases c:pL s with _|_
 .simp
 rcases d:uX (tO s) (sZ s)with _|_
 .simp
 simp only[fQ];by_cases a:eP (K8 s)=0
 .rw[bZ a,fQ,au4];have b:=bm9 c d;have f:jG (K8 s)=wS (K8 s):=(by unfold jG;rw[aV a]);rw[f,iX,gH,gH];constructor
  .intro h;have:=b.trans h.symm;have e:=gQ List.length this;rw[aO]at e;exact gF (by omega)
  intro h;rwa[h,gM]at b
 rw[bN a];simp
def lH(s:List bB):kM:=if rN s then K8 s else(ByteArray.empty,0,[])
def QD(s:List bB):Int:=if rN s then 0 else 10
def aw8{b:kM}(h:eP b=0)(p:okB b)(z:List bB):pL (wS b++z)=true/\uX (tO (wS b++z)) (sZ (wS b++z))=true/\K8 (wS b++z)=b/\wV (tO (wS b++z)) (sZ (wS b++z))=z:=by
 have⟨u,v,w,A,i,B,k⟩:=j8 h;have⟨C,D,q⟩:=p;have g:(lb b.1).length<=65535:=by rw[bI];omega
 have c:wS b++z=oU (lb b.1)++(be 8 b.2.1.toNat++([UInt8.ofNat b.2.2]++(rF b.2.2++z))):=by unfold wS aq0;simp only[bT]
 have e:lI (wS b++z)=true:=(by rw[c];exact zT _ _ g);have n:pO (wS b++z)=lb b.1:=(by rw[c];exact PC _ _ g);have a:gY (wS b++z)=be 8 b.2.1.toNat++([UInt8.ofNat b.2.2]++(rF b.2.2++z)):=(by rw[c];exact PA _ _ g);have m:(gY (wS b++z)).take 8=be 8 b.2.1.toNat:=(by rw[a];exact uZ (lF 8 _));have j:pF ((gY (wS b++z)).take 8)=b.2.1.toNat:=by rw[m];exact aS0 _ (by omega)
 have d:tO (wS b++z)=b.2.2:=by unfold tO;rw[a,eF (by rw[lF];exact cV _),lF];simp;omega
 have f:sZ (wS b++z)=rF b.2.2++z:=by unfold sZ;rw[a,<-bT,o7 (by rw[aO,lF];rfl)]
 have⟨r,s,t⟩:=cx6 b.2.2 z k q b.2.2 dQ;have o:9<=(gY (wS b++z)).length:=by rw[a,aO,aO,lF,vO];omega
 refine⟨?_,by rw[d,f];exact r,?_,by rw[d,f,t];simp[rF]⟩
 .unfold pL;rw[e,j,bZ o,bZ (by omega)];rfl
 unfold K8;rw[n,j,d,f,s,eX,BG];have⟨x,y,l⟩:=b;simp only[]at i|-;rw[Int.toNat_of_nonneg i]
def YL{b:kM}(h:eP b=0)(f:okB b)(z:List bB):rN (jG b++z)=(z==[]):=by have g:jG b=wS b:=(by unfold jG;rw[aV h]);have⟨a,c,d,e⟩:=aw8 h f z;unfold rN;rw[g,a,c,d,e,h];simp
def az7{b:kM}(h:eP b=0)(c:okB b):lH (jG b)=b/\QD (jG b)=0:=by have d:=YL h c [];rw[gM]at d;have e:jG b=wS b:=(by unfold jG;rw[aV h]);obtain⟨-,-,a,-⟩:=aw8 h c [];rw[gM]at a;unfold lH QD;rw[d];exact⟨by rw[aV (by rfl),e];exact a,rfl⟩
def GU(h:rN Q=true):eP (lH Q)=0/\jG (lH Q)=Q:=by have b:lH Q=K8 Q:=(by unfold lH;rw[h,aV rfl]);have a:=bW8 Q;rw[h]at a;unfold cI0 at a;simp only[bL,bG,gH]at a;rw[b];exact⟨a.1.2,a.2⟩
variable{a:Act}{t:List Bool}{b o:Oper}
def FG(l:List Oper):Bool:=l.all fun o=>o.guard.isNone
def LB{l:List Oper}(h:FG l=true){o:Oper}(a:o∈l):o.guard=none:=by have:=dN.1 h o a;simpa using this
def BI(h:o.guard=none)(a:Array Oper)(t:Array aN):Region.wanted o (yielded a t)=true:=by unfold Region.wanted;rw[h]
def MC(b:Region.Mode)(l:List Oper)(a:Oper):Bool:=((List.range l.length).all fun i=>((l[i]?).map fun o=>o.after.all fun e=>!Region.binds b e||decide (e.on<i)).getD false) &&
 (a.after.all fun e=>!Region.binds b e||decide (e.on<l.length)) &&
 ((List.range l.length).all fun i=>(a.after.any fun e=>Region.binds b e&&(e.on==i))||(List.range l.length).any fun j=>decide (i<j)&&((l[j]?).map fun o=>o.after.any fun e=>Region.binds b e&&(e.on==i)).getD false)
structure cn7(b:Region.Mode)(l:List Oper)(a:Oper):Prop where
 early:∀(i:Nat) o,l[i]?=some o->∀e∈o.after,Region.binds b e=true->e.on<i
 ap5:∀e∈a.after,Region.binds b e=true->e.on<l.length
 used:∀i,i<l.length->(∃e∈a.after,Region.binds b e=true/\e.on=i)\/∃j o,i<j/\l[j]?=some o/\∃e∈o.after,Region.binds b e=true/\e.on=i
def WK{n:Region.Mode}{l:List Oper}{a:Oper}(h:MC n l a=true):cn7 n l a:=by
 unfold MC at h;rw[bL,bL]at h;obtain⟨⟨p,m⟩,q⟩:=h;refine⟨λi o b e d c=>?_,λe d c=>?_,λi f=>?_⟩
 .have f:i<l.length:=(aQ.1 b).1;have:=dN.1 p i (gB.2 f);rw[b]at this;simp only[pZ,lX,aZ7]at this;have:=this e d;rw[c]at this;simpa using this
 .simp only[aZ7]at m;have:=m e d;rw[c]at this;simpa using this
 have:=dN.1 q i (gB.2 f);rw[vD]at this;rcases this with h|h
 .left;have⟨x,k,h⟩:=Array.any_eq_true.1 h;rw[bL,gH]at h;exact⟨_,Array.getElem_mem k,h.1,h.2⟩
 right;rw[bs1]at h;have⟨j,r,h⟩:=h;rw[bL,bG]at h;have⟨g,h⟩:=h;rcases b:l[j]? with _|o
 .rw[b]at h;simp at h
 rw[b]at h;simp only[pZ,lX]at h;have⟨x,k,h⟩:=Array.any_eq_true.1 h;rw[bL,gH]at h;exact⟨j,o,g,b,_,Array.getElem_mem k,h.1,h.2⟩
def bs5(a:Region.Mode)(l:List Oper)(t:List Bool):Prop:=∀(i:Nat) o,l[i]?=some o->t.getD i false=true->∀e∈o.after,Region.binds a e=true->t.getD e.on false=true
def PY(h:n<t)(a b:Bool):t.getD n a=t.getD n b:=by rw[aY,aY,aJ h];rfl
def br2{m:Region.Mode}{l:List Oper}{a:Oper}(r:cn7 m l a){t:List Bool}(f:bs5 m l t)(h:∀e∈a.after,Region.binds m e=true->t.getD e.on false=true):∀i,i<l.length->t.getD i false=true:=by
 have:∀d i,i+d=l.length->∀j,i<=j->j<l.length->t.getD j false=true:=by
  intro d;induction d with
  |zero=>intro i k j n b;omega
  |succ d q=>
   intro i k j n b;rcases oQ n with rfl|u
   .rcases r.used i b with⟨e,g,c,rfl⟩|⟨j,o,s,p,e,g,c,rfl⟩
    .exact h e g c
    exact f j o p (q (e.on+1) (by omega) j (by omega) (aQ.1 p).1) e g c
   exact q (i+1) (by omega) j (by omega) b
 exact λi k=>this l 0 (by omega) i (bK _) k
def uF(h:n<t)(b d:Bool):(t++[b]).toArray.getD n d=t.getD n d:=by simp[wR,aY,fO h]
def aS2(d:Bool):t.toArray.getD n d=t.getD n d:=by simp[wR,aY]
def am0(c:n<t)(h:t.getD n true=false):(t.set n true).count false+1=t.count false:=by have d:t[n]=false:=(by rwa[aY,aJ c]at h);have f:=List.count_set (a:=true) (b:=false) c;have e:0<t.count false:=BA.2 (d▸dC c);rw[f,d];simp;omega
section
variable {P:Program}
def uU(P:Program)(ops:Array Oper)(last:Oper)(Q:Exit->Act->aI->Prop):Exit->Act->aI->Prop
 |.normal,a,w=>wpList P ops Q [last] a w
 |e,a,w=>Q e a w
def RS{c:Array Oper}{Q:Exit->Act->aI->Prop}(h:LetsOut (uU P c b Q)):LetsOut Q:=by have⟨a,w,h⟩:=h;exact⟨a,w,h⟩
def bL6{d:Array Oper}{Q:Exit->Act->aI->Prop}{K:Act->aI->Prop}(h:o.wp P a w K (uU P d b Q)):o.wp P a w K Q:=by
 unfold Oper.wp at *;generalize (execOp a.eval o).run P w=f at h|-;rcases f with⟨x,g⟩|⟨x,g⟩
 .cases x<;>simp only[Oper.upon]at h|-
  all_goals first
   |exact h
   |exact h.mono λe i c=>by
    cases e
    .exact c
    .exact c
    exact RS c
 cases x<;>simp only[Oper.upon]at h|-
 all_goals exact h
def aX2{A:Region.Mode}{l:List Oper}{Q:Exit->Act->aI->Prop}(hb:FG (l++[b])=true)(E:cn7 A l b):∀(g:Nat)(t:List Bool)(a:Act)(w:aI),t.length=l->t.count false=g->bs5 A l t->wpAny P A l.toArray (uU P (l++[b]).toArray b Q) g t.toArray a w->wpAny P A (l++[b]).toArray Q (g+1) (t++[false]).toArray a w:=by
 intro g;have r:(l++[b]).toArray[l.length]?=some b:=(by simp);have v:∀i,i<l.length->(l++[b]).toArray[i]?=l[i]?:=λi m=>by simp[fO m]
 induction g with
 |zero=>
  intro t a w S I B h;have k:∀i,i<l.length->∀d,t.getD i d=true:=by
   intro i m d;rw[PY (by omega) d true];rcases G:t.getD i true with _|_
   .exfalso;have:=am0 (by omega) G;omega
   rfl
  have f:=h.2;unfold uU at f;simp only[]at f;refine⟨λV=>?_,λi m=>?_⟩
  .exfalso;have:l.length∈Region.ready A (l++[b]).toArray (t++[false]).toArray:=by
    rw[mem_ready];refine⟨?_,b,r,λe n c=>?_⟩
    .simp[wR,<-S]
    have:=E.ap5 e n c;rw[uF (by omega)];exact k _ this _
   rw[V]at this;cases this
  obtain⟨p,o,s,-⟩:=mem_ready.1 m;have q:i=l.length:=by
   rcases DC i l.length with h|h|h
   .rw[uF (by omega)]at p;rw[k i h]at p;cases p
   .exact h
   have:(l++[b]).toArray[i]?=none:=(by simp;omega);rw[this]at s;cases s
  subst q;unfold wpOp;simp only[r];have U:=LB hb (FC l (bP.2 rfl));rw[aV (BI U _ _)];unfold wpList at f;rw[aV (BI U _ _)]at f;rcases f with f|f
  .refine .inl (Oper.wp_mono (λa w h=>⟨?_,h⟩) f);rw[List.eq_nil_iff_forall_not_mem];intro j L;obtain⟨u,o',y,-⟩:=mem_ready.1 L;have x:(t++[false]).toArray.setIfInBounds l.length true=(t++[true]).toArray:=by rw[nL,kC _ _ (by omega),S,iM];rfl
   rw[x]at u;rcases DC j l.length with h|h|h
   .rw[uF (by omega)]at u;rw[k j h]at u;cases u
   .subst h;simp[wR,<-S]at u
   have:(l++[b]).toArray[j]?=none:=(by simp;omega);rw[this]at y;cases y
  exact .inr f
 |succ g ih=>
  intro t a w S I B h;have K:∃i,i<l.length/\t.getD i true=false:=by
   have R:0<t.count false:=(by omega);have⟨i,m,n⟩:=fH (BA.1 R);exact⟨i,by omega,by rw[aY,aJ m,lX];exact n⟩
  refine⟨λV=>?_,λi m=>?_⟩
  .exfalso;have O:∃i,i<l.length/\t.getD i true=false/\∀j,j<i->t.getD j true=true:=by
    have⟨i,m,F⟩:=K;induction i using Nat.strongRecOn with
    |ind i h3=>
     by_cases G:∃j,j<i/\t.getD j true=false
     .have⟨j,L,Y⟩:=G;exact h3 j L (by omega) Y
     refine⟨i,m,F,λj L=>?_⟩;rcases hy:t.getD j true with _|_
     .exact absurd ⟨j,L,hy⟩ G
     rfl
   have⟨i,m,F,X⟩:=O;have:i∈Region.ready A (l++[b]).toArray (t++[false]).toArray:=by rw[mem_ready];refine⟨by rw[uF (by omega)];exact F,l[i],by rw[v i m,aJ m],λe n c=>?_⟩;have W:=E.early i l[i] (aJ m) e n c;rw[uF (by omega),PY (by omega) false true];exact X _ W
   rw[V]at this;cases this
  have⟨p,o,s,k⟩:=mem_ready.1 m;rcases DC i l.length with q|q|q
  .rw[v i q]at s;rw[uF (by omega)]at p;have hr:i∈Region.ready A l.toArray t.toArray:=by rw[mem_ready];refine⟨by rw[aS2];exact p,o,by simpa using s,λe n c=>?_⟩;have W:=E.early i o s e n c;have f:=k e n c;rw[uF (by omega)]at f;rw[aS2];exact f
   have f:=h.2 i hr;unfold wpOp at f|-;have y:l.toArray[i]?=some o:=(by simpa using s);have Z:(l++[b]).toArray[i]?=some o:=(by rw[v i q];exact s);simp only[Z];simp only[y]at f;have U:=LB hb (sI [b] (bC s));rw[aV (BI U _ _)]at f|-;have x:(t++[false]).toArray.setIfInBounds i true=(t.set i true++[false]).toArray:=(by rw[nL,cN8 _ _ (by omega)]);have D:t.toArray.setIfInBounds i true=(t.set i true).toArray:=(by rw[nL]);rw[x];rw[D]at f;have H:bs5 A l (t.set i true):=by
    intro j oj z N e n c;have h4:=E.early j oj z e n c;have h5:=(aQ.1 z).1;have T:t.getD e.on false=true->(t.set i true).getD e.on false=true:=λG=>by
     by_cases J:e.on=i
     .rw[J,aY,gU (by omega)];rfl
     rw[aY,jP (Ne.symm J),<-aY];exact G
    by_cases M:j=i
    .subst M;rw[z]at s;cases s;have f:=k e n c;rw[uF (by omega)]at f;exact T f
    rw[aY,jP (Ne.symm M),<-aY]at N;exact T (B j oj z N e n c)
   have C:(t.set i true).count false=g:=(by have:=am0 (by omega) p;omega);rcases f with f|f
   .exact .inl (bL6 (Oper.wp_mono (λa w h=>ih (t.set i true) a w (by simp[S]) C H h) f))
   exact .inr ⟨f.1,RS f.2⟩
  .exfalso;subst q;rw[r]at s;cases s;have:=br2 E B (λe n c=>by have W:=E.ap5 e n c;have f:=k e n c;rwa[uF (by omega)]at f);have⟨i,m,F⟩:=K;rw[PY (by omega) true false,this i m]at F;cases F
  have:(l++[b]).toArray[i]?=none:=(by simp;omega);rw[this]at s;cases s
def aJ1{id:Nat}{Q:Exit->Act->aI->Prop}{a:Act}{w:aI}{l:List Oper}{last:Oper}(k:P.follows .mixedOrders=true)(g:FG (l++[last])=true)(j:MC .any l last=true) (h:wpAny P .any l.toArray (uU P (l++[last]).toArray last Q) l.toArray (Array.replicate l.toArray false) a {w with drawn:=w.drawn+1}):(Code.region id (l++[last]).toArray true).wp P Q a w:=by
 refine wp_region_any k ?_;have d:(List.replicate l false).toArray=Array.replicate l.toArray false:=(by simp);rw[<-d]at h;have b:=aX2 g (WK j) l (List.replicate l false) a _ (by simp) (by simp) (λi o m c=>by rw[aY,tU]at c;split at c<;>simp at c) (by simpa using h);have e:(List.replicate l false++[false]).toArray=Array.replicate (l++[last]).toArray.size false:=by rw[<-xR];simp
 rw[e]at b;have f:(l++[last]).toArray.size=l+1:=(by simp);rw[f]at b|-;exact b
def JH{id:Nat}{Q:Exit->Act->aI->Prop}{full:List Oper}(hm:P.follows .mixedOrders=true)(hb:FG full=true) (hc:(!full.isEmpty&&((full.getLast?).map λo=>MC .any full.dropLast o).getD false)=true) (h2:∀last,full.getLast?=some last->wpAny P .any full.dropLast.toArray (uU P full.toArray last Q) full.dropLast.toArray (Array.replicate full.dropLast.toArray false) a {w with drawn:=w.drawn+1}):(Code.region id full.toArray true).wp P Q a w:=by rw[bL]at hc;have hne:full≠[]:=(by intro e;rw[e]at hc;simp at hc);have e:=gL hne;have hgl:full.getLast?=some (full.getLast hne):=oY hne;rw[hgl]at hc;have hw:=h2 _ hgl;have k:=aJ1 (P:=P) (id:=id) (Q:=Q) (a:=a) (w:=w) (l:=full.dropLast) (last:=full.getLast hne) hm (by rw[e];exact hb) (by simpa using hc.2) (by rw[e];exact hw);rwa[e]at k
end
end Go.Proofs.YtpopikndggffaaaGreatDoor
