/- TOP, part 0. -/
import Derived.Below
import Derived.Handy
import Derived.Laws.BitsAllLaws
import Derived.Laws.Concat
import Derived.Laws.IdiomStrings
import Derived.Lib.Hide
import Derived.Orders
import Derived.Tactics2
import Derived.WalkKit
namespace Go.RowKit
theorem Hid.zz{p:Prop}(h:Hid p):p:=h
end Go.RowKit
namespace Go.Proofs.YtpopikndggffaaaGreatDoor
set_option linter.all false
set_option maxRecDepth 100000
set_option maxHeartbeats 16000000
open Go.RowKit
def C5:=@Nat.lt_trichotomy
def C6:=@List.take_zero
def C7:=@List.map_map
def CA:=@List.filter_congr
def CE:=@Bool.not_false
def CF:=@Array.size_append
def CG:=@Array.getElem?_eq_none
def DO:=@List.mem_append_right
def DP:=@List.contains_iff_mem
def EL:=@Nat.mod_lt
def EM:=@List.map_toArray
def EP:=@Bool.false_or
def FV:=@List.mem_of_getLast?
def FW:=@List.length_dropLast
def FZ:=@List.getElem?_mapIdx
def G0:=@Array.replicate_zero
def G4:=@Array.replicate_succ
def IC:=@List.all_append
def IP:=@List.takeWhile_cons
def IQ:=@List.map_congr_left
def IS:=@List.append_toArray
def IU:=@Array.toList_modify
def L2:=@Option.isSome_some
def L5:=@Option.isSome_none
def L8:=@List.find?_eq_none
def LA:=@List.dropWhile_cons_of_pos
def LB:=@List.dropWhile_cons_of_neg
def LD:=@Int.tmod_eq_emod_of_nonneg
def MJ:=@Array.getElem?_eq_getElem
def MX:=@List.push_toArray
def MZ:=@Bool.not_eq_true'
def N0:=@Bool.eq_false_iff
def OQ:=@World.cell?_setCells_out
def OT:=@List.length_filterMap_le
def RB:=@Option.getD_none
def RD:=@Nat.min_eq_right
def RE:=@Nat.le_add_right
def RF:=@List.take_append
def RG:=@List.isEmpty_iff
def TB:=@Nat.succ_mul
def TD:=@List.find?_cons_of_pos
def TE:=@List.drop_eq_nil_of_le
def V8:=@UInt8.toNat_inj
def V9:=@Nat.div_add_mod
def VP:=@List.filterMap_append
def VQ:=@List.dropWhile_suffix
def VR:=@ByteArray.size_append
def aH:=@Lib.hid
abbrev aI:=World
def aK:=@List.getElem?_eq_getElem
def aL:=@Nat.le_trans
abbrev aN:=Value
def aO:=@Nat.le_refl
def aP:=@List.length_append
def aP6:=@World.ownsRow_lit
def aQ:=@if_neg
def aQ8:=@List.find?_append
def aR:=@List.getElem?_eq_some_iff
def aR2:=@Array.toList_push
def aR3:=@Array.all_eq_true_iff_forall_mem
abbrev aS:=Below
abbrev aT:=ByteArray
def aU:=@if_pos
def aV:=@Below.heap_setCell
def aW:=@Nat.lt_of_lt_of_le
def aX:=@List.take_of_length_le
def aY:=@Below.refl
def ae3:=@List.mem_map_of_mem
def ae4:=@List.drop_succ_cons
def ae5:=@Array.toList_append
def ae6:=@Array.length_toList
def an0:=@List.take_add
def an1:=@List.all_cons
def aw2:=@Nat.xor_lt_two_pow
def aw5:=@List.mem_filterMap
def aw6:=@List.getElem?_drop
def ax1:=@Bool.true_eq_false
def b8:=@List.getD_eq_getElem?_getD
abbrev bB:=UInt8
def bC:=@World.size_alloc
def bD:=@List.mem_of_getElem?
def bE:=@List.getElem_cons_zero
def bG:=@bodyPost_ret
def bG1:=@Option.map_none
def bG2:=@List.nodup_cons
def bG3:=@List.head?_drop
def bG4:=@List.find?_cons
def bH:=@decide_eq_true_eq
def bH3:=@List.take_length_add_append
def bI:=@beq_eq_false_iff_ne
def bJ:=@List.length_take
def bL:=@Bool.and_eq_true
def bO:=@Nat.zero_le
def bQ:=@World.ownsRow_nil
def bT:=@List.mem_singleton
def bU:=@Bool.false_eq_true
def bV:=@List.append_assoc
def bX:=@List.getElem_cons_succ
def bY:=@List.take_append_drop
def bY7:=@List.drop_take
def bZ3:=@Bool.and_false
def bZ4:=@Below.drew
def bZ5:=@Array.size_map
def bZ6:=@Array.getElem?_append_left
def bh8:=@Nat.min_le_right
def bh9:=@List.mapIdx_cons
def bi0:=@List.flatten_nil
def bi1:=@List.all_reverse
def bo8:=@Nat.mod_one
def bp1:=@List.drop_append_of_le_length
def bp3:=@Below.grown
def cB:=@Int.toNat_natCast
def cC:=@decide_eq_false
abbrev cD:=TypeId
def cE:=@List.mem_append
def cF:=@List.length_cons
def cJ:=@decide_eq_true
def cN:=@decide_eq_false_iff_not
def cR:=@Nat.lt_or_ge
def cS:=@Option.some.inj
def cX:=@List.mem_cons
def cY:=@List.getElem_mem
def ca3:=@World.cell?_setCell_other
def ca4:=@List.pairwise_iff_getElem
def ca5:=@List.mem_or_eq_of_mem_set
def ca6:=@List.mem_of_find?_eq_some
def ca7:=@List.getLast?_eq_none_iff
def ca8:=@List.getLast?_eq_getElem?
def cl8:=@Bool.or_false
def cl9:=@Bool.and_true
def cn8:=@World.cell?_setCells_in
def co2:=@List.prefix_iff_eq_take
def co3:=@List.pairwise_singleton
def co4:=@List.pairwise_filterMap
def ct0:=@Nat.zero_mul
def ct1:=@Nat.min_self
def ct2:=@Nat.le_total
def ct3:=@List.map_set
def cu0:=@List.takeWhile_prefix
def cu1:=@List.getElem?_zipWith
def cu2:=@List.getElem?_reverse
def cu3:=@List.cons_lt_cons_iff
def cu4:=@Bool.beq_eq_decide_eq
def cw6:=@Nat.mul_le_mul_right
def cw7:=@Nat.div_lt_of_lt_mul
def cx0:=@List.set_append_left
def cx1:=@List.Pairwise.filter
def cy4:=@List.length_zipWith
def cy5:=@List.getElem_set_ne
def cy6:=@List.getD_cons_succ
def cy7:=@List.filterMap_cons
def dA:=@Int.eq_ofNat_of_zero_le
def dD:=@List.pairwise_cons
def dH:=@World.cell?_of_block
def dL:=@List.all_eq_true
def dM:=@IntKind.wrap_i64
def dN:=@List.map_cons
def dP:=@if_false
def dQ:=@List.take_add_one
def dR:=@List.mem_map
def dU:=@List.flatMap_append
def dX:=@Nat.eq_zero_or_pos
def eA:=@List.getElem?_append_right
def eC:=@List.flatMap_cons
def eE:=@if_true
def eJ:=@Exit.noGoto_ret
def eN:=@Array.getElem?_eq_some_iff
def eQ:=@List.take_length
def eR:=@IntKind.wrap_u64
def eS:=@List.getElem_of_mem
abbrev eT:=Ending
def eV:=@Value.slice.inj
def eW:=@List.mem_filter
def eX:=@List.getElem_append_right
def eY:=@List.getElem?_append_left
def fE:=@List.length_eq_zero_iff
def fF:=@List.length_drop
def fI:=@Bool.true_and
def fL:=@Nat.add_assoc
def fQ:=@Nat.min_eq_left
def fR:=@List.dropLast_concat_getLast
def fU:=@List.append_nil
def gB:=@List.mem_range
def gD:=@List.take_append_of_le_length
def gG:=@beq_iff_eq
def gH:=@List.getElem_cons_drop
def gI:=@List.getElem?_set_self
def gK:=@Nat.pow_le_pow_right
def gM:=@Nat.sub_self
def gO:=@List.drop_eq_getElem_cons
def gP:=@List.flatten_cons
def gQ:=@congrArg
def gR:=@List.length_map
def gT:=@List.filter_eq_nil_iff
def gV:=@Nat.le_succ
def gW:=@List.eq_nil_of_length_eq_zero
def iG:=@List.mem_cons_of_mem
def iH:=@List.getElem?_take_of_lt
def iJ:=@List.map_append
def iN:=@List.filter_append
def iR:=@List.length_filter_le
def iU:=@List.flatten_append
def j7:=@List.filter_cons
def j8:=@Bool.eq_iff_iff
def jB:=@Nat.zero_add
def jC:=@List.take_succ_eq_append_getElem
def jD:=@List.getElem?_set_ne
def jK:=@List.getElem_append_left
def jR:=@List.set_append_right
def jS:=@List.getElem?_eq_none
def jU:=@List.length_nil
def kB:=@List.drop_of_length_le
def kJ:=@List.take_take
def kL:=@List.sum_cons
def kM:=@List.cons_append
def l9:=@Below.size
def lG:=@List.mem_flatMap
def lH:=@Bool.not_eq_true
def lO:=@List.pairwise_map
def lP:=@List.foldl_append
def lZ:=@List.take_left
def mA:=@List.drop_zero
def mB:=@List.drop_left
def mL:=@List.mem_of_mem_take
def mM:=@Below.heap_alloc
def mW:=@bne_iff_ne
def mZ:=@List.setIfInBounds_toArray
def n5:=@List.nodup_append
def n6:=@List.drop_drop
def n7:=@Int.tdiv_eq_ediv_of_nonneg
def n8:=@ByteArray.size_extract
def nA:=@List.dropWhile_cons
def nJ:=@List.length_set
def nK:=@List.drop_left'
def nW:=@Option.getD_some
def nX:=@Nat.eq_or_lt_of_le
def nY:=@List.set_cons_zero
def nZ:=@List.set_cons_succ
def o7:=@List.prefix_refl
def oE:=@List.getLast?_eq_getLast
def oH:=@Bool.not_true
def oP:=@List.pairwise_append
def oY:=@List.getElem_drop
def oZ:=@List.getElem?_map
def p7:=@List.ext_getElem?
def pD:=@List.nil_append
def pM:=@List.length_pos_iff
def pN:=@List.filter_eq_self
def pT:=@Nat.pow_succ
def pU:=@Nat.mul_comm
def qB:=@Nat.mod_eq_of_lt
def qC:=@List.not_mem_nil
def r8:=@List.range_succ
def rA:=@List.foldl_cons
def rD:=@Nat.mul_one
def rE:=@List.size_toArray
def rF:=@List.mem_append_left
def rG:=@List.getElem_take
def sN:=@List.getElem_map
def sO:=@List.getElem?_replicate
def tG:=@Nat.sub_zero
def tH:=@Nat.le_of_lt
def tI:=@Nat.div_div_eq_div_mul
def tX:=@Option.map_some
def tY:=@List.take_left'
def uC:=@List.map_take
def uL:=@List.length_singleton
def vD:=@Option.some.injEq
def vG:=@Array.getD_eq_getD_getElem?
def wG:=@List.replicate_succ'
def wQ:=@Nat.add_zero
def wR:=@List.mem_flatten
def wS:=@List.map_nil
def wU:=@List.ext_getElem
def xW:=@Nat.add_one_sub_one
def xY:=@List.take_succ_cons
def xZ:=@List.reverse_append
def yA:=@List.length_reverse
def zJ:=@Bool.or_eq_true
def zV:=@List.mem_cons_self
def zW:=@List.count_pos_iff
def aA{p q:Prop}(p9:p)(q9:q):Hid p/\Hid q:=⟨p9,q9⟩
def aB{p q r:Prop}(p9:p)(q9:q)(r9:r):Hid p/\Hid q/\Hid r:=⟨p9,q9,r9⟩
def aC{p q r s:Prop}(p9:p)(q9:q)(r9:r)(s9:s):Hid p/\Hid q/\Hid r/\Hid s:=⟨p9,q9,r9,s9⟩
def aD{p q r s t:Prop}(p9:p)(q9:q)(r9:r)(s9:s)(t9:t):Hid p/\Hid q/\Hid r/\Hid s/\Hid t:=⟨p9,q9,r9,s9,t9⟩
def aE{p q r s t u:Prop}(p9:p)(q9:q)(r9:r)(s9:s)(t9:t)(u9:u):Hid p/\Hid q/\Hid r/\Hid s/\Hid t/\Hid u:=⟨p9,q9,r9,s9,t9,u9⟩
def aF{p q r s t u v:Prop}(p9:p)(q9:q)(r9:r)(s9:s)(t9:t)(u9:u)(v9:v):Hid p/\Hid q/\Hid r/\Hid s/\Hid t/\Hid u/\Hid v:=⟨p9,q9,r9,s9,t9,u9,v9⟩
def aG{p q r s t u v w:Prop}(p9:p)(q9:q)(r9:r)(s9:s)(t9:t)(u9:u)(v9:v)(w9:w):Hid p/\Hid q/\Hid r/\Hid s/\Hid t/\Hid u/\Hid v/\Hid w:=⟨p9,q9,r9,s9,t9,u9,v9,w9⟩
def cC5{p q r s t u v w x:Prop}(p9:p)(q9:q)(r9:r)(s9:s)(t9:t)(u9:u)(v9:v)(w9:w)(x9:x):Hid p/\Hid q/\Hid r/\Hid s/\Hid t/\Hid u/\Hid v/\Hid w/\Hid x:=⟨p9,q9,r9,s9,t9,u9,v9,w9,x9⟩
def cC6{p q r s t u v w x y z a:Prop}(p9:p)(q9:q)(r9:r)(s9:s)(t9:t)(u9:u)(v9:v)(w9:w)(x9:x)(y9:y)(z9:z)(a9:a):Hid p/\Hid q/\Hid r/\Hid s/\Hid t/\Hid u/\Hid v/\Hid w/\Hid x/\Hid y/\Hid z/\Hid a:=⟨p9,q9,r9,s9,t9,u9,v9,w9,x9,y9,z9,a9⟩
def kX{α:Sort _}(e:α):∃x,x=e:=⟨e,rfl⟩
def gC{n:Nat}:n<=n:=aO n
def mE{B:Nat}{w:aI}:aS B w w:=aY B w
instance:Coe Int aN:=⟨.int .i64⟩
instance:Coe Nat aN:=⟨fun n=>.int .i64 n⟩
instance:Coe Bool aN:=⟨.bool⟩
instance:Coe aT aN:=⟨.string⟩
instance:Coe aN eT:=⟨.returned⟩
instance:CoeOut aI Nat:=⟨fun w=>w.heap.size⟩
instance {α:Type _}:CoeOut (List α) Nat:=⟨List.length⟩
instance {α:Type _}:CoeOut (Array α) Nat:=⟨Array.size⟩
instance:CoeTail aT Nat:=⟨ByteArray.size⟩
instance {B:Nat}{w x:aI}:CoeOut (aS B w x) (w.heap.size<=x.heap.size):=⟨l9⟩
structure zP where
 a:Nat
 b:Nat
abbrev zp(a:Nat)(b:Nat:=0):zP:=⟨a,b⟩
instance (x y:Nat):CoeDep zP (zp x y) aN:=⟨.pointer (some ⟨x,y,none⟩)⟩
instance (x y:Nat):CoeDep zP (zp x y) (Option aN):=⟨some (.pointer (some ⟨x,y,none⟩))⟩
instance (x y:Nat):CoeDep zP (zp x y) Addr:=⟨⟨x,y,none⟩⟩
instance (x y:Nat):CoeDep zP (zp x y) (Option Addr):=⟨some ⟨x,y,none⟩⟩
structure zU where
 a:Int
abbrev zu(a:Int):zU:=⟨a⟩
instance (x:Int):CoeDep zU (zu x) aN:=⟨.int .u64 x⟩
instance (x:Int):CoeDep zU (zu x) (Option aN):=⟨some (.int .u64 x)⟩
structure zK where
 a:Nat
abbrev zs:zK:=⟨0⟩
abbrev zt:zK:=⟨1⟩
abbrev zn:zK:=⟨2⟩
instance:CoeDep zK zs aN:=⟨.slice none 0 0⟩
instance:CoeDep zK zs (Option aN):=⟨some (.slice none 0 0)⟩
instance:CoeDep zK zt aN:=⟨.tuple #[]⟩
instance:CoeDep zK zt eT:=⟨.returned (.tuple #[])⟩
instance:CoeDep zK zn aN:=⟨.string ⟨#[]⟩⟩
instance:CoeDep zK zn (Option aN):=⟨some (.string ⟨#[]⟩)⟩
instance:CoeDep Unit () aN:=⟨.int .i64 0⟩
instance:CoeDep Unit () (Option aN):=⟨some (.int .i64 0)⟩
instance:CoeDep Unit () eT:=⟨.returned (.int .i64 0)⟩
variable{e:Int}{B k m n:Nat}{A P:Program}{w x y:aI}{T U:cD}
def bs(l:List bB):aT:=⟨l.toArray⟩
def lb(s:aT):List bB:=s.data.toList
def gF(l:List bB):lb (bs l)=l:=by simp[lb,bs]
def BZ(s:aT):bs (lb s)=s:=by simp[lb,bs]
@[simp,go_sem] def eK(l:List bB):(bs l).size=l:=by simp[bs,ByteArray.size]
@[simp,go_sem] def bN(s:aT):(lb s)=s.size:=ae6
def cq8(s:aT)(k:Nat)(h:k<s):(lb s)[k]?=some s[k]:=by rw[aK (by rw[bN];exact h)];rfl
def num(l:List bB):Nat:=l.foldl (fun n c=>n*256+c.toNat) 0
def PW(l:List bB)(c:bB):num (l++[c])=num l*256+c.toNat:=by simp[num,lP]
def DY(l:List bB):num l<256^l.length:=by
 have h:∀k (l:List bB),l.length=k->num l<256^k:=by
  intro k;induction k with
  |zero=>intro l a;simp at a;subst a;simp[num]
  |succ k d=>intro l a;have b:l≠[]:=(by intro h;subst h;simp at a);obtain⟨i,c,rfl⟩:∃i c,l=i++[c]:=⟨l.dropLast,l.getLast b,(fR b).symm⟩;simp at a;have:=d i a;have e:=c.toNat_lt;rw[PW,pT];omega
 exact h _ l rfl
def be:Nat->Nat->List bB
 |0,_=>[]
 |k+1,n=>be k (n/256)++[UInt8.ofNat (n%256)]
@[simp,go_sem] def kT(k n:Nat):(be k n)=k:=by
 induction k generalizing n with
 |zero=>rfl
 |succ k a=>simp[be,a]
def JP(k n:Nat):num (be k n)=n%256^k:=by
 induction k generalizing n with
 |zero=>simp[be,num,bo8]
 |succ k a=>rw[be,PW,a,pT,pU (256^k) 256,Nat.mod_mul];have:(UInt8.ofNat (n%256)).toNat=n%256:=(by simp);omega
def OM(l:List bB):be l (num l)=l:=by
 have h:∀k (l:List bB),l.length=k->be k (num l)=l:=by
  intro k;induction k with
  |zero=>intro l a;simp at a;subst a;rfl
  |succ k d=>intro l a;have b:l≠[]:=(by intro h;subst h;simp at a);obtain⟨i,c,rfl⟩:∃i c,l=i++[c]:=⟨l.dropLast,l.getLast b,(fR b).symm⟩;simp at a;have:=d i a;have e:=c.toNat_lt;rw[PW,be,show(num i*256+c.toNat)/256=num i from by omega,show(num i*256+c.toNat)%256=c.toNat from by omega,this];simp
 exact h _ l rfl
def qA(l:List bB):Nat:=num (l.take 8)
def ci2(l:List bB):qA l<18446744073709551616:=by have h:=DY (l.take 8);have:(256:Nat)^(l.take 8).length<=256^8:=gK (by omega) (by simp;omega);unfold qA;omega
def qL(n:Nat)(a:Int):List bB:=if a<1\/8<a then[]else be a.toNat n
def nF{k:IntKind}{a:Int}(h:e=a):Ending.returned (.int k e)=.returned (.int k a):=by rw[h]
def AG{s b:aT}(h:s=b):Ending.returned s=b:=by rw[h]
def aA7{b o:Bool}(h:b=o):Ending.returned b=o:=by rw[h]
def GC(s:aT)(k:Nat)(h:k<s):(lb s).take (k+1)=(lb s).take k++[s[k]]:=by rw[dQ,cq8 s k h];rfl
def U3(s:aT)(k:Nat):num ((lb s).take k)<256^k:=by refine aW (DY _) (gK (by omega) ?_);simp;omega
def bB2(s:aT)(k:Nat)(h:k<s)(a:k<8):
 bits BinOp.or IntKind.u64 (IntKind.u64.wrap ((num ((lb s).take k):Int)*256)) (IntKind.u64.wrap (s[k].toNat:Int))=((num ((lb s).take (k+1)):Nat):Int):=by have d:=U3 s k;have e:(256:Nat)^k<=256^7:=gK (by omega) (by omega);have b:=s[k].toNat_lt;rw[GC s k h,PW,eR,eR];generalize num ((lb s).take k)=n at *;generalize s[k].toNat=c at *;rw[show(n:Int)*256%18446744073709551616=((n*256:Nat):Int)from by omega,show(c:Int)%18446744073709551616=(c:Int)from by omega,u64_or_nat _ _ (by omega) (by omega),nat_join 8 _ _ (by omega) (by omega)]
def bn8(k n:Nat):be (k+1) n=UInt8.ofNat (n/256^k%256)::be k n:=by
 induction k generalizing n with
 |zero=>simp[be]
 |succ k a=>rw[be,a,be];simp only[kM,List.cons.injEq,and_true];rw[tI,pU,pT]
def dS(l:List bB):List aN:=l.map (fun b=>.int .u8 (b.toNat:Int))
@[simp,go_sem] def yD(l:List bB):(dS l).length=l:=by simp[dS]
def OK(l:List bB)(k:Nat)(h:k<l):(dS l)[k]?=some (.int .u8 (l[k].toNat:Int)):=by simp[dS,aK h]
def tJ(m:Nat):List aN:=List.replicate m (.int .u8 0)
def bu5(c k:Nat)(n:Int)(f:0<=n)(g:k<c):
 (tJ (c-k)++dS (be k n.toNat)).set (c-1-k) (.int .u8 (n/2^(8*k)%256))=tJ (c-(k+1))++dS (be (k+1) n.toNat):=by
  have b:c-k=(c-1-k)+1:=(by omega);have d:c-(k+1)=c-1-k:=(by omega);obtain⟨m,rfl⟩:=dA f;have e:((m:Int)/2^(8*k)%256)=((UInt8.ofNat (m/256^k%256)).toNat:Int):=by have a:(2:Nat)^(8*k)=256^k:=(by rw[Nat.pow_mul]);have:(UInt8.ofNat (m/256^k%256)).toNat=m/256^k%256:=(by simp);rw[this,<-a];simp
  rw[d,b,bn8,e];unfold tJ dS;rw[wG];simp
def O5(c:Nat):(madeCells (Value.int IntKind.u8 0).cells (c*1)).toList=tJ c:=by
 have h:∀x,([Value.int IntKind.u8 0][x%1]?).getD default=Value.int IntKind.u8 0:=λx=>(by rw[bo8];rfl);simp only[madeCells,Value.cells,tJ];apply p7;intro i;by_cases a:i<c
 .simp[a,h]
 simp[a]
def Z8{base:Nat}{P:cD}{l:List bB}(h:w.ownsRow base T 1 (.slice (zp n) k m) k (dS l))
 (f:A.underlying U=some (.slice T)) (c:A.underlying T=some (.int .u8)) (b:A.underlying P=some .string) :
 (convert U P (.slice (zp n) k m)).run A w=.ok (bs l) w:=by
  have e:l=k:=(by have:=h.1;rw[yD]at this;omega);subst e;exact run_convert_bytes_back w U P T (zp n) m l f c b (λj d=>by
   have:=h.cellAt j (by omega);rw[OK l j d]at this;have T:(Addr.mk n 0 none).add j=⟨n,j,none⟩:=by
    unfold Addr.add;by_cases a:j=0
    .subst a;rfl
    simp[a]
   rw[T];exact this)
def aC4(n:Nat)(a:Int)(b:1<=a)(c:a<=8):(qL n a)=a.toNat:=by unfold qL;rw[aQ (by omega),kT]
def o8(l:List bB):List bB:=if 65535<l.length then[]else be 2 l.length++l
def l5(l:List bB):Bool:=decide (2<=l.length/\num (l.take 2)<=l.length-2)
def oW(l:List bB):List bB:=if l5 l then(l.drop 2).take (num (l.take 2))else[]
def gL(l:List bB):List bB:=if l5 l then l.drop (2+num (l.take 2))else[]
def l4(a b:List bB):bs a++bs b=bs (a++b):=ByteArray.mk_append_mk a b
def eB(s:aT)(i j:Nat):s.extract i j=bs (((lb s).drop i).take (j-i)):=by apply ByteArray.ext;apply Array.toList_inj.1;simp[bs,lb,ByteArray.data_extract]
def Below.next{B:Nat}{a b w:aI}(c:aS B a b)(e:B<=a)(d:aS b b w):aS B a w:=
 c.trans (d.mono (aL e c.size))
def zA(a:List bB)(s:aT):bs a++s=bs (a++lb s):=by
 conv=>lhs;rw[<-BZ s]
 exact l4 a (lb s)
def bytesOf(a:List Int):List bB:=a.map (fun x=>UInt8.ofNat x.toNat)
def ZG(a:List Int)(h:∀x∈a,0<=x/\x<256):dS (bytesOf a)=a.map (Value.int .u8):=by
 unfold dS bytesOf;rw[C7];apply IQ;intro x b;have:=h x b;have e:(UInt8.ofNat x.toNat).toNat=x.toNat:=(by simp;omega);simp only[Function.comp_apply,e];congr 1;omega
def aM4(w:aI){T U P:cD}(a:List Int)(n:Nat)(C:Array aN)(c:C=(a.map (Value.int .u8)).toArray)(i:a=n)(h:∀x∈a,0<=x/\x<256)
 (f:n<=maxLen) (g:A.underlying U=some (.slice T)) (e:A.underlying T=some (.int .u8)) (d:A.underlying P=some .string) :
 (convert U P (.slice (zp w) n n)).run A (w.alloc (.cells C T))=.ok (bs (bytesOf a)) (w.alloc (.cells C T)):=by subst c;have b:=aP6 (e:=T) (size:=1) w (a.map (Value.int .u8)).toArray n gC f (by simp;omega);refine Z8 (base:=w.heap.size) (l:=bytesOf a) ?_ g e d;rw[ZG a h];simpa using b
def al5{P:Program}{e src dst:cD}(x:Int)(d:0<=x)(f:x<256)(c:P.underlying src=some (.slice e))(b:P.underlying e=some (.int .u8))(a:P.underlying dst=some .string)(w:aI):
 (convert src dst (.slice (zp w) 1 1)).run P (w.alloc (.cells #[.int .u8 x] e))=.ok (bs [UInt8.ofNat x.toNat]) (w.alloc (.cells #[.int .u8 x] e)):=
 aM4 w [x] 1 _ rfl rfl (by simp;omega) (by unfold maxLen;omega) c b a
def bD9{P:Program}{a:cD}(x y:Int)(e:0<=x)(f:x<256)(g:0<=y)(h:y<256)(d:P.underlying U=some (.slice T))(c:P.underlying T=some (.int .u8))(b:P.underlying a=some .string)(w:aI):
 (convert U a (.slice (zp w) 2 2)).run P (w.alloc (.cells #[.int .u8 x,.int .u8 y] T))=.ok (bs [UInt8.ofNat x.toNat,UInt8.ofNat y.toNat]) (w.alloc (.cells #[.int .u8 x,.int .u8 y] T)):=
 aM4 w [x,y] 2 _ rfl rfl (by simp;omega) (by unfold maxLen;omega) d c b
def cs4(n:Nat)(h:n<65536):be 2 n=[UInt8.ofNat (n/256),UInt8.ofNat (n%256)]:=by simp only[be,pD,kM];rw[show n/256%256=n/256 from by omega]
def bM3(s:aT)(h:¬s.size<2):oW (lb s)=if s-2<num ((lb s).take 2)then[]else((lb s).drop 2).take (num ((lb s).take 2)):=by
 unfold oW l5;rw[bN];by_cases a:s-2<num ((lb s).take 2)
 .rw[aU a,aQ (by simp;omega)]
 rw[aQ a,aU (by simp;omega)]
def bM2(s:aT)(h:¬s.size<2):gL (lb s)=if s-2<num ((lb s).take 2)then[]else(lb s).drop (2+num ((lb s).take 2)):=by
 unfold gL l5;rw[bN];by_cases a:s-2<num ((lb s).take 2)
 .rw[aU a,aQ (by simp;omega)]
 rw[aQ a,aU (by simp;omega)]
def bM1(s:aT)(h:¬s.size<2):l5 (lb s)=!decide (s-2<num ((lb s).take 2)):=by unfold l5;rw[bN];by_cases a:s-2<num ((lb s).take 2)<;>simp[a]<;>omega
@[simp,go_sem] def EY(l:List bB):(bs l).toList=l:=ByteArray.toList_mk l
def l3(s:aT):s.toList=lb s:=ByteArray.toList_eq s
def aJ(a:aS w w x)(b:aS x x y):aS w w y:=Below.next a gC b
def dK(a:aS n w x)(b:aS x x y)(c:n<=w):aS n w y:=Below.next a c b
variable{Q:List bB}
def yH(l:List bB)(h:l.length<=65535):o8 l=be 2 l.length++l:=by unfold o8;rw[aQ (by omega)]
def nS(l:List bB)(h:l.length<=65535):(o8 l).length=l.length+2:=by rw[yH l h,aP,kT];omega
def XR(l r:List bB)(h:l.length<=65535):num ((be 2 l.length++l++r).take 2)=l.length:=by
 have e:(be 2 l.length++l++r).take 2=be 2 l.length:=by rw[bV,gD (by simp)];exact aX (by simp)
 rw[e,JP];omega
def yM(l r:List bB)(h:l.length<=65535):l5 (o8 l++r)=true:=by rw[yH l h];unfold l5;rw[XR l r h];simp
def YX(l r:List bB):(be 2 l.length++l++r).drop 2=l++r:=by rw[bV];exact nK (by simp)
def NM(l r:List bB)(h:l.length<=65535):oW (o8 l++r)=l:=by unfold oW;rw[yM l r h,aU rfl,yH l h,XR l r h,YX];simp
def NL(l r:List bB)(h:l.length<=65535):gL (o8 l++r)=r:=by unfold gL;rw[yM l r h,aU rfl,yH l h,XR l r h,<-n6,YX];simp
def RS(h:l5 Q=true):o8 (oW Q)++gL Q=Q/\(oW Q).length<=65535:=by have a:=h;unfold l5 at a;rw[bH]at a;obtain⟨g,i⟩:=a;have e:(Q.take 2).length=2:=(by simp;omega);have j:num (Q.take 2)<256^2:=(by have:=DY (Q.take 2);rwa [e]at this);have d:oW Q=(Q.drop 2).take (num (Q.take 2)):=(by unfold oW;rw[h,aU rfl]);have f:gL Q=Q.drop (2+num (Q.take 2)):=(by unfold gL;rw[h,aU rfl]);have b:(oW Q).length=num (Q.take 2):=(by rw[d,bJ,fF];omega);have c:be 2 (num (Q.take 2))=Q.take 2:=(by have:=OM (Q.take 2);rwa [e]at this);refine⟨?_,by omega⟩;rw[yH _ (by omega),b,c,d,f,bV,<-n6,bY,bY]
def sT(s:List bB):(gL s).length<=s.length:=by
 unfold gL;split
 .simp
 simp
def FC(s:List bB):(oW s).length<=s.length:=by
 unfold oW;split
 .simp;omega
 simp
abbrev Ev:=aT×aT×Nat
def okV(e:Ev):Prop:=e.1.size<=Go.maxLen/\e.2.1.size<=Go.maxLen/\e.2.2<18446744073709551616
def jP(e:Ev):Int:=if e.1.size=0 then 2 else if 16<e.1.size\/200<e.2.1.size then 3 else 0
def JJ(e:Ev):List bB:=o8 (lb e.1)++(o8 (lb e.2.1)++be 8 e.2.2)
def mI(e:Ev):List bB:=if jP e=0 then JJ e else[]
def ev0:Ev:=(ByteArray.empty,ByteArray.empty,0)
def yT(s:List bB):List bB:=gL (gL s)
def MG(s:List bB):Ev:=(bs (oW s),bs (oW (gL s)),qA ((yT s).take 8))
def bT8(s:List bB):Bool:=l5 s&&l5 (gL s)&&decide (8<=(yT s).length)
def lU(s:List bB):Bool:=bT8 s&&decide (jP (MG s)=0)
def yL(s:List bB):Ev:=if lU s then MG s else ev0
def uQ(s:List bB):List bB:=if lU s then(yT s).drop 8 else[]
def yY{e:Ev}(h:jP e=0):0<e.1.size/\e.1.size<=16/\e.2.1.size<=200:=by
 unfold jP at h;by_cases a:e.1.size=0
 .rw[aU a]at h;omega
 rw[aQ a]at h;by_cases b:16<e.1.size\/200<e.2.1.size
 .rw[aU b]at h;omega
 omega
def TY{e:Ev}(a:e.1.size<=65535)(b:e.2.1.size<=65535):(JJ e).length=e.1.size+e.2.1.size+12:=by unfold JJ;rw[aP,aP,nS _ (by rw[bN];exact a),nS _ (by rw[bN];exact b),kT,bN,bN];omega
def aJ4(n:Nat)(h:n<18446744073709551616):qA (be 8 n)=n:=by unfold qA;rw[aX (by rw[kT];omega),JP];exact qB h
def aO6(l:List bB)(h:l.length=8):be 8 (qA l)=l:=by unfold qA;rw[aX (by omega)];have:=OM l;rwa [h]at this
def bR1{e:Ev}(c:e.1.size<=65535)(d:e.2.1.size<=65535)(r:List bB):
 l5 (JJ e++r)=true/\oW (JJ e++r)=lb e.1/\l5 (gL (JJ e++r))=true/\oW (gL (JJ e++r))=lb e.2.1/\yT (JJ e++r)=be 8 e.2.2++r:=by have a:(lb e.1).length<=65535:=(by rw[bN];exact c);have b:(lb e.2.1).length<=65535:=(by rw[bN];exact d);unfold yT JJ;rw[bV,bV,NL _ _ a,NM _ _ a,yM _ _ a,NL _ _ b,NM _ _ b,yM _ _ b];exact⟨rfl,rfl,rfl,rfl,rfl⟩
def bM5{e:Ev}(h:jP e=0)(b:e.2.2<18446744073709551616)(r:List bB):lU (mI e++r)=true/\yL (mI e++r)=e/\uQ (mI e++r)=r:=by
 obtain⟨l,m,n⟩:=yY h;obtain⟨f,g,i,j,a⟩:=bR1 (e:=e) (by omega) (by omega) r;have k:mI e=JJ e:=by unfold mI;rw[aU h]
 have d:MG (JJ e++r)=e:=by unfold MG;rw[g,j,a,BZ,BZ,tY (kT 8 _),aJ4 _ b]
 have c:lU (JJ e++r)=true:=by unfold lU bT8;rw[f,i,a,d,h];simp
 rw[k];refine⟨c,?_,?_⟩
 .unfold yL;rw[c,aU rfl,d]
 unfold uQ;rw[c,aU rfl,a,nK (kT 8 _)]
def bx4{s:List bB}(h:lU s=false):yL s=ev0/\uQ s=[]:=by unfold yL uQ;rw[h];exact⟨rfl,rfl⟩
def bL9(h:lU Q=true):jP (yL Q)=0/\mI (yL Q)++uQ Q=Q:=by have i:yL Q=MG Q:=(by unfold yL;rw[h,aU rfl]);have g:uQ Q=(yT Q).drop 8:=(by unfold uQ;rw[h,aU rfl]);have a:=h;unfold lU bT8 at a;simp only[bL,bH]at a;obtain⟨⟨⟨e,f⟩,l⟩,b⟩:=a;rw[i,g];refine⟨b,?_⟩;unfold mI;rw[aU b];unfold JJ MG;simp only[gF];obtain⟨c,j⟩:=RS e;obtain⟨d,k⟩:=RS f;rw[aO6 _ (by rw[bJ];omega),bV,bV,bY];unfold yT;rw[d,c]
def bk7(s:List bB)(d:s.length<=Go.maxLen):okV (MG s):=by have a:=FC s;have b:=FC (gL s);have c:=sT s;refine⟨by unfold MG;simp only[eK];omega,by unfold MG;simp only[eK];omega,?_⟩;exact ci2 _
def bO1(s:List bB)(a:s.length<=Go.maxLen):okV (yL s):=by
 unfold yL;split
 .exact bk7 s a
 exact⟨bO _,bO _,by decide⟩
def xS(e:Ev):(mI e).length<=300:=by
 unfold mI;split
 .next h=>
  obtain⟨a,b,c⟩:=yY h;rw[TY (by omega) (by omega)];omega
 simp
def SZ(s:Nat):Nat:=(s/2) ^^^ (if s%2=1 then 3988292384 else 0)
def VY:Nat->Nat->Nat
 |0,s=>s
 |k+1,s=>VY k (SZ s)
def QO(s c:Nat):Nat:=VY 8 (s ^^^ c)
def KO(s:Nat)(l:List bB):Nat:=l.foldl (fun s c=>QO s c.toNat) s
def GX(s:Nat):Nat:=4294967295-s
def cm9(s:Nat)(l:List bB):Nat:=GX (KO (GX s) l)
def ab0(l:List bB):Nat:=cm9 0 l
def al3(h:k<4294967296):SZ k<4294967296:=by unfold SZ;exact aw2 (n:=32) (by omega) (by split<;>omega)
def bH6(a:k<4294967296)(b:m<4294967296):k ^^^ m<4294967296:=aw2 (n:=32) a b
def bf1(k:Nat){n:Nat}(h:n<4294967296):VY k n<4294967296:=by
 induction k generalizing n with
 |zero=>exact h
 |succ k a=>exact a (al3 h)
def le:List bB->Nat
 |[]=>0
 |c::l=>c.toNat+256*le l
def ad4(s:Nat)(a b:List bB):KO s (a++b)=KO (KO s a) b:=by unfold KO;rw[lP]
def aM0(s:Nat)(a:List bB)(c:bB):KO s (a++[c])=QO (KO s a) c.toNat:=by rw[ad4];rfl
def bf0(h:n<4294967296)(a:k<256):QO n k<4294967296:=bf1 8 (bH6 h (by omega))
def bn2(s:Nat):GX s<4294967296:=by unfold GX;omega
def bT7(h:n<4294967296):GX n=n ^^^ 4294967295:=by
 unfold GX;apply Nat.eq_of_testBit_eq;intro i;rw[Nat.testBit_xor];have b:(4294967295:Nat)=2^32-1:=rfl;have c:(4294967295:Nat).testBit i=decide (i<32):=(by rw[b,Nat.testBit_two_pow_sub_one]);rw[c,show 4294967295-n=2^32-(n+1)from by omega,Nat.testBit_two_pow_sub_succ h];by_cases a:i<32
 .simp[a]
 have:n.testBit i=false:=Nat.testBit_lt_two_pow (aW h (gK (by omega) (by omega):2^32<=2^i));simp[a,this]
def bi9(l:List bB):ab0 l<4294967296:=bn2 _
def VI(n:Nat):List bB:=[UInt8.ofNat (n%256),UInt8.ofNat (n/256%256),UInt8.ofNat (n/65536%256),UInt8.ofNat (n/16777216%256)]
def kY(l:List bB):List bB:=l++VI (ab0 l)
def kP(l:List bB):Bool:=decide (4<=l.length)&&(VI (ab0 (l.take (l.length-4)))==l.drop (l.length-4))
def kV(l:List bB):List bB:=if kP l then l.take (l.length-4)else[]
def nT(l:List bB):(kY l).length=l.length+4:=by simp[kY,VI]
def aM1(x:Nat)(c:x<4294967296):
 bits BinOp.xor IntKind.u32 ((x:Int)/2) (bits BinOp.and IntKind.u32 3988292384 (-bits BinOp.and IntKind.u32 (x:Int) 1%4294967296))=((SZ x:Nat):Int):=by
  have b:bits BinOp.and IntKind.u32 (x:Int) 1=((x%2:Nat):Int):=by rw[show(1:Int)=((1:Nat):Int)from rfl,u32_and_nat x 1 c (by omega),nat_mask1]
  rw[b];unfold SZ;rw[show(x:Int)/2=((x/2:Nat):Int)from by omega];rcases Nat.mod_two_eq_zero_or_one x with h|h<;>rw[h]
  .have a:bits BinOp.and IntKind.u32 3988292384 (-((0:Nat):Int)%4294967296)=((0:Nat):Int):=(by rw[show(-((0:Nat):Int)%4294967296)=((0:Nat):Int)from rfl,show(3988292384:Int)=((3988292384:Nat):Int)from rfl,u32_and_nat _ _ (by omega) (by omega),Nat.and_zero]);rw[a,u32_xor_nat _ _ (by omega) (by omega)];rfl
  have a:bits BinOp.and IntKind.u32 3988292384 (-((1:Nat):Int)%4294967296)=((3988292384:Nat):Int):=by rw[show(-((1:Nat):Int)%4294967296)=((4294967295:Nat):Int)from rfl,show(3988292384:Int)=((3988292384:Nat):Int)from rfl,u32_and_nat _ _ (by omega) (by omega),nat_mask32]
  rw[a,u32_xor_nat _ _ (by omega) (by omega)];rfl
def aj7(n:Nat)(a:n<4294967296):bits BinOp.xor IntKind.u32 IntKind.u32.max (n:Int)=((GX n:Nat):Int):=by rw[show IntKind.u32.max=((4294967295:Nat):Int)from rfl,u32_xor_nat _ _ (by omega) a,bT7 a,Nat.xor_comm]
def jT(p:List bB):List bB:=kY (be 4 p.length++p)++be 4 p.length
def aX3(p:List bB):List bB:=if 2000<p.length then[]else jT p
def aX6(p:List bB):Int:=if 2000<p.length then 3 else 0
def mU(p:List bB):(jT p).length=p.length+12:=by unfold jT;rw[aP,nT];simp;omega
def kN(l:List bB)(a:Nat):Nat:=num ((l.drop a).take 4)
def bO6(l:List bB)(a:Nat):kN l a<4294967296:=by have h:=DY ((l.drop a).take 4);have:(256:Nat)^((l.drop a).take 4).length<=256^4:=gK (by omega) (by simp;omega);unfold kN;omega
def recAt(l:List bB)(a:Nat):Bool:=
 decide (a+12<=l.length)&&(decide (kN l a<=2000)&&(decide (a+kN l a+12<=l.length)&&((l.drop a).take (kN l a+12)==jT ((l.drop (a+4)).take (kN l a)))))
def SQ(l:List bB)(a:Int):Bool:=decide (0<=a)&&recAt l a.toNat
def gA(l:List bB)(a:Int):List bB:=if SQ l a then(l.drop (a.toNat+4)).take (kN l a.toNat)else[]
def gN(l:List bB)(a:Int):Nat:=if SQ l a then a.toNat+kN l a.toNat+12 else 0
def nU(h:recAt Q n=true):n+12<=Q.length/\kN Q n<=2000/\n+kN Q n+12<=Q.length:=by unfold recAt at h;simp only[bL,bH]at h;exact⟨h.1,h.2.1,h.2.2.1⟩
def aW8(l:List bB)(a n:Nat)(q:kN l a=n)(h:a+n+12<=l.length):
 (kP ((l.drop a).take (n+8))&&((l.drop (a+n+8)).take 4==(l.drop a).take 4))=((l.drop a).take (n+12)==jT ((l.drop (a+4)).take n)):=by
  have o:((l.drop a).take 4).length=4:=by simp;omega
  have c:be 4 n=(l.drop a).take 4:=by have:=OM ((l.drop a).take 4);rw[o]at this;rw[<-q];exact this
  have p:((l.drop (a+4)).take n).length=n:=by simp;omega
  have j:(l.drop a).take (n+8)=((l.drop a).take 4++(l.drop (a+4)).take n)++(l.drop (a+4+n)).take 4:=by rw[show n+8=(4+n)+4 from by omega,an0,an0,n6,n6];rw[fL a 4 n]
  have b:(l.drop a).take (n+12)=(l.drop a).take (n+8)++(l.drop (a+n+8)).take 4:=by rw[show n+12=(n+8)+4 from by omega,an0,n6,fL a n 8]
  have s:((l.drop (a+4+n)).take 4).length=4:=(by simp;omega);have d:((l.drop a).take (n+8)).length=n+8:=by simp;omega
  have e:kP ((l.drop a).take (n+8))=((l.drop a).take (n+8)==kY (be 4 n++(l.drop (a+4)).take n)):=by
   rw[c];unfold kP;rw[d,cJ (by omega:4<=n+8),fI,show n+8-4=n+4 from by omega];generalize (l.drop a).take 4=F at *;generalize (l.drop (a+4)).take n=P at *;generalize (l.drop (a+4+n)).take 4=T at *;rw[j];have f:(F++P++T).take (n+4)=F++P:=by rw[gD (by simp;omega)];exact aX (by simp;omega)
   have g:(F++P++T).drop (n+4)=T:=by have:(F++P).length=n+4:=(by simp;omega);rw[<-this,mB]
   rw[f,g];unfold kY;rw[j8,gG,gG];constructor
   .intro h;rw[h]
   intro h;exact(List.append_cancel_left h).symm
  have i:jT ((l.drop (a+4)).take n)=kY (be 4 n++(l.drop (a+4)).take n)++be 4 n:=(by unfold jT;rw[p]);rw[e,i,b,<-c];have r:(kY (be 4 n++(l.drop (a+4)).take n)).length=n+8:=(by rw[nT];simp;omega);generalize (l.drop a).take (n+8)=X at *;generalize kY (be 4 n++(l.drop (a+4)).take n)=Y at *;generalize (l.drop (a+n+8)).take 4=U at *;rw[j8,bL,gG,gG,gG];constructor
  .rintro ⟨k,m⟩;rw[k,m]
  intro h;have:=List.append_inj h (by omega);exact this
def bw6(l:List bB)(a n:Nat)(h:a+n+12<=l.length)(c:kP ((l.drop a).take (n+8))=true):(kV ((l.drop a).take (n+8))).drop 4=(l.drop (a+4)).take n:=by unfold kV;rw[c,aU rfl];have b:((l.drop a).take (n+8)).length=n+8:=(by simp;omega);rw[b,show n+8-4=n+4 from by omega,kJ,fQ (by omega),bY7,n6];rw[show n+4-4=n from by omega]
def qG(l:List bB):Nat->Nat->List Nat×Nat
 |0,a=>([],a)
 |k+1,a=>if recAt l a then((a::(qG l k (a+kN l a+12)).1),(qG l k (a+kN l a+12)).2)else([],a)
def wAt(l:List bB)(a:Int):List Nat:=if a<0\/(l.length:Int)<a then[]else(qG l l.length a.toNat).1
def P8(l:List bB)(a:Int):Nat:=if a<0\/(l.length:Int)<a then 0 else(qG l l.length a.toNat).2
def pI(h:recAt Q n=false)(k:Nat):qG Q k n=([],n):=by
 cases k with
 |zero=>rfl
 |succ k=>simp[qG,h]
def B8(h:recAt Q n=true)(k:Nat):qG Q (k+1) n=(n::(qG Q k (n+kN Q n+12)).1,(qG Q k (n+kN Q n+12)).2):=by rw[qG];exact aU h
def ax7(l:List bB):∀(k a:Nat),l.length<=k+a->qG l (k+1) a=qG l k a:=by
 intro k;induction k with
 |zero=>
  intro a h;have:recAt l a=false:=by
   rcases b:recAt l a with _|_
   .rfl
   have:=nU b;omega
  rw[pI this,pI this]
 |succ k c=>
  intro a h;by_cases b:recAt l a=true
  .rw[B8 b,B8 b,c _ (by omega)]
  have:recAt l a=false:=(by simpa using b);rw[pI this,pI this]
def RL(h:recAt Q n=true):qG Q Q.length n=(n::(qG Q Q.length (n+kN Q n+12)).1,(qG Q Q.length (n+kN Q n+12)).2):=by rw[<-ax7 Q Q.length n (by omega),B8 h]
def bO7(a b:List bB)(n:Nat)(h:n<4294967296):kN (a++(be 4 n++b)) a.length=n:=by unfold kN;rw[mB,gD (by simp),aX (by simp)];rw[JP];exact qB (by omega)
def aW7(p:List bB):∃c,c.length=4/\jT p=be 4 p.length++(p++(c++be 4 p.length)):=by
 refine⟨(kY (be 4 p.length++p)).drop (p.length+4),?_,?_⟩
 .rw[fF,nT];simp;try omega
 have h:kY (be 4 p.length++p)=(be 4 p.length++p)++(kY (be 4 p.length++p)).drop (p.length+4):=by
  conv=>lhs;rw[<-bY (p.length+4) (kY (be 4 p.length++p))]
  congr 1;unfold kY;rw[gD (by simp;omega)];exact aX (by simp;omega)
 show kY (be 4 p.length++p)++be 4 p.length=_;conv=>lhs;rw[h]
 simp only[bV]
def uF(a p b:List bB)(i:p.length<=2000):
 kN (a++(jT p++b)) a.length=p.length/\recAt (a++(jT p++b)) a.length=true/\((a++(jT p++b)).drop (a.length+4)).take p.length=p:=by
  obtain⟨c,h,g⟩:=aW7 p;have f:kN (a++(jT p++b)) a.length=p.length:=by rw[g,bV];exact bO7 _ _ _ (by omega)
  have d:((a++(jT p++b)).drop (a.length+4)).take p.length=p:=by
   rw[<-n6,mB,g];have:(be 4 p.length).length=4:=(by simp);rw[bV];conv=>lhs;arg 2;arg 1;rw[<-this]
   rw[mB,bV,lZ]
  refine⟨f,?_,d⟩;unfold recAt;rw[f,d,mB];have e:(jT p).length=p.length+12:=mU p;rw[<-e,lZ];simp only[aP,e];rw[cJ (by omega),cJ (by omega),cJ (by omega)];simp
def QI(a p b:List bB)(c:p.length<=2000):SQ (a++(jT p++b)) (a.length:Int)=true:=by unfold SQ;rw[cJ (by omega),fI,cB];exact(uF a p b c).2.1
def bn0(a p b:List bB)(c:p.length<=2000):gA (a++(jT p++b)) (a.length:Int)=p:=by unfold gA;rw[QI a p b c,aU rfl,cB,(uF a p b c).1];exact(uF a p b c).2.2
def ci5(a p b:List bB)(c:p.length<=2000):gN (a++(jT p++b)) (a.length:Int)=a.length+p.length+12:=by unfold gN;rw[QI a p b c,aU rfl,cB,(uF a p b c).1]
def rT(a:List bB)(b:List (List bB)):List bB:=a++(b.map jT).flatten
def aA4(a:List bB):rT a []=a:=by simp[rT]
def LL(a:List bB)(b:List (List bB))(p:List bB):rT a (b++[p])=rT a b++jT p:=by simp[rT]
def GH(a:List bB)(b:List (List bB))(i:Nat)(h:i<b.length):rT a b=rT a (b.take i)++(jT b[i]++((b.drop (i+1)).map jT).flatten):=by
 have e:b=b.take i++(b[i]::b.drop (i+1)):=by rw[gH,bY]
 conv=>lhs;rw[e]
 simp only[rT,iJ,dN,iU,gP,bV]
def iO(a:List bB)(b:List (List bB))(i:Nat):Nat:=(rT a (b.take i)).length
def rowAt(a:List bB)(b:List (List bB)):List Nat:=(List.range (b.length+1)).map (iO a b)
@[simp] def cg7(a:List bB)(b:List (List bB)):(rowAt a b).length=b.length+1:=by simp[rowAt]
def bs7(a:List bB)(b:List (List bB))(i:Nat)(h:i<(rowAt a b).length):(rowAt a b)[i]=iO a b i:=by simp[rowAt]
def ah6(a:List bB)(b:List (List bB)):iO a b 0=a.length:=by simp[iO,rT]
def BH(a:List bB)(b:List (List bB)):iO a b b.length=(rT a b).length:=by simp[iO]
def uT(a:List bB)(ps:List (List bB))(i:Nat)(h:i<ps.length):iO a ps (i+1)=iO a ps i+ps[i].length+12:=by unfold iO;rw[jC h,LL,aP,mU];omega
def S9(a:List bB)(b:List (List bB))(p:List bB)(i:Nat)(h:i<=b.length):iO a (b++[p]) i=iO a b i:=by unfold iO;rw[gD h]
def AH(a:List bB)(b:List (List bB))(i:Nat):iO a b i<=(rT a b).length:=by
 by_cases h:i<b.length
 .rw[GH a b i h];unfold iO;simp only[aP];omega
 unfold iO;rw[aX (by omega)];exact aO _
def ah7(a:List bB)(b:List (List bB))(i:Nat):iO a b i<=iO a b (i+1):=by
 by_cases h:i<b.length
 .rw[uT a b i h];omega
 unfold iO;rw[aX (by omega),aX (by omega)];exact aO _
def PS(a:List bB)(b:List (List bB)):∀i,a.length<=iO a b i:=by intro i;unfold iO rT;simp
def cs0(a:List bB)(b:List (List bB))(k i:Nat)(h:i<b.length)(c:b[i].length<=2000)(f:iO a b (i+1)<=k):
 recAt ((rT a b).take k) (iO a b i)=true/\kN ((rT a b).take k) (iO a b i)=b[i].length:=by
  have d:=uT a b i h;have e:(rT a b).take k=rT a (b.take i)++(jT b[i]++(((b.drop (i+1)).map jT).flatten.take (k-iO a b (i+1)))):=by
   rw[GH a b i h,RF,aX (by show iO a b i<=k;omega),RF,aX (l:=jT b[i]) (by rw[mU];show _<=k-iO a b i;omega)];congr 3;rw[mU,d];show k-iO a b i-_=_;omega
  rw[e];exact⟨(uF (rT a (b.take i)) b[i] _ c).2.1,(uF (rT a (b.take i)) b[i] _ c).1⟩
def bW2(a:List bB)(b:List (List bB))(k i:Nat)(o:i<=b.length)(m:∀p∈b,p.length<=2000)(e:iO a b i<=k)(f:i<b.length->k<iO a b (i+1))(q:k<=(rT a b).length):
 recAt ((rT a b).take k) (iO a b i)=false:=by
  rcases n:recAt ((rT a b).take k) (iO a b i)with _|_
  .rfl
  exfalso;have d:=nU n;have l:((rT a b).take k).length=k:=(by simp;omega);rw[l]at d;by_cases h:i<b.length
  .have s:=uT a b i h;have g:=f h;have c:=m b[i] (cY h);have r:kN ((rT a b).take k) (iO a b i)=b[i].length:=by
    have j:((rT a b).drop (iO a b i)).take 4=(((rT a b).take k).drop (iO a b i)).take 4:=(by rw[bY7,kJ,fQ (by omega)]);unfold kN;rw[<-j];have:=(uF (rT a (b.take i)) b[i] (((b.drop (i+1)).map jT).flatten) c).1;rwa[<-GH a b i h]at this
   omega
  have:i=b.length:=(by omega);subst this;rw[BH]at d e;omega
def al1(a:List bB)(c:List (List bB))(k b:Nat)(y:b<=c.length)(s:∀p∈c,p.length<=2000)(o:iO a c b<=k)(v:b<c.length->k<iO a c (b+1))(x:k<=(rT a c).length):
 wAt ((rT a c).take k) (a.length:Int)=(rowAt a c).take b/\P8 ((rT a c).take k) (a.length:Int)=iO a c b:=by
  have r:((rT a c).take k).length=k:=by simp;omega
  have m:∀j,j<=b->qG ((rT a c).take k) k (iO a c (b-j))=(((rowAt a c).take b).drop (b-j),iO a c b):=by
   intro j;induction j with
   |zero=>intro _;rw[tG,pI (bW2 a c k b y s o v x),kB (by simp;omega)]
   |succ j l=>
    intro z;have e:b-(j+1)<c.length:=(by omega);have g:∀d i,iO a c i<=iO a c (i+d):=by
     intro d;induction d with
     |zero=>intro i;exact aO _
     |succ d l=>intro i;exact aL (l i) (ah7 a c (i+d))
    have h:iO a c (b-(j+1)+1)<=k:=by have:=g j (b-(j+1)+1);rw[show b-(j+1)+1+j=b from by omega]at this;omega
    obtain⟨t,u⟩:=cs0 a c k (b - (j+1)) e (s _ (cY e)) h;have q:=RL t;rw[r,u,<-uT a c _ e,show b-(j+1)+1=b-j from by omega,l (by omega)]at q;rw[q];have f:b-(j+1)<((rowAt a c).take b).length:=(by simp;omega);rw[<-gH f,rG,bs7,show b-(j+1)+1=b-j from by omega]
  have n:=m b (aO _);rw[gM,ah6,mA]at n;have w:a.length<=k:=aL (PS a c b) o;unfold wAt P8;rw[r,aQ (by omega),aQ (by omega),cB,n];exact⟨rfl,rfl⟩
def eM(n:Int):List bB:=if n<0\/199<n then[]else kY ([99,104,110,107]++be 4 n.toNat)
def YH(h:e<0\/199<e):eM e=[]:=aU h
def aj5(h:n<=199):eM (n:Int)=kY ([99,104,110,107]++be 4 n):=by unfold eM;rw[aQ (by omega)];rfl
def jO{n:Nat}(h:n<=199):(eM (n:Int)).length=12:=by rw[aj5 h,nT];simp
def pre(a b:List bB):Bool:=decide (b.length<=a.length)&&(a.take b.length==b)
def US(l:List bB)(n:Int):Bool:=(eM n != [])&&pre l (eM n)
def cOk(l:List bB)(n:Int):Bool:=(eM n != [])&&(pre l (eM n)||pre (eM n) l)
def cAt(l:List bB)(n:Int):List Nat:=if US l n then wAt l 12 else[]
def ad8(l:List bB)(n:Int):Nat:=if US l n then P8 l 12 else 0
def xB(n:Int)(k:Nat):Bool:=decide (0<=n/\n<=4096/\k<=2000/\n+k+12<=4096)
variable{l:List Ev}
abbrev kK:=aT×Int×List Ev
def okB(b:kK):Prop:=b.1.size<=Go.maxLen/\(-9223372036854775808<=b.2.1/\b.2.1<=9223372036854775807)/\∀e∈b.2.2,okV e
def AR:List Ev->Int
 |[]=>0
 |e::l=>if jP e=0 then AR l else jP e
def eF(b:kK):Int:=
 if b.1.size=0\/b.2.2.length=0 then 2 else if 32<b.1.size\/8<b.2.2.length then 3
 else if b.2.1<0\/1073741824-(b.2.2.length:Int)<b.2.1 then 2 else AR b.2.2
def UY(a b:List Ev):AR (a++b)=if AR a=0 then AR b else AR a:=by
 induction a with
 |nil=>rfl
 |cons e a d=>
  have c:∀l:List Ev,AR (e::l)=if jP e=0 then AR l else jP e:=λ_=>rfl;rw[kM,c,c];by_cases h:jP e=0
  .simp only[h,eE];exact d
  simp only[h,dP]
def am3{e:Ev}(c:AR (l.take n)=0)(h:l[n]?=e):(jP e=0->AR (l.take (n+1))=0)/\(jP e≠0->AR l=jP e):=by
 constructor
 .intro b;rw[dQ,h,UY,aU c];simp[AR,b]
 intro b;have a:n<l:=(aR.1 h).1;have d:l=l.take n++e::l.drop (n+1):=by
  have:l.drop n=e::l.drop (n+1):=by rw[gO a];rw[aK a,vD]at h;rw[h]
  rw[<-this,bY]
 rw[d,UY,aU c];simp[AR,b]
def bF2(h:AR l=0):∀e∈l,jP e=0:=by
 induction l with
 |nil=>simp
 |cons e l c=>
  unfold AR at h;by_cases a:jP e=0
  .rw[aU a]at h;intro x b;rcases cX.1 b with rfl|b
   .exact a
   exact c h x b
  rw[aQ a]at h;exact absurd h a
def iM{b:kK}(h:eF b=0):0<b.1.size/\b.1.size<=32/\0<b.2.2.length/\b.2.2.length<=8/\0<=b.2.1/\b.2.1<=1073741824-(b.2.2:Int)/\∀e∈b.2.2,jP e=0:=by
 unfold eF at h;split at h
 .omega
 split at h
 .omega
 split at h
 .omega
 exact⟨by omega,by omega,by omega,by omega,by omega,by omega,bF2 h⟩
def qJ(l:List Ev):List bB:=l.flatMap mI
def aj6(b:kK):List bB:=o8 (lb b.1)++(be 8 b.2.1.toNat++[UInt8.ofNat b.2.2.length])
def vH(b:kK):List bB:=aj6 b++qJ b.2.2
def iT(b:kK):List bB:=if eF b=0 then vH b else[]
def ak2{e:Ev}(h:l[n]?=e):qJ (l.take (n+1))=qJ (l.take n)++mI e:=by unfold qJ;rw[dQ,h,dU];simp
def aK6{l:List Ev}(n:Nat)(h:l<=n):(qJ l)<=n*300:=by
 induction l generalizing n with
 |nil=>simp[qJ]
 |cons e l b=>have c:=xS e;have a:=b (n-1) (by simp at h;omega);unfold qJ at a|-;rw[eC,aP];simp at h;omega
def bC2(h:∀e∈l,jP e=0):(qJ l).length<=l*228:=by
 induction l with
 |nil=>simp[qJ]
 |cons e l c=>
  have a:=c λx b=>h x (by simp[b]);have⟨d,f,g⟩:=yY (h e (by simp));have i:(mI e).length<=228:=by unfold mI;rw[aU (h e (by simp)),TY (by omega) (by omega)];omega
  unfold qJ at a|-;rw[eC,aP,cF];omega
def aC6{b:kK}(h:eF b=0):0<(iT b).length/\(iT b).length<=2000:=by have⟨c,d,e,f,g,i,a⟩:=iM h;have j:=bC2 a;unfold iT vH aj6;rw[aU h,aP,aP,aP,kT,nS _ (by rw[bN];omega),bN];simp only[uL];omega
def vJ:Nat->List bB->List bB
 |0,r=>r
 |k+1,r=>uQ (vJ k r)
def BP:Nat->List bB->List Ev
 |0,_=>[]
 |k+1,r=>BP k r++[yL (vJ k r)]
def tU:Nat->List bB->Bool
 |0,_=>true
 |k+1,r=>tU k r&&lU (vJ k r)
def UI(k:Nat)(r:List bB):(BP k r)=k:=by
 induction k with
 |zero=>rfl
 |succ k a=>rw[BP,aP,a];rfl
def bt0(s:List bB):(uQ s).length<=s:=by
 unfold uQ;split
 .have a:=sT s;have b:=sT (gL s);unfold yT;rw[fF];omega
 simp
def aK5(k:Nat)(r:List bB):(vJ k r).length<=r:=by
 induction k with
 |zero=>exact aO _
 |succ k a=>rw[vJ];have:=bt0 (vJ k r);omega
def ce5(k:Nat)(r:List bB)(b:r<=Go.maxLen):∀e∈BP k r,okV e:=by
 induction k with
 |zero=>simp[BP]
 |succ k c=>
  intro e a;rw[BP]at a;rcases cE.1 a with h|h
  .exact c e h
  rw[bT.1 h];exact bO1 _ (aL (aK5 k r) b)
def bU1(k:Nat)(r:List bB)(h:tU k r=true):qJ (BP k r)++vJ k r=r/\∀e∈BP k r,jP e=0:=by
 induction k with
 |zero=>simp[BP,vJ,qJ]
 |succ k g=>
  rw[tU,bL]at h;have⟨a,f⟩:=g h.1;have⟨c,d⟩:=bL9 h.2;refine⟨?_,λe b=>?_⟩
  .rw[BP,vJ];unfold qJ at a|-;rw[dU];simp only[eC,List.flatMap_nil,fU];rw[bV,d,a]
  rw[BP]at b;rcases cE.1 b with h|h
  .exact f e h
  rw[bT.1 h];exact c
def bU0(h:tU k Q=true)(c:n<=k):tU n Q=true:=by
 induction k with
 |zero=>obtain rfl:n=0:=(by omega);rfl
 |succ k b=>
  rw[tU,bL]at h;rcases cR n (k+1)with a|a
  .exact b h.1 (by omega)
  obtain rfl:n=k+1:=(by omega);rw[tU,h.1,h.2];rfl
def ci9(l:List Ev)(z:List bB)(h:∀e∈l,jP e=0)(i:∀e∈l,okV e):∀k,k<=l.length->tU k (qJ l++z)=true/\BP k (qJ l++z)=l.take k/\vJ k (qJ l++z)=qJ (l.drop k)++z:=by
 intro k;induction k with
 |zero=>intro _;simp[tU,BP,vJ]
 |succ k j=>
  intro p;have⟨b,c,d⟩:=j (by omega);have a:k<l:=(by omega);have g:l.drop k=l[k]::l.drop (k+1):=gO a;have f:qJ (l.drop k)++z=mI l[k]++(qJ (l.drop (k+1))++z):=by rw[g];unfold qJ;rw[eC,bV]
  have⟨m,n,o⟩:=bM5 (h _ (cY a)) (i _ (cY a)).2.2 (qJ (l.drop (k+1))++z);rw[tU,BP,vJ,b,c,d,f,m,n,o];exact⟨rfl,by rw[dQ,aK a];rfl,rfl⟩
def oS(s:List bB):Bool:=l5 s&&decide (9<=(gL s).length)&&decide (qA ((gL s).take 8)<=1073741824)
def sJ(s:List bB):Nat:=(((gL s)[8]?).getD 0).toNat
def rW(s:List bB):List bB:=(gL s).drop 9
def IW(s:List bB):kK:=(bs (oW s),((qA ((gL s).take 8):Nat):Int),BP (sJ s) (rW s))
def qN(s:List bB):Bool:=oS s&&tU (sJ s) (rW s)&&(vJ (sJ s) (rW s)==[])&&decide (eF (IW s)=0)
def cr6(s:List bB):Bool:=oS s&&tU (sJ s) (rW s)&&decide (eF (IW s)=0)&&(iT (IW s)==s)
def bd4(h:oS Q=true)(f:tU (sJ Q) (rW Q)=true):vH (IW Q)++vJ (sJ Q) (rW Q)=Q:=by unfold oS at h;simp only[bL,bH]at h;obtain⟨⟨c,k⟩,l⟩:=h;have⟨b,j⟩:=bU1 _ _ f;obtain⟨i,-⟩:=RS c;have a:((gL Q).take 8).length=8:=(by rw[bJ];omega);have d:(gL Q)[8]?=some (gL Q)[8]:=aK (by omega);have g:UInt8.ofNat (sJ Q)=(gL Q)[8]:=(by unfold sJ;rw[d];simp);have e:(gL Q).drop 8=(gL Q)[8]::(gL Q).drop 9:=gO (by omega);unfold vH aj6 IW;simp only[gF,cB,UI];rw[aO6 _ a,g,bV,bV,bV,b];unfold rW;rw[List.singleton_append,<-e,bY,i]
def bK3(s:List bB):cr6 s=qN s:=by
 unfold cr6 qN;rcases c:oS s with _|_
 .simp
 rcases d:tU (sJ s) (rW s)with _|_
 .simp
 simp only[fI];by_cases a:eF (IW s)=0
 .rw[cJ a,fI,cl9];have b:=bd4 c d;have f:iT (IW s)=vH (IW s):=(by unfold iT;rw[aU a]);rw[f,j8,gG,gG];constructor
  .intro h;have:=b.trans h.symm;have e:=gQ List.length this;rw[aP]at e;exact gW (by omega)
  intro h;rwa[h,fU]at b
 rw[cC a];simp
def kW(s:List bB):kK:=if qN s then IW s else(ByteArray.empty,0,[])
def OO(s:List bB):Int:=if qN s then 0 else 10
def ap2{b:kK}(h:eF b=0)(p:okB b)(z:List bB):oS (vH b++z)=true/\tU (sJ (vH b++z)) (rW (vH b++z))=true/\IW (vH b++z)=b/\vJ (sJ (vH b++z)) (rW (vH b++z))=z:=by
 have⟨u,v,w,A,i,B,k⟩:=iM h;have⟨C,D,q⟩:=p;have g:(lb b.1).length<=65535:=by rw[bN];omega
 have c:vH b++z=o8 (lb b.1)++(be 8 b.2.1.toNat++([UInt8.ofNat b.2.2]++(qJ b.2.2++z))):=by unfold vH aj6;simp only[bV]
 have e:l5 (vH b++z)=true:=(by rw[c];exact yM _ _ g);have n:oW (vH b++z)=lb b.1:=(by rw[c];exact NM _ _ g);have a:gL (vH b++z)=be 8 b.2.1.toNat++([UInt8.ofNat b.2.2]++(qJ b.2.2++z)):=(by rw[c];exact NL _ _ g);have m:(gL (vH b++z)).take 8=be 8 b.2.1.toNat:=(by rw[a];exact tY (kT 8 _));have j:qA ((gL (vH b++z)).take 8)=b.2.1.toNat:=by rw[m];exact aJ4 _ (by omega)
 have d:sJ (vH b++z)=b.2.2:=by unfold sJ;rw[a,eA (by rw[kT];exact aO _),kT];simp;omega
 have f:rW (vH b++z)=qJ b.2.2++z:=by unfold rW;rw[a,<-bV,nK (by rw[aP,kT];rfl)]
 have⟨r,s,t⟩:=ci9 b.2.2 z k q b.2.2 gC;have o:9<=(gL (vH b++z)).length:=by rw[a,aP,aP,kT,uL];omega
 refine⟨?_,by rw[d,f];exact r,?_,by rw[d,f,t];simp[qJ]⟩
 .unfold oS;rw[e,j,cJ o,cJ (by omega)];rfl
 unfold IW;rw[n,j,d,f,s,eQ,BZ];have⟨x,y,l⟩:=b;simp only[]at i|-;rw[Int.toNat_of_nonneg i]
def WX{b:kK}(h:eF b=0)(f:okB b)(z:List bB):qN (iT b++z)=(z==[]):=by have g:iT b=vH b:=(by unfold iT;rw[aU h]);have⟨a,c,d,e⟩:=ap2 h f z;unfold qN;rw[g,a,c,d,e,h];simp
def as1{b:kK}(h:eF b=0)(c:okB b):kW (iT b)=b/\OO (iT b)=0:=by have d:=WX h c [];rw[fU]at d;have e:iT b=vH b:=(by unfold iT;rw[aU h]);obtain⟨-,-,a,-⟩:=ap2 h c [];rw[fU]at a;unfold kW OO;rw[d];exact⟨by rw[aU (by rfl),e];exact a,rfl⟩
def FH(h:qN Q=true):eF (kW Q)=0/\iT (kW Q)=Q:=by have b:kW Q=IW Q:=(by unfold kW;rw[h,aU rfl]);have a:=bK3 Q;rw[h]at a;unfold cr6 at a;simp only[bL,bH,gG]at a;rw[b];exact⟨a.1.2,a.2⟩
variable{a:Act}{t:List Bool}{b o:Oper}
def DU(l:List Oper):Bool:=l.all fun o=>o.guard.isNone
def JK{l:List Oper}(h:DU l=true){o:Oper}(a:o∈l):o.guard=none:=by have:=dL.1 h o a;simpa using this
def AF(h:o.guard=none)(a:Array Oper)(t:Array aN):Region.wanted o (yielded a t)=true:=by unfold Region.wanted;rw[h]
def KP(b:Region.Mode)(l:List Oper)(a:Oper):Bool:=
 ((List.range l.length).all fun i=>((l[i]?).map fun o=>o.after.all fun e=>!Region.binds b e||decide (e.on<i)).getD false) &&
 (a.after.all fun e=>!Region.binds b e||decide (e.on<l.length)) &&
 ((List.range l.length).all fun i=>(a.after.any fun e=>Region.binds b e&&(e.on==i))||(List.range l.length).any fun j=>decide (i<j)&&((l[j]?).map fun o=>o.after.any fun e=>Region.binds b e&&(e.on==i)).getD false)
structure bZ1(b:Region.Mode)(l:List Oper)(a:Oper):Prop where
 early:∀(i:Nat) o,l[i]?=some o->∀e∈o.after,Region.binds b e=true->e.on<i
 aj1:∀e∈a.after,Region.binds b e=true->e.on<l.length
 used:∀i,i<l.length->(∃e∈a.after,Region.binds b e=true/\e.on=i)\/∃j o,i<j/\l[j]?=some o/\∃e∈o.after,Region.binds b e=true/\e.on=i
def UR{n:Region.Mode}{l:List Oper}{a:Oper}(h:KP n l a=true):bZ1 n l a:=by
 unfold KP at h;rw[bL,bL]at h;obtain⟨⟨p,m⟩,q⟩:=h;refine⟨λi o b e d c=>?_,λe d c=>?_,λi f=>?_⟩
 .have f:i<l.length:=(aR.1 b).1;have:=dL.1 p i (gB.2 f);rw[b]at this;simp only[tX,nW,aR3]at this;have:=this e d;rw[c]at this;simpa using this
 .simp only[aR3]at m;have:=m e d;rw[c]at this;simpa using this
 have:=dL.1 q i (gB.2 f);rw[zJ]at this;rcases this with h|h
 .left;have⟨x,k,h⟩:=Array.any_eq_true.1 h;rw[bL,gG]at h;exact⟨_,Array.getElem_mem k,h.1,h.2⟩
 right;rw[List.any_eq_true]at h;have⟨j,r,h⟩:=h;rw[bL,bH]at h;have⟨g,h⟩:=h;rcases b:l[j]? with _|o
 .rw[b]at h;simp at h
 rw[b]at h;simp only[tX,nW]at h;have⟨x,k,h⟩:=Array.any_eq_true.1 h;rw[bL,gG]at h;exact⟨j,o,g,b,_,Array.getElem_mem k,h.1,h.2⟩
def bi3(a:Region.Mode)(l:List Oper)(t:List Bool):Prop:=∀(i:Nat) o,l[i]?=some o->t.getD i false=true->∀e∈o.after,Region.binds a e=true->t.getD e.on false=true
def OC(h:n<t)(a b:Bool):t.getD n a=t.getD n b:=by rw[b8,b8,aK h];rfl
def bh4{m:Region.Mode}{l:List Oper}{a:Oper}(r:bZ1 m l a){t:List Bool}(f:bi3 m l t)(h:∀e∈a.after,Region.binds m e=true->t.getD e.on false=true):∀i,i<l.length->t.getD i false=true:=by
 have:∀d i,i+d=l.length->∀j,i<=j->j<l.length->t.getD j false=true:=by
  intro d;induction d with
  |zero=>intro i k j n b;omega
  |succ d q=>
   intro i k j n b;rcases nX n with rfl|u
   .rcases r.used i b with⟨e,g,c,rfl⟩|⟨j,o,s,p,e,g,c,rfl⟩
    .exact h e g c
    exact f j o p (q (e.on+1) (by omega) j (by omega) (aR.1 p).1) e g c
   exact q (i+1) (by omega) j (by omega) b
 exact λi k=>this l 0 (by omega) i (bO _) k
def sZ(h:n<t)(b d:Bool):(t++[b]).toArray.getD n d=t.getD n d:=by simp[vG,b8,eY h]
def aJ6(d:Bool):t.toArray.getD n d=t.getD n d:=by simp[vG,b8]
def ag2(c:n<t)(h:t.getD n true=false):(t.set n true).count false+1=t.count false:=by have d:t[n]=false:=(by rwa[b8,aK c]at h);have f:=List.count_set (a:=true) (b:=false) c;have e:0<t.count false:=zW.2 (d▸cY c);rw[f,d];simp;omega
section
variable {P:Program}
def tR(P:Program)(ops:Array Oper)(last:Oper)(Q:Exit->Act->aI->Prop):Exit->Act->aI->Prop
 |.normal,a,w=>wpList P ops Q [last] a w
 |e,a,w=>Q e a w
def Q9{c:Array Oper}{Q:Exit->Act->aI->Prop}(h:LetsOut (tR P c b Q)):LetsOut Q:=by have⟨a,w,h⟩:=h;exact⟨a,w,h⟩
def bz9{d:Array Oper}{Q:Exit->Act->aI->Prop}{K:Act->aI->Prop}(h:o.wp P a w K (tR P d b Q)):o.wp P a w K Q:=by
 unfold Oper.wp at *;generalize (execOp a.eval o).run P w=f at h|-;rcases f with⟨x,g⟩|⟨x,g⟩
 .cases x<;>simp only[Oper.upon]at h|-
  all_goals first
   |exact h
   |exact h.mono λe i c=>by
    cases e
    .exact c
    .exact c
    exact Q9 c
 cases x<;>simp only[Oper.upon]at h|-
 all_goals exact h
def aP0{A:Region.Mode}{l:List Oper}{Q:Exit->Act->aI->Prop}(hb:DU (l++[b])=true)(E:bZ1 A l b):∀(g:Nat)(t:List Bool)(a:Act)(w:aI),t.length=l->t.count false=g->bi3 A l t->
 wpAny P A l.toArray (tR P (l++[b]).toArray b Q) g t.toArray a w->wpAny P A (l++[b]).toArray Q (g+1) (t++[false]).toArray a w:=by
  intro g;have r:(l++[b]).toArray[l.length]?=some b:=(by simp);have v:∀i,i<l.length->(l++[b]).toArray[i]?=l[i]?:=λi m=>by simp[eY m]
  induction g with
  |zero=>
   intro t a w S I B h;have k:∀i,i<l.length->∀d,t.getD i d=true:=by
    intro i m d;rw[OC (by omega) d true];rcases G:t.getD i true with _|_
    .exfalso;have:=ag2 (by omega) G;omega
    rfl
   have f:=h.2;unfold tR at f;simp only[]at f;refine⟨λV=>?_,λi m=>?_⟩
   .exfalso;have:l.length∈Region.ready A (l++[b]).toArray (t++[false]).toArray:=by
     rw[mem_ready];refine⟨?_,b,r,λe n c=>?_⟩
     .simp[vG,<-S]
     have:=E.aj1 e n c;rw[sZ (by omega)];exact k _ this _
    rw[V]at this;cases this
   obtain⟨p,o,s,-⟩:=mem_ready.1 m;have q:i=l.length:=by
    rcases C5 i l.length with h|h|h
    .rw[sZ (by omega)]at p;rw[k i h]at p;cases p
    .exact h
    have:(l++[b]).toArray[i]?=none:=(by simp;omega);rw[this]at s;cases s
   subst q;unfold wpOp;simp only[r];have U:=JK hb (DO l (bT.2 rfl));rw[aU (AF U _ _)];unfold wpList at f;rw[aU (AF U _ _)]at f;rcases f with f|f
   .refine .inl (Oper.wp_mono (λa w h=>⟨?_,h⟩) f);rw[List.eq_nil_iff_forall_not_mem];intro j L;obtain⟨u,o',y,-⟩:=mem_ready.1 L;have x:(t++[false]).toArray.setIfInBounds l.length true=(t++[true]).toArray:=by rw[mZ,jR _ _ (by omega),S,gM];rfl
    rw[x]at u;rcases C5 j l.length with h|h|h
    .rw[sZ (by omega)]at u;rw[k j h]at u;cases u
    .subst h;simp[vG,<-S]at u
    have:(l++[b]).toArray[j]?=none:=(by simp;omega);rw[this]at y;cases y
   exact .inr f
  |succ g ih=>
   intro t a w S I B h;have K:∃i,i<l.length/\t.getD i true=false:=by
    have R:0<t.count false:=(by omega);have⟨i,m,n⟩:=eS (zW.1 R);exact⟨i,by omega,by rw[b8,aK m,nW];exact n⟩
   refine⟨λV=>?_,λi m=>?_⟩
   .exfalso;have O:∃i,i<l.length/\t.getD i true=false/\∀j,j<i->t.getD j true=true:=by
     have⟨i,m,F⟩:=K;induction i using Nat.strongRecOn with
     |ind i h3=>
      by_cases G:∃j,j<i/\t.getD j true=false
      .have⟨j,L,Y⟩:=G;exact h3 j L (by omega) Y
      refine⟨i,m,F,λj L=>?_⟩;rcases hy:t.getD j true with _|_
      .exact absurd ⟨j,L,hy⟩ G
      rfl
    have⟨i,m,F,X⟩:=O;have:i∈Region.ready A (l++[b]).toArray (t++[false]).toArray:=by rw[mem_ready];refine⟨by rw[sZ (by omega)];exact F,l[i],by rw[v i m,aK m],λe n c=>?_⟩;have W:=E.early i l[i] (aK m) e n c;rw[sZ (by omega),OC (by omega) false true];exact X _ W
    rw[V]at this;cases this
   have⟨p,o,s,k⟩:=mem_ready.1 m;rcases C5 i l.length with q|q|q
   .rw[v i q]at s;rw[sZ (by omega)]at p;have hr:i∈Region.ready A l.toArray t.toArray:=by rw[mem_ready];refine⟨by rw[aJ6];exact p,o,by simpa using s,λe n c=>?_⟩;have W:=E.early i o s e n c;have f:=k e n c;rw[sZ (by omega)]at f;rw[aJ6];exact f
    have f:=h.2 i hr;unfold wpOp at f|-;have y:l.toArray[i]?=some o:=(by simpa using s);have Z:(l++[b]).toArray[i]?=some o:=(by rw[v i q];exact s);simp only[Z];simp only[y]at f;have U:=JK hb (rF [b] (bD s));rw[aU (AF U _ _)]at f|-;have x:(t++[false]).toArray.setIfInBounds i true=(t.set i true++[false]).toArray:=(by rw[mZ,cx0 _ _ (by omega)]);have D:t.toArray.setIfInBounds i true=(t.set i true).toArray:=(by rw[mZ]);rw[x];rw[D]at f;have H:bi3 A l (t.set i true):=by
     intro j oj z N e n c;have h4:=E.early j oj z e n c;have h5:=(aR.1 z).1;have T:t.getD e.on false=true->(t.set i true).getD e.on false=true:=λG=>by
      by_cases J:e.on=i
      .rw[J,b8,gI (by omega)];rfl
      rw[b8,jD (Ne.symm J),<-b8];exact G
     by_cases M:j=i
     .subst M;rw[z]at s;cases s;have f:=k e n c;rw[sZ (by omega)]at f;exact T f
     rw[b8,jD (Ne.symm M),<-b8]at N;exact T (B j oj z N e n c)
    have C:(t.set i true).count false=g:=(by have:=ag2 (by omega) p;omega);rcases f with f|f
    .exact .inl (bz9 (Oper.wp_mono (λa w h=>ih (t.set i true) a w (by simp[S]) C H h) f))
    exact .inr ⟨f.1,Q9 f.2⟩
   .exfalso;subst q;rw[r]at s;cases s;have:=bh4 E B (λe n c=>by have W:=E.aj1 e n c;have f:=k e n c;rwa[sZ (by omega)]at f);have⟨i,m,F⟩:=K;rw[OC (by omega) true false,this i m]at F;cases F
   have:(l++[b]).toArray[i]?=none:=(by simp;omega);rw[this]at s;cases s
def aA9{id:Nat}{Q:Exit->Act->aI->Prop}{a:Act}{w:aI}{l:List Oper}{last:Oper}(k:P.follows .mixedOrders=true)(g:DU (l++[last])=true)(j:KP .any l last=true)
 (h:wpAny P .any l.toArray (tR P (l++[last]).toArray last Q) l.toArray (Array.replicate l.toArray false) a {w with drawn:=w.drawn+1}):(Code.region id (l++[last]).toArray true).wp P Q a w:=by
  refine wp_region_any k ?_;have d:(List.replicate l false).toArray=Array.replicate l.toArray false:=(by simp);rw[<-d]at h;have b:=aP0 g (UR j) l (List.replicate l false) a _ (by simp) (by simp) (λi o m c=>by rw[b8,sO]at c;split at c<;>simp at c) (by simpa using h);have e:(List.replicate l false++[false]).toArray=Array.replicate (l++[last]).toArray.size false:=by rw[<-wG];simp
  rw[e]at b;have f:(l++[last]).toArray.size=l+1:=(by simp);rw[f]at b|-;exact b
def IE{id:Nat}{Q:Exit->Act->aI->Prop}{full:List Oper}(hm:P.follows .mixedOrders=true)(hb:DU full=true)
 (hc:(!full.isEmpty&&((full.getLast?).map λo=>KP .any full.dropLast o).getD false)=true)
 (h2:∀last,full.getLast?=some last->wpAny P .any full.dropLast.toArray (tR P full.toArray last Q) full.dropLast.toArray (Array.replicate full.dropLast.toArray false) a {w with drawn:=w.drawn+1}):(Code.region id full.toArray true).wp P Q a w:=by rw[bL]at hc;have hne:full≠[]:=(by intro e;rw[e]at hc;simp at hc);have e:=fR hne;have hgl:full.getLast?=some (full.getLast hne):=oE hne;rw[hgl]at hc;have hw:=h2 _ hgl;have k:=aA9 (P:=P) (id:=id) (Q:=Q) (a:=a) (w:=w) (l:=full.dropLast) (last:=full.getLast hne) hm (by rw[e];exact hb) (by simpa using hc.2) (by rw[e];exact hw);rwa[e]at k
end
end Go.Proofs.YtpopikndggffaaaGreatDoor
