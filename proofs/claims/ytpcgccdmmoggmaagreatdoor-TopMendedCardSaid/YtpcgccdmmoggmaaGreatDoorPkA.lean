/- Part 1 of the proof of RowTopMended: what it is built on, in the order of its needs. -/
import Derived.Orders
import Derived.Laws.Sem
import Derived.RowKit3
import Derived.Laws.Entries
import Derived.Laws.Cells
import Derived.Laws.IdiomCopy
import Derived.Laws.StructEq
import Derived.Laws.BytesString
import Derived.Scope
namespace Go
abbrev ajO:=@List.mem_cons_of_mem
abbrev ajP:=@List.mem_cons_self
abbrev ajQ:=@List.length_append
abbrev ajR:=@Nat.le_refl
abbrev ajS:=@Int.toNat_natCast
abbrev ajT:=@List.append_assoc
abbrev ajU:=@Nat.le_of_ble_eq_true
abbrev ajV:=@List.getElem?_eq_getElem
abbrev ajW:=@List.length_take
abbrev ajX:=@List.getD_eq_getElem?_getD
abbrev ajY:=@Option.some.injEq
abbrev ajZ:=@List.getElem_mem
abbrev aj0:=@Nat.mul_one
abbrev aj1:=@List.length_drop
abbrev aj2:=@List.length_cons
abbrev aj3:=@Bool.and_eq_true
abbrev aj4:=@List.nil_append
abbrev aj5:=@List.mem_cons
abbrev aj6:=@Nat.zero_add
abbrev aj7:=@List.length_nil
abbrev aj8:=@List.take_length
abbrev aj9:=@List.take_of_length_le
abbrev aj_:=@Nat.mod_eq_of_lt
abbrev aka:=@List.length_map
abbrev akb:=@List.append_nil
abbrev akc:=@List.getElem?_eq_none
abbrev akd:=@Nat.pow_le_pow_right
abbrev ake:=@List.getElem?_map
abbrev akf:=@List.take_append_drop
abbrev akg:=@List.mem_append
abbrev akh:=@Nat.le_succ
abbrev aki:=@List.pairwise_cons
abbrev akj:=@Nat.zero_le
abbrev akk:=@Nat.le_trans
abbrev akl:=@List.getElem?_cons_zero
abbrev akm:=@List.getElem?_cons_succ
abbrev akn:=@List.mem_map
abbrev ako:=@List.drop_zero
abbrev akp:=@Nat.add_zero
abbrev akq:=@List.take_add_one
abbrev akr:=@List.getElem?_toArray
abbrev aks:=@Nat.min_eq_left
abbrev akt:=@List.mem_singleton
abbrev aku:=@List.getElem?_eq_some_iff
abbrev akv:=@Nat.eq_of_beq_eq_true
abbrev akw:=@List.length_replicate
abbrev akx:=@List.getElem?_append_left
abbrev aky:=@List.map_append
abbrev akz:=@Nat.lt_or_ge
abbrev akA:=@Option.some.inj
abbrev akB:=@List.getElem?_append_right
abbrev akC:=@BitVec.ofInt_natCast
abbrev akD:=@BitVec.toNat_ofNat
abbrev akE:=@Nat.mul_comm
abbrev akF:=@Nat.pow_succ
abbrev akG:=@Nat.sub_zero
abbrev akH:=@List.drop_append_of_le_length
abbrev akI:=@List.size_toArray
abbrev akJ:=@Nat.add_mul
abbrev akK:=@List.mem_of_getElem?
abbrev akL:=@List.mem_of_mem_take
abbrev akM:=@List.take_append_of_le_length
abbrev akN:=@List.drop_eq_getElem_cons
abbrev akO:=@Nat.lt_of_lt_of_le
abbrev akP:=@List.flatten_cons
abbrev akQ:=@List.take_take
abbrev akR:=@List.drop_drop
abbrev akS:=@Bool.false_eq_true
abbrev akT:=@List.length_set
abbrev akU:=@List.map_cons
abbrev akV:=@List.ext_getElem?
abbrev akW:=@List.drop_length
abbrev akX:=@List.cons_append
abbrev akY:=@List.take_succ_cons
abbrev akZ:=@Nat.mul_le_mul_right
abbrev ak0:=@Bool.not_true
abbrev ak1:=@List.set_cons_succ
abbrev ak2:=@List.sublist_cons_self
abbrev ak3:=@List.drop_eq_nil_of_le
abbrev ak4:=@Prod.mk.injEq
abbrev ak5:=@Bool.or_eq_true
abbrev ak6:=@Ne.symm
abbrev ak7:=@List.getElem?_drop
abbrev ak8:=@List.getElem?_range
abbrev ak9:=@List.set_cons_zero
abbrev ak_:=@List.Sublist.refl
abbrev ala:=@Bool.eq_iff_iff
abbrev alb:=@Nat.mod_lt
abbrev alc:=@Int.toNat_of_nonneg
abbrev ald:=@List.mem_append_left
abbrev ale:=@Int.tmod_eq_emod_of_nonneg
abbrev alf:=@List.length_singleton
abbrev alg:=@List.map_congr_left
abbrev alh:=@Bool.not_false
abbrev ali:=@Nat.sub_self
abbrev alj:=@List.drop_of_length_le
abbrev alk:=@List.cons.injEq
abbrev alm:=@List.ext_getElem
abbrev aln:=@Array.getElem?_eq_none
abbrev alo:=@Option.getD_some
abbrev alp:=@List.flatMap_cons
abbrev alq:=@List.Sublist.append
abbrev alr:=@List.mem_append_right
abbrev als:=@List.drop_left
abbrev alu:=@Bool.or_eq_false_iff
abbrev alv:=@Array.ext'
abbrev alw:=@Nat.add_comm
abbrev alx:=@List.foldl_cons
abbrev aly:=@Nat.add_assoc
abbrev alz:=@Array.ext_getElem?
abbrev alA:=@List.all_eq_true
abbrev alC:=@Int.emod_nonneg
abbrev alD:=@Nat.xor_lt_two_pow
abbrev alE:=@List.getElem?_set_self
abbrev alF:=@List.getElem_of_mem
abbrev alG:=@List.getElem_map
abbrev alH:=@List.sublist_append_right
abbrev alI:=@Option.map_some
abbrev alJ:=@Nat.succ_mul
abbrev alK:=@Array.getElem?_modify
abbrev alL:=@Array.getElem?_eq_some_iff
abbrev alM:=@Nat.mul_assoc
abbrev alN:=@Nat.mul_pos
abbrev alO:=@Bool.not_eq_true'
abbrev alP:=@Int.natCast_pow
abbrev alQ:=@List.getElem?_take
abbrev alR:=@Nat.eq_zero_or_pos
abbrev alS:=@Nat.eq_of_mul_eq_mul_right
abbrev alT:=@List.take_zero
abbrev alU:=@Nat.two_pow_pos
abbrev alV:=@List.countP_cons
abbrev alW:=@List.sum_cons
abbrev alX:=@List.flatten_append
abbrev alY:=@Nat.add_sub_cancel
abbrev alZ:=@Nat.pow_add
abbrev al0:=@Nat.xor_assoc
abbrev al1:=@List.map_map
abbrev al2:=@Array.getElem?_setIfInBounds
abbrev al3:=@Nat.le_add_right
abbrev al4:=@Bool.false_or
abbrev al5:=@Int.pow_pos
abbrev al6:=@Int.emod_lt_of_pos
abbrev al7:=@Nat.or_comm
abbrev al8:=@Nat.zero_mul
abbrev al9:=@Int.le_refl
abbrev al_:=@List.getElem?_of_mem
abbrev ama:=@List.setIfInBounds_toArray
abbrev amb:=@Int.fdiv_eq_ediv_of_nonneg
abbrev amc:=@Nat.testBit_zero
abbrev amd:=@Nat.mod_two_eq_zero_or_one
abbrev ame:=@List.range_succ
abbrev amf:=@Nat.pow_zero
abbrev amg:=@List.getElem?_replicate
abbrev amh:=@List.flatten_nil
abbrev ami:=@List.perm_middle
abbrev amj:=@Nat.add_sub_cancel_left
abbrev amk:=@List.map_take
abbrev aml:=@List.filter_cons
abbrev amm:=@List.getElem?_eraseIdx
abbrev amn:=@List.getElem?_set_ne
abbrev amo:=@List.Perm.refl
abbrev amp:=@Int.tdiv_eq_ediv_of_nonneg
abbrev amq:=@List.mem_range
abbrev amr:=@Nat.mod_one
abbrev ams:=@List.countP_le_length
abbrev amt:=@List.length_eq_zero_iff
abbrev amu:=@List.replicate_succ'
abbrev amv:=@Array.replicate_succ
abbrev amw:=@Array.replicate_zero
abbrev amx:=@List.push_toArray
abbrev amy:=@List.append_toArray
abbrev amz:=@List.take_left'
abbrev amA:=@List.drop_left'
abbrev amB:=@Nat.lt_trichotomy
abbrev amC:=@List.foldl_append
abbrev amD:=@Nat.lt_succ_self
abbrev amE:=@List.append_inj
abbrev amF:=@List.mapM_cons
abbrev amG:=@Array.getD_eq_getD_getElem?
abbrev amH:=@List.all_cons
abbrev amI:=@List.set_append_left
abbrev amJ:=@List.nodup_nil
abbrev amK:=@List.set_append_right
abbrev amL:=@List.pairwise_append
abbrev amM:=@BitVec.toNat_xor
abbrev amN:=@List.countP_nil
abbrev amO:=@List.filter_append
abbrev amP:=@Decidable.not_not
abbrev amQ:=@Nat.mul_div_cancel_left
abbrev amR:=@Nat.min_eq_right
abbrev amS:=@Bool.and_false
abbrev amT:=@Nat.testBit_xor
abbrev amU:=@List.cons.inj
abbrev amV:=@Nat.lt_of_not_le
abbrev amW:=@List.take_nil
abbrev amX:=@List.take_left
abbrev amY:=@ByteArray.ext_iff
abbrev amZ:=@List.take_drop
abbrev am0:=@ByteArray.data_extract
abbrev am1:=@Array.getElem?_push
abbrev am2:=@Nat.le_mul_of_pos_right
abbrev am3:=@Array.getElem?_eq_getElem
abbrev am4:=@BitVec.toNat_and
abbrev am5:=@Nat.one_le_two_pow
abbrev am6:=@BitVec.toNat_or
abbrev am7:=@Nat.two_pow_add_eq_or_of_lt
abbrev am8:=@Array.size_push
abbrev am9:=@List.not_mem_nil
abbrev am_:=@UInt8.toNat_ofNat'
abbrev ana:=@List.getElem_take
abbrev anb:=@Nat.div_div_eq_div_mul
abbrev anc:=@List.getElem_set
abbrev ane:=@Nat.mul_le_mul
abbrev anf:=@List.filter_nil
abbrev ang:=@List.length_range
abbrev anh:=@List.pairwise_iff_getElem
abbrev ani:=@Nat.eq_of_testBit_eq
abbrev anj:=@List.count_eq_zero_of_not_mem
abbrev ank:=@List.getElem?_take_of_lt
abbrev anl:=@List.mem_of_mem_drop
abbrev anm:=@List.getElem?_set
abbrev ann:=@List.eq_of_mem_replicate
abbrev ano:=@List.flatMap_append
abbrev anp:=@Option.map_eq_some_iff
abbrev anq:=@Array.mapM_eq_mapM_toList
abbrev anr:=@Array.getElem?_setIfInBounds_ne
abbrev ans:=@Nat.and_two_pow_sub_one_eq_mod
abbrev ant:=@Array.eq_empty_of_size_eq_zero
abbrev anu:=@Array.filter_eq_empty_iff
abbrev anv:=@List.eq_nil_of_length_eq_zero
abbrev anw:=@Int.mul_le_mul_of_nonneg_right
abbrev anx:=@Nat.testBit_two_pow_sub_succ
abbrev anz:=@Nat.testBit_two_pow_sub_one
abbrev anA:=@List.idxOf_lt_length_of_mem
abbrev anB:=@List.mem_or_eq_of_mem_set
end Go
set_option linter.unusedSimpArgs false
set_option linter.unusedVariables false
namespace Go.Vc
open Go
section
abbrev ak:=Array Obj
abbrev Env:=Nat→Value
abbrev str (l:List UInt8):Value:= .string ⟨l.toArray⟩
def kI (s:ByteArray):List UInt8:=s.data.toList
@[simp] theorem cn (l:List UInt8):kI ⟨l.toArray⟩=l:=by simp [kI]
abbrev cY (b:UInt8):Value:= .int .u8 (b.toNat:Int)
theorem Tu (s:ByteArray):Value.string s=str (kI s):=by cases s;simp [kI]
def re (n:Nat):List Nat→Bool
 | []=>false
 |m::r=>bif Nat.beq n m then true else re n r
def Env.Tv (ρ:Env) (t:Nat) (v:Value):Env:=fun s=>bif Nat.beq s t then v else ρ s
def Env.put (ρ:Env):Option Tmp→Value→Env
 |some t,v=>ρ.Tv t v
 |none,_=>ρ
def Env.mix (ρ BM:Env) (l:List Nat):Env:=fun s=>bif re s l then BM s else ρ s
def ev (ρ:Env):Operand→Value
 | .tmp t=>ρ t
 | .const v=>v
 | .global g=> .pointer (some ⟨g,0,none⟩)
 | .func f=> .func (.func f) #[] #[]
def P0 (ρ:Env):List Operand→List Value
 | []=> []
 |x::r=>ev ρ x::P0 ρ r
def VV (ρ:Env):Option Operand→Option Value
 |none=>none
 |some x=>some (ev ρ x)
def Hf (ρ:Env):List (Nat × Operand)→List (Nat × Value)
 | []=> []
 | (i,x)::r=> (i,ev ρ x)::Hf ρ r
class Mode where
 VW:Prop
instance Mode.VX:Mode:= ⟨False⟩
variable [Mode]
structure dI (w w' :World):Prop where
 os:w'.os=w.os
 output:w'.output=w.output
 tape:w'.tape=w.tape
 drawn:Mode.VW→w.drawn≤w'.drawn
theorem dI.refl (w:World):dI w w:= ⟨rfl,rfl,rfl,fun _=>ajR _⟩
theorem dI.trans {a b c:World} (h:dI a b) (k:dI b c):dI a c:= ⟨k.os.trans h.os,k.output.trans h.output,k.tape.trans h.tape,fun m=>akk (h.drawn m) (k.drawn m)⟩
def ab (P:Program) (f:FuncId) (args:Array Value) (H:ak) (R:Value→ak→Prop):Prop:=
 ∀w:World,w.heap=H→Calls P f args w fun e w' => ∃v,e= .returned v∧dI w w' ∧R v w'.heap
theorem ab.mono {P:Program} {f:FuncId} {args:Array Value} {H:ak} {R R' :Value→ak→Prop} (h:ab P f args H R) (hr: ∀v H',R v H' →R' v H'):ab P f args H R' :=
 fun w hw=> (h w hw).mono fun _ _ ⟨v,he,hk,hv⟩=> ⟨v,he,hk,hr _ _ hv⟩
def cellAt (H:ak) (a:Addr):Option Value:=
 match H[a.block]? with
 |some (.cells c _ _)=>if a.spot.isSome then none else c[a.off]?
 |_=>none
def frozenAt (H:ak) (a:Addr):Bool:=
 match H[a.block]? with
 |some (.cells _ _ (lo,hi))=>lo≤a.off && a.off<hi
 |_=>false
def setAt (H:ak) (a:Addr) (v:Value):ak:=
 H.modify a.block fun
  | .cells c elem frozen=> .cells (if a.spot.isSome then c else c.setIfInBounds a.off v) elem frozen
  |o=>o
def aL:Value→Bool
 | .agg _| .tuple _=>false
 |_=>true
def ix (H:ak) (a:Addr):Nat→Option (List Value)
 |0=>some []
 |n+1=>match ix H a n with
  |some l=>match cellAt H (a.add n) with
   |some v=>some (l++ [v])
   |none=>none
  |none=>none
def jF (H:ak) (a:Addr):Nat→List Value→Option ak
 |_,[]=>some H
 |i,v::r=>match cellAt H (a.add i) with
  |some _=>bif frozenAt H (a.add i) then none else bif aL v then jF (setAt H (a.add i) v) a (i+1) r else none
  |none=>none
section
def P1 (c a b:Value) (K:Value→Prop):Prop:=match c with
 | .bool t=>K (bif t then a else b)
 |_=>False
def aB (x:Value) (K:Value→Prop):Prop:=match x with
 | .pointer (some a)=>K (.pointer (some a))
 | .func (.func f) a b=>K (.func (.func f) a b)
 |_=>False
def aK (x y:Value) (K:Value→Prop):Prop:=match x,y with
 | .int k a,.int k' b=>k=k' ∧K (.int k (k.wrap (a+b)))
 | .string a,.string b=>a.size+b.size≤9223372036854775807∧K (str (kI a++kI b))
 |_,_=>False
def dJ (x y:Value) (K:Value→Prop):Prop:=match x,y with
 | .int k a,.int k' b=>k=k' ∧K (.int k (k.wrap (a - b)))
 |_,_=>False
def xF (x y:Value) (K:Value→Prop):Prop:=match x,y with
 | .int k a,.int k' b=>k=k' ∧K (.int k (k.wrap (a*b)))
 |_,_=>False
def A1 (x y:Value) (K:Value→Prop):Prop:=match x,y with
 | .int k a,.int k' b=>k=k' ∧b≠0∧K (.int k (k.wrap (a.tdiv b)))
 |_,_=>False
def uN (x y:Value) (K:Value→Prop):Prop:=match x,y with
 | .int k a,.int k' b=>k=k' ∧b≠0∧K (.int k (a.tmod b))
 |_,_=>False
def bitsOf (op:BinOp) (k:IntKind) (x y:Int):Int:=
 let a:=BitVec.ofInt k.bits x
 let b:=BitVec.ofInt k.bits y
 k.wrap (match op with
  | .and=> (a &&& b).toNat
  | .or=> (a|||b).toNat
  | .xor=> (a ^^^ b).toNat
  |_=> (a &&& ~~~b).toNat:Nat)
def dR (op:BinOp) (x y:Value) (K:Value→Prop):Prop:=match x,y with
 | .int k a,.int k' b=>k=k' ∧K (.int k (bitsOf op k a b))
 |_,_=>False
def ou (x y:Value) (K:Value→Prop):Prop:=match x,y with
 | .int k a,.int _ b=>0≤b∧K (.int k (k.wrap (a*2 ^ (min b.toNat k.bits))))
 |_,_=>False
def sQ (x y:Value) (K:Value→Prop):Prop:=match x,y with
 | .int k a,.int _ b=>0≤b∧K (.int k (a.fdiv (2 ^ (min b.toNat k.bits))))
 |_,_=>False
def ec (x y:Value) (K:Value→Prop):Prop:=match x,y with
 | .int k a,.int k' b=>k=k' ∧K (.bool (decide (a<b)))
 |_,_=>False
def z_ (x y:Value) (K:Value→Prop):Prop:=match x,y with
 | .int k a,.int k' b=>k=k' ∧K (.bool (decide (a≤b)))
 |_,_=>False
def ka (x y:Value) (K:Value→Prop):Prop:=match x,y with
 | .int k a,.int k' b=>k=k' ∧K (.bool (decide (b<a)))
 |_,_=>False
def rS (x y:Value) (K:Value→Prop):Prop:=match x,y with
 | .int k a,.int k' b=>k=k' ∧K (.bool (decide (b≤a)))
 |_,_=>False
def rf:Nat→Value→Value→Option Bool
 |0,.int k a,.int k' b=>if k=k' then some (decide (a=b)) else none
 |1,.string a,.string b=>some (decide (kI a=kI b))
 |2,.bool a,.bool b=>some (decide (a=b))
 |3,.pointer none,.pointer b=>some b.isNone
 |3,.pointer (some _),.pointer none=>some false
 |4,.slice none _ _,.slice b _ _=>some b.isNone
 |4,.slice (some _) _ _,.slice none _ _=>some false
 |5,.map none,.map b=>some b.isNone
 |5,.map (some _),.map none=>some false
 |_,_,_=>none
def rh:TypeDesc→Option Nat
 | .int _=>some 0
 | .string=>some 1
 | .bool=>some 2
 | .pointer _=>some 3
 | .slice _=>some 4
 | .map _ _=>some 5
 |_=>none
def eA (k:Nat) (x y:Value) (K:Value→Prop):Prop:=match rf k x y with
 |some b=>K (.bool b)
 |none=>False
def ld (k:Nat) (x y:Value) (K:Value→Prop):Prop:=match rf k x y with
 |some b=>K (.bool (!b))
 |none=>False
def eG:List Nat→List Value→List Value→Option Bool
 | [],[],[]=>some true
 |k::ks,x::r,y::s=>match rf k x y with
  |some b=>match eG ks r s with
   |some c=>some (b && c)
   |none=>none
  |none=>none
 |_,_,_=>none
def Tw (ks:List Nat) (x y:Value) (K:Value→Prop):Prop:=match x,y with
 | .agg a,.agg b=>match eG ks a.toList b.toList with
  |some c=>K (.bool c)
  |none=>False
 |_,_=>False
def J6 (ks:List Nat) (x y:Value) (K:Value→Prop):Prop:=match x,y with
 | .agg a,.agg b=>match eG ks a.toList b.toList with
  |some c=>K (.bool (!c))
  |none=>False
 |_,_=>False
def jV (x:Value) (K:Value→Prop):Prop:=match x with
 | .bool b=>K (.bool !b)
 |_=>False
def YT (x:Value) (K:Value→Prop):Prop:=match x with
 | .int k n=>K (.int k (k.wrap (0 - n)))
 |_=>False
def P2 (x:Value) (K:Value→Prop):Prop:=match x with
 | .int k n=>K (.int k (bitsOf .xor k (if k.signed then -1 else k.max) n))
 |_=>False
def cA (k:IntKind) (x:Value) (K:Value→Prop):Prop:=match x with
 | .int _ n=>K (.int k (k.wrap n))
 |_=>False
def P3 (x:Value) (K:Value→Prop):Prop:=match x with
 | .string s=>K (.string s)
 |_=>False
def np (x y:Value) (K:Value→Prop):Prop:=match x,y with
 | .int k a,.int k' b=>k=k' ∧K (.int k (min a b))
 |_,_=>False
def J7 (x y:Value) (K:Value→Prop):Prop:=match x,y with
 | .int k a,.int k' b=>k=k' ∧K (.int k (max a b))
 |_,_=>False
def aa (off:Nat) (x:Value) (K:Value→Prop):Prop:=match x with
 | .pointer (some a)=>K (.pointer (some (a.add off)))
 |_=>False
def tX (off:Nat) (x:Value) (K:Value→Prop):Prop:=match x with
 | .agg cs=>match cs.toList[off]? with
  |some v=>K v
  |none=>False
 |_=>False
def FF (off n:Nat) (x:Value) (K:Value→Prop):Prop:=match x with
 | .agg cs=>K (.agg ((cs.toList.drop off).take n).toArray)
 |_=>False
def av (i:Nat) (x:Value) (K:Value→Prop):Prop:=match x with
 | .tuple vs=>match vs.toList[i]? with
  |some v=>K v
  |none=>False
 |_=>False
def gO (len size:Nat) (x i:Value) (K:Value→Prop):Prop:=match x,i with
 | .pointer (some a),.int _ j=>0≤j∧j< (len:Int)∧K (.pointer (some (a.add (j.toNat*size))))
 |_,_=>False
def aN (size:Nat) (x i:Value) (K:Value→Prop):Prop:=match x,i with
 | .slice (some a) n _,.int _ j=>0≤j∧j< (n:Int)∧K (.pointer (some (a.add (j.toNat*size))))
 |_,_=>False
def dc (x i:Value) (K:Value→Prop):Prop:=match x,i with
 | .string s,.int _ j=>0≤j∧j< ((kI s).length:Int)∧K (.int .u8 (((kI s).getD j.toNat 0).toNat:Int))
 |_,_=>False
def tY (len:Nat) (x i:Value) (K:Value→Prop):Prop:=match x,i with
 | .agg cs,.int _ j=>0≤j∧j< (len:Int)∧(match cs.toList[j.toNat]? with
  |some v=>K v
  |none=>False)
 |_,_=>False
def pG (len n:Nat) (x i:Value) (K:Value→Prop):Prop:=match x,i with
 | .agg cs,.int _ j=>0≤j∧j< (len:Int)∧K (.agg ((cs.toList.drop (j.toNat*n)).take n).toArray)
 |_,_=>False
def kj (len cap:Nat) (lo hi:Option Value) (Kb:Nat→Nat→Prop):Prop:=match lo,hi with
 |none,none=>Kb 0 len
 |some (.int _ l),none=>0≤l∧l≤(len:Int)∧Kb l.toNat len
 |none,some (.int _ h)=>0≤h∧h≤(cap:Int)∧Kb 0 h.toNat
 |some (.int _ l),some (.int _ h)=>0≤h∧h≤(cap:Int)∧0≤l∧l≤h∧Kb l.toNat h.toNat
 |_,_=>False
def bt (x:Value) (lo hi:Option Value) (K:Value→Prop):Prop:=match x with
 | .string s=>kj (kI s).length (kI s).length lo hi fun l h=>K (str (((kI s).drop l).take (h - l)))
 |_=>False
def lj (size:Nat) (x:Value) (lo hi:Option Value) (K:Value→Prop):Prop:=match x with
 | .slice a len cap=>kj len cap lo hi fun l h=>K (.slice (if cap=l then a else a.map (·.add (l*size))) (h - l) (cap - l))
 |_=>False
def wV (n size:Nat) (x:Value) (lo hi:Option Value) (K:Value→Prop):Prop:=match x with
 | .pointer (some a)=>kj n n lo hi fun l h=>K (.slice (some (if n=l then a else a.add (l*size))) (h - l) (n - l))
 |_=>False
def bc (x:Value) (K:Value→Prop):Prop:=match x with
 | .string s=>K (.int .i64 ((kI s).length:Int))
 |_=>False
def dh (x:Value) (K:Value→Prop):Prop:=match x with
 | .slice _ n _=>K (.int .i64 (n:Int))
 |_=>False
def J8 (x:Value) (K:Value→Prop):Prop:=match x with
 | .slice _ _ c=>K (.int .i64 (c:Int))
 |_=>False
def pH (cs:List Value):Nat→List Value→List Value
 |_,[]=>cs
 |off,v::r=>pH (cs.set off v) (off+1) r
def aZ:List Value→List (Nat × Nat × Value)→(Value→Prop)→Prop
 |cells,[],K=>K (.agg cells.toArray)
 |cells,(off,size,v)::r,K=>v.cells.size=size∧off+size≤cells.length∧aZ (pH cells off v.cells.toList) r K
end
section
variable (H:ak)
def al (x:Value) (K:Value→Prop):Prop:=match x with
 | .pointer (some a)=>match cellAt H a with
  |some v=>K v
  |none=>False
 |_=>False
def aF (n:Nat) (x:Value) (K:Value→Prop):Prop:=match x with
 | .pointer (some a)=>match ix H a n with
  |some l=>K (.agg l.toArray)
  |none=>False
 |_=>False
def bytesOf:List Value→Option (List UInt8)
 | []=>some []
 | .int .u8 n::r=>match bytesOf r with
  |some l=>some (UInt8.ofNat n.toNat::l)
  |none=>none
 |_::_=>none
def qi (x:Value) (K:Value→Prop):Prop:=match x with
 | .slice none _ _=>K (str [])
 | .slice (some a) n _=>match ix H a n with
  |some l=>match bytesOf l with
   |some b=>K (str b)
   |none=>False
  |none=>False
 |_=>False
def sR (x:Value):Option (List MapEntry):=match x with
 | .map none=>some []
 | .map (some r)=>match H[r]? with
  |some (.map es _)=>some es.toList
  |_=>none
 |_=>none
def qv (kind:Nat) (k:Value):List MapEntry→Nat→Option (Option (Nat × Value))
 | [],_=>some none
 |e::es,i=>match rf kind k e.key with
  |some true=>some (some (i,e.val))
  |some false=>qv kind k es (i+1)
  |none=>none
def mE (kind:Nat) (zero:Value) (ok:Bool) (m k:Value) (K:Value→Prop):Prop:=match sR H m with
 |some es=>match qv kind k es 0 with
  |some (some (_,v))=>K (bif ok then .tuple #[v,.bool true] else v)
  |some none=>K (bif ok then .tuple #[zero,.bool false] else zero)
  |none=>False
 |none=>False
def Mm (x:Value) (K:Value→Prop):Prop:=match x with
 | .map none=>K (.int .i64 0)
 | .map (some r)=>match H[r]? with
  |some (.map es _)=>K (.int .i64 (es.size:Int))
  |_=>False
 |_=>False
end
section
variable (H:ak)
def aE (x v:Value) (K:Value→ak→Prop):Prop:=match x with
 | .pointer (some a)=>match jF H a 0 [v] with
  |some H' =>K undef H'
  |none=>False
 |_=>False
def aG (n:Nat) (x v:Value) (K:Value→ak→Prop):Prop:=match x with
 | .pointer (some a)=>v.cells.size=n∧match jF H a 0 v.cells.toList with
  |some H' =>K undef H'
  |none=>False
 |_=>False
def cd (e:TypeId) (v:Value) (K:Value→ak→Prop):Prop:=K (.pointer (some ⟨H.size,0,none⟩)) (H.push (.cells v.cells e))
def uY (K:Value→ak→Prop):Prop:=K (.map (some H.size)) (H.push (.map #[] 0))
def jG (z:List Value):Nat→List Value
 |0=> []
 |n+1=>z++jG z n
def gP (e:TypeId) (bytes:Nat) (zero:List Value) (l c:Value) (K:Value→ak→Prop):Prop:=match l,c with
 | .int .i64 n,.int .i64 m=>0≤n∧n≤m∧(bytes:Int)*m≤281474976710656∧m≤9223372036854775807∧
   K (.slice (some ⟨H.size,0,none⟩) n.toNat m.toNat) (H.push (.cells (jG zero m.toNat).toArray e))
 |_,_=>False
def aX (e:TypeId) (len:Nat) (zero:List Value) (parts:List (Nat × Nat × Value)) (K:Value→ak→Prop):Prop:=
 aZ zero parts (fun v=>K (.slice (some ⟨H.size,0,none⟩) len len) (H.push (.cells v.cells e)))
def J9 (e:TypeId) (x:Value) (K:Value→ak→Prop):Prop:=match x with
 | .string s=> ∀cap:Nat,(kI s).length≤cap→
   K (.slice (some ⟨H.size,0,none⟩) (kI s).length cap)
    (H.push (.cells (((kI s).map cY)++List.replicate (cap - (kI s).length) (Value.int .u8 0)).toArray e (cap,cap+1)))
 |_=>False
def cellsOf (size:Nat) (x:Value):Option (List Value):=match x with
 | .slice none _ _=>some []
 | .slice (some a) n _=>ix H a (n*size)
 | .string s=>some ((kI s).map cY)
 |_=>none
def mu:Value→Option Nat
 | .slice _ n _=>some n
 | .string s=>some (kI s).length
 |_=>none
def Hg (k:Nat):Value→Value
 | .slice a _ c=> .slice a k c
 | .string t=>str ((kI t).take k)
 |v=>v
def bg (e:TypeId) (size bytes:Nat) (zero:List Value) (s x:Value) (K:Value→ak→Prop):Prop:=match s,mu x,cellsOf H size x with
 | .slice base n cap,some m,some new=>
  (n+m≤cap→match base with
   |none=>K (.slice none (n+m) cap) H
   |some a=>match jF H (a.add (n*size)) 0 new with
    |some H' =>K (.slice (some a) (n+m) cap) H'
    |none=>False)∧
  (cap<n+m→2* (n+m)*bytes≤281474976710656∧match cellsOf H size (.slice base n cap) with
   |some Ym=> ∀c:Nat,n+m≤c→K (.slice (some ⟨H.size,0,none⟩) (n+m) c) (H.push (.cells (Ym++new++jG zero (c - (n+m))).toArray e))
   |none=>False)
 |_,_,_=>False
def uZ (e:TypeId) (bytes:Nat) (zero:List Value) (s x:Value) (K:Value→ak→Prop):Prop:=match s,x with
 | .slice none 0 0,.int .i64 n=> (0<n∧2*n.toNat*bytes≤281474976710656)∧∀c:Nat,n.toNat≤c→K (.slice (some ⟨H.size,0,none⟩) n.toNat c) (H.push (.cells (jG zero n.toNat++jG zero (c - n.toNat)).toArray e))
 |_,_=>False
def P5 (size:Nat) (d s:Value) (K:Value→ak→Prop):Prop:=match d,mu s with
 | .slice base n _,some m=>match cellsOf H size (Hg (min m n) s) with
  |some new=>match base with
   |none=>K (.int .i64 (min m n:Nat)) H
   |some a=>match jF H a 0 new with
    |some H' =>K (.int .i64 (min m n:Nat)) H'
    |none=>False
  |none=>False
 |_,_=>False
def nA (kind:Nat) (m k v:Value) (K:Value→ak→Prop):Prop:=match m with
 | .map (some r)=>match H[r]? with
  |some (.map es clock)=>match qv kind k es.toList 0 with
   |some (some (i,_))=>K undef (H.setIfInBounds r (.map (es.modify i fun e=> {e with key:=k,val:=v}) clock))
   |some none=>K undef (H.setIfInBounds r (.map (es.push {key:=k,val:=v,born:=clock}) (clock+1)))
   |none=>False
  |_=>False
 |_=>False
def rT (kind:Nat) (m k:Value) (K:Value→ak→Prop):Prop:=match m with
 | .map (some r)=>match H[r]? with
  |some (.map es clock)=>match qv kind k es.toList 0 with
   |some (some (i,_))=>K (.tuple #[]) (H.setIfInBounds r (.map (es.eraseIdxIfInBounds i) clock))
   |some none=>K (.tuple #[]) H
   |none=>False
  |_=>False
 |_=>False
def vP (m:Value) (K:Value→ak→Prop):Prop:=match m with
 | .map none=>K (.tuple #[]) H
 | .map (some r)=>match H[r]? with
  |some (.map _ clock)=>K (.tuple #[]) (H.setIfInBounds r (.map #[] clock))
  |_=>False
 |_=>False
def FG (z:List Value) (x:Value) (K:Value→ak→Prop):Prop:=match x with
 | .slice none _ _=>K (.tuple #[]) H
 | .slice (some a) n _=>match jF H a 0 (jG z n) with
  |some H' =>K (.tuple #[]) H'
  |none=>False
 |_=>False
def P6 (x:Value) (K:Value→ak→Prop):Prop:=match x with
 | .chan none=>K (.int .i64 0) H
 | .chan (some r)=>match H[r]? with
  |some (.chan _ buf _ _ _ false)=>K (.int .i64 (buf.size:Int)) H
  |_=>False
 |_=>False
def DZ (P:Program) (s:Sem Value) (K:Value→ak→Prop):Prop:= ∀w:World,w.heap=H→match s.run P w with
 | .ok v w' =>dI w w' ∧K v w'.heap
 | .halt _ _=>False
end
def iy (P:Program) (t:TypeId):Bool:=match P.underlying t with
 |some (.struct _) |some (.array _ _)=>true
 |_=>false
def U9 (P:Program) (t:TypeId):Nat:=match P.info? t with
 |some i=>i.size
 |none=>0
def nB (P:Program) (t:TypeId):Option Value:=match P.info? t with
 |some i=>i.zero
 |none=>none
def BN (P:Program):List Field→Nat→Option (List Nat)
 | [],_=>some []
 |f::r,off=>bif Nat.beq f.offset off && f.name != "_" then match P.underlying f.type,P.info? f.type with
  |some d,some i=>match rh d with
   |some k=>bif Nat.ble k 2 && Nat.beq i.size 1 then match BN P r (off+1) with
    |some l=>some (k::l)
    |none=>none
    else none
   |none=>none
  |_,_=>none
  else none
def xG (P:Program):List Field→Nat→Option (List Nat)
 | [],_=>some []
 |f::r,off=>bif Nat.beq f.offset off && f.name != "_" then match P.underlying f.type,P.info? f.type with
  |some (.struct gs),some i=>bif P.stoodInHeld f.type then none else match BN P gs.toList 0 with
   |some k=>bif Nat.beq k.length i.size then match xG P r (off+i.size) with
    |some l=>some (k++l)
    |none=>none
    else none
   |none=>none
  |some d,some i=>match rh d with
   |some k=>bif Nat.ble k 2 && Nat.beq i.size 1 then match xG P r (off+1) with
    |some l=>some (k::l)
    |none=>none
    else none
   |none=>none
  |_,_=>none
  else none
def Et (P:Program) (t:TypeId):Option (List Nat):=match P.underlying t with
 |some (.struct fs)=>bif P.stoodInHeld t||P.eqGuardType P.depth t then none else xG P fs.toList 0
 |_=>none
def abO (P:Program):Builtin→List TypeId→Nat
 | .len,t::_=>match P.underlying t with
  |some (.map _ _)=>1
  |some (.chan _ _)=>2
  |_=>0
 | .cap,_| .min,_| .max,_=>0
 |_,_=>2
def cls (P:Program):Op→Nat
 | .move _| .assign _| .pick .. | .nilCheck _| .binOp .. | .unOp .. | .fieldAddr .. | .field .. | .extract .. | .indexAddr .. | .index .. | .slice .. | .makeFunc .. | .build .. =>0
 | .convert s d _=>match P.underlying s,P.underlying d with
  |some (.slice _),some .string=>1
  |some .string,some (.slice _)=>2
  |some (.slice _),some (.slice _)=>2
  |_,_=>0
 | .call c=>match c.callee with
  | .builtin b=>abO P b c.argTypes.toList
  |_=>2
 | .load .. | .lookup .. =>1
 |_=>2
section
variable (P:Program) (ρ:Env)
def rW (P:Program):List Field→List (Nat × Nat)
 | []=> []
 |f::r=> (f.offset,U9 P f.type)::rW P r
def xH (P:Program):List Field→Bool
 | []=>true
 |f::r=>match P.info? f.type with
  |some _=>xH P r
  |none=>false
def wW (pl:List (Nat × Nat)):List (Nat × Value)→Option (List (Nat × Nat × Value))
 | []=>some []
 | (i,v)::r=>match pl[i]? with
  |some (o,s)=>match wW pl r with
   |some l=>some ((o,s,v)::l)
   |none=>none
  |none=>none
def tZ (size:Nat):List (Nat × Value)→List (Nat × Nat × Value)
 | []=> []
 | (i,v)::r=> (i*size,size,v)::tZ size r
def cH:Value→List Value
 | .agg cs=>cs.toList
 |v=> [v]
def Hh (b:Builtin) (Hi:List TypeId) (args:List Operand) (K:Value→Prop):Prop:=match b,Hi,args with
 | .len,[t],[x]=>match P.underlying t with
  |some .string=>bc (ev ρ x) K
  |some (.slice _)=>dh (ev ρ x) K
  |_=>False
 | .cap,[t],[x]=>match P.underlying t with
  |some (.slice _)=>J8 (ev ρ x) K
  |_=>False
 | .min,_,[x,y]=>np (ev ρ x) (ev ρ y) K
 | .max,_,[x,y]=>J7 (ev ρ x) (ev ρ y) K
 | .min,_,[x,y,z]=>np (ev ρ x) (ev ρ y) (fun v=>np v (ev ρ z) K)
 |_,_,_=>False
def opV (o:Op) (K:Value→Prop):Prop:=match o with
 | .move x| .assign x=>K (ev ρ x)
 | .pick c a b=>P1 (ev ρ c) (ev ρ a) (ev ρ b) K
 | .nilCheck x=>aB (ev ρ x) K
 | .binOp op t x y _=>match op with
  | .add=>aK (ev ρ x) (ev ρ y) K
  | .sub=>dJ (ev ρ x) (ev ρ y) K
  | .mul=>xF (ev ρ x) (ev ρ y) K
  | .quo=>A1 (ev ρ x) (ev ρ y) K
  | .rem=>uN (ev ρ x) (ev ρ y) K
  | .and=>dR .and (ev ρ x) (ev ρ y) K
  | .or=>dR .or (ev ρ x) (ev ρ y) K
  | .xor=>dR .xor (ev ρ x) (ev ρ y) K
  | .andNot=>dR .andNot (ev ρ x) (ev ρ y) K
  | .shl=>ou (ev ρ x) (ev ρ y) K
  | .shr=>sQ (ev ρ x) (ev ρ y) K
  | .lss=>ec (ev ρ x) (ev ρ y) K
  | .leq=>z_ (ev ρ x) (ev ρ y) K
  | .gtr=>ka (ev ρ x) (ev ρ y) K
  | .geq=>rS (ev ρ x) (ev ρ y) K
  | .eql=>match P.underlying t with
   |some (.struct _)=>match Et P t with
    |some ks=>Tw ks (ev ρ x) (ev ρ y) K
    |none=>False
   |some d=>match rh d with
    |some k=>eA k (ev ρ x) (ev ρ y) K
    |none=>False
   |none=>False
  | .neq=>match P.underlying t with
   |some (.struct _)=>match Et P t with
    |some ks=>J6 ks (ev ρ x) (ev ρ y) K
    |none=>False
   |some d=>match rh d with
    |some k=>ld k (ev ρ x) (ev ρ y) K
    |none=>False
   |none=>False
 | .unOp op _ x=>match op with
  | .not=>jV (ev ρ x) K
  | .neg=>YT (ev ρ x) K
  | .xor=>P2 (ev ρ x) K
  | .plus=>False
 | .convert s d x=>match P.underlying s,P.underlying d with
  |some (.int _),some (.int k)=>cA k (ev ρ x) K
  |some .string,some .string=>P3 (ev ρ x) K
  |_,_=>False
 | .fieldAddr t x f=>match P.underlying t with
  |some (.struct fs)=>match fs.toList[f]? with
   |some fd=>match P.info? fd.type with
    |some i=>bif Nat.beq i.size 0 then False else aa fd.offset (ev ρ x) K
    |none=>False
   |none=>False
  |_=>False
 | .field t x f=>match P.underlying t with
  |some (.struct fs)=>match fs.toList[f]? with
   |some fd=>match P.underlying fd.type,P.info? fd.type with
    |some _,some i=>bif iy P fd.type then FF fd.offset i.size (ev ρ x) K else tX fd.offset (ev ρ x) K
    |_,_=>False
   |none=>False
  |_=>False
 | .extract x i=>av i (ev ρ x) K
 | .indexAddr t x i=>match P.underlying t with
  |some (.array n e)=>match P.info? e with
   |some ti=>gO n ti.size (ev ρ x) (ev ρ i) K
   |none=>False
  |some (.slice e)=>match P.info? e with
   |some ti=>aN ti.size (ev ρ x) (ev ρ i) K
   |none=>False
  |_=>False
 | .index t x i=>match P.underlying t with
  |some .string=>dc (ev ρ x) (ev ρ i) K
  |some (.array n e)=>match P.underlying e,P.info? e with
   |some _,some ti=>bif iy P e then pG n ti.size (ev ρ x) (ev ρ i) K else bif Nat.beq ti.size 1 then tY n (ev ρ x) (ev ρ i) K else False
   |_,_=>False
  |_=>False
 | .slice t x lo hi none=>match P.underlying t with
  |some .string=>bt (ev ρ x) (VV ρ lo) (VV ρ hi) K
  |some (.slice e)=>match P.info? e with
   |some ti=>lj ti.size (ev ρ x) (VV ρ lo) (VV ρ hi) K
   |none=>False
  |some (.array n e)=>match P.info? e with
   |some ti=>wV n ti.size (ev ρ x) (VV ρ lo) (VV ρ hi) K
   |none=>False
  |_=>False
 | .makeFunc (.func f) first cap=>K (.func (.func f) (P0 ρ first.toList).toArray (P0 ρ cap.toList).toArray)
 | .build t ps=>match nB P t,P.underlying t with
  |some z,some (.struct fs)=>match wW (rW P fs.toList) (Hf ρ ps.toList) with
   |some parts=>bif xH P fs.toList then aZ (cH z) parts K else False
   |none=>False
  |some z,some (.array _ e)=>match P.info? e with
   |some ti=>aZ (cH z) (tZ ti.size (Hf ρ ps.toList)) K
   |none=>False
  |_,_=>False
 | .call c=>match c.callee with
  | .builtin b=>Hh P ρ b c.argTypes.toList c.args.toList K
  |_=>False
 |_=>False
def VY (o:Op) (H:ak) (K:Value→Prop):Prop:=match o with
 | .load t x=>match P.underlying t,P.info? t with
  |some _,some i=>bif iy P t then aF H i.size (ev ρ x) K else al H (ev ρ x) K
  |_,_=>False
 | .convert s d x=>match P.underlying s,P.underlying d with
  |some (.slice e),some .string=>match P.underlying e with
   |some (.int .u8)=>qi H (ev ρ x) K
   |_=>False
  |_,_=>False
 | .lookup t m k ok=>match P.underlying t with
  |some (.map kt e)=>match P.underlying kt,nB P e with
   |some (.int _),some z=>mE H 0 z ok (ev ρ m) (ev ρ k) K
   |some .string,some z=>mE H 1 z ok (ev ρ m) (ev ρ k) K
   |_,_=>False
  |_=>False
 | .call c=>match c.callee,c.argTypes.toList,c.args.toList with
  | .builtin .len,[t],[x]=>match P.underlying t with
   |some (.map _ _)=>Mm H (ev ρ x) K
   |_=>False
  |_,_,_=>False
 |_=>False
def rX (P:Program) (C:List Nat) (f:Value) (args:List Value) (H:ak) (K:Value→ak→Prop):Prop:=match f with
 | .func (.func g) first cap=>bif re g C then ab P g (first.toList++args++cap.toList).toArray H K else False
 |_=>False
def Hj (b:Builtin) (Hi:List TypeId) (args:List Operand) (H:ak) (K:Value→ak→Prop):Prop:=match b,args,Hi with
 | .append,[s,x],[t,u]=>match P.underlying t,P.underlying u with
  |some (.slice e),some (.slice _) |some (.slice e),some .string=>match P.info? e,nB P e with
   |some i,some z=>bif Nat.ble 1 i.bytes && Nat.ble 1 (cH z).length then bg H e i.size i.bytes (cH z) (ev ρ s) (ev ρ x) K else False
   |_,_=>False
  |some (.slice e),some (.int _)=>match P.info? e,nB P e with
   |some i,some z=>bif Nat.ble 1 i.bytes && (Nat.ble 1 (cH z).length && Nat.ble 1 i.size) then uZ H e i.bytes (cH z) (ev ρ s) (ev ρ x) K else False
   |_,_=>False
  |_,_=>False
 | .copy,[d,s],[t,_]=>match P.underlying t with
  |some (.slice e)=>match P.info? e with
   |some i=>P5 H i.size (ev ρ d) (ev ρ s) K
   |none=>False
  |_=>False
 | .delete,[m,k],[t,_]=>match P.underlying t with
  |some (.map kt _)=>match P.underlying kt with
   |some (.int _)=>rT H 0 (ev ρ m) (ev ρ k) K
   |some .string=>rT H 1 (ev ρ m) (ev ρ k) K
   |_=>False
  |_=>False
 | .clear,[m],[t]=>match P.underlying t with
  |some (.map _ _)=>vP H (ev ρ m) K
  |some (.slice e)=>match nB P e with
   |some z=>bif Nat.ble 1 (cH z).length then FG H (cH z) (ev ρ m) K else False
   |none=>False
  |_=>False
 | .len,[x],[t]=>match P.underlying t with
  |some (.chan _ _)=>P6 H (ev ρ x) K
  |_=>False
 |_,_,_=>False
def P7 (fr:Nat × Nat) (n:Nat):Nat × Nat:=if fr.1==fr.2 then (n,n+1) else (min fr.1 n,max fr.2 (n+1))
def P8 (H:ak) (x:Value) (K:Value→ak→Prop):Prop:=match x with
 | .slice (some a) _ _=>match H[a.block]? with
  |some (.cells cs t fr)=>K x (H.setIfInBounds a.block (.cells cs t (P7 fr cs.size)))
  |_=>False
 |_=>False
def S_ (C:List Nat) (o:Op) (ty:TypeId) (H:ak) (K:Value→ak→Prop):Prop:=match o with
 | .store t x v=>match P.underlying t,P.info? t with
  |some _,some i=>bif iy P t then aG H i.size (ev ρ x) (ev ρ v) K else bif Nat.beq i.size 1 then aE H (ev ρ x) (ev ρ v) K else False
  |_,_=>False
 | .alloc e=>match nB P e with
  |some z=>cd H e z K
  |none=>False
 | .box e v=>cd H e (ev ρ v) K
 | .makeMap _ none=>uY H K
 | .makeSlice t l c=>match P.underlying t with
  |some (.slice e)=>match P.info? e,nB P e with
   |some i,some z=>bif Nat.beq (cH z).length i.size && Nat.ble 1 i.size then gP H e i.bytes (cH z) (ev ρ l) (ev ρ c) K else False
   |_,_=>False
  |_=>False
 | .buildSlice t len ps=>match P.underlying t with
  |some (.slice e)=>match P.info? e,nB P e with
   |some i,some z=>bif Nat.ble (len*i.size) 16777216 && (Nat.beq (cH z).length i.size && Nat.ble 1 i.size) then aX H e len (jG (cH z) len) (tZ i.size (Hf ρ ps.toList)) K else False
   |_,_=>False
  |_=>False
 | .convert s d x=>match P.underlying s,P.underlying d with
  |some .string,some (.slice e)=>match P.underlying e with
   |some (.int .u8)=>J9 H e (ev ρ x) K
   |_=>False
  |some (.slice e),some (.slice _)=>match P.underlying e with
   |some (.int .u8)=>bif Nat.beq s d then P8 H (ev ρ x) K else False
   |_=>False
  |_,_=>False
 | .mapUpdate t m k v=>match P.underlying t with
  |some (.map kt _)=>match P.underlying kt with
   |some (.int _)=>nA H 0 (ev ρ m) (ev ρ k) (ev ρ v) K
   |some .string=>nA H 1 (ev ρ m) (ev ρ k) (ev ρ v) K
   |_=>False
  |_=>False
 | .call c=>match c.callee with
  | .value f=>match f with
   | .func g=>bif re g C then ab P g (P0 ρ c.args.toList).toArray H K else False
   |f=>rX P C (ev ρ f) (P0 ρ c.args.toList) H K
  | .builtin b=>Hj P ρ b c.argTypes.toList c.args.toList H K
  |_=>False
 | .makeChan t n=>DZ H P (Instr.makeChan t (ev ρ n)) K
 | .range t x=>DZ H P (Instr.range t (ev ρ x)) K
 | .next it s=>DZ H P (Instr.next (ev ρ it) s ty) K
 | .entry it=>DZ H P (Instr.entry (ev ρ it)) K
 | .mapEntry t m k=>DZ H P (Instr.mapEntry t (ev ρ m) (ev ρ k)) K
 | .entryStore t m s v=>DZ H P (do Instr.entryStore t (ev ρ m) (ev ρ s) (ev ρ v);pure undef) (fun _=>K undef)
 |_=>False
def YU (C:List Nat) (o:Oper) (H:ak) (K:Value→ak→Prop):Prop:=match cls P o.op with
 |0=>opV P ρ o.op fun v=>K v H
 |1=>VY P ρ o.op H fun v=>K v H
 |_=>S_ P ρ C o.op o.type H K
end
inductive sT where
 |nil
 |op (i:Nat) (st:List Nat) (r:sT)
 |dQ (c:Nat) (body:sT) (p:Nat) (r:sT)
 |fork (a b:sT)
def ae:Nat→Nat→sT→sT
 |_,0,r=>r
 |i,n+1,r=> .op i [] (ae (i+1) n r)
def ef:Nat→Nat→List Nat→List Nat
 |_,0,r=>r
 |a,n+1,r=>a::ef (a+1) n r
def bJ (ops:List Oper):sT→List Nat
 | .nil=> []
 | .op i _ r=>match ops[i]? with
  |some o=>match o.dst with
   |some d=>d::bJ ops r
   |none=>bJ ops r
  |none=>bJ ops r
 | .dQ _ b p r=>bJ ops b++ (match ops[p]? with
  |some o=>match o.dst with
   |some d=>d::bJ ops r
   |none=>bJ ops r
  |none=>bJ ops r)
 | .fork a b=>bJ ops a++bJ ops b
def dC (x:Value) (body: (Value→ak→Prop)→Prop) (H:ak) (K:Value→ak→Prop):Prop:=match x with
 | .bool a=> ∃J:Value→ak→Prop,(∀v H',J v H' →K v H')∧(a=false→J (.bool false) H)∧(a=true→body J)
 |_=>False
def lk (x:Value) (body: (Value→ak→Prop)→Prop) (H:ak) (K:Value→ak→Prop):Prop:=match x with
 | .bool a=> ∃J:Value→ak→Prop,(∀v H',J v H' →K v H')∧(a=true→J (.bool true) H)∧(a=false→body J)
 |_=>False
section
variable (P:Program) (C:List Nat) (ops:List Oper)
def FH (ρ:Env) (H:ak) (j:Nat):Prop:=match ops[j]? with
 |some o=>match o.dst with
  |some d=>VY P ρ o.op H fun v=>v=ρ d
  |none=>False
 |none=>False
def Mn (ρ:Env) (H:ak) (X:Prop):List Nat→Prop
 | []=>X
 |j::r=>FH P ops ρ H j∧Mn ρ H X r
def Eu:sT→Env→ak→(Env→ak→Prop)→Prop
 | .nil,ρ,H,K=>K ρ H
 | .op i st r,ρ,H,K=>match ops[i]? with
  |some o=>YU P ρ C o H fun v H' =>Mn P ops ρ H' (Eu r (ρ.put o.dst v) H' K) st
  |none=>False
 | .dQ _ body p r,ρ,H,K=>match ops[p]? with
  |some o=>match o.op with
   | .pick (.tmp t) (.tmp u) (.const (.bool false))=>
    dC (ρ t) (fun J=>Eu body ρ H fun ρ' H' =>J (ρ' u) H') H fun v H' => ∀BM:Env,Eu r ((ρ.mix BM (bJ ops body)).put o.dst v) H' K
   | .pick (.tmp t) (.const (.bool true)) (.tmp u)=>
    lk (ρ t) (fun J=>Eu body ρ H fun ρ' H' =>J (ρ' u) H') H fun v H' => ∀BM:Env,Eu r ((ρ.mix BM (bJ ops body)).put o.dst v) H' K
   |_=>False
  |none=>False
 | .fork a b,ρ,H,K=>Eu a ρ H K∧Eu b ρ H K
end
inductive cF where
 |leaf
 |aq (p:sT)
 |iG (Bs:List Nat) (p:sT)
 |seq (a b:cF)
 |cut (mv wr:List Nat) (a b:cF)
 |cond (a b:cF)
 |block (a:cF)
 |loop (mv wr:List Nat) (a:cF)
def ar (x:Value) (A B:Prop):Prop:=match x with
 | .bool b=> (b=true→A)∧(b=false→B)
 |_=>False
def Mo:List Nat→Type
 | []=>ak→Prop
 |_::s=>Value→Mo s
def sB: (s:List Nat)→Mo s→Env→ak→Prop
 | [],J,_,H=>J H
 |t::s,J,ρ,H=>sB s (J (ρ t)) ρ H
def Tx:List Nat→Env→(Env→Prop)→Prop
 | [],ρ,K=>K ρ
 |t::s,ρ,K=> ∀v:Value,Tx s (ρ.Tv t v) K
def J_:List Nat→Type
 | []=>ak→Nat
 |_::s=>Value→J_ s
def Mp: (s:List Nat)→J_ s→Env→ak→Nat
 | [],J,_,H=>J H
 |t::s,J,ρ,H=>Mp s (J (ρ t)) ρ H
inductive Ex where
 |normal
 |exit (id:Nat)
 |ret
def vc (P:Program) (C:List Nat):Code→cF→Env→ak→(Ex→Env→ak→Prop)→Prop
 | .skip,_,ρ,H,Q=>Q .normal ρ H
 | .ret,_,ρ,H,Q=>Q .ret ρ H
 | .exit id,_,ρ,H,Q=>Q (.exit id) ρ H
 | .label _,_,ρ,H,Q=>Q .normal ρ H
 | .scope x,a,ρ,H,Q=>vc P C x a ρ H Q
 | .region _ ops _,.aq p,ρ,H,Q=>Eu P C ops.toList p ρ H (Q .normal)
 | .region _ ops _,.iG _ p,ρ,H,Q=>Eu P C ops.toList p ρ H (Q .normal)
 | .seq x y,.seq a b,ρ,H,Q=>vc P C x a ρ H fun e ρ' H' =>match e with
  | .normal=>vc P C y b ρ' H' Q
  |e=>Q e ρ' H'
 | .seq x y,.cut mv wr a b,ρ,H,Q=> ∃J:Mo mv,
   (∀BM:Env,Tx mv (ρ.mix BM wr) fun ρ' => ∀H' :ak,sB mv J ρ' H' →vc P C y b ρ' H' Q)∧
   vc P C x a ρ H fun e ρ' H' =>match e with
    | .normal=>sB mv J ρ' H'
    |e=>Q e ρ' H'
 | .cond c x y,.cond a b,ρ,H,Q=>ar (ev ρ c) (vc P C x a ρ H Q) (vc P C y b ρ H Q)
 | .block id x,.block a,ρ,H,Q=>vc P C x a ρ H fun e ρ' H' =>match e with
  | .exit k=>bif Nat.beq k id then Q .normal ρ' H' else Q (.exit k) ρ' H'
  |e=>Q e ρ' H'
 | .loop x,.loop mv wr a,ρ,H,Q=> ∃ (I:Mo mv) (μ:J_ mv),sB mv I ρ H∧
   ∀BM:Env,Tx mv (ρ.mix BM wr) fun ρ0=> ∀H0:ak,sB mv I ρ0 H0→
    vc P C x a ρ0 H0 fun e ρ' H' =>match e with
     | .normal=>sB mv I ρ' H' ∧Mp mv μ ρ' H' <Mp mv μ ρ0 H0
     |e=>Q e ρ' H'
 |_,_,_,_,_=>False
def Hk (P:Program) (ρ:Env) (H:ak) (K:List Value→Prop):List ResultVar→Prop
 | []=>K []
 | .tmp t::r=>Hk P ρ H (fun l=>K (ρ t::l)) r
 | .cell a t::r=>match P.underlying t,P.info? t with
  |some _,some i=>bif iy P t then aF H i.size (ρ a) (fun v=>Hk P ρ H (fun l=>K (v::l)) r) else al H (ρ a) (fun v=>Hk P ρ H (fun l=>K (v::l)) r)
  |_,_=>False
def Hl:List Value→Value
 | [v]=>v
 |l=> .tuple l.toArray
def FI (args:List Value):Env:=fun t=>match args[t]? with
 |some v=>v
 |none=>undef
def Ty (P:Program) (C:List Nat) (fn:Func) (a:cF) (args:List Value) (H:ak) (R:Value→ak→Prop):Prop:=match fn.body with
 |some c=>vc P C c a (FI args) H fun e ρ H' =>match e with
  | .exit _=>False
  |_=>Hk P ρ H' (fun l=>R (Hl l) H') fn.results.toList
 |none=>False
end
section
section
variable {P:Program}
theorem bq {t:TypeId} {d:TypeDesc} (h:P.underlying t=some d) (w:World): (underlying t).run P w= .ok d w:=run_underlying h w
theorem ri {t:TypeId} {i:TypeInfo} (h:P.info? t=some i) (w:World): (typeInfo t).run P w= .ok i w:=by
 simp [typeInfo,h]
theorem eE {t:TypeId} {i:TypeInfo} (h:P.info? t=some i) (w:World): (Go.sizeOf t).run P w= .ok i.size w:=by
 simp [Go.sizeOf,ri h]
theorem nC {t:TypeId} {i:TypeInfo} {z:Value} (h:P.info? t=some i) (hz:i.zero=some z) (w:World): (zeroValue t).run P w= .ok z w:=by
 simp [zeroValue,ri h,hz]
theorem vQ {t:TypeId} {d:TypeDesc} (h:P.underlying t=some d) (w:World): (isAgg t).run P w= .ok (iy P t) w:=by
 simp only [isAgg,Sem.run_bind,bq h,Result.andThen_ok,iy,h]
 cases d<;>rfl
theorem kl {t:TypeId} {z:Value} (h:nB P t=some z): ∃i,P.info? t=some i∧i.zero=some z:=by
 unfold nB at h
 cases hi:P.info? t with
 |none=>simp [hi] at h
 |some i=>exact⟨i,rfl,by simpa [hi] using h⟩
theorem Aa {op:BinOp} {t:TypeId} {x y:Operand} {a b:Value} {c:Bool} {k:Nat} (h:rf k a b=some c) (w:World): (eqGuard op t x y a b).run P w= .ok () w:=by
 unfold eqGuard
 cases a<;>cases b<;>simp [rf] at h<;>simp
theorem FJ {op:BinOp} {t:TypeId} {x y:Operand} {a b:Value} (h:op≠ .eql∧op≠ .neq) (w:World): (eqGuard op t x y a b).run P w= .ok () w:=by
 unfold eqGuard
 cases op<;>simp_all
def km (P:Program) (op:BinOp) (t:TypeId) (x y:Operand) (a b:Value) (K:Value→Prop):Prop:=
 ∃v,(∀w,(do eqGuard op t x y a b;binOp op t a b:Sem Value).run P w= .ok v w)∧K v
theorem km.of {op:BinOp} {t:TypeId} {x y:Operand} {a b v:Value} {K:Value→Prop} (D0:op≠ .eql∧op≠ .neq) (h: ∀w,(binOp op t a b).run P w= .ok v w) (hv:K v):km P op t x y a b K:=
 ⟨v,fun w=>by simp only [Sem.run_bind,FJ D0,Result.andThen_ok,h],hv⟩
theorem Ka (a b:ByteArray): (⟨(kI a++kI b).toArray⟩:ByteArray)=a++b:=by
 cases a;cases b;simp [kI,amY,ByteArray.data_append]
theorem jH (a:ByteArray): (kI a).length=a.size:=by cases a;simp [kI,ByteArray.size]
theorem Kc (s:ByteArray):s.toList=kI s:=by
 have hl: ∀ (n i:Nat) (r:List UInt8),s.size - i=n→ByteArray.toList.loop s i r=r.reverse++ (kI s).drop i:=by
  intro n
  induction n with
  |zero=>
   intro i r h;unfold ByteArray.toList.loop;rw [if_neg (by omega),ak3 (by rw [jH];omega),akb]
  |succ n ih=>
   intro i r h;unfold ByteArray.toList.loop;rw [if_pos (by omega),ih (i+1) _ (by omega)];have hi:i< (kI s).length:=by rw [jH];omega
   rw [akN hi,List.reverse_cons,ajT,List.singleton_append]
   congr 2
   cases s
   simp [kI,ByteArray.get!] at hi ⊢
   simp [hi]
 have:=hl s.size 0 [] (by omega)
 simpa [ByteArray.toList] using this
theorem VZ (a b:ByteArray): (a.toList==b.toList)=decide (kI a=kI b):=by
 have h: ∀s:ByteArray,s.toList=kI s:=Kc;rw [h,h]
 by_cases e:kI a=kI b<;>simp [e]
theorem Tz {a b:ByteArray}:kI a=kI b↔a=b:=by
 constructor
 ·intro h;cases a;cases b;simp [kI] at h;simp [h]
 ·rintro rfl;rfl
theorem sC (a b:ByteArray): (a==b)=decide (kI a=kI b):=by
 have h: (a==b)= (a.data==b.data):=by cases a;cases b;rfl
 rw [h,ala]
 simp [kI]
variable {t:TypeId} {x y:Operand} {a b:Value} {K:Value→Prop}
theorem P9 (h:aK a b K):km P .add t x y a b K:=by
 cases a<;>cases b<;>simp only [aK] at h
 ·obtain⟨rfl,hk⟩:=h
  exact .of (by simp) (fun w=>by simp [binOp,Op.intArith]) hk
 ·obtain⟨hs,hk⟩:=h
  refine .of (by simp) (fun w=>?_) hk
  rename_i a b
  have hm:IntKind.i64.max=9223372036854775807:=by decide
  have: ¬ ((a.size+b.size:Nat):Int)>IntKind.i64.max:=by rw [hm];omega
  simp only [binOp,Op.stringOp,if_neg this,str,Ka]
  rfl
theorem P_ (h:dJ a b K):km P .sub t x y a b K:=by
 cases a<;>cases b<;>simp only [dJ] at h
 obtain⟨rfl,hk⟩:=h;exact .of (by simp) (fun w=>by simp [binOp,Op.intArith]) hk
theorem Qa (h:xF a b K):km P .mul t x y a b K:=by
 cases a<;>cases b<;>simp only [xF] at h
 obtain⟨rfl,hk⟩:=h;exact .of (by simp) (fun w=>by simp [binOp,Op.intArith]) hk
theorem Qb (h:A1 a b K):km P .quo t x y a b K:=by
 cases a<;>cases b<;>simp only [A1] at h
 obtain⟨rfl,h0,hk⟩:=h;exact .of (by simp) (fun w=>by simp [binOp,Op.intDiv,h0]) hk
theorem Qc (h:uN a b K):km P .rem t x y a b K:=by
 cases a<;>cases b<;>simp only [uN] at h
 obtain⟨rfl,h0,hk⟩:=h;exact .of (by simp) (fun w=>by simp [binOp,Op.intDiv,h0]) hk
theorem vR {op:BinOp} (D0:op= .and∨op= .or∨op= .xor∨op= .andNot) (h:dR op a b K):km P op t x y a b K:=by
 cases a<;>cases b<;>simp only [dR] at h
 obtain⟨rfl,hk⟩:=h;rcases D0 with rfl|rfl|rfl|rfl<;>exact .of (by simp) (fun w=>by simp [binOp,Op.intBits,bitsOf]) hk
theorem Qd (h:ou a b K):km P .shl t x y a b K:=by
 cases a<;>cases b<;>simp only [ou] at h
 obtain⟨h0,hk⟩:=h;exact .of (by simp) (fun w=>by simp only [binOp,Op.shift];rw [if_neg (by omega)];rfl) hk
theorem Qe (h:sQ a b K):km P .shr t x y a b K:=by
 cases a<;>cases b<;>simp only [sQ] at h
 obtain⟨h0,hk⟩:=h;exact .of (by simp) (fun w=>by simp only [binOp,Op.shift];rw [if_neg (by omega)];rfl) hk
theorem TA (h:ec a b K):km P .lss t x y a b K:=by
 cases a<;>cases b<;>simp only [ec] at h
 obtain⟨rfl,hk⟩:=h;exact .of (by simp) (fun w=>by simp [binOp,Op.intCmp]) hk
theorem TB (h:z_ a b K):km P .leq t x y a b K:=by
 cases a<;>cases b<;>simp only [z_] at h
 obtain⟨rfl,hk⟩:=h;exact .of (by simp) (fun w=>by simp [binOp,Op.intCmp]) hk
theorem TC (h:ka a b K):km P .gtr t x y a b K:=by
 cases a<;>cases b<;>simp only [ka] at h
 obtain⟨rfl,hk⟩:=h;exact .of (by simp) (fun w=>by simp [binOp,Op.intCmp]) hk
theorem TD (h:rS a b K):km P .geq t x y a b K:=by
 cases a<;>cases b<;>simp only [rS] at h
 obtain⟨rfl,hk⟩:=h;exact .of (by simp) (fun w=>by simp [binOp,Op.intCmp]) hk
theorem TE {c:Bool} (h:rf 0 a b=some c): ∃k m n,a= .int k m∧b= .int k n∧c=decide (m=n):=by
 cases a<;>simp only [rf,reduceCtorEq] at h
 cases b<;>simp only [rf,reduceCtorEq] at h
 split at h
 ·rename_i e;subst e;exact⟨_,_,_,rfl,rfl,by simpa using h.symm⟩
 ·simp at h
theorem TF {c:Bool} (h:rf 1 a b=some c): ∃s t,a= .string s∧b= .string t∧c=decide (kI s=kI t):=by
 cases a<;>simp only [rf,reduceCtorEq] at h
 cases b<;>simp only [rf,reduceCtorEq] at h
 exact⟨_,_,rfl,rfl,by simpa using h.symm⟩
theorem YV {c:Bool} (h:rf 2 a b=some c): ∃s t,a= .bool s∧b= .bool t∧c=decide (s=t):=by
 cases a<;>simp only [rf,reduceCtorEq] at h
 cases b<;>simp only [rf,reduceCtorEq] at h
 exact⟨_,_,rfl,rfl,by simpa using h.symm⟩
theorem rj {d:TypeDesc} {n k:Nat} {c:Bool} (hu:P.underlying t=some d) (hd:rh d=some k) (h:rf k a b=some c) (w:World):
  (Op.equalIn (n+1) t a b).run P w= .ok c w:=by
 have hr:=bq hu
 cases d<;>simp only [rh,reduceCtorEq,ajY] at hd<;>subst hd
 case bool=>
  obtain⟨s,t,rfl,rfl,rfl⟩:=YV h
  simp [Op.equalIn,hr];cases s<;>cases t<;>rfl
 case int=>
  obtain⟨k,m,n,rfl,rfl,rfl⟩:=TE h
  simp [Op.equalIn,hr]
  rw [ala];simp
 case string=>
  obtain⟨s,t,rfl,rfl,rfl⟩:=TF h
  simp [Op.equalIn,hr,sC]
 case pointer=>
  cases a<;> (try simp only [rf,reduceCtorEq] at h)
  rename_i p
  cases p<;>cases b<;> (try simp only [rf,reduceCtorEq] at h)
  ·simp [Op.equalIn,hr];simpa using h
  ·rename_i p q;cases q<;>simp [rf] at h
   subst h;simp [Op.equalIn,hr]
 case slice=>
  cases a<;> (try simp only [rf,reduceCtorEq] at h)
  rename_i p _ _
  cases p<;>cases b<;> (try simp only [rf,reduceCtorEq] at h)
  ·simp [Op.equalIn,hr];simpa using h
  ·rename_i q _ _;cases q<;>simp [rf] at h
   subst h;simp [Op.equalIn,hr]
 case map=>
  cases a<;> (try simp only [rf,reduceCtorEq] at h)
  rename_i p
  cases p<;>cases b<;> (try simp only [rf,reduceCtorEq] at h)
  ·simp [Op.equalIn,hr];simpa using h
  ·rename_i q;cases q<;>simp [rf] at h
   subst h;simp [Op.equalIn,hr]
theorem Ew {d:TypeDesc} {k:Nat} {c:Bool} (hu:P.underlying t=some d) (hd:rh d=some k) (h:rf k a b=some c) (w:World):
  (binOp .eql t a b).run P w= .ok (.bool c) w∧(binOp .neq t a b).run P w= .ok (.bool !c) w:=by
 have he:=rj (n:=9999) hu hd h w
 cases d<;>simp only [rh,reduceCtorEq,ajY] at hd<;>subst hd
 case bool=>obtain⟨s,t,rfl,rfl,rfl⟩:=YV h;constructor<;>simp only [binOp,Op.equal,Op.maxDepth,Sem.run_bind,he,Result.andThen_ok]<;>rfl
 case int=>
  obtain⟨k,m,n,rfl,rfl,rfl⟩:=TE h;have: (m==n)=decide (m=n):=by rw [ala];simp
  constructor<;>simp [binOp,Op.intCmp,bne,this]
 case string=>
  obtain⟨s,t,rfl,rfl,rfl⟩:=TF h
  constructor<;>simp [binOp,Op.stringOp,VZ]
 case pointer=>
  cases a<;> (try simp only [rf,reduceCtorEq] at h)
  cases b<;> (try simp only [rf,reduceCtorEq] at h)
  constructor<;>simp only [binOp,Op.equal,Op.maxDepth,Sem.run_bind,he,Result.andThen_ok]<;>rfl
 case slice=>
  cases a<;> (try simp only [rf,reduceCtorEq] at h)
  cases b<;> (try simp only [rf,reduceCtorEq] at h)
  constructor<;>simp only [binOp,Op.equal,Op.maxDepth,Sem.run_bind,he,Result.andThen_ok]<;>rfl
 case map=>
  cases a<;> (try simp only [rf,reduceCtorEq] at h)
  cases b<;> (try simp only [rf,reduceCtorEq] at h)
  constructor<;>simp only [binOp,Op.equal,Op.maxDepth,Sem.run_bind,he,Result.andThen_ok]<;>rfl
theorem TG {d:TypeDesc} {k:Nat} (hu:P.underlying t=some d) (hd:rh d=some k) (h:eA k a b K):km P .eql t x y a b K:=by
 unfold eA at h
 split at h
 ·rename_i c hc
  exact⟨_,fun w=>by simp only [Sem.run_bind,Aa hc,Result.andThen_ok,(Ew hu hd hc w).1],h⟩
 ·exact h.elim
theorem TH {d:TypeDesc} {k:Nat} (hu:P.underlying t=some d) (hd:rh d=some k) (h:ld k a b K):km P .neq t x y a b K:=by
 unfold ld at h
 split at h
 ·rename_i c hc
  exact⟨_,fun w=>by simp only [Sem.run_bind,Aa hc,Result.andThen_ok,(Ew hu hd hc w).2],h⟩
 ·exact h.elim
end
end
section
section
variable {P:Program} {K:Value→Prop}
theorem sU {t:TypeId} {d:TypeDesc} {cs:Array Value} {off:Nat} {v:Value} (hu:P.underlying t=some d) (ha:iy P t=false) (hv:cs[off]? =some v) (w:World):
  (part t cs off).run P w= .ok v w:=by
 simp [part,vQ hu,ha,hv]
theorem yX {t:TypeId} {d:TypeDesc} {i:TypeInfo} {cs:Array Value} {off:Nat} (hu:P.underlying t=some d) (ha:iy P t=true) (hi:P.info? t=some i) (w:World):
  (part t cs off).run P w= .ok (.agg (cs.extract off (off+i.size))) w:=by
 simp [part,vQ hu,ha,eE hi]
theorem Ab {t:TypeId} {d:TypeDesc} {k:Nat} (hu:P.underlying t=some d) (hk:rh d=some k):iy P t=false:=by
 unfold iy;rw [hu];cases d<;>simp [rh] at hk<;>rfl
theorem FK {xs ys:Array Value} (n:Nat) (w:World): ∀ (fs:List Field) (off:Nat) (ks:List Nat) (c:Bool),BN P fs off=some ks→
  eG ks (xs.toList.drop off) (ys.toList.drop off)=some c→(Op.eqFields (n+1) xs ys fs).run P w= .ok c w:=by
 intro fs
 induction fs with
 |nil=>
  intro off ks c hf hc;simp only [BN,ajY] at hf;subst hf;generalize xs.toList.drop off=l at hc;generalize ys.toList.drop off=m at hc
  cases l<;>cases m<;>simp [eG] at hc
  subst hc;simp [Op.eqFields]
 |cons f r ih=>
  intro off ks c hf hc;simp only [BN] at hf
  cases h1: (Nat.beq f.offset off && f.name != "_") with
  |false=>simp [h1] at hf
  |true=>
   rw [h1] at hf;simp only [cond_true] at hf;simp only [aj3,bne_iff_ne,ne_eq] at h1;obtain⟨h1,hn⟩:=h1;have h1:f.offset=off:=akv h1
   cases hu:P.underlying f.type with
   |none=>simp [hu] at hf
   |some d=>
    cases hi:P.info? f.type with
    |none=>simp [hu,hi] at hf
    |some i=>
     rw [hu,hi] at hf;simp only at hf
     cases hk:rh d with
     |none=>simp [hk] at hf
     |some k=>
      rw [hk] at hf;simp only at hf
      cases hb: (Nat.ble k 2 && Nat.beq i.size 1) with
      |false=>simp [hb] at hf
      |true=>
       rw [hb] at hf;simp only [cond_true] at hf
       cases hr:BN P r (off+1) with
       |none=>simp [hr] at hf
       |some l=>
        rw [hr] at hf;simp only [ajY] at hf;subst hf
        cases hx:xs.toList.drop off with
        |nil=>simp [hx,eG] at hc
        |cons x xr=>
         cases hy:ys.toList.drop off with
         |nil=>simp [hx,hy,eG] at hc
         |cons y yr=>
          rw [hx,hy] at hc;simp only [eG] at hc
          cases he:rf k x y with
          |none=>simp [he] at hc
          |some b=>
           rw [he] at hc;simp only at hc
           cases PK:eG l xr yr with
           |none=>simp [PK] at hc
           |some c' =>
            rw [PK] at hc;simp only [ajY] at hc;subst hc;have gx:xs[off]? =some x:=by
             have:=congrArg (·[0]?) hx;simpa using this
            have gy:ys[off]? =some y:=by
             have:=congrArg (·[0]?) hy;simpa using this
            have dx:xs.toList.drop (off+1)=xr:=by rw [←akR,hx];rfl
            have dy:ys.toList.drop (off+1)=yr:=by rw [←akR,hy];rfl
            have FL:=ih (off+1) l c' hr (by rw [dx,dy];exact PK);have na:=Ab hu hk;simp only [Op.eqFields,if_pos hn,Sem.run_bind,h1,sU hu na gx,sU hu na gy,Result.andThen_ok,rj hu hk he,Sem.run_ite,FL]
            cases b<;>simp
theorem Ac: ∀ {ks l:List Nat} {xs ys:List Value} {c:Bool},eG (ks++l) xs ys=some c→∃a b,eG ks (xs.take ks.length) (ys.take ks.length)=some a∧eG l (xs.drop ks.length) (ys.drop ks.length)=some b∧c= (a && b)
 | [],l,xs,ys,c,h=> ⟨true,c,rfl,h,rfl⟩
 |k::ks,l,[],ys,c,h=>by simp [eG] at h
 |k::ks,l,_::_,[],c,h=>by simp [eG] at h
 |k::ks,l,x::xs,y::ys,c,h=>by
  simp only [akX,eG] at h
  cases he:rf k x y with
  |none=>simp [he] at h
  |some b=>
   rw [he] at h;simp only at h
   cases hr:eG (ks++l) xs ys with
   |none=>simp [hr] at h
   |some d=>
    rw [hr] at h;simp only [ajY] at h;obtain⟨a,e,h1,h2,h3⟩:=Ac hr;refine⟨b && a,e,?_,h2,by rw [←h,h3,Bool.and_assoc]⟩;simp only [aj2,akY,eG,he,h1]
theorem wJ {xs ys:Array Value} (n:Nat) (w:World): ∀ (fs:List Field) (off:Nat) (ks:List Nat) (c:Bool),xG P fs off=some ks→
  eG ks (xs.toList.drop off) (ys.toList.drop off)=some c→(Op.eqFields (n+2) xs ys fs).run P w= .ok c w:=by
 intro fs
 induction fs with
 |nil=>
  intro off ks c hf hc;simp only [xG,ajY] at hf;subst hf;generalize xs.toList.drop off=l at hc;generalize ys.toList.drop off=m at hc
  cases l<;>cases m<;>simp [eG] at hc
  subst hc;simp [Op.eqFields]
 |cons f r ih=>
  intro off ks c hf hc;rw [xG] at hf
  cases h1: (Nat.beq f.offset off && f.name != "_") with
  |false=>simp [h1] at hf
  |true=>
   rw [h1] at hf;simp only [cond_true] at hf;simp only [aj3,bne_iff_ne,ne_eq] at h1;obtain⟨h1,hn⟩:=h1;have h1:f.offset=off:=akv h1
   cases hu:P.underlying f.type with
   |none=>simp [hu] at hf
   |some d=>
    cases hi:P.info? f.type with
    |none=>cases d<;>simp [hu,hi] at hf
    |some i=>
     by_cases ff: ∃gs,d= .struct gs
     ·obtain⟨gs,rfl⟩:=ff
      rw [hu,hi] at hf;simp only at hf
      cases hh:P.stoodInHeld f.type with
      |true=>simp [hh] at hf
      |false=>
       rw [hh] at hf;simp only [cond_false] at hf
       cases hk:BN P gs.toList 0 with
       |none=>simp [hk] at hf
       |some k=>
        rw [hk] at hf;simp only at hf
        cases hb:Nat.beq k.length i.size with
        |false=>simp [hb] at hf
        |true=>
         rw [hb] at hf;simp only [cond_true] at hf;have u0:k.length=i.size:=akv hb
         cases hr:xG P r (off+i.size) with
         |none=>simp [hr] at hf
         |some l=>
          rw [hr] at hf;simp only [ajY] at hf;subst hf;obtain⟨a,b,g1,g2,rfl⟩:=Ac hc;rw [akR,akR,u0] at g2;have FL:=ih (off+i.size) l b hr g2;have na:iy P f.type=true:=by unfold iy;rw [hu]
          have hs:P.underlying f.type=some (.struct (P.fieldsOf f.type)):=by simp [Program.fieldsOf,hu]
          have NB: (P.fieldsOf f.type).toList=gs.toList:=by simp [Program.fieldsOf,hu]
          have lf:=run_equalIn_struct (P:=P) w (n+1) f.type (xs.extract off (off+i.size)) (ys.extract off (off+i.size)) hs hh;have e0: ∀zs:Array Value,(zs.extract off (off+i.size)).toList.drop 0= (zs.toList.drop off).take k.length:=fun zs=>by
           rw [ako,Array.toList_extract,List.extract_eq_take_drop,u0,amj]
          rw [NB,FK n w gs.toList 0 k a hk (by rw [e0,e0];exact g1)] at lf;simp only [Op.eqFields,if_pos hn,Sem.run_bind,h1,yX hu na hi,Result.andThen_ok,lf,Sem.run_ite,FL]
          cases a<;>simp
     ·have hf: (match rh d with
       |some k=>bif Nat.ble k 2 && Nat.beq i.size 1 then match xG P r (off+1) with
        |some l=>some (k::l)
        |none=>none
        else none
       |none=>none)=some ks:=by
       rw [hu,hi] at hf
       cases d<;>first|exact hf|exact absurd ⟨_,rfl⟩ ff
      cases hk:rh d with
      |none=>simp [hk] at hf
      |some k=>
       rw [hk] at hf;simp only at hf
       cases hb: (Nat.ble k 2 && Nat.beq i.size 1) with
       |false=>simp [hb] at hf
       |true=>
        rw [hb] at hf;simp only [cond_true] at hf
        cases hr:xG P r (off+1) with
        |none=>simp [hr] at hf
        |some l=>
         rw [hr] at hf;simp only [ajY] at hf;subst hf
         cases hx:xs.toList.drop off with
         |nil=>simp [hx,eG] at hc
         |cons x xr=>
          cases hy:ys.toList.drop off with
          |nil=>simp [hx,hy,eG] at hc
          |cons y yr=>
           rw [hx,hy] at hc;simp only [eG] at hc
           cases he:rf k x y with
           |none=>simp [he] at hc
           |some b=>
            rw [he] at hc;simp only at hc
            cases PK:eG l xr yr with
            |none=>simp [PK] at hc
            |some c' =>
             rw [PK] at hc;simp only [ajY] at hc;subst hc;have gx:xs[off]? =some x:=by
              have:=congrArg (·[0]?) hx;simpa using this
             have gy:ys[off]? =some y:=by
              have:=congrArg (·[0]?) hy;simpa using this
             have dx:xs.toList.drop (off+1)=xr:=by rw [←akR,hx];rfl
             have dy:ys.toList.drop (off+1)=yr:=by rw [←akR,hy];rfl
             have FL:=ih (off+1) l c' hr (by rw [dx,dy];exact PK);have na:=Ab hu hk;simp only [Op.eqFields,if_pos hn,Sem.run_bind,h1,sU hu na gx,sU hu na gy,Result.andThen_ok,rj hu hk he,Sem.run_ite,FL]
             cases b<;>simp
theorem Qf {t:TypeId} {x y:Operand} {a b:Value} {ks:List Nat} (hf:Et P t=some ks) (h:Tw ks a b K):km P .eql t x y a b K:=by
 cases a<;>simp only [Tw] at h
 cases b<;>simp only [Tw] at h
 rename_i xs ys
 unfold Et at hf
 cases hu:P.underlying t with
 |none=>simp [hu] at hf
 |some d=>
  rw [hu] at hf
  cases d<;>simp only [reduceCtorEq] at hf
  rename_i fs
  cases hb: (P.stoodInHeld t||P.eqGuardType P.depth t) with
  |true=>simp [hb] at hf
  |false=>
   rw [hb] at hf;simp only [cond_false] at hf;simp only [alu] at hb
   cases hc:eG ks xs.toList ys.toList with
   |none=>simp [hc] at h
   |some c=>
    rw [hc] at h;refine⟨_,fun w=>?_,h⟩;have hs:P.underlying t=some (.struct (P.fieldsOf t)):=by simp [Program.fieldsOf,hu]
    have NB: (P.fieldsOf t).toList=fs.toList:=by simp [Program.fieldsOf,hu]
    have:=run_equalIn_struct (P:=P) w 9999 t xs ys hs hb.1;rw [NB,wJ 9997 w fs.toList 0 ks c hf (by simpa using hc)] at this;simp only [Sem.run_bind,run_eqGuard_agg w .eql t x y xs ys hb.2,Result.andThen_ok,run_eql_struct,this]
theorem Qg {t:TypeId} {x y:Operand} {a b:Value} {ks:List Nat} (hf:Et P t=some ks) (h:J6 ks a b K):km P .neq t x y a b K:=by
 cases a<;>simp only [J6] at h
 cases b<;>simp only [J6] at h
 rename_i xs ys
 unfold Et at hf
 cases hu:P.underlying t with
 |none=>simp [hu] at hf
 |some d=>
  rw [hu] at hf
  cases d<;>simp only [reduceCtorEq] at hf
  rename_i fs
  cases hb: (P.stoodInHeld t||P.eqGuardType P.depth t) with
  |true=>simp [hb] at hf
  |false=>
   rw [hb] at hf;simp only [cond_false] at hf;simp only [alu] at hb
   cases hc:eG ks xs.toList ys.toList with
   |none=>simp [hc] at h
   |some c=>
    rw [hc] at h;refine⟨_,fun w=>?_,h⟩;have hs:P.underlying t=some (.struct (P.fieldsOf t)):=by simp [Program.fieldsOf,hu]
    have NB: (P.fieldsOf t).toList=fs.toList:=by simp [Program.fieldsOf,hu]
    have:=run_equalIn_struct (P:=P) w 9999 t xs ys hs hb.1;rw [NB,wJ 9997 w fs.toList 0 ks c hf (by simpa using hc)] at this;simp only [Sem.run_bind,run_eqGuard_agg w .neq t x y xs ys hb.2,Result.andThen_ok,run_neq_struct,this]
def qB (P:Program) (s:Sem Value) (K:Value→Prop):Prop:= ∃v,(∀w,s.run P w= .ok v w)∧K v
theorem BP {t:TypeId} {fs:Array Field} {f:Nat} {fd:Field} {i:TypeInfo} {x:Value} (hu:P.underlying t=some (.struct fs)) (hf:fs.toList[f]? =some fd)
  (hi:P.info? fd.type=some i) (h0:Nat.beq i.size 0=false) (h:aa fd.offset x K):qB P (Instr.fieldAt t x f) K:=by
 cases x<;>simp only [aa] at h
 rename_i a
 cases a<;>simp only [aa] at h
 refine⟨_,fun w=>?_,h⟩;have Yn :fs[f]? =some fd:=by simpa using hf
 have d_:i.size≠0:=by intro e;rw [e] at h0;exact absurd h0 (by decide)
 simp [Instr.fieldAt,bq hu,Yn,Instr.sureAddr,fieldPlace,eE hi,d_]
theorem Hm {t:TypeId} {fs:Array Field} {f:Nat} {fd:Field} {d:TypeDesc} {x:Value} (hu:P.underlying t=some (.struct fs)) (hf:fs.toList[f]? =some fd)
  (hd:P.underlying fd.type=some d) (h0:iy P fd.type=false) (h:tX fd.offset x K):qB P (Instr.field t x f) K:=by
 cases x<;>simp only [tX] at h
 split at h
 ·rename_i cs v hv
  refine⟨v,fun w=>?_,h⟩;have Yn :fs[f]? =some fd:=by simpa using hf
  simp [Instr.field,bq hu,Yn,asAgg,sU hd h0 (v:=v) (by simpa using hv)]
 ·exact h.elim
theorem Hn {t:TypeId} {fs:Array Field} {f:Nat} {fd:Field} {d:TypeDesc} {i:TypeInfo} {x:Value} (hu:P.underlying t=some (.struct fs)) (hf:fs.toList[f]? =some fd)
  (hd:P.underlying fd.type=some d) (hi:P.info? fd.type=some i) (h0:iy P fd.type=true) (h:FF fd.offset i.size x K):qB P (Instr.field t x f) K:=by
 cases x<;>simp only [FF] at h
 rename_i cs
 refine⟨_,fun w=>?_,h⟩;have Yn :fs[f]? =some fd:=by simpa using hf
 simp only [Instr.field,Sem.run_bind,bq hu,Result.andThen_ok,Yn,asAgg,Sem.run_pure,yX hd h0 hi]
 congr 2
 apply alv
 simp [amZ,alw]
theorem FM {x:Value} {i:Nat} (h:av i x K):qB P (Instr.extract x i) K:=by
 cases x<;>simp only [av] at h
 rename_i vs
 cases hv:vs.toList[i]? with
 |none=>simp [hv] at h
 |some v=>
  rw [hv] at h;refine⟨v,fun w=>?_,h⟩;have:vs[i]? =some v:=by simpa using hv
  simp [Instr.extract,this]
theorem Ho {t e:TypeId} {n:Nat} {ti:TypeInfo} {x i:Value} (hu:P.underlying t=some (.array n e)) (hi:P.info? e=some ti) (h:gO n ti.size x i K):qB P (Instr.indexAt t x i) K:=by
 cases x<;> (try simp only [gO] at h)
 rename_i a
 cases a<;> (try simp only [gO] at h)
 cases i<;>simp only [gO] at h
 obtain⟨h0,h1,hk⟩:=h;exact⟨_,fun w=>by simp [Instr.indexAt,asIntOf,bq hu,Instr.sureAddr,h0,h1,eE hi],hk⟩
theorem Kd {t e:TypeId} {ti:TypeInfo} {x i:Value} (hu:P.underlying t=some (.slice e)) (hi:P.info? e=some ti) (h:aN ti.size x i K):qB P (Instr.indexAt t x i) K:=by
 cases x<;> (try simp only [aN] at h)
 rename_i a _ _
 cases a<;> (try simp only [aN] at h)
 cases i<;>simp only [aN] at h
 obtain⟨h0,h1,hk⟩:=h;exact⟨_,fun w=>by simp [Instr.indexAt,asIntOf,bq hu,h0,h1,eE hi],hk⟩
theorem Hp {t:TypeId} {x i:Value} (hu:P.underlying t=some .string) (h:dc x i K):qB P (Instr.index t x i) K:=by
 cases x<;>simp only [dc] at h
 cases i<;>simp only [dc] at h
 obtain⟨h0,h1,hk⟩:=h
 rename_i s k j
 refine⟨_,fun w=>?_,hk⟩;have hl:j.toNat<s.size:=by rw [jH] at h1;omega
 have hg:s[j.toNat]? =some ((kI s).getD j.toNat 0):=by
  rw [ajX]
  cases s with|mk d=>
  have FN :j.toNat<d.size:=hl
  simp [kI,getElem?_def,FN]
  exact⟨hl,rfl⟩
 simp [Instr.index,asIntOf,bq hu,h0,hg]
theorem Hq {t e:TypeId} {n:Nat} {d:TypeDesc} {ti:TypeInfo} {x i:Value} (hu:P.underlying t=some (.array n e)) (hd:P.underlying e=some d) (hi:P.info? e=some ti) (h0:iy P e=false) (h1:Nat.beq ti.size 1=true)
  (h:tY n x i K):qB P (Instr.index t x i) K:=by
 cases x<;>simp only [tY] at h
 cases i<;>simp only [tY] at h
 obtain⟨g0,g1,hk⟩:=h
 rename_i cs _ j
 cases hv:cs.toList[j.toNat]? with
 |none=>simp [hv] at hk
 |some v=>
  rw [hv] at hk;refine⟨v,fun w=>?_,hk⟩;have hs:ti.size=1:=akv h1
  simp [Instr.index,asIntOf,bq hu,g0,g1,eE hi,hs,sU hd h0 (v:=v) (cs:=cs) (off:=j.toNat) (by simpa using hv)]
theorem FO {t e:TypeId} {n:Nat} {d:TypeDesc} {ti:TypeInfo} {x i:Value} (hu:P.underlying t=some (.array n e)) (hd:P.underlying e=some d) (hi:P.info? e=some ti) (h0:iy P e=true)
  (h:pG n ti.size x i K):qB P (Instr.index t x i) K:=by
 cases x<;>simp only [pG] at h
 cases i<;>simp only [pG] at h
 obtain⟨g0,g1,hk⟩:=h
 rename_i cs _ j
 refine⟨_,fun w=>?_,hk⟩;simp only [Instr.index,asIntOf,Sem.run_bind,Sem.run_pure,bq hu,Result.andThen_ok,eE hi];rw [if_pos ⟨g0,g1⟩,Sem.run_bind,eE hi,Result.andThen_ok,yX hd h0 hi]
 congr 2
 apply alv
 simp [amZ,alw]
theorem wX {isSlice:Bool} {len cap:Nat} {lo hi:Option Value} {Kb:Nat→Nat→Prop} (h:kj len cap lo hi Kb): ∃l g,(∀w,(Instr.sliceBounds isSlice len cap lo hi none).run P w= .ok (l,g,cap) w)∧Kb l g:=by
 cases lo with
 |none=>
  cases hi with
  |none=>exact⟨0,len,fun w=>by simp [Instr.sliceBounds],h⟩
  |some b=>
   cases b<;>simp only [kj] at h
   obtain⟨h0,h1,hk⟩:=h;exact⟨_,_,fun w=>by simp [Instr.sliceBounds,Instr.sliceBound,asIntOf,h0,h1],hk⟩
 |some a=>
  cases a<;>cases hi with
  |none=>
   simp only [kj] at h<;>
   (obtain⟨h0,h1,hk⟩:=h
    exact⟨_,_,fun w=>by simp [Instr.sliceBounds,Instr.sliceBound,asIntOf,h0,h1],hk⟩)
  |some b=>
   cases b<;>simp only [kj] at h<;>
   (obtain⟨h0,h1,h2,h3,hk⟩:=h
    refine⟨_,_,fun w=>?_,hk⟩
    simp [Instr.sliceBounds,Instr.sliceBound,asIntOf,h0,h1]
    omega)
theorem Ke {t:TypeId} {x:Value} {lo hi:Option Value} (hu:P.underlying t=some .string) (h:bt x lo hi K):qB P (Instr.sliceAt t x lo hi none) K:=by
 cases x<;>simp only [bt] at h
 rename_i s
 obtain⟨l,g,hr,hk⟩:=wX (P:=P) (isSlice:=false) h;refine⟨_,fun w=>?_,hk⟩;rw [jH] at hr;have hs:s.extract l g= ⟨(((kI s).drop l).take (g - l)).toArray⟩:=by
  cases s with|mk d=>
  simp [kI,amY,am0]
  apply alv
  simp [amZ]
 simp only [Instr.sliceAt,Instr.slice,Sem.run_bind,bq hu,Result.andThen_ok,hr,hs]
 simp [hr,hs]
theorem NC {t e:TypeId} {ti:TypeInfo} {x:Value} {lo hi:Option Value} (hu:P.underlying t=some (.slice e)) (D3 :P.info? e=some ti) (h:lj ti.size x lo hi K):qB P (Instr.sliceAt t x lo hi none) K:=by
 cases x<;>simp only [lj] at h
 obtain⟨l,g,hr,hk⟩:=wX (P:=P) (isSlice:=true) h;refine⟨_,fun w=>?_,hk⟩;simp only [Instr.sliceAt,Instr.slice,Sem.run_bind,bq hu,Result.andThen_ok,hr,eE D3,Sem.run_pure]
theorem Kf {t e:TypeId} {n:Nat} {ti:TypeInfo} {x:Value} {lo hi:Option Value} (hu:P.underlying t=some (.array n e)) (D3 :P.info? e=some ti) (h:wV n ti.size x lo hi K):qB P (Instr.sliceAt t x lo hi none) K:=by
 cases x<;>simp only [wV] at h
 rename_i a
 cases a<;>simp only [wV] at h
 obtain⟨l,g,hr,hk⟩:=wX (P:=P) (isSlice:=false) h;refine⟨_,fun w=>?_,hk⟩;simp only [Instr.sliceAt,Sem.run_bind,bq hu,Result.andThen_ok,hr,eE D3,Sem.run_pure,Instr.sureAddr]
theorem ND (v:List Value): ∀ (cs:Array Value) (off k:Nat),(v.zipIdx k).foldl (fun cs (x:Value × Nat)=>cs.setIfInBounds (off+x.2) x.1) cs= (pH cs.toList (off+k) v).toArray:=by
 induction v with
 |nil=>intro cs off k;simp [pH]
 |cons x r ih=>
  intro cs off k;simp only [List.zipIdx_cons,alx,pH];rw [ih]
  congr 1
  rw [Array.toList_setIfInBounds,aly]
theorem u4 {places:Nat→Option (Nat × Nat)}: ∀ (ps:List (Nat × Nat × Value)) (parts:List (Nat × Value)) (cells:List Value),
  (∀k:Nat,(parts[k]?).map (fun p=> (places p.1,p.2))= (ps[k]?).map fun q=> (some (q.1,q.2.1),q.2.2))→
  aZ cells ps K→∃cs,Instr.fill places cells.toArray parts=some cs∧K (.agg cs):=by
 intro ps
 induction ps with
 |nil=>
  intro parts cells hp h
  cases parts with
  |nil=>exact⟨_,rfl,h⟩
  |cons p r=>have:=hp 0;simp at this
 |cons q ps ih=>
  intro parts cells hp h
  cases parts with
  |nil=>have:=hp 0;simp at this
  |cons p r=>
   obtain⟨i,v⟩:=p;obtain⟨off,size,u⟩:=q;have h0:=hp 0;simp only [akl,alI,ajY,ak4] at h0;obtain⟨h0,rfl⟩:=h0;simp only [aZ] at h;obtain⟨h1,h2,h3⟩:=h;obtain⟨cs,hc,hk⟩:=ih r _ (fun k=>by have:=hp (k+1);simpa using this) h3;refine⟨cs,?_,hk⟩;simp only [Instr.fill,h0];rw [if_neg (by simp [h1];omega)];rw [←hc]
   congr 1
   have:=ND v.cells.toList cells.toArray off 0;simp only [akp] at this;rw [←this,←Array.toList_zipIdx,Array.foldl_toList]
theorem nD (z:Value): (cH z).toArray=z.cells:=by cases z<;>simp [cH,Value.cells]
theorem Hr {fs:List Field} (h: ∀f∈fs,∃i,P.info? f.type=some i) (w:World):
  (fs.mapM fun f=> (do pure (f.offset,←Go.sizeOf f.type):Sem (Nat × Nat))).run P w= .ok (rW P fs) w:=by
 induction fs with
 |nil=>simp [rW]
 |cons f r ih=>
  obtain⟨i,hi⟩:=h f (by simp);simp only [amF,Sem.run_bind,eE hi,Result.andThen_ok,Sem.run_pure,ih (fun g hg=>h g (by simp [hg])),rW,U9,hi]
theorem Kg {pl:List (Nat × Nat)}: ∀ (vs:List (Nat × Value)) (ps:List (Nat × Nat × Value)),wW pl vs=some ps→
  ∀k:Nat,(vs[k]?).map (fun p=> ((fun j=>pl[j]?) p.1,p.2))= (ps[k]?).map fun q=> (some (q.1,q.2.1),q.2.2):=by
 intro vs
 induction vs with
 |nil=>intro ps h k;simp only [wW,ajY] at h;subst h;simp
 |cons p r ih=>
  intro ps h k;obtain⟨i,v⟩:=p;simp only [wW] at h
  cases hp:pl[i]? with
  |none=>simp [hp] at h
  |some q=>
   obtain⟨o,s⟩:=q;rw [hp] at h;simp only at h
   cases hr:wW pl r with
   |none=>simp [hr] at h
   |some l=>
    rw [hr] at h;simp only [ajY] at h;subst h
    cases k with
    |zero=>simp [hp]
    |succ k=>have:=ih l hr k;simpa using this
theorem BQ {size:Nat}: ∀ (vs:List (Nat × Value)) (k:Nat),(vs[k]?).map (fun p=> ((fun i=>some (i*size,size)) p.1,p.2))= ((tZ size vs)[k]?).map fun q=> (some (q.1,q.2.1),q.2.2):=by
 intro vs
 induction vs with
 |nil=>intro k;simp [tZ]
 |cons p r ih=>
  intro k;obtain⟨i,v⟩:=p
  cases k with
  |zero=>simp [tZ]
  |succ k=>have:=ih k;simpa [tZ] using this
theorem xI: ∀ {fs:List Field},xH P fs=true→∀f∈fs,∃i,P.info? f.type=some i
 | [],_,f,hf=>by simp at hf
 |g::r,h,f,hf=>by
  simp only [xH] at h
  cases hi:P.info? g.type with
  |none=>simp [hi] at h
  |some i=>
   rw [hi] at h;rcases aj5.1 hf with rfl|hf
   ·exact⟨i,hi⟩
   ·exact xI h f hf
theorem Hs {t:TypeId} {z:Value} {fs:Array Field} {vs:List (Nat × Value)} {ps:List (Nat × Nat × Value)} (hz:nB P t=some z) (hu:P.underlying t=some (.struct fs))
  (hi: ∀f∈fs.toList,∃i,P.info? f.type=some i) (hp:wW (rW P fs.toList) vs=some ps) (h:aZ (cH z) ps K):qB P (Instr.build t vs.toArray) K:=by
 obtain⟨cs,hc,hk⟩:=u4 (places:=fun j=> (rW P fs.toList)[j]?) ps vs (cH z) (Kg vs ps hp) h;refine⟨_,fun w=>?_,hk⟩;obtain⟨i,D3,Ad⟩:=kl hz;have hm: (fs.mapM fun f=> (do pure (f.offset,←Go.sizeOf f.type):Sem (Nat × Nat))).run P w= .ok (rW P fs.toList).toArray w:=by
  rw [anq];simp only [Sem.run_map,Hr hi,Result.andThen_ok]
 simp only [Instr.build,Sem.run_bind,nC D3 Ad,Result.andThen_ok,bq hu,hm,Sem.run_pure];rw [←nD]
 simp [hc]
theorem Ht {t e:TypeId} {n:Nat} {z:Value} {ti:TypeInfo} {vs:List (Nat × Value)} (hz:nB P t=some z) (hu:P.underlying t=some (.array n e))
  (hi:P.info? e=some ti) (h:aZ (cH z) (tZ ti.size vs) K):qB P (Instr.build t vs.toArray) K:=by
 obtain⟨cs,hc,hk⟩:=u4 (places:=fun i=>some (i*ti.size,ti.size)) _ vs (cH z) (BQ vs) h;refine⟨_,fun w=>?_,hk⟩;obtain⟨i,D3,Ad⟩:=kl hz;simp only [Instr.build,Sem.run_bind,nC D3 Ad,Result.andThen_ok,bq hu,eE hi,Sem.run_pure];rw [←nD]
 simp [hc]
theorem FP (ρ:Env): ∀ps:List (Nat × Operand),Hf ρ ps=ps.map fun (i,x)=> (i,ev ρ x)
 | []=>rfl
 | (i,x)::r=>by simp [Hf,FP ρ r]
theorem Kh (ρ:Env): ∀xs:List Operand,P0 ρ xs=xs.map (ev ρ)
 | []=>rfl
 |x::r=>by simp [P0,Kh ρ r]
theorem Ki (ρ:Env): ∀x:Option Operand,VV ρ x=x.map (ev ρ)
 |none=>rfl
 |some _=>rfl
theorem qB.exec {o:Oper} {ρ:Operand→Value} {s:Sem Value} (he:execOp ρ o= (do pure (.value (←s)))) (h:qB P s K): ∃v,(∀w,(execOp ρ o).run P w= .ok (.value v) w)∧K v:=by
 obtain⟨v,hr,hk⟩:=h;exact⟨v,fun w=>by rw [he];simp [hr],hk⟩
theorem NF {c a b:Value} (h:P1 c a b K):qB P (do pure (if←asBool c then a else b)) K:=by
 cases c<;>simp only [P1] at h
 rename_i t
 cases t<;>exact⟨_,fun w=>by simp [asBool],h⟩
theorem Ey {dst:Option Tmp} {op:Op} {ty:TypeId} {pos:String} {af:Array Edge} {g:Option (Nat × Bool)} {ρ:Env} (h:opV P ρ op K):
  ∃v,(∀w,(execOp (ev ρ) ⟨dst,op,ty,pos,af,g⟩).run P w= .ok (.value v) w)∧K v:=by
 cases op<;>simp only [opV] at h
 case move x=>exact⟨_,fun w=>rfl,h⟩
 case assign x=>exact⟨_,fun w=>rfl,h⟩
 case pick c a b=>exact(NF h).exec (by simp [execOp])
 case nilCheck x=>
  simp only [aB] at h
  split at h
  ·rename_i a hx
   exact⟨_,fun w=>by simp only [execOp,hx];rfl,h⟩
  ·rename_i f a b hx
   exact⟨_,fun w=>by simp only [execOp,hx];rfl,h⟩
  ·exact h.elim
 case binOp op t x y yt=>
  have key: ∀ {op:BinOp},km P op t x y (ev ρ x) (ev ρ y) K→∃v,(∀w,(execOp (ev ρ) ⟨dst,.binOp op t x y yt,ty,pos,af,g⟩).run P w= .ok (.value v) w)∧K v:=
   fun h=>qB.exec (s:=do eqGuard _ t x y (ev ρ x) (ev ρ y);binOp _ t (ev ρ x) (ev ρ y)) rfl h
  cases op<;>simp only at h
  case add=>exact key (P9 h)
  case sub=>exact key (P_ h)
  case mul=>exact key (Qa h)
  case quo=>exact key (Qb h)
  case rem=>exact key (Qc h)
  case and=>exact key (vR (by simp) h)
  case or=>exact key (vR (by simp) h)
  case xor=>exact key (vR (by simp) h)
  case andNot=>exact key (vR (by simp) h)
  case shl=>exact key (Qd h)
  case shr=>exact key (Qe h)
  case lss=>exact key (TA h)
  case leq=>exact key (TB h)
  case gtr=>exact key (TC h)
  case geq=>exact key (TD h)
  case eql=>
   split at h
   ·split at h
    ·rename_i ks NG;exact key (Qf NG h)
    ·exact h.elim
   ·rename_i d _ hd
    split at h
    ·rename_i k hk;exact key (TG hd hk h)
    ·exact h.elim
   ·exact h.elim
  case neq=>
   split at h
   ·split at h
    ·rename_i ks NG;exact key (Qg NG h)
    ·exact h.elim
   ·rename_i d _ hd
    split at h
    ·rename_i k hk;exact key (TH hd hk h)
    ·exact h.elim
   ·exact h.elim
 case unOp op t x=>
  cases op<;>simp only at h
  case not=>
   generalize hx:ev ρ x=vx at h
   cases vx<;>simp only [jV] at h
   exact⟨_,fun w=>by simp [execOp,hx,Op.unary],h⟩
  case neg=>
   generalize hx:ev ρ x=vx at h
   cases vx<;>simp only [YT] at h
   exact⟨_,fun w=>by simp only [execOp,hx,Op.unary,Op.intArith];rfl,h⟩
  case xor=>
   generalize hx:ev ρ x=vx at h
   cases vx<;>simp only [P2] at h
   exact⟨_,fun w=>by simp only [execOp,hx,Op.unary,Op.intBits,bitsOf];rfl,h⟩
 case convert s d x=>
  generalize hx:ev ρ x=vx at h
  split at h
  ·rename_i k hd hk
   cases vx<;>simp only [cA] at h
   exact⟨_,fun w=>by simp [execOp,hx,convert,bq hd,bq hk,Conv.intToInt],h⟩
  ·rename_i hd hk
   cases vx<;>simp only [P3] at h
   exact⟨_,fun w=>by simp [execOp,hx,convert,bq hd,bq hk],h⟩
  ·exact h.elim
 case fieldAddr t x f=>
  split at h
  ·rename_i fs hu
   split at h
   ·rename_i fd hf
    split at h
    ·rename_i i hi
     cases hb:Nat.beq i.size 0 with
     |true=>rw [hb] at h;exact h.elim
     |false=>rw [hb] at h;exact(BP hu hf hi hb h).exec rfl
    ·exact h.elim
   ·exact h.elim
  ·exact h.elim
 case field t x f=>
  split at h
  ·rename_i fs hu
   split at h
   ·rename_i fd hf
    split at h
    ·rename_i d i hd hi
     cases hb:iy P fd.type with
     |true=>rw [hb] at h;exact(Hn hu hf hd hi hb h).exec rfl
     |false=>rw [hb] at h;exact(Hm hu hf hd hb h).exec rfl
    ·exact h.elim
   ·exact h.elim
  ·exact h.elim
 case extract x i=>exact(FM h).exec rfl
 case indexAddr t x i=>
  split at h
  ·rename_i n e hu
   split at h
   ·rename_i ti hi;exact(Ho hu hi h).exec rfl
   ·exact h.elim
  ·rename_i e hu
   split at h
   ·rename_i ti hi;exact(Kd hu hi h).exec rfl
   ·exact h.elim
  ·exact h.elim
 case index t x i=>
  split at h
  ·rename_i hu;exact(Hp hu h).exec rfl
  ·rename_i n e hu
   split at h
   ·rename_i d ti hd hi
    cases hb:iy P e with
    |true=>rw [hb] at h;exact(FO hu hd hi hb h).exec rfl
    |false=>
     rw [hb] at h
     cases h1:Nat.beq ti.size 1 with
     |false=>rw [h1] at h;exact h.elim
     |true=>rw [h1] at h;exact(Hq hu hd hi hb h1 h).exec rfl
   ·exact h.elim
  ·exact h.elim
 case slice t x lo hi mx=>
  cases mx with
  |some m=>exact h.elim
  |none=>
   simp only at h
   split at h
   ·rename_i hu;exact(Ke hu h).exec (by simp [execOp,Ki])
   ·rename_i e hu
    split at h
    ·rename_i ti YW;exact(NC hu YW h).exec (by simp [execOp,Ki])
    ·exact h.elim
   ·rename_i n e hu
    split at h
    ·rename_i ti YW;exact(Kf hu YW h).exec (by simp [execOp,Ki])
    ·exact h.elim
   ·exact h.elim
 case makeFunc fn first cap=>
  cases fn<;>first| (refine⟨_,fun w=>?_,h⟩) |exact h.elim
  have e: ∀a:Array Operand,(P0 ρ a.toList).toArray=a.map (ev ρ):=fun a=>by rw [Kh];cases a;simp
  rw [e,e];rfl
 case build t ps=>
  have e:execOp (ev ρ) ⟨dst,.build t ps,ty,pos,af,g⟩= (do pure (.value (←Instr.build t (Hf ρ ps.toList).toArray))):=by
   rw [FP,show ∀f:Nat × Operand→Nat × Value,(ps.toList.map f).toArray=ps.map f from fun f=>by cases ps;simp];rfl
  split at h
  ·rename_i z fs hz hu
   split at h
   ·rename_i parts hp
    cases hb:xH P fs.toList with
    |false=>rw [hb] at h;exact h.elim
    |true=>rw [hb] at h;exact(Hs hz hu (xI hb) hp h).exec e
   ·exact h.elim
  ·rename_i z n e' hz hu
   split at h
   ·rename_i ti YW;exact(Ht hz hu YW h).exec e
   ·exact h.elim
  ·exact h.elim
 case call c=>
  obtain⟨callee,args,Hi⟩:=c
  cases callee<;>first|exact h.elim|skip
  rename_i b
  simp only at h;have ex: ∀ (l:List Operand) (s:Sem Value),args.toList=l→builtin b Hi ty (args.map fun| .const _=>true|_=>false) (l.map (ev ρ)).toArray= (do pure (.value (←s)))→
    execOp (ev ρ) ⟨dst,.call ⟨.builtin b,args,Hi⟩,ty,pos,af,g⟩= (do pure (.value (←s))):=by
   intro l s h1 h2;rw [←h2];subst h1;simp only [execOp,resolve,List.map_toArray,invoke,pure_bind,Array.toArray_toList];simp only [←Array.toList_map,Array.toArray_toList]
   rfl
  have A2: ∀l,Hi.toList=l→Hi=l.toArray:=fun l e=>by subst e;simp
  unfold Hh at h
  split at h
  ·rename_i t x hb ha
   have Hu :=A2 _ hb;subst Hu
   split at h
   ·rename_i hu
    generalize hx:ev ρ x=vx at h
    cases vx<;>simp only [bc] at h
    exact qB.exec (ex _ (Builtin.len_ #[t] ty #[ev ρ x]) ha (by simp [builtin])) ⟨_,fun w=>by simp [Builtin.len_,bq hu,hx,goInt,jH],h⟩
   ·rename_i e hu
    generalize hx:ev ρ x=vx at h
    cases vx<;>simp only [dh] at h
    exact qB.exec (ex _ (Builtin.len_ #[t] ty #[ev ρ x]) ha (by simp [builtin])) ⟨_,fun w=>by simp [Builtin.len_,bq hu,hx,goInt],h⟩
   ·exact h.elim
  ·rename_i t x hb ha
   have Hu :=A2 _ hb;subst Hu
   split at h
   ·rename_i e hu
    generalize hx:ev ρ x=vx at h
    cases vx<;>simp only [J8] at h
    exact qB.exec (ex _ (Builtin.cap_ #[t] ty #[ev ρ x]) ha (by simp [builtin])) ⟨_,fun w=>by simp [Builtin.cap_,bq hu,hx,goInt],h⟩
   ·exact h.elim
  ·rename_i x y ha
   generalize hx:ev ρ x=vx at h;generalize hy:ev ρ y=vy at h
   cases vx<;>simp only [np] at h
   cases vy<;>simp only [np] at h
   obtain⟨rfl,h⟩:=h;refine qB.exec (ex _ (Builtin.min_ Hi ty #[ev ρ x,ev ρ y]) ha (by simp [builtin])) ⟨_,fun w=>?_,h⟩
   simp [Builtin.min_,Builtin.min2,hx,hy]
   omega
  ·rename_i x y ha
   generalize hx:ev ρ x=vx at h;generalize hy:ev ρ y=vy at h
   cases vx<;>simp only [J7] at h
   cases vy<;>simp only [J7] at h
   obtain⟨rfl,h⟩:=h;refine qB.exec (ex _ (Builtin.max_ Hi ty #[ev ρ x,ev ρ y]) ha (by simp [builtin])) ⟨_,fun w=>?_,h⟩
   simp [Builtin.max_,Builtin.max2,hx,hy]
   omega
  ·rename_i x y z ha
   generalize hx:ev ρ x=vx at h;generalize hy:ev ρ y=vy at h;generalize hz:ev ρ z=vz at h
   cases vx<;>simp only [np] at h
   cases vy<;>simp only [np] at h
   obtain⟨rfl,h⟩:=h
   cases vz<;>simp only [np] at h
   obtain⟨rfl,h⟩:=h;refine qB.exec (ex _ (Builtin.min_ Hi ty #[ev ρ x,ev ρ y,ev ρ z]) ha (by simp [builtin])) ⟨_,fun w=>?_,h⟩
   simp [Builtin.min_,Builtin.min2,hx,hy,hz]
   omega
  ·exact h.elim
 all_goals exact h.elim
end
end
section
section
variable {P:Program}
theorem Mq (w:World) (a:Addr):w.cell? a=cellAt w.heap a:=rfl
theorem NH (w:World) (a:Addr):w.frozen? a=frozenAt w.heap a:=rfl
theorem V0 (w:World) (a:Addr) (v:Value): (w.setCell a v).heap=setAt w.heap a v:=rfl
theorem rk {H:ak} {a:Addr}: ∀ {n:Nat} {l:List Value},ix H a n=some l→l.length=n
 |0,l,h=>by simp only [ix,ajY] at h;subst h;rfl
 |n+1,l,h=>by
  simp only [ix] at h
  split at h
  ·rename_i m hm
   split at h
   ·simp only [ajY] at h;subst h;simp [rk hm]
   ·simp at h
  ·simp at h
theorem Ae {H:ak} {a:Addr}: ∀ {n:Nat} {l:List Value},ix H a n=some l→∀j v,l[j]? =some v→cellAt H (a.add j)=some v
 |0,l,h,j,v,hv=>by simp only [ix,ajY] at h;subst h;simp at hv
 |n+1,l,h,j,v,hv=>by
  simp only [ix] at h
  split at h
  ·rename_i m hm
   split at h
   ·rename_i u hu
    simp only [ajY] at h;subst h;have hl:=rk hm
    by_cases hj:j<n
    ·rw [akx (by omega)] at hv
     exact Ae hm j v hv
    ·by_cases NI :j=n
     ·subst NI
      rw [akB (by omega),hl] at hv
      simp at hv
      rw [hu,hv]
     ·have: (m++ [u]).length≤j:=by simp;omega
      rw [akc this] at hv;simp at hv
   ·simp at h
  ·simp at h
theorem lO {a:Addr} {n:Nat} {l:List Value} {w:World} (h:ix w.heap a n=some l): (loadCells a n).run P w= .ok l.toArray w:=by
 have hl:=rk h;subst hl;exact run_loadCells_list w a l (fun j v hv=>Ae h j v hv)
theorem cells_one {v:Value} (h:aL v=true):v.cells= #[v]:=by cases v<;>simp [aL] at h<;>rfl
theorem yY (v:Value):aL v=v.oneCell' :=by cases v<;>rfl
theorem run_storeCells_at [Go.Vc.Mode] {a:Addr}: ∀ {vs:List Value} {i:Nat} {H' :ak} {w:World},jF w.heap a i vs=some H' →
  ∃w',(storeCells a vs i).run P w= .ok () w' ∧dI w w' ∧w'.heap=H'
 | [],i,H',w,h=>by simp only [jF,ajY] at h;exact⟨w,rfl,dI.refl w,h⟩
 |v::r,i,H',w,h=>by
  simp only [jF] at h
  split at h
  ·rename_i u hu
   cases hf:frozenAt w.heap (a.add i) with
   |true=>rw [hf] at h;simp at h
   |false=>
    rw [hf] at h;simp only [cond_false] at h
    cases h1:aL v with
    |false=>rw [h1] at h;simp at h
    |true=>
     rw [h1] at h;simp only [cond_true] at h;obtain⟨w',hr,hw,hh⟩:=run_storeCells_at (w:=w.setCell (a.add i) v) (by rw [V0];exact h);refine⟨w',?_,dI.trans (show dI w (w.setCell (a.add i) v) from ⟨rfl,rfl,rfl,fun _=>by first|exact ajR _|exact akh _⟩) hw,hh⟩;have ff: (store (a.add i) v).run P w= .ok () (w.setCell (a.add i) v):=by
      rw [run_store P w _ v _ (by rw [←yY];exact h1),Mq,hu,NH,hf]
      simp
     simp only [storeCells,Sem.run_bind,ff,Result.andThen_ok,hr]
  ·simp at h
def Hv (P:Program) (s:Sem Value) (H:ak) (K:Value→Prop):Prop:= ∃v,(∀w:World,w.heap=H→s.run P w= .ok v w)∧K v
theorem Hv.exec {o:Oper} {ρ:Operand→Value} {s:Sem Value} {H:ak} {K:Value→Prop} (he:execOp ρ o= (do pure (.value (←s)))) (h:Hv P s H K):
  ∃v,(∀w:World,w.heap=H→(execOp ρ o).run P w= .ok (.value v) w)∧K v:=by
 obtain⟨v,hr,hk⟩:=h;exact⟨v,fun w hw=>by rw [he];simp [hr w hw],hk⟩
variable {H:ak} {K:Value→Prop}
theorem Ez {t:TypeId} {d:TypeDesc} {x:Value} (hu:P.underlying t=some d) (ha:iy P t=false) (h:al H x K):Hv P (Instr.loadAt t x) H K:=by
 cases x<;> (try simp only [al] at h)
 rename_i a
 cases a<;> (try simp only [al] at h)
 rename_i a
 split at h
 ·rename_i v hv
  refine⟨v,fun w hw=>?_,h⟩;subst hw;have:w.cell? a=some v:=hv
  simp [Instr.loadAt,Instr.sureAddr,loadVar,vQ hu,ha,this]
 ·exact h.elim
theorem BR {t:TypeId} {d:TypeDesc} {i:TypeInfo} {x:Value} (hu:P.underlying t=some d) (hi:P.info? t=some i) (ha:iy P t=true) (h:aF H i.size x K):Hv P (Instr.loadAt t x) H K:=by
 cases x<;> (try simp only [aF] at h)
 rename_i a
 cases a<;> (try simp only [aF] at h)
 rename_i a
 split at h
 ·rename_i l hv
  refine⟨_,fun w hw=>?_,h⟩;subst hw;simp only [Instr.loadAt,Instr.sureAddr,loadVar,Sem.run_bind,Sem.run_pure,Result.andThen_ok,vQ hu,ha,if_true,eE hi,lO hv]
 ·exact h.elim
theorem Af: ∀ {l:List Value} {b:List UInt8},bytesOf l=some b→∃ns:List Int,l=ns.map (Value.int .u8)∧b=ns.map fun n=>UInt8.ofNat n.toNat
 | [],b,h=>by simp only [bytesOf,ajY] at h;subst h;exact⟨[],rfl,rfl⟩
 |x::r,b,h=>by
  unfold bytesOf at h
  split at h
  ·rename_i heq;simp at heq
  ·rename_i n r' heq
   simp only [alk] at heq;obtain⟨rfl,rfl⟩:=heq
   split at h
   ·rename_i l hl
    simp only [ajY] at h;subst h;obtain⟨ns,rfl,rfl⟩:=Af hl;exact⟨n::ns,rfl,rfl⟩
   ·simp at h
  ·simp at h
theorem foldl_push: ∀ (ns:List Int) (s:ByteArray),ns.foldl (fun r n=>r.push (UInt8.ofNat n.toNat)) s= ⟨(kI s++ns.map fun n=>UInt8.ofNat n.toNat).toArray⟩
 | [],s=>by cases s;simp [kI]
 |n::r,s=>by
  simp only [alx];rw [foldl_push r]
  cases s
  simp [kI,ByteArray.push]
theorem Kj {s d e:TypeId} {x:Value} (hs:P.underlying s=some (.slice e)) (he:P.underlying e=some (.int .u8)) (hd:P.underlying d=some .string) (h:qi H x K):Hv P (convert s d x) H K:=by
 cases x<;> (try simp only [qi] at h)
 rename_i a n c
 cases a with
 |none=>
  simp only [qi] at h;refine⟨_,fun w hw=>?_,h⟩;rw [run_convert_bytes_string w s d e none n c hs he hd]
  rfl
 |some a=>
  simp only [qi] at h
  split at h
  ·rename_i l hl
   split at h
   ·rename_i b hb
    obtain⟨ns,rfl,rfl⟩:=Af hb;refine⟨_,fun w hw=>?_,h⟩;subst hw;rw [run_convert_bytes_string w s d e (some a) n c hs he hd,run_bytesToString w a n c ns (lO hl),foldl_push]
    simp [kI,str]
   ·exact h.elim
  ·exact h.elim
theorem Kk {d:TypeDesc} {kind:Nat} {k:Value} (hd:d= .string∧kind=1∨(∃j,d= .int j)∧kind=0): ∀ (es:List MapEntry) (i:Nat) (r:Option (Nat × Value)),
  qv kind k es i=some r→Instr.findNow d k es i=some r:=by
 intro es
 induction es with
 |nil=>intro i r h;simpa [qv,Instr.findNow] using h
 |cons e es ih=>
  intro i r h;simp only [qv] at h;have hs: ∀c,rf kind k e.key=some c→Instr.sameNow d k e.key=some c:=by
   intro c hc;rcases hd with ⟨rfl,rfl⟩ | ⟨⟨j,rfl⟩,rfl⟩
   ·obtain⟨s,t,hs,ht,rfl⟩:=TF hc
    rw [hs,ht];simp [Instr.sameNow,sC]
   ·obtain⟨j,m,n,hm,hn,rfl⟩:=TE hc
    rw [hm,hn];simp [Instr.sameNow];rw [ala];simp
  simp only [Instr.findNow]
  split at h
  ·rename_i hc;rw [hs _ hc];exact h
  ·rename_i hc;rw [hs _ hc];exact ih _ _ h
  ·simp at h
theorem vS {t:TypeId} {k:Value} {d:TypeDesc} (hu:P.underlying t=some d) (hd:d= .string∨∃j,d= .int j) (em:Bool) (n:Nat) (w:World): (Instr.checkKey em (n+1) t k).run P w= .ok () w:=by
 rcases hd with rfl| ⟨j,rfl⟩<;>simp [Instr.checkKey,bq hu]
theorem run_findKey {kt:TypeId} {d:TypeDesc} {kind:Nat} {k:Value} {es:List MapEntry} {r:Option (Nat × Value)} (hu:P.underlying kt=some d) (hd:d= .string∧kind=1∨(∃j,d= .int j)∧kind=0)
  (h:qv kind k es 0=some r) (w:World): (Instr.findKey kt k es).run P w= .ok r w:=by
 simp [Instr.findKey,bq hu,Kk hd es 0 r h]
theorem vT {d:TypeDesc} {kind:Nat} (hd:d= .string∧kind=1∨(∃j,d= .int j)∧kind=0):d= .string∨∃j,d= .int j:=hd.imp (·.1) (·.1)
theorem BS {t kt e:TypeId} {m k:Value} {ok:Bool} {es:List MapEntry} {w:World} {R:Result Value} (ht:P.underlying t=some (.map kt e)) (h:sR w.heap m=some es)
  (hr: (do
   Instr.checkKey es.isEmpty 10000 kt k
   let (v,o) ←match←Instr.findKey kt k es with
    |some (_,v)=>pure (v,true)
    |none=>pure (←zeroValue e,false)
   pure (if ok then .tuple #[v,.bool o] else v):Sem Value).run P w=R): (Instr.lookup t m k ok).run P w=R:=by
 subst hr
 cases m<;>simp only [sR,reduceCtorEq] at h
 rename_i r
 cases r with
 |none=>simp only [ajY] at h;subst h;simp [Instr.lookup,bq ht];rfl
 |some r=>
  simp only at h
  split at h
  ·rename_i es' c hr
   simp only [ajY] at h;subst h;have hg: (getObj r).run P w= .ok (.map es' c) w:=by simp [getObj,Sem.run,hr]
   simp only [Instr.lookup,Sem.run_bind,bq ht,Result.andThen_ok,hg,pure_bind]
   simp [Array.isEmpty_toList];rfl
  ·simp at h
theorem Ag {t kt e:TypeId} {d:TypeDesc} {kind:Nat} {z m k:Value} {ok:Bool} (ht:P.underlying t=some (.map kt e)) (hu:P.underlying kt=some d)
  (hd:d= .string∧kind=1∨(∃j,d= .int j)∧kind=0) (hz:nB P e=some z) (h:mE H kind z ok m k K):Hv P (Instr.lookup t m k ok) H K:=by
 unfold mE at h;obtain⟨i,hi,Ad⟩:=kl hz
 split at h
 ·rename_i es hes
  split at h
  ·rename_i j v hf
   refine⟨_,fun w hw=>?_,h⟩;subst hw;refine BS ht hes ?_;simp only [Sem.run_bind,Result.andThen_ok,vS hu (vT hd),run_findKey hu hd hf,Sem.run_pure]
   cases ok<;>rfl
  ·rename_i hf
   refine⟨_,fun w hw=>?_,h⟩;subst hw;refine BS ht hes ?_;simp only [Sem.run_bind,Result.andThen_ok,vS hu (vT hd),run_findKey hu hd hf,Sem.run_pure,nC hi Ad]
   cases ok<;>rfl
  ·exact h.elim
 ·exact h.elim
theorem yZ {dst:Option Tmp} {op:Op} {ty:TypeId} {pos:String} {af:Array Edge} {g:Option (Nat × Bool)} {ρ:Env} (h:VY P ρ op H K):
  ∃v,(∀w:World,w.heap=H→(execOp (ev ρ) ⟨dst,op,ty,pos,af,g⟩).run P w= .ok (.value v) w)∧K v:=by
 cases op<;>first|exact(h:False).elim|skip
 case load t x=>
  simp only [VY] at h
  split at h
  ·rename_i d i hd hi
   cases ha:iy P t with
   |true=>rw [ha] at h;exact(BR hd hi ha h).exec rfl
   |false=>rw [ha] at h;exact(Ez hd ha h).exec rfl
  ·exact h.elim
 case convert s d x=>
  simp only [VY] at h
  split at h
  ·rename_i e hs hd
   split at h
   ·rename_i he;exact(Kj hs he hd h).exec rfl
   ·exact h.elim
  ·exact h.elim
 case lookup t m k ok=>
  simp only [VY] at h
  split at h
  ·rename_i kt e ht
   split at h
   ·rename_i j z hu hz;exact(Ag ht hu (.inr ⟨⟨j,rfl⟩,rfl⟩) hz h).exec rfl
   ·rename_i z hu hz;exact(Ag ht hu (.inl ⟨rfl,rfl⟩) hz h).exec rfl
   ·exact h.elim
  ·exact h.elim
 case call c=>
  obtain⟨callee,args,Hi⟩:=c;simp only [VY] at h
  split at h
  ·rename_i t x hb ha
   split at h
   ·rename_i kt e hu
    generalize hx:ev ρ x=vx at h;have e1:args= #[x]:=by cases args;simp at ha;simp [ha]
    have e2:Hi= #[t]:=by cases Hi;simp at hb;simp [hb]
    subst e1;subst e2;refine Hv.exec (s:=Builtin.len_ #[t] ty #[ev ρ x]) (by simp [execOp,resolve,invoke,builtin]) ?_
    cases vx<;>simp only [Mm] at h
    rename_i r
    cases r with
    |none=>exact⟨_,fun w hw=>by simp [Builtin.len_,bq hu,hx,goInt],h⟩
    |some r=>
     simp only at h
     split at h
     ·rename_i es c hr
      refine⟨_,fun w hw=>?_,h⟩;subst hw
      simp [Builtin.len_,bq hu,hx,goInt,getObj,Sem.run,hr]
     ·exact h.elim
   ·exact h.elim
  ·exact h.elim
end
end
section
def after [Go.Vc.Mode] (P:Program) (K:Value→ak→Prop) (w:World):Result Next→Prop
 | .ok (.value v) w' =>dI w w' ∧K v w'.heap
 | .ok .skip w' =>dI w w' ∧K undef w'.heap
 | .ok (.enter f args) w' =>dI w w' ∧ab P f args w'.heap K
 |_=>False
section
variable {P:Program} {H:ak} {K:Value→ak→Prop}
def wD [Go.Vc.Mode] (P:Program) (s:Sem Value) (H:ak) (K:Value→ak→Prop):Prop:= ∀w:World,w.heap=H→∃v w',s.run P w= .ok v w' ∧dI w w' ∧K v w'.heap
def Qh [Go.Vc.Mode] (P:Program) (s:Sem Unit) (H:ak) (K:Value→ak→Prop):Prop:= ∀w:World,w.heap=H→∃w',s.run P w= .ok () w' ∧dI w w' ∧K undef w'.heap
theorem wD.exec [Go.Vc.Mode] {o:Oper} {ρ:Operand→Value} {s:Sem Value} (he:execOp ρ o= (do pure (.value (←s)))) (h:wD P s H K): ∀w:World,w.heap=H→after P K w ((execOp ρ o).run P w):=by
 intro w hw;obtain⟨v,w',hr,hk⟩:=h w hw;rw [he];simpa [hr,after] using hk
theorem Qh.exec [Go.Vc.Mode] {o:Oper} {ρ:Operand→Value} {s:Sem Unit} (he:execOp ρ o= (do s;pure .skip)) (h:Qh P s H K): ∀w:World,w.heap=H→after P K w ((execOp ρ o).run P w):=by
 intro w hw;obtain⟨w',hr,hk⟩:=h w hw;rw [he];simpa [hr,after] using hk
theorem Kl [Go.Vc.Mode] {t:TypeId} {i:TypeInfo} {x v:Value} (hi:P.info? t=some i) (h1:Nat.beq i.size 1=true) (h:aE H x v K):Qh P (Instr.storeAt t x v) H K:=by
 cases x<;> (try simp only [aE] at h)
 rename_i a
 cases a<;> (try simp only [aE] at h)
 rename_i a
 split at h
 ·rename_i H' hs
  intro w hw;subst hw;obtain⟨w',hr,sO,hh⟩:=run_storeCells_at (P:=P) hs;have hv:aL v=true:=by
   simp only [jF] at hs
   split at hs
   ·cases hf:frozenAt w.heap (a.add 0) with
    |true=>rw [hf] at hs;simp at hs
    |false=>
     rw [hf] at hs;simp only [cond_false] at hs
     cases h2:aL v with
     |true=>rfl
     |false=>rw [h2] at hs;simp at hs
   ·simp at hs
  refine⟨w',?_,sO,by rw [hh];exact h⟩;have mH:i.size=1:=akv h1
  simp [Instr.storeAt,Instr.sureAddr,storeVar,eE hi,cells_one hv,mH,hr]
 ·exact h.elim
theorem Hw [Go.Vc.Mode] {t:TypeId} {i:TypeInfo} {x v:Value} (hi:P.info? t=some i) (h:aG H i.size x v K):Qh P (Instr.storeAt t x v) H K:=by
 cases x<;> (try simp only [aG] at h)
 rename_i a
 cases a<;> (try simp only [aG] at h)
 rename_i a
 obtain⟨hc,h⟩:=h
 split at h
 ·rename_i H' hs
  intro w hw;subst hw;obtain⟨w',hr,sO,hh⟩:=run_storeCells_at (P:=P) hs;refine⟨w',?_,sO,by rw [hh];exact h⟩
  simp [Instr.storeAt,Instr.sureAddr,storeVar,eE hi,hc,hr]
 ·exact h.elim
theorem Qi [Go.Vc.Mode] {e:TypeId} {v:Value} (h:cd H e v K):wD P (Instr.box e v) H K:=by
 intro w hw;subst hw;exact⟨_,_,rfl,⟨rfl,rfl,rfl,fun _=>by first|exact ajR _|exact akh _⟩,h⟩
theorem Km [Go.Vc.Mode] {e:TypeId} {z:Value} (hz:nB P e=some z) (h:cd H e z K):wD P (Instr.alloc e true (.tuple #[])) H K:=by
 intro w hw;subst hw;obtain⟨i,hi,Ad⟩:=kl hz;refine⟨.pointer (some ⟨w.heap.size,0,none⟩),{w with heap:=w.heap.push (.cells z.cells e)},?_,⟨rfl,rfl,rfl,fun _=>by first|exact ajR _|exact akh _⟩,h⟩
 simp [Instr.alloc,nC hi Ad,newVar,newRow]
theorem BT (z:List Value) (hz:0<z.length): ∀n:Nat,((List.range (n*z.length)).map fun i=>z.getD (i%z.length) undef)=jG z n
 |0=>by simp [jG]
 |n+1=>by
  have h1: (n+1)*z.length=z.length+n*z.length:=by rw [alJ,alw]
  rw [h1,List.range_add,aky,jG,←BT z hz n]
  congr 1
  ·apply alm (by simp)
   intro i h1 h2
   simp at h1
   simp [aj_ h1,ajX,h1]
  ·simp [al1,Function.comp_def,Nat.add_mod_left]
theorem y5 {z:Value} (hz:1≤(cH z).length) (n:Nat): (Array.range (n* (cH z).length)).map (fun i=>z.cells[i%z.cells.size]!)= (jG (cH z) n).toArray:=by
 rw [←BT _ hz n];apply alv;have hs:z.cells.size= (cH z).length:=by rw [←nD];simp
 simp only [Array.toList_map,Array.toList_range];apply alg;intro i _;rw [hs,←nD];have eF:i% (cH z).length< (cH z).length:=alb _ (by omega)
 simp [getElem!_def,ajX,eF]
theorem EA {n:Int} (h0:0≤n) (h1:n≤9223372036854775807):IntKind.i64.wrap n=n:=by
 simp [IntKind.wrap,IntKind.bits,IntKind.signed]
 omega
theorem Hy [Go.Vc.Mode] {t e:TypeId} {i:TypeInfo} {z l c:Value} (ht:P.underlying t=some (.slice e)) (hi:P.info? e=some i) (hz:nB P e=some z)
  (hs: (cH z).length=i.size) (h1:1≤i.size) (h:gP H e i.bytes (cH z) l c K):wD P (Instr.makeSlice t l c) H K:=by
 unfold gP at h
 split at h
 ·rename_i n m
  obtain⟨h0,Qj,hb,hm,hk⟩:=h;intro w hw;subst hw;obtain⟨i',D3,Ad⟩:=kl hz;obtain rfl:i' =i:=by rw [hi] at D3;exact(akA D3).symm
  have wn:=EA h0 (by omega);have wm:=EA (n:=m) (by omega) hm;have Ta : ¬ ((i'.bytes:Int)*m>2 ^ 48):=by omega
  have Ah: (decide (m<0) ||decide ((i'.bytes:Int)*m>2 ^ 48) ||decide (n<0) ||decide (n>m))=false:=by
   simp only [alu,decide_eq_false_iff_not];omega
  refine⟨_,{w with heap:=w.heap.push (.cells (jG (cH z) m.toNat).toArray e)},?_,⟨rfl,rfl,rfl,fun _=>by first|exact ajR _|exact akh _⟩,hk⟩;simp only [Instr.makeSlice,Sem.run_bind,bq ht,Result.andThen_ok,asInt,asIntOf,Sem.run_pure,ri hi,wn,wm,Sem.run_ite,run_askRoom,eE hi,nC hi Ad];rw [if_neg (by simp only [ak5,decide_eq_true_eq];omega)]
  by_cases h0m:m.toNat*i'.size=0
  ·have:m.toNat=0:=by rcases Nat.mul_eq_zero.1 h0m with h|h;exact h;omega
   rw [if_pos h0m]
   simp [this,newRow,jG,Array.range_zero']
  ·rw [if_neg h0m]
   rw [←hs] at*;have:=y5 (z:=z) (by omega) m.toNat
   simp [newRow,this]
 ·exact h.elim
theorem FQ [Go.Vc.Mode] {t e:TypeId} {i:TypeInfo} {z:Value} {len:Nat} {vs:List (Nat × Value)} (ht:P.underlying t=some (.slice e)) (hi:P.info? e=some i) (hz:nB P e=some z)
  (hl:len*i.size≤16777216) (hs: (cH z).length=i.size) (h1:1≤i.size) (h:aX H e len (jG (cH z) len) (tZ i.size vs) K):wD P (Instr.buildSlice t len vs.toArray) H K:=by
 intro w hw;subst hw;obtain⟨i',D3,Ad⟩:=kl hz;obtain rfl:i' =i:=by rw [hi] at D3;exact(akA D3).symm
 obtain⟨cs,hc,hk⟩:=u4 (places:=fun j=>some (j*i'.size,i'.size)) _ vs (jG (cH z) len) (BQ vs) h;refine⟨_,{w with heap:=w.heap.push (.cells cs e)},?_,⟨rfl,rfl,rfl,fun _=>by first|exact ajR _|exact akh _⟩,hk⟩;simp only [Instr.buildSlice,Sem.run_bind,bq ht,Result.andThen_ok,eE hi,Sem.run_ite];rw [if_neg (by omega)]
 by_cases h0:len*i'.size=0
 ·have:len=0:=by rcases Nat.mul_eq_zero.1 h0 with h|h;exact h;omega
  subst this;simp only [jG] at hc
  simp [newRow,Array.range_zero',hc]
 ·rw [if_neg h0]
  have hr:=y5 (z:=z) (by omega) len;rw [hs] at hr;simp only [Sem.run_bind,nC hi Ad,Result.andThen_ok,Sem.run_pure,hr,hc]
  simp [newRow]
theorem NJ [Go.Vc.Mode] {s e:TypeId} {x:Value} (hs:P.underlying s=some (.slice e)) (he:P.underlying e=some (.int .u8)) (h:P8 H x K):wD P (convert s s x) H K:=by
 cases x<;>simp only [P8] at h
 rename_i a n c
 cases a with
 |none=>exact h.elim
 |some a=>
  simp only at h;intro w hw;subst hw
  cases hb:w.heap[a.block]? with
  |none=>rw [hb] at h;exact h.elim
  |some ob=>
   rw [hb] at h
   cases ob with
   |cells cs t fr=>
    refine⟨.slice (some a) n c,{w with heap:=w.heap.setIfInBounds a.block (.cells cs t (P7 fr cs.size))},?_,⟨rfl,rfl,rfl,fun _=>by first|exact ajR _|exact akh _⟩,h⟩;simp only [convert,Sem.run_bind,bq hs,bq he,Result.andThen_ok,BEq.rfl,markStringish,run_shape,World.shape?,hb,run_freeze,Sem.run_pure]
    congr 1
    simp only [World.freeze];rw [if_neg (by omega)]
    congr 1
    apply alz;intro j;rw [alK,al2]
    by_cases hj:a.block=j
    ·subst hj
     have eF:a.block<w.heap.size:=by
      rw [alL] at hb;exact hb.1
     rw [if_pos rfl,if_pos rfl,if_pos eF,hb]
     rfl
    ·rw [if_neg hj,if_neg hj]
   |_=>exact h.elim
theorem Kn [Go.Vc.Mode] {s t e:TypeId} {x:Value} (hs:P.underlying s=some .string) (ht:P.underlying t=some (.slice e)) (he:P.underlying e=some (.int .u8)) (h:J9 H e x K):wD P (convert s t x) H K:=by
 cases x<;>simp only [J9] at h
 rename_i b
 intro w hw;subst hw
 let c:= (Question.appendCap b.size 0 e).cut (w.tape w.drawn (Question.appendCap b.size 0 e))
 have hc:b.size≤c:=al3 _ _;have hk:=h c (by rw [jH];exact hc);rw [jH] at hk;have kz: ((kI b).map cY++List.replicate (c - b.size) (Value.int .u8 0)).toArray= (b.data.map fun b=>Value.int .u8 b.toNat)++Array.replicate (c - b.size) (.int .u8 0):=by
  cases b
  apply alv
  simp [kI]
 have u0: ((kI b).map cY++List.replicate (c - b.size) (Value.int .u8 0)).length=c:=by
  simp [jH];omega
 refine⟨.slice (some ⟨w.heap.size,0,none⟩) b.size c,{w with drawn:=w.drawn+1,heap:=w.heap.push (.cells ((kI b).map cY++List.replicate (c - b.size) (Value.int .u8 0)).toArray e (c,c+1))},?_,⟨rfl,rfl,rfl,fun _=>by first|exact ajR _|exact akh _⟩,hk⟩;have hf: ∀q:Question,q= .appendCap b.size 0 e→q.forced=false:=fun q hq=>by subst hq;rfl
 simp only [convert,Sem.run_bind,bq hs,bq ht,bq he,Result.andThen_ok,Conv.stringToBytes,run_choose,hf _ rfl,akS,if_false,newRow,run_newObj,Sem.run_pure,markStringish,run_shape];rw [←kz];simp only [World.shape?,Array.getElem?_push_size,akI,u0,Sem.run_bind,run_freeze,Result.andThen_ok,Sem.run_pure];simp only [World.freeze];rw [if_neg (by omega)]
 congr 2
 apply alz;intro j;rw [alK]
 by_cases hj:w.heap.size=j
 ·subst hj;simp
 ·rw [if_neg hj,am1,am1,if_neg (ak6 hj),if_neg (ak6 hj)]
theorem sV {x:Value} {m:Nat} (h:mu x=some m) (w:World): (Builtin.lenOf x).run P w= .ok m w:=by
 cases x<;>simp only [mu,reduceCtorEq,ajY] at h
 ·subst h;simp [Builtin.lenOf,jH]
 ·subst h;simp [Builtin.lenOf]
theorem nE {x:Value} {m size:Nat} {new:List Value} {w:World} (hm:mu x=some m) (h:cellsOf w.heap size x=some new) (hs: (∃s,x= .string s)→size=1∨True):
  (Builtin.firstCells size m x).run P w= .ok new.toArray w:=by
 cases x<;>simp only [mu,reduceCtorEq,ajY] at hm
 ·rename_i s
  subst hm;simp only [cellsOf,ajY] at h;subst h;simp only [Builtin.firstCells,Sem.run_pure]
  congr 1
  rw [jH];have:s.extract 0 s.size=s:=by
   cases s with|mk d=>simp [amY,am0,ByteArray.size]
  rw [this]
  cases s;simp only [kI];apply alv;simp
 ·rename_i a n c
  subst hm
  cases a with
  |none=>simp only [cellsOf,ajY] at h;subst h;simp [Builtin.firstCells]
  |some a=>simp only [cellsOf] at h;exact lO h
theorem EB (newLen:Nat): ∀ (k c:Nat),256≤c→c≤2*newLen→Builtin.growBy newLen k c≤2*newLen
 |0,c,_,h=>h
 |k+1,c,h0,h=>by
  simp only [Builtin.growBy]
  split
  ·exact h
  ·exact EB newLen k _ (by omega) (by omega)
theorem nextslicecap_le {newLen oldCap:Nat} (h:oldCap<newLen):Builtin.nextslicecap newLen oldCap≤2*newLen:=by
 unfold Builtin.nextslicecap
 split
 ·omega
 ·split
  ·omega
  ·exact EB _ _ _ (by omega) (by omega)
theorem nF {z:Value} (hz:1≤(cH z).length) (n:Nat):Builtin.zeroCells z.cells n= (jG (cH z) n).toArray:=by
 have hs:z.cells.size= (cH z).length:=by rw [←nD];simp
 rw [←y5 hz n];simp only [Builtin.zeroCells,hs]
theorem Ai [Go.Vc.Mode] {t u e:TypeId} {du:TypeDesc} {ty:TypeId} {i:TypeInfo} {z s x:Value} (ht:P.underlying t=some (.slice e)) (hu:P.underlying u=some du) (hdu: ∀k,du≠ .int k) (hi:P.info? e=some i) (hz:nB P e=some z)
  (hb:1≤i.bytes) (h1:1≤(cH z).length) (h:bg H e i.size i.bytes (cH z) s x K):wD P (Builtin.append_ #[t,u] ty #[s,x]) H K:=by
 intro w hw;subst hw;obtain⟨i',D3,Ad⟩:=kl hz;obtain rfl:i' =i:=by rw [hi] at D3;exact(akA D3).symm
 unfold bg at h
 split at h
 ·rename_i base n cap m new hm Hz
  obtain⟨ha,hg⟩:=h;have HA: ((du matches .int _):Bool)=false:=by cases du<;>first|rfl|exact absurd rfl (hdu _)
  by_cases hc:n+m≤cap
  ·have ha:=ha hc
   cases base with
   |none=>
    refine⟨_,w,?_,dI.refl w,ha⟩;simp only [Builtin.append_,akr,akl,akm,Sem.run_bind,bq ht,bq hu,Result.andThen_ok,eE hi,Sem.run_pure,HA,akS,if_false,sV hm,if_pos hc,
     alh,if_true,nE hm Hz (fun _=> .inr trivial)]
   |some a=>
    simp only at ha
    split at ha
    ·rename_i H' hs
     obtain⟨w',hr,sO,hh⟩:=run_storeCells_at (P:=P) hs;refine⟨_,w',?_,sO,by rw [hh];exact ha⟩;simp only [Builtin.append_,akr,akl,akm,Sem.run_bind,bq ht,bq hu,Result.andThen_ok,eE hi,Sem.run_pure,HA,akS,if_false,sV hm,if_pos hc,
      alh,if_true,nE hm Hz (fun _=> .inr trivial),hr]
    ·exact ha.elim
  ·obtain⟨YX,hg⟩:=hg (by omega)
   split at hg
   ·rename_i Ym hold
    let c:= (Question.appendCap (n+m) cap e).cut (w.tape w.drawn (Question.appendCap (n+m) cap e))
    have hcm:n+m≤c:=al3 _ _;have hk:=hg c hcm;have mi: (Ym++new++jG (cH z) (c - (n+m))).toArray=Ym.toArray++new.toArray++Builtin.zeroCells z.cells (c - (n+m)):=by
     rw [nF h1];simp
    refine⟨_,{w with drawn:=w.drawn+1,heap:=w.heap.push (.cells (Ym++new++jG (cH z) (c - (n+m))).toArray e)},?_,⟨rfl,rfl,rfl,fun _=>by first|exact ajR _|exact akh _⟩,hk⟩;have il: ¬ (Builtin.nextslicecap (n+m) cap*i'.bytes>2 ^ 48):=by
     have:=nextslicecap_le (newLen:=n+m) (oldCap:=cap) (by omega);have:=akZ i'.bytes this;omega
    have hq: (Question.appendCap (n+m) cap e).forced=false:=rfl;have hnb: ¬ (((n+m:Nat):Int)>IntKind.i64.max∧((false:Bool)=true∨i'.bytes=0)):=by rintro⟨_,h|h⟩;cases h;omega
    have Qk : (Builtin.firstCells i'.size n (.slice base n cap)).run P {w with drawn:=w.drawn+1}= .ok Ym.toArray {w with drawn:=w.drawn+1}:=nE (w:= {w with drawn:=w.drawn+1}) rfl hold (fun _=> .inr trivial);have YY : (Builtin.firstCells i'.size m x).run P {w with drawn:=w.drawn+1}= .ok new.toArray {w with drawn:=w.drawn+1}:=nE (w:= {w with drawn:=w.drawn+1}) hm Hz (fun _=> .inr trivial);simp only [Builtin.append_,akr,akl,akm,Sem.run_bind,bq ht,bq hu,Result.andThen_ok,eE hi,Sem.run_pure,HA,akS,if_false,sV hm,if_neg hc,
     alh,if_true,ri hi,Sem.run_ite]
    rw [if_neg (by simpa using hnb),if_neg il];simp only [Sem.run_bind,run_choose,hq,akS,if_false,Result.andThen_ok,ri hi,run_askRoom,Qk,YY,nC hi Ad,newRow,run_newObj,Sem.run_pure];rw [mi]
   ·exact hg.elim
 ·exact h.elim
theorem FR [Go.Vc.Mode] {t u e:TypeId} {kd:IntKind} {ty:TypeId} {i:TypeInfo} {z s x:Value} (ht:P.underlying t=some (.slice e)) (hu:P.underlying u=some (.int kd)) (hi:P.info? e=some i) (hz:nB P e=some z)
  (hb:1≤i.bytes) (h1:1≤(cH z).length) (h2:1≤i.size) (h:uZ H e i.bytes (cH z) s x K):wD P (Builtin.append_ #[t,u] ty #[s,x]) H K:=by
 intro w hw;subst hw;obtain⟨i',D3,Ad⟩:=kl hz;obtain rfl:i' =i:=by rw [hi] at D3;exact(akA D3).symm
 unfold uZ at h
 split at h
 ·rename_i n
  obtain⟨⟨h0,hB⟩,hg⟩:=h;obtain⟨m,rfl⟩: ∃m:Nat,n=m:= ⟨n.toNat,by omega⟩;rw [ajS] at hB hg;have JZ:0<m:=by omega
  have hmb:2*m≤281474976710656:=akk (am2 _ hb) hB;have hwr:IntKind.i64.wrap (m:Int)=m:=by simp [IntKind.wrap,IntKind.bits,IntKind.signed];omega
  let c:= (Question.appendCap m 0 e).cut (w.tape w.drawn (Question.appendCap m 0 e))
  have hcm:m≤c:=al3 _ _;have hk:=hg c hcm;have mi: (jG (cH z) m++jG (cH z) (c - m)).toArray= #[]++Builtin.zeroCells z.cells m++Builtin.zeroCells z.cells (c - (0+m)):=by
   rw [nF h1,nF h1];simp
  refine⟨_,{w with drawn:=w.drawn+1,heap:=w.heap.push (.cells (jG (cH z) m++jG (cH z) (c - m)).toArray e)},?_,⟨rfl,rfl,rfl,fun _=>by first|exact ajR _|exact akh _⟩,hk⟩;have il: ¬ (Builtin.nextslicecap (0+m) 0*i'.bytes>2 ^ 48):=by
   have:=nextslicecap_le (newLen:=0+m) (oldCap:=0) (by omega);have:=akZ i'.bytes this;rw [aj6] at this ⊢;omega
  have hq: (Question.appendCap (0+m) 0 e).forced=false:=rfl;have Ko: ¬ ((m:Int)<0):=by omega
  have YZ: ¬ ((m:Int)* (i'.bytes:Int)>2 ^ 48):=by
   have e1: (m:Int)* (i'.bytes:Int)= ((m*i'.bytes:Nat):Int):=by simp
   have e2:2*m*i'.bytes=2* (m*i'.bytes):=alM _ _ _;rw [e1];omega
  have hnb: ¬ (((0+m:Nat):Int)>IntKind.i64.max∧((true:Bool)=true∨i'.bytes=0)):=by rintro⟨h,_⟩;simp [IntKind.max,IntKind.bits,IntKind.signed] at h;omega
  have hc0: ¬ (0+m≤0):=by omega
  have hms: ¬ (m*i'.size=0):=by have:=alN JZ h2;omega
  have abT: (asInt (.int .i64 (m:Int))).run P w= .ok (m:Int) w:=rfl;have Qk : (Builtin.firstCells i'.size 0 (.slice none 0 0)).run P {w with drawn:=w.drawn+1}= .ok #[] {w with drawn:=w.drawn+1}:=by simp [Builtin.firstCells]
  have HA: ((TypeDesc.int kd matches .int _):Bool)=true:=rfl;simp only [Builtin.append_,akr,akl,akm,Sem.run_bind,bq ht,bq hu,Result.andThen_ok,eE hi,Sem.run_pure,HA,abT,hwr,if_neg Ko,if_true,ri hi,if_neg YZ,ajS,if_neg hc0,Sem.run_ite];rw [if_neg (by simpa using hnb),if_neg il];simp only [Sem.run_bind,run_choose,hq,ak0,akS,if_false,Result.andThen_ok,ri hi,run_askRoom,Qk,if_neg hms,nC hi Ad,newRow,run_newObj,Sem.run_pure];rw [mi,aj6]
 ·exact h.elim
theorem rl {r:Nat} {es:Array MapEntry} {c:Nat} {w:World} (h:w.heap[r]? =some (.map es c)): (getObj r).run P w= .ok (.map es c) w:=by simp [getObj,Sem.run,h]
theorem rm {r:Nat} {es:Array MapEntry} {c:Nat} {o:Obj} {w:World} (h:w.heap[r]? =some (.map es c)): (setObj r o).run P w= .ok () {w with heap:=w.heap.setIfInBounds r o}:=by simp [setObj,Sem.run,h]
theorem BU {kind:Nat} {k:Value}: ∀ {es:List MapEntry} {i j:Nat} {v:Value},qv kind k es i=some (some (j,v))→∃e,es[j - i]? =some e∧i≤j∧rf kind k e.key=some true∧e.val=v
 | [],i,j,v,h=>by simp [qv] at h
 |e::es,i,j,v,h=>by
  simp only [qv] at h
  split at h
  ·rename_i hc
   simp only [ajY,ak4] at h;obtain⟨rfl,rfl⟩:=h;exact⟨e,by simp,ajR _,hc,rfl⟩
  ·obtain⟨e',he,hl,hk,hv⟩:=BU h
   refine⟨e',?_,by omega,hk,hv⟩;rw [show j - i= (j - (i+1))+1 by omega]
   simpa using he
  ·simp at h
theorem Ql {kind:Nat} {k k' :Value} (hd:kind=0∨kind=1) (h:rf kind k k' =some true) (w:World): (Instr.keyThatStays k' k).run P w= .ok k w:=by
 rcases hd with rfl|rfl
 ·obtain⟨j,m,n,rfl,rfl,hc⟩:=TE h
  have:m=n:=by simpa using hc.symm
  subst this
  simp [Instr.keyThatStays,Instr.sameBits]
 ·obtain⟨s,t,rfl,rfl,hc⟩:=TF h
  have:kI s=kI t:=by simpa using hc.symm
  rw [Tz] at this;subst this;have: (s==s)=true:=by rw [sC];simp
  simp [Instr.keyThatStays,Instr.sameBits,this]
theorem TI {d:TypeDesc} {kind:Nat} (hd:d= .string∧kind=1∨(∃j,d= .int j)∧kind=0):kind=0∨kind=1:=by rcases hd with ⟨_,h⟩ | ⟨_,h⟩<;>simp [h]
theorem Aj [Go.Vc.Mode] {t kt e:TypeId} {d:TypeDesc} {kind:Nat} {m k v:Value} (ht:P.underlying t=some (.map kt e)) (hu:P.underlying kt=some d)
  (hd:d= .string∧kind=1∨(∃j,d= .int j)∧kind=0) (h:nA H kind m k v K):Qh P (Instr.mapUpdate t m k v) H K:=by
 intro w hw;subst hw
 cases m<;> (try simp only [nA] at h)
 rename_i r
 cases r<;> (try simp only [nA] at h)
 rename_i r
 split at h
 ·rename_i es clock hr
  split at h
  ·rename_i j u hf
   obtain⟨en,he,_,hk,_⟩:=BU hf;refine⟨{w with heap:=w.heap.setIfInBounds r _},?_,⟨rfl,rfl,rfl,fun _=>by first|exact ajR _|exact akh _⟩,h⟩;have D4: ((es[j]?).map (·.key)).getD k=en.key:=by simp at he;simp [he]
   simp only [Instr.mapUpdate,Sem.run_bind,bq ht,Result.andThen_ok,rl hr,vS hu (vT hd),run_findKey hu hd hf,D4,Ql (TI hd) hk,rm hr]
  ·rename_i hf
   refine⟨{w with heap:=w.heap.setIfInBounds r _},?_,⟨rfl,rfl,rfl,fun _=>by first|exact ajR _|exact akh _⟩,h⟩;simp only [Instr.mapUpdate,Sem.run_bind,bq ht,Result.andThen_ok,rl hr,vS hu (vT hd),run_findKey hu hd hf,rm hr]
  ·exact h.elim
 ·exact h.elim
theorem Ak [Go.Vc.Mode] {t u kt e ty:TypeId} {d:TypeDesc} {kind:Nat} {m k:Value} (ht:P.underlying t=some (.map kt e)) (hu:P.underlying kt=some d)
  (hd:d= .string∧kind=1∨(∃j,d= .int j)∧kind=0) (h:rT H kind m k K):wD P (Builtin.delete_ #[t,u] ty #[m,k]) H K:=by
 intro w hw;subst hw
 cases m<;> (try simp only [rT] at h)
 rename_i r
 cases r<;> (try simp only [rT] at h)
 rename_i r
 split at h
 ·rename_i es clock hr
  split at h
  ·rename_i j u hf
   refine⟨_,{w with heap:=w.heap.setIfInBounds r _},?_,⟨rfl,rfl,rfl,fun _=>by first|exact ajR _|exact akh _⟩,h⟩
   simp [Builtin.delete_,bq ht,rl hr,vS hu (vT hd),run_findKey hu hd hf,rm hr]
  ·rename_i hf
   refine⟨_,w,?_,dI.refl w,h⟩;have:w.heap.setIfInBounds r (.map es clock)=w.heap:=by
    apply alz;intro j;rw [al2]
    by_cases hj:r=j
    ·subst hj
     have hl:r<w.heap.size:=by
      rcases akz r w.heap.size with h|h
      ·exact h
      ·simp [aln h] at hr
     simp [hl] at hr ⊢
     exact hr.symm
    ·simp [hj]
   simp [Builtin.delete_,bq ht,rl hr,vS hu (vT hd),run_findKey hu hd hf,rm hr,this]
  ·exact h.elim
 ·exact h.elim
theorem HB [Go.Vc.Mode] {t kt e ty:TypeId} {m:Value} (ht:P.underlying t=some (.map kt e)) (h:vP H m K):wD P (Builtin.clear_ #[t] ty #[m]) H K:=by
 intro w hw;subst hw
 cases m<;> (try simp only [vP] at h)
 rename_i r
 cases r<;> (try simp only [vP] at h)
 ·exact⟨_,w,by simp [Builtin.clear_,bq ht],dI.refl w,h⟩
 ·rename_i r
  split at h
  ·rename_i es clock hr
   refine⟨_,{w with heap:=w.heap.setIfInBounds r _},?_,⟨rfl,rfl,rfl,fun _=>by first|exact ajR _|exact akh _⟩,h⟩
   simp [Builtin.clear_,bq ht,rl hr,rm hr]
  ·exact h.elim
theorem NK [Go.Vc.Mode] {t e ty:TypeId} {d:ChanDir} {x:Value} (ht:P.underlying t=some (.chan d e)) (h:P6 H x K):wD P (Builtin.len_ #[t] ty #[x]) H K:=by
 intro w hw;subst hw
 cases x<;>simp only [P6] at h
 rename_i r
 cases r with
 |none=>exact⟨_,w,by simp [Builtin.len_,bq ht,goInt],⟨rfl,rfl,rfl,fun _=>by first|exact ajR _|exact akh _⟩,h⟩
 |some r=>
  simp only at h
  split at h
  ·rename_i cap buf cl s r2 tm hr
   exact⟨_,w,by simp [Builtin.len_,bq ht,goInt,getObj,Sem.run,hr],⟨rfl,rfl,rfl,fun _=>by first|exact ajR _|exact akh _⟩,h⟩
  ·exact h.elim
theorem sW [Go.Vc.Mode] {s:Sem Value} (h:DZ H P s K):wD P s H K:=by
 intro w hw;have:=h w hw
 split at this
 ·rename_i v w' hr;exact⟨v,w',hr,this⟩
 ·exact this.elim
theorem Qm {s:Value} {m n:Nat} {new:List Value} {size:Nat} {w:World} (hm:mu s=some m)
  (h:cellsOf w.heap size (Hg (min m n) s)=some new):
  (Builtin.firstCells size (Nat.min m n) s).run P w= .ok new.toArray w:=by
 have e:Nat.min m n=min m n:=rfl;rw [e]
 cases s<;>simp only [mu,reduceCtorEq,ajY] at hm
 ·rename_i b
  simp only [Hg,cellsOf,ajY,cn] at h;subst h;simp only [Builtin.firstCells,Sem.run_pure]
  congr 1
  apply alv
  simp [kI,am0,amk]
 ·rename_i a l c
  cases a with
  |none=>simp only [Hg,cellsOf,ajY] at h;subst h;simp [Builtin.firstCells]
  |some a=>simp only [Hg,cellsOf] at h;exact lO h
theorem NL [Go.Vc.Mode] {t u e ty:TypeId} {i:TypeInfo} {d s:Value} (ht:P.underlying t=some (.slice e)) (hi:P.info? e=some i) (h:P5 H i.size d s K):wD P (Builtin.copy_ #[t,u] ty #[d,s]) H K:=by
 intro w hw;subst hw;unfold P5 at h
 split at h
 ·rename_i base n c m hm
  split at h
  ·rename_i new Hz
   have hl:=Qm (P:=P) hm Hz
   cases base with
   |none=>
    refine⟨_,w,?_,dI.refl w,h⟩;simp only [Builtin.copy_,akr,akl,akm,Sem.run_bind,bq ht,Result.andThen_ok,sV hm,eE hi,hl,Sem.run_pure,goInt]
   |some a=>
    simp only at h
    split at h
    ·rename_i H' hs
     obtain⟨w',hr,sO,hh⟩:=run_storeCells_at (P:=P) hs;refine⟨_,w',?_,sO,by rw [hh];exact h⟩;simp only [Builtin.copy_,akr,akl,akm,Sem.run_bind,bq ht,Result.andThen_ok,sV hm,eE hi,hl,Sem.run_pure,goInt,hr]
    ·exact h.elim
  ·exact h.elim
 ·exact h.elim
theorem HC [Go.Vc.Mode] {t e ty:TypeId} {z x:Value} (ht:P.underlying t=some (.slice e)) (hz:nB P e=some z) (h1:1≤(cH z).length) (h:FG H (cH z) x K):wD P (Builtin.clear_ #[t] ty #[x]) H K:=by
 intro w hw;subst hw;obtain⟨i',D3,Ad⟩:=kl hz;unfold FG at h
 split at h
 ·exact⟨_,w,by simp [Builtin.clear_,bq ht],dI.refl w,h⟩
 ·rename_i a n c
  split at h
  ·rename_i H' hs
   obtain⟨w',hr,sO,hh⟩:=run_storeCells_at (P:=P) hs
   by_cases h0:n=0
   ·subst h0
    simp only [jG,jF,ajY] at hs;subst hs;exact⟨_,w,by simp [Builtin.clear_,bq ht],dI.refl w,h⟩
   ·refine⟨_,w',?_,sO,by rw [hh];exact h⟩
    obtain⟨m,rfl⟩: ∃m,n=m+1:= ⟨n - 1,by omega⟩
    simp [Builtin.clear_,bq ht,nC D3 Ad,nF h1,hr]
  ·exact h.elim
 ·exact h.elim
theorem Mr {α:Type} {a:Array α} {x:α} (h:a.toList= [x]):a= #[x]:=by cases a;simp at h;simp [h]
theorem EC {α:Type} {a:Array α} {x y:α} (h:a.toList= [x,y]):a= #[x,y]:=by cases a;simp at h;simp [h]
theorem toA {ρ:Env} (a:Array Operand): (P0 ρ a.toList).toArray=a.map (ev ρ):=by rw [Kh];cases a;simp
def nG (P:Program) (C:List Nat):Prop:= ∀f,re f C=true→∀ (args:Array Value) (w:World),(callFunc f args).run P w= .ok (.enter f args) w
theorem ED [Go.Vc.Mode] {C:List Nat} (hC:nG P C) {dst:Option Tmp} {op:Op} {ty:TypeId} {pos:String} {af:Array Edge} {g:Option (Nat × Bool)} {ρ:Env} (h:S_ P ρ C op ty H K):
  ∀w:World,w.heap=H→after P K w ((execOp (ev ρ) ⟨dst,op,ty,pos,af,g⟩).run P w):=by
 cases op<;>first|exact(h:False).elim|skip
 case alloc e=>
  simp only [S_] at h
  split at h
  ·rename_i z hz;exact(Km hz h).exec rfl
  ·exact h.elim
 case box e v=>exact(Qi h).exec rfl
 case buildSlice t len ps=>
  simp only [S_] at h
  split at h
  ·rename_i e ht
   split at h
   ·rename_i i z hi hz
    cases hb: (Nat.ble (len*i.size) 16777216 && (Nat.beq (cH z).length i.size && Nat.ble 1 i.size)) with
    |false=>rw [hb] at h;exact h.elim
    |true=>
     rw [hb] at h;simp only [aj3] at hb;obtain⟨h1,h2,h3⟩:=hb;have e1:execOp (ev ρ) ⟨dst,.buildSlice t len ps,ty,pos,af,g⟩= (do pure (.value (←Instr.buildSlice t len (Hf ρ ps.toList).toArray))):=by
      rw [FP,show ∀f:Nat × Operand→Nat × Value,(ps.toList.map f).toArray=ps.map f from fun f=>by cases ps;simp];rfl
     exact(FQ ht hi hz (ajU h1) (akv h2) (ajU h3) h).exec e1
   ·exact h.elim
  ·exact h.elim
 case store t x v=>
  simp only [S_] at h
  split at h
  ·rename_i d i hd hi
   cases ha:iy P t with
   |true=>rw [ha] at h;exact(Hw hi h).exec rfl
   |false=>
    rw [ha] at h;simp only [cond_false] at h
    cases h1:Nat.beq i.size 1 with
    |false=>rw [h1] at h;exact h.elim
    |true=>rw [h1] at h;exact(Kl hi h1 h).exec rfl
  ·exact h.elim
 case convert s d x=>
  simp only [S_] at h
  split at h
  ·rename_i e hs hd
   split at h
   ·rename_i he;exact(Kn hs hd he h).exec rfl
   ·exact h.elim
  ·rename_i e e2 hs hd
   split at h
   ·rename_i he
    cases hb:Nat.beq s d with
    |false=>rw [hb] at h;exact h.elim
    |true=>
     rw [hb] at h;obtain rfl:=akv hb;exact(NJ hs he h).exec rfl
   ·exact h.elim
  ·exact h.elim
 case makeMap t r=>
  cases r with
  |some r=>exact(h:False).elim
  |none=>
   intro w hw;subst hw;exact⟨⟨rfl,rfl,rfl,fun _=>by first|exact ajR _|exact akh _⟩,h⟩
 case makeSlice t l c=>
  simp only [S_] at h
  split at h
  ·rename_i e ht
   split at h
   ·rename_i i z hi hz
    cases hb: (Nat.beq (cH z).length i.size && Nat.ble 1 i.size) with
    |false=>rw [hb] at h;exact h.elim
    |true=>
     rw [hb] at h;simp only [aj3] at hb;exact(Hy ht hi hz (akv hb.1) (ajU hb.2) h).exec rfl
   ·exact h.elim
  ·exact h.elim
 case mapUpdate t m k v=>
  simp only [S_] at h
  split at h
  ·rename_i kt e ht
   split at h
   ·rename_i j hu;exact(Aj ht hu (.inr ⟨⟨j,rfl⟩,rfl⟩) h).exec rfl
   ·rename_i hu;exact(Aj ht hu (.inl ⟨rfl,rfl⟩) h).exec rfl
   ·exact h.elim
  ·exact h.elim
 case mapEntry t m k=>exact(sW h).exec rfl
 case entryStore t m k v=>
  have hr:=sW h;intro w hw;obtain⟨v',w',hr,hk⟩:=hr w hw;have: (Instr.entryStore t (ev ρ m) (ev ρ k) (ev ρ v)).run P w= .ok () w' :=by
   simp only [Sem.run_bind] at hr
   cases hx: (Instr.entryStore t (ev ρ m) (ev ρ k) (ev ρ v)).run P w with
   |ok u w2=>rw [hx] at hr;simp at hr;rw [hr.2]
   |halt h w2=>rw [hx] at hr;simp at hr
  have e:execOp (ev ρ) ⟨dst,.entryStore t m k v,ty,pos,af,g⟩= (do Instr.entryStore t (ev ρ m) (ev ρ k) (ev ρ v);pure .skip):=rfl;rw [e];simpa [this,after] using hk
 case makeChan t n=>exact(sW h).exec rfl
 case range t x=>exact(sW h).exec rfl
 case next it s=>exact(sW h).exec rfl
 case entry it=>exact(sW h).exec rfl
 case call c=>
  obtain⟨callee,args,Hi⟩:=c
  cases callee with
  |invoke r m=>exact(h:False).elim
  |value f=>
   have main: ∀ (fv:Value),ev ρ f=fv→rX P C fv (P0 ρ args.toList) H K→∀w:World,w.heap=H→after P K w ((execOp (ev ρ) ⟨dst,.call ⟨.value f,args,Hi⟩,ty,pos,af,g⟩).run P w):=by
    intro fv hf h w hw;subst hw;unfold rX at h
    split at h
    ·rename_i gg first cap
     cases hm:re gg C with
     |false=>rw [hm] at h;exact h.elim
     |true=>
      rw [hm] at h;simp only [cond_true] at h;have e: (first.toList++P0 ρ args.toList++cap.toList).toArray=first++args.map (ev ρ)++cap:=by
       rw [←toA (ρ:=ρ) args];apply alv;simp
      rw [e] at h;have: (execOp (ev ρ) ⟨dst,.call ⟨.value f,args,Hi⟩,ty,pos,af,g⟩).run P w= .ok (.enter gg (first++args.map (ev ρ)++cap)) w:=by
       simp only [execOp,resolve,hf,Deferred.ofValue,pure_bind,invoke];exact hC gg hm _ w
      rw [this];exact⟨dI.refl w,h⟩
    ·exact h.elim
   simp only [S_] at h
   cases f with
   |func gg=>
    refine main _ rfl ?_
    simpa [rX,ev] using h
   |tmp t=>exact main _ rfl h
   |const v=>exact main _ rfl h
   |global gg=>exact main _ rfl h
  |builtin b=>
   simp only [S_] at h;unfold Hj at h
   split at h
   ·rename_i s x t u ha ht
    rw [EC ha,EC ht];have ex:execOp (ev ρ) ⟨dst,.call ⟨.builtin .append,#[s,x],#[t,u]⟩,ty,pos,af,g⟩= (do pure (.value (←Builtin.append_ #[t,u] ty #[ev ρ s,ev ρ x]))):=by
     simp [execOp,resolve,invoke,builtin]
    split at h
    ·rename_i e e2 V1 V2
     split at h
     ·rename_i i z hi hz
      cases hb: (Nat.ble 1 i.bytes && Nat.ble 1 (cH z).length) with
      |false=>rw [hb] at h;exact h.elim
      |true=>
       rw [hb] at h;simp only [aj3] at hb;exact(Ai V1 V2 (fun k=>by simp) hi hz (ajU hb.1) (ajU hb.2) h).exec ex
     ·exact h.elim
    ·rename_i e V1 V2
     split at h
     ·rename_i i z hi hz
      cases hb: (Nat.ble 1 i.bytes && Nat.ble 1 (cH z).length) with
      |false=>rw [hb] at h;exact h.elim
      |true=>
       rw [hb] at h;simp only [aj3] at hb;exact(Ai V1 V2 (fun k=>by simp) hi hz (ajU hb.1) (ajU hb.2) h).exec ex
     ·exact h.elim
    ·rename_i e kd V1 V2
     split at h
     ·rename_i i z hi hz
      cases hb: (Nat.ble 1 i.bytes && (Nat.ble 1 (cH z).length && Nat.ble 1 i.size)) with
      |false=>rw [hb] at h;exact h.elim
      |true=>
       rw [hb] at h;simp only [aj3] at hb;exact(FR V1 V2 hi hz (ajU hb.1) (ajU hb.2.1) (ajU hb.2.2) h).exec ex
     ·exact h.elim
    ·exact h.elim
   ·rename_i d s t u ha ht
    rw [EC ha,EC ht]
    split at h
    ·rename_i e hu
     split at h
     ·rename_i i hi;exact(NL (u:=u) (ty:=ty) hu hi h).exec (by simp [execOp,resolve,invoke,builtin])
     ·exact h.elim
    ·exact h.elim
   ·rename_i m k t u ha ht
    rw [EC ha,EC ht]
    split at h
    ·rename_i kt e hu
     split at h
     ·rename_i j hk;exact(Ak (u:=u) (ty:=ty) hu hk (.inr ⟨⟨j,rfl⟩,rfl⟩) h).exec (by simp [execOp,resolve,invoke,builtin])
     ·rename_i hk;exact(Ak (u:=u) (ty:=ty) hu hk (.inl ⟨rfl,rfl⟩) h).exec (by simp [execOp,resolve,invoke,builtin])
     ·exact h.elim
    ·exact h.elim
   ·rename_i m t ha ht
    rw [Mr ha,Mr ht]
    split at h
    ·rename_i kt e hu;exact(HB (ty:=ty) hu h).exec (by simp [execOp,resolve,invoke,builtin])
    ·rename_i e hu
     split at h
     ·rename_i z hz
      cases hb:Nat.ble 1 (cH z).length with
      |false=>rw [hb] at h;exact h.elim
      |true=>rw [hb] at h;exact(HC (ty:=ty) hu hz (ajU hb) h).exec (by simp [execOp,resolve,invoke,builtin])
     ·exact h.elim
    ·exact h.elim
   ·rename_i x t ha ht
    rw [Mr ha,Mr ht]
    split at h
    ·rename_i d e hu;exact(NK (ty:=ty) hu h).exec (by simp [execOp,resolve,invoke,builtin])
    ·exact h.elim
   ·exact h.elim
end
end
section
def bR (a:Act):Env:=fun t=>a.tmps.getD t undef
theorem rY (a:Act):a.eval=ev (bR a):=by funext x;cases x<;>rfl
theorem ow {a:Act} {dst:Option Tmp} {v:Value} (h: ∀d,dst=some d→d<a.tmps.size):bR (a.put dst v)= (bR a).put dst v:=by
 cases dst with
 |none=>rfl
 |some d=>
  funext s
  have hd:=h d rfl;simp only [bR,Act.put,Env.put,Env.Tv]
  by_cases hs:s=d
  ·subst hs;simp [hd]
  ·have:Nat.beq s d=false:=by cases h:Nat.beq s d with|false=>rfl|true=>exact absurd (akv h) hs
   simp [this,anr (ak6 hs)]
def QN (N:Act→World→Prop):Exit→Act→World→Prop
 | .normal,a,w=>N a w
 |_,_,_=>False
theorem TJ {N:Act→World→Prop}: ¬LetsOut (QN N):=fun ⟨_,_,h⟩=>h
section
variable {P:Program} {ops:Array Oper} {N:Act→World→Prop}
def dS (P:Program) (ops:Array Oper) (o:Oper) (v:Value) (a:Act) (w:World):Prop:=
 (Region.wanted o (yielded ops a.tmps)=true∧(execOp a.eval o).run P w= .ok (.value v) w)∨(Region.wanted o (yielded ops a.tmps)=false∧v=undef)
theorem dS.of_same {o:Oper} {v:Value} {a a' :Act} {w:World} (hy:dS P ops o v a w) (he:execOp a'.eval o=execOp a.eval o)
  (hw:Region.wanted o (yielded ops a'.tmps)=Region.wanted o (yielded ops a.tmps)):dS P ops o v a' w:=by
 unfold dS at*;rw [he,hw];exact hy
theorem dS.wpOp {i:Nat} {o:Oper} {v:Value} {a:Act} {w:World} {Q:Exit→Act→World→Prop} (hi:ops[i]? =some o) (hy:dS P ops o v a w)
  {K:Act→World→Prop} (h:K (a.put o.dst v) w):wpOp P ops Q i K a w:=by
 unfold Go.wpOp;simp only [hi];rcases hy with ⟨hw,hv⟩ | ⟨hw,rfl⟩
 ·simp only [hw,if_true,Oper.wp,hv,Oper.upon];exact .inl h
 ·simp only [hw,akS,if_false];exact h
def Obl (P:Program) (ops:Array Oper) (b:Nat→Nat→Bool) (D:List Nat) (j:Nat) (a:Act) (w w' :World):Prop:=
 ∀i∈D,b i j=false→∀o,ops[i]? =some o→∀d,o.dst=some d→dS P ops o (bR a d) a w→dS P ops o (bR a d) a w'
def V3 (P:Program) (ops:Array Oper) (N:Act→World→Prop) (b:Nat→Nat→Bool):Nat→Array Bool→List Nat→Act→World→Prop
 |0,listed,_,a,w=>Region.ready .any ops listed= []∧N a w
 |fuel+1,listed,D,a,w=>
  (Region.ready .any ops listed= []→N a w)∧
  ∀j∈Region.ready .any ops listed,wpOp P ops (QN N) j (fun a' w' =>Obl P ops b D j a w w' ∧V3 P ops N b fuel (listed.setIfInBounds j true) D a' w') a w
theorem BV {b:Nat→Nat→Bool} {D:List Nat}: ∀ (fuel:Nat) (listed:Array Bool) (a:Act) (w:World),V3 P ops N b fuel listed D a w→wpAny P .any ops (QN N) fuel listed a w
 |0,_,_,_,h=>h
 |fuel+1,_,_,_,h=> ⟨h.1,fun i hi=>wpOp_mono (fun a' w' h' =>BV fuel _ a' w' h'.2) (h.2 i hi)⟩
theorem Kp {j:Nat} {oi oj:Oper} {v:Value} (hj:ops[j]? =some oj) (V4:oi.apart ops oj=true)
  (hsj: ∀cs b,oj.op≠ .select cs b) {K:Act→World→Prop} {a:Act} {w:World}
  (h:wpOp P ops (QN N) j K (a.put oi.dst v) w):
  wpOp P ops (QN N) j (fun a' w' => (∃u,a'.tmps= (a.put oj.dst u).tmps)∧K (a'.put oi.dst v) w') a w:=by
 obtain⟨h1,h2,h3⟩:=Oper.apart_spec V4;unfold wpOp at*;simp only [hj] at*;rw [wanted_put oj a oi.dst v h1] at h
 split
 ·rename_i hw
  simp only [hw,if_true] at h;rcases h with h| ⟨_,Y0⟩
  case inr=>exact(TJ Y0).elim
  refine .inl ?_;unfold Oper.wp at*;rw [execOp_put oj hsj a oi.dst v h1] at h;generalize hr: (execOp a.eval oj).run P w=r at*
  cases r with
  |ok n w' =>
   cases n<;>simp only [Oper.upon] at h ⊢
   case value u=>exact⟨⟨u,rfl⟩,by rw [←Act.put_comm a v u h2];exact h⟩
   case skip=>exact⟨⟨_,rfl⟩,by rw [←Act.put_comm a v undef h2];exact h⟩
   case defer d=>
    refine⟨⟨undef,by cases oj.dst<;>rfl⟩,?_⟩;rw [←Act.put_comm _ v undef h2,←Act.put_defers];exact h
   case enter f args=>
    refine Calls.mono h fun e D5 he=>?_
    cases e with
    |returned u=>exact⟨⟨u,rfl⟩,by rw [←Act.put_comm a v u h2];exact he⟩
    |panicked c=>exact he
    |outgrown=>exact he
   case row row args=>exact Rows.mono h fun u D5 he=> ⟨⟨u,rfl⟩,by rw [←Act.put_comm a v u h2];exact he⟩
  |halt x w' =>
   cases x<;>simp only [Oper.upon] at h ⊢
   case panic u=>exact h
 ·rename_i hw
  simp only [hw] at h;exact⟨⟨_,rfl⟩,by rw [←Act.put_comm a v undef h2];exact h⟩
theorem dS.Ms {o:Oper} {v:Value} {a a' :Act} {w:World} (hy:dS P ops o v a w) (h:a'.tmps=a.tmps):dS P ops o v a' w:=by
 have he:a'.eval=a.eval:=by funext x;cases x<;>simp [Act.eval,h]
 exact hy.of_same (by rw [he]) (by rw [h])
theorem dS.put {o:Oper} {v u:Value} {a:Act} {w:World} {dst:Option Tmp} (hs: ∀cs b,o.op≠ .select cs b) (hd: ∀d,dst=some d→d∉o.looksAt ops):dS P ops o v (a.put dst u) w↔dS P ops o v a w:=by
 constructor
 ·intro h
  exact h.of_same (execOp_put o hs a dst u hd).symm (wanted_put o a dst u hd).symm
 ·intro h
  exact h.of_same (execOp_put o hs a dst u hd) (wanted_put o a dst u hd)
def u9 [Go.Vc.Mode] (ops:Array Oper) (listed:Array Bool):Prop:= ∀ (k:Nat) (o:Oper),ops[k]? =some o→listed.getD k false=true→∀e∈o.after,Region.binds .any e=true→listed.getD e.on false=true
theorem u9.add [Go.Vc.Mode] {listed:Array Bool} {j:Nat} (h:u9 ops listed) (hj:j∈Region.ready .any ops listed):u9 ops (listed.setIfInBounds j true):=by
 obtain⟨_,oj,V5,qC⟩:=mem_ready.1 hj;intro k o ho hk e he hb
 by_cases TK:j=k
 ·subst TK
  rw [V5] at ho;obtain rfl:=akA ho;exact getD_set_true (qC e he hb)
 ·rw [getD_set_ne false TK] at hk
  exact getD_set_true (h k o ho hk e he hb)
def okB [Go.Vc.Mode] (ops:List Oper) (Bs:List Nat):Bool:=Bs.zipIdx.all fun (x,j)=>match ops[j]? with
 |some o=>Nat.beq (x|||o.after.toList.foldl (fun s e=>bif Region.binds .any e && Nat.blt e.on j then s|||2 ^ e.on|||Bs.getD e.on 0 else s) 0) (o.after.toList.foldl (fun s e=>bif Region.binds .any e && Nat.blt e.on j then s|||2 ^ e.on|||Bs.getD e.on 0 else s) 0)
 |none=>Nat.beq x 0
def Y1 (Bs:List Nat) (i j:Nat):Bool:= (Bs.getD j 0).testBit i
theorem EE {Bs:List Nat} {i j:Nat}: ∀ (l:List Edge) (s:Nat),(l.foldl (fun s e=>bif Region.binds .any e && Nat.blt e.on j then s|||2 ^ e.on|||Bs.getD e.on 0 else s) s).testBit i=true→
  s.testBit i=true∨∃e∈l,Region.binds .any e=true∧e.on<j∧(e.on=i∨Y1 Bs i e.on=true)
 | [],s,h=> .inl h
 |e::l,s,h=>by
  simp only [alx] at h;rcases EE l _ h with h| ⟨e',Yo,h⟩
  ·cases hb: (Region.binds .any e && Nat.blt e.on j) with
   |false=>rw [hb] at h;exact .inl h
   |true=>
    rw [hb] at h;simp only [cond_true,Nat.testBit_or,ak5] at h;simp only [aj3] at hb;have eF:e.on<j:=by have:=hb.2;rwa [Nat.blt_eq] at this
    rcases h with (h|h) |h
    ·exact .inl h
    ·rw [Nat.testBit_two_pow] at h
     exact .inr ⟨e,by simp,hb.1,eF,.inl (by simpa using h)⟩
    ·exact .inr ⟨e,by simp,hb.1,eF,.inr h⟩
  ·exact .inr ⟨e',ajO _ Yo,h⟩
theorem Kq [Go.Vc.Mode] {Bs:List Nat} (hB:okB ops.toList Bs=true) {listed:Array Bool} (hc:u9 ops listed): ∀ (n j i:Nat),j<n→Y1 Bs i j=true→(∀o,ops[j]? =some o→∀e∈o.after,Region.binds .any e=true→listed.getD e.on false=true)→listed.getD i false=true:=by
 intro n
 induction n with
 |zero=>intro j i h;omega
 |succ n ih=>
  intro j i hj hb qC;unfold okB at hB;rw [alA] at hB;unfold Y1 at hb
  cases hx:Bs[j]? with
  |none=>simp [ajX,hx] at hb
  |some x=>
   rw [ajX,hx] at hb;simp only [alo] at hb;have hm:=hB (x,j) (by rw [List.mem_zipIdx_iff_getElem?];exact hx);simp only at hm
   cases ho:ops.toList[j]? with
   |none=>
    rw [ho] at hm;have:=akv hm;subst this
    simp at hb
   |some o=>
    rw [ho] at hm;have heq:=akv hm;have Y2: (x|||o.after.toList.foldl (fun s e=>bif Region.binds .any e && Nat.blt e.on j then s|||2 ^ e.on|||Bs.getD e.on 0 else s) 0).testBit i=true:=by
     rw [Nat.testBit_or,hb];rfl
    rw [heq] at Y2;have V6 :ops[j]? =some o:=by simpa using ho
    rcases EE _ _ Y2 with h| ⟨e,he,TL,eF,h⟩
    ·simp at h
    ·have hl:=qC o V6 e (by simpa using he) TL
     rcases h with h|h
     ·rw [←h];exact hl
     ·exact ih e.on i (by omega) h (fun o2 U_ e2 Qn YX=>hc e.on o2 U_ hl e2 Qn YX)
theorem BW {b:Nat→Nat→Bool} {D D' :List Nat} (hD: ∀k∈D,k∈D'): ∀ (fuel:Nat) (listed:Array Bool) (a:Act) (w:World),V3 P ops N b fuel listed D' a w→V3 P ops N b fuel listed D a w
 |0,_,_,_,h=>h
 |fuel+1,_,_,_,h=> ⟨h.1,fun i hi=>wpOp_mono (fun a' w' h' => ⟨fun k hk=>h'.1 k (hD k hk),BW hD fuel _ a' w' h'.2⟩) (h.2 i hi)⟩
def xJ (ops:Array Oper) (x y:Oper):Bool:=match x.dst with
 |some d=> !(y.looksAt ops).contains d && y.dst !=some d
 |none=>true
theorem D6 {x y:Oper} (h:xJ ops x y=true): (∀d,x.dst=some d→d∉y.looksAt ops)∧(∀d,x.dst=some d→y.dst≠some d):=by
 constructor<;>intro d hd<;>simp [xJ,hd] at h
 ·exact h.1
 ·exact h.2
theorem NM [Go.Vc.Mode] {b:Nat→Nat→Bool} {i:Nat} {oi:Oper} {v:Value} {D D' :List Nat} (hi:ops[i]? =some oi) (Kr: ∀ (j:Nat) (o:Oper) cs b,ops[j]? =some o→o.op≠ .select cs b)
  (EF: ∀d,oi.dst=some d→d∉oi.looksAt ops) (hD: ∀k∈D,∀ok,ops[k]? =some ok→xJ ops oi ok=true)
  (G7: ∀listed:Array Bool,u9 ops listed→∀j∈Region.ready .any ops listed,b i j=true→listed.getD i false=true):
  ∀ (fuel:Nat) (listed:Array Bool) (a:Act) (w:World),(∀d,oi.dst=some d→d<a.tmps.size)→u9 ops listed→
   (∀j oj,ops[j]? =some oj→j≠i→listed.getD j true=false→(∀e∈oj.after,Region.binds .any e=true→e.on≠i)→oi.apart ops oj=true)→
   i∈Region.ready .any ops listed→((D' =i::D∧oi.dst≠none∧dS P ops oi v a w)∨(D' =D∧∀w',dS P ops oi v a w'))→
   V3 P ops N b fuel (listed.setIfInBounds i true) D' (a.put oi.dst v) w→V3 P ops N b (fuel+1) listed D a w:=by
 intro fuel
 induction fuel with
 |zero=>
  intro listed a w _ _ _ hr hy H;refine⟨fun h=> (by rw [h] at hr;cases hr),fun j hj=>?_⟩
  by_cases Va:j=i
  ·subst Va
   have hy' :dS P ops oi v a w:=by rcases hy with ⟨_,_,h⟩ | ⟨_,h⟩;exact h;exact h w
   exact hy'.wpOp hi ⟨fun _ _ _ _ _ _ _ h=>h,H⟩
  ·have:=ready_mono hj Va
   rw [H.1] at this
   cases this
 |succ fuel ih=>
  intro listed a w u0 iz Vb hr hy H;refine⟨fun h=> (by rw [h] at hr;cases hr),fun j hj=>?_⟩;have hy' :dS P ops oi v a w:=by rcases hy with ⟨_,_,h⟩ | ⟨_,h⟩;exact h;exact h w
  have Tb : ∀k∈D,k∈D' :=by rcases hy with ⟨rfl,_⟩ | ⟨rfl,_⟩;exact fun k hk=>ajO _ hk;exact fun k hk=>hk
  by_cases Va:j=i
  ·subst Va
   refine hy'.wpOp hi ⟨fun _ _ _ _ _ _ _ h=>h,?_⟩;exact BW Tb _ _ _ _ H
  ·have h1:=H.2 j (ready_mono hj Va)
   obtain⟨Y3,oj,V5,qC⟩:=mem_ready.1 hj;have Ks:listed.getD i false=false:=by
    have:= (mem_ready.1 hr).1;rcases akz i listed.size with h' |h'
    ·simpa [h'] using this
    ·simp [aln h'] at this
   have abV: ∀e∈oj.after,Region.binds .any e=true→e.on≠i:=fun e he hb heq=>by
    have h1:=qC e he hb;rw [heq,Ks] at h1
    cases h1
   have V4:=Vb j oj V5 Va Y3 abV;obtain⟨g1,g2,g3⟩:=Oper.apart_spec V4;have h2:=Kp V5 V4 (fun cs b=>Kr j oj cs b V5) h1;have abW:b i j=false:=by
    cases hb:b i j with
    |false=>rfl
    |true=>rw [G7 listed iz j hj hb] at Ks;cases Ks
   have V7 : ∀k ok,ops[k]? =some ok→k≠i→(listed.setIfInBounds j true).getD k true=false→
     (∀e∈ok.after,Region.binds .any e=true→e.on≠i)→oi.apart ops ok=true:=fun k ok hk Y4 Ks Ah=>by
    refine Vb k ok hk Y4 ?_ Ah
    by_cases hjk:j=k
    ·subst hjk;exact Y3
    ·rw [getD_set_ne true hjk] at Ks;exact Ks
   refine wpOp_mono (fun a' w' h3=>?_) h2;obtain⟨⟨u,hu⟩,V8,h3⟩:=h3;refine⟨?_,ih (listed.setIfInBounds j true) a' w' ?_ (iz.add hj) V7 (ready_mono hr (ak6 Va)) ?_ ?_⟩
   ·intro k hk Y5 o ho d hd hyk
    have hko:=hD k hk o ho;obtain⟨k1,k2⟩:=D6 hko;have nz:bR (a.put oi.dst v) d=bR a d:=by
     cases EG:oi.dst with
     |none=>rfl
     |some di=>
      have d_:di≠d:=fun e=>k2 di EG (by rw [hd,e])
      simp [bR,Act.put,anr d_]
    have:=V8 k (Tb k hk) Y5 o ho d hd;rw [nz,dS.put (Kr k o · · ho) k1,dS.put (Kr k o · · ho) k1] at this;exact this hyk
   ·intro d hd
    rw [hu];have:=u0 d hd
    cases oj.dst<;>simpa [Act.put] using this
   ·rcases hy with ⟨hDe,d_,hy⟩ | ⟨hDe,hy⟩
    ·refine .inl ⟨hDe,d_,?_⟩
     obtain⟨d,hd⟩:=Option.ne_none_iff_exists'.1 d_;have nz:bR (a.put oi.dst v) d=v:=by
      have:=u0 d hd
      simp [bR,Act.put,hd,this]
     have:=V8 i (by rw [hDe];simp) abW oi hi d hd;rw [nz,dS.put (Kr i oi · · hi) EF,dS.put (Kr i oi · · hi) EF] at this;have h4:= (dS.put (u:=u) (dst:=oj.dst) (Kr i oi · · hi) (fun d hd=>g3 d hd)).2 (this hy);exact h4.Ms hu
    ·refine .inr ⟨hDe,fun w2=>?_⟩
     have h4:= (dS.put (u:=u) (dst:=oj.dst) (Kr i oi · · hi) (fun d hd=>g3 d hd)).2 (hy w2);exact h4.Ms hu
   ·rw [Array.setIfInBounds_comm _ _ Va]
    exact h3
end
end
section
structure Ok (n:Nat) (a:Act):Prop where
 size:a.tmps.size=n
 defers:a.defers= []
theorem Ok.put {n:Nat} {a:Act} (h:Ok n a) (dst:Option Tmp) (v:Value):Ok n (a.put dst v):=by
 cases dst with
 |none=>exact h
 |some d=>exact⟨by simpa [Act.put] using h.size,h.defers⟩
structure V9 where
 n:Nat
 Qo:List Nat→Nat→Bool
 Y6:List Nat→List Nat→Bool
 Qp:List Nat→Nat→List Nat→Bool
section
variable (P:Program) (ops:Array Oper)
def Quiet (i:Nat) (v:Value) (a:Act) (w:World):Prop:= ∃o,ops[i]? =some o∧
 ((Region.wanted o (yielded ops a.tmps)=true∧((cls P o.op=0∧∀w',(execOp a.eval o).run P w' = .ok (.value v) w')∨(cls P o.op=1∧∀w',w'.heap=w.heap→(execOp a.eval o).run P w' = .ok (.value v) w')))∨
  (Region.wanted o (yielded ops a.tmps)=false∧v=undef))
def Qq (st:List Nat) (a:Act) (w' :World):Prop:= ∀k∈st,∀o,ops[k]? =some o→∀d,o.dst=some d→(execOp a.eval o).run P w' = .ok (.value (bR a d)) w'
def Qr [Go.Vc.Mode] (X:List Nat→Act→World→Prop) (done:List Nat) (i:Nat) (st:List Nat) (a:Act) (w:World):Prop:= ∃o,ops[i]? =some o∧Region.wanted o (yielded ops a.tmps)=true∧
 o.wp P a w (fun a' w' => (∃v,a' =a.put o.dst v)∧dI w w' ∧Qq P ops st a w' ∧X (i::done) a' w') (QN fun _ _=>False)
structure Runner [Go.Vc.Mode] (ck:V9) where
 X:List Nat→Act→World→Prop
 quiet: ∀done i a w,Ok ck.n a→ck.Qo done i=true→(∃v o,ops[i]? =some o∧Quiet P ops i v a w∧(∀d,o.dst=some d→d<ck.n)∧X (i::done) (a.put o.dst v) w)→X done a w
 effect: ∀done (hs:List (Nat × List Nat)) a w,Ok ck.n a→ck.Y6 done (hs.map (·.1))=true→(∀h∈hs,ck.Qp done h.1 h.2=true∧Qr P ops X done h.1 h.2 a w)→X done a w
end
def Al:sT→List (Nat × List Nat)
 | .op i st _=> [(i,st)]
 | .fork a b=>Al a++Al b
 |_=> []
def BX (cur:Option (Nat × Bool × Nat)) (o:Oper):Bool:=match cur,o.guard with
 |none,none=>true
 |some (c,w,t),some (c',w')=>Nat.beq c c' && (w==w') && (match o.dst with|some d=> !Nat.beq d t|none=>true)
 |_,_=>false
def Mt (n:Nat) (o:Oper):Bool:=match o.dst with
 |some d=>Nat.blt d n
 |none=>true
def xK (ops:List Oper) (c:Nat) (want:Bool):sT→List Nat→Bool
 | .nil,_=>true
 | .op i _ r,sk=>match ops[i]? with
  |some o=>match o.guard with
   |some (g,b)=> (Nat.beq g c && (b==want) ||re g sk) && xK ops c want r (i::sk)
   |none=>false
  |none=>false
 | .dQ _ body p r,sk=>xK ops c want body sk && (match ops[p]? with
  |some o=>match o.guard with
   |some (g,b)=> (Nat.beq g c && (b==want) ||re g sk)
   |none=>false
  |none=>false) && xK ops c want r sk
 | .fork _ _,_=>false
def FT (cur:Option (Nat × Bool × Nat)) (l:List Nat):Bool:=match cur with
 |some (_,_,t0)=> !re t0 l
 |none=>true
def BY (o:Op):Option (Nat × Nat × Bool):=match o with
 | .pick (.tmp t) (.tmp u) (.const (.bool false))=>some (t,u,true)
 | .pick (.tmp t) (.const (.bool true)) (.tmp u)=>some (t,u,false)
 |_=>none
section
variable {P:Program} {ops:Array Oper} {ck:V9}
def pI (P:Program) (ops:Array Oper) (ck:V9):sT→Bool→Option (Nat × Bool × Nat)→List Nat→(List Nat→Bool)→Bool
 | .nil,fl,_,done,k=> !fl && k done
 | .op i st r,fl,cur,done,k=>match ops.toList[i]? with
  |some o=>BX cur o && Mt ck.n o && (match cls P o.op with
    |0|1=> !fl && st.isEmpty && ck.Qo done i
    |_=> (fl||ck.Y6 done [i]) && ck.Qp done i st && (cur.isNone||ck.Qo done i)) && pI P ops ck r false cur (i::done) k
  |none=>false
 | .dQ c body p r,fl,cur,done,k=>match ops.toList[p]?,ops.toList[c]? with
  |some o,some oc=>match BY o.op with
   |some (t,_,want)=> !fl && BX cur o && Mt ck.n o && (match oc.dst with|some t' =>Nat.beq t t' |none=>false) && !re t (bJ ops.toList body) &&
     FT cur (bJ ops.toList body) && xK ops.toList c want body [] &&
     pI P ops ck body false (some (c,want,t)) done fun d=>ck.Qo d p && pI P ops ck r false cur (p::d) k
   |none=>false
  |_,_=>false
 | .fork a b,fl,cur,done,k=>cur.isNone && (fl||ck.Y6 done ((Al a++Al b).map (·.1))) && pI P ops ck a true none done k && pI P ops ck b true none done k
theorem Am {a:Act} {c t:Nat} {b:Bool} {oc:Oper} (hc:ops[c]? =some oc) (hd:oc.dst=some t) (h:bR a t= .bool b):yielded ops a.tmps c=some b:=by
 have:a.tmps[t]? =some (.bool b):=by
  unfold bR at h;rw [amG] at h
  cases hx:a.tmps[t]? with
  |none=>rw [hx] at h;simp [undef] at h
  |some v=>rw [hx] at h;simp at h;rw [h]
 simp [yielded,hc,hd,this]
theorem xL {a:Act} {c:Nat} {oc:Oper} (hc:ops[c]? =some oc) (h: ∀t,oc.dst=some t→bR a t=undef):yielded ops a.tmps c=none:=by
 unfold yielded
 cases hd:oc.dst with
 |none=>simp [hc,hd]
 |some t=>
  have h:=h t hd
  cases hx:a.tmps[t]? with
  |none=>simp [hc,hd,hx]
  |some v=>
   unfold bR at h;rw [amG,hx] at h
   simp at h
   simp [hc,hd,hx,h,undef]
def u_ (ops:Array Oper) (cur:Option (Nat × Bool × Nat)) (a:Act):Prop:=match cur with
 |none=>True
 |some (c,want,t)=> (∃oc,ops[c]? =some oc∧oc.dst=some t)∧bR a t= .bool want
theorem qD {cur:Option (Nat × Bool × Nat)} {o:Oper} {a:Act} (hk:BX cur o=true) (hc:u_ ops cur a):Region.wanted o (yielded ops a.tmps)=true:=by
 unfold BX at hk;unfold Region.wanted
 split at hk
 ·rename_i h;rw [h]
 ·rename_i c w t c' w' h
  rw [h];simp only [aj3,beq_iff_eq] at hk;obtain⟨⟨h1,h2⟩,_⟩:=hk;have h1:=akv h1;subst h1;subst h2;obtain⟨⟨oc,h1,h2⟩,h3⟩:=hc
  simp [Am h1 h2 h3]
 ·cases hk
theorem lP {n:Nat} {a:Act} {dst:Option Tmp} {v:Value} {s:Nat} (ha:Ok n a) (hd: ∀d,dst=some d→d<n) (hs: ∀d,dst=some d→d≠s):bR (a.put dst v) s=bR a s:=by
 rw [ow (fun d h=>by rw [ha.size];exact hd d h)]
 cases dst with
 |none=>rfl
 |some d=>
  have:Nat.beq s d=false:=by cases h:Nat.beq s d with|false=>rfl|true=>exact absurd (akv h).symm (hs d rfl)
  simp [Env.put,Env.Tv,this]
theorem u_.put {n:Nat} {cur:Option (Nat × Bool × Nat)} {o:Oper} {a:Act} {v:Value} (h:u_ ops cur a) (hk:BX cur o=true) (ha:Ok n a) (hd: ∀d,o.dst=some d→d<n):u_ ops cur (a.put o.dst v):=by
 cases cur with
 |none=>trivial
 |some c=>
  obtain⟨c,w,t⟩:=c;refine⟨h.1,?_⟩;have h2:=h.2;rw [lP ha hd ?_]
  ·exact h2
  ·intro d NN he
   subst he;unfold BX at hk
   split at hk
   ·rename_i h0 _;cases h0
   ·rename_i h0 _
    simp only [ajY,ak4] at h0;obtain⟨rfl,rfl,rfl⟩:=h0;rw [NN] at hk
    simp at hk
   ·cases hk
theorem rn {n:Nat} {o:Oper} (h:Mt n o=true): ∀d,o.dst=some d→d<n:=by
 intro d hd;unfold Mt at h;rw [hd] at h
 rwa [Nat.blt_eq] at h
theorem sX {n:Nat}: ∀ {l:List Nat},re n l=true↔n∈l
 | []=>by simp [re]
 |m::r=>by
  simp only [re,aj5]
  cases h:Nat.beq n m with
  |true=>simp [akv h]
  |false=>
   have:n≠m:=fun e=>by subst e;simp at h
   simp [this,sX]
theorem wY {n:Nat} {l:List Nat}:re n l=false↔n∉l:=by
 rw [←sX];simp
def jW (l:List Nat) (a a' :Act):Prop:= ∀t,t∉l→bR a' t=bR a t
theorem jW.refl (l:List Nat) (a:Act):jW l a a:=fun _ _=>rfl
theorem jW.trans {l l' :List Nat} {a b c:Act} (h:jW l a b) (k:jW l' b c):jW (l++l') a c:=fun t ht=>by
 rw [akg,not_or] at ht;rw [k t ht.2,h t ht.1]
theorem jW.mono {l l' :List Nat} {a b:Act} (h:jW l a b) (hl: ∀t∈l,t∈l'):jW l' a b:=fun t ht=>h t (fun hm=>ht (hl t hm))
theorem jW.put {n:Nat} {a:Act} {dst:Option Tmp} {v:Value} {l:List Nat} (ha:Ok n a) (hd: ∀d,dst=some d→d<n) (hl: ∀d,dst=some d→d∈l):jW l a (a.put dst v):=fun t ht=>
 lP ha hd (fun d hd e=>ht (by rw [←e];exact hl d hd))
theorem y6 {i:Nat} {o:Oper} (h:ops.toList[i]? =some o):ops[i]? =some o:=by simpa using h
theorem Kt [Go.Vc.Mode] {R:Runner P ops ck} {c t:Nat} {want:Bool} {oc:Oper} (hc:ops[c]? =some oc) (hoc:oc.dst=some t):
  ∀ (p:sT) (sk:List Nat) (cur:Option (Nat × Bool × Nat)) (done:List Nat) (k:List Nat→Bool) (a:Act) (w:World),xK ops.toList c want p sk=true→pI P ops ck p false cur done k=true→cur≠none→t∉bJ ops.toList p→
   Ok ck.n a→bR a t= .bool (!want)→(∀g∈sk,∃og,ops[g]? =some og∧∀d,og.dst=some d→bR a d=undef)→
   (∀gF a',k gF =true→Ok ck.n a' →jW (bJ ops.toList p) a a' →(∀g∈sk,∃og,ops[g]? =some og∧∀d,og.dst=some d→bR a' d=undef)→R.X gF a' w)→R.X done a w:=by
 have unw: ∀ (o:Oper) (sk:List Nat) (a:Act),(match o.guard with
   |some (g,b)=> (Nat.beq g c && (b==want) ||re g sk)
   |none=>false)=true→bR a t= .bool (!want)→(∀g∈sk,∃og,ops[g]? =some og∧∀d,og.dst=some d→bR a d=undef)→Region.wanted o (yielded ops a.tmps)=false:=by
  intro o sk a h ha HD;unfold Region.wanted
  split at h
  ·rename_i g b hg
   rw [hg];simp only [ak5,aj3,beq_iff_eq] at h;rcases h with ⟨h1,h2⟩ |h
   ·have h1:=akv h1
    subst h1;subst h2;simp only [Am hc hoc ha]
    cases b<;>rfl
   ·obtain⟨og,h1,h2⟩:=HD g (sX.1 h)
    simp only [xL h1 h2]
    rfl
  ·cases h
 intro p
 induction p with
 |nil=>
  intro sk cur done k a w hs hk sY ht ha nz HD hX;simp only [pI,alh,Bool.true_and] at hk;exact hX done a hk ha (jW.refl _ _) HD
 |op i st r ih=>
  intro sk cur done k a w hs hk sY ht ha nz HD hX;simp only [xK] at hs;simp only [pI] at hk
  cases ho:ops.toList[i]? with
  |none=>rw [ho] at hs;cases hs
  |some o=>
   rw [ho] at hs hk;simp only [aj3] at hk;obtain⟨⟨⟨BZ,eF⟩,iz⟩,TM⟩:=hk;have eF:=rn eF;have hq:ck.Qo done i=true:=by
    split at iz
    ·simp only [aj3] at iz;exact iz.2
    ·simp only [aj3] at iz;exact iz.2
    ·simp only [aj3,ak5] at iz
     rcases iz.2 with h|h
     ·cases cur with
      |none=>exact absurd rfl sY
      |some _=>simp at h
     ·exact h
   have hg: (match o.guard with
     |some (g,b)=> (Nat.beq g c && (b==want) ||re g sk)
     |none=>false)=true∧xK ops.toList c want r (i::sk)=true:=by
    simp only at hs
    cases Yp:o.guard with
    |none=>rw [Yp] at hs;cases hs
    |some gb=>
     rw [Yp] at hs;simp only [aj3] at hs;exact hs
   have wZ: ∀d,o.dst=some d→d∈bJ ops.toList (.op i st r):=by
    intro d hd;simp [bJ,ho,hd]
   have NO: ∀d∈bJ ops.toList r,d∈bJ ops.toList (.op i st r):=by
    intro d hd;simp only [bJ,ho]
    cases o.dst<;>simp [hd]
   have Y7 : ∀d,o.dst=some d→d≠t:=fun d hd e=>ht (by rw [←e];exact wZ d hd);refine R.quiet done i a w ha hq ⟨undef,o,y6 ho,⟨o,y6 ho,.inr ⟨unw o sk a hg.1 nz HD,rfl⟩⟩,eF,?_⟩;have abX : ∀g∈i::sk,∃og,ops[g]? =some og∧∀d,og.dst=some d→bR (a.put o.dst undef) d=undef:=by
    intro g V_;have key: ∀d,bR a d=undef→bR (a.put o.dst undef) d=undef:=by
     intro d hd
     by_cases NN:o.dst=some d
     ·rw [ow (fun d h=>by rw [ha.size];exact eF d h),NN]
      simp [Env.put,Env.Tv]
     ·rw [lP ha eF (fun d' h e=>NN (by rw [h,e]))];exact hd
    rcases aj5.1 V_ with rfl|V_
    ·refine⟨o,y6 ho,fun d hd=>?_⟩
     rw [ow (fun d h=>by rw [ha.size];exact eF d h),hd]
     simp [Env.put,Env.Tv]
    ·obtain⟨og,h1,h2⟩:=HD g V_
     exact⟨og,h1,fun d hd=>key d (h2 d hd)⟩
   refine ih (i::sk) cur (i::done) k _ w hg.2 TM sY (fun h=>ht (NO t h)) (ha.put _ _) (by rw [lP ha eF Y7];exact nz) abX ?_;intro gF a' Mu Hu xM Y8;refine hX gF a' Mu Hu ?_ (fun g V_=>Y8 g (ajO _ V_));exact((jW.put ha eF wZ).trans (xM.mono NO)).mono (by simp)
 |dQ c' body p r Y9 Y_=>
  intro sk cur done k a w hs hk sY ht ha nz HD hX;simp only [xK,aj3] at hs;obtain⟨⟨hsb,D7⟩,hsr⟩:=hs;simp only [pI] at hk
  cases D0:ops.toList[p]? with
  |none=>rw [D0] at hk;cases hk
  |some op=>
   cases Ku :ops.toList[c']? with
   |none=>rw [D0,Ku] at hk;cases hk
   |some oc' =>
    rw [D0,Ku] at hk;simp only at hk
    cases FU:BY op.op with
    |none=>rw [FU] at hk;cases hk
    |some q=>
     obtain⟨t',u',Za⟩:=q;rw [FU] at hk;simp only [aj3] at hk;obtain⟨⟨⟨⟨⟨⟨⟨_,BZ⟩,eF⟩,TN⟩,Kv⟩,Vd⟩,Zb⟩,hkb⟩:=hk;have eF:=rn eF;rw [D0] at D7;have HE: ∀d∈bJ ops.toList body,d∈bJ ops.toList (.dQ c' body p r):=fun d hd=>by simp [bJ,hd]
     have Mv: ∀d∈bJ ops.toList r,d∈bJ ops.toList (.dQ c' body p r):=fun d hd=>by
      simp only [bJ,D0];cases op.dst<;>simp [hd]
     have wZ: ∀d,op.dst=some d→d∈bJ ops.toList (.dQ c' body p r):=fun d hd=>by simp [bJ,D0,hd]
     have Y7 : ∀d,op.dst=some d→d≠t:=fun d hd e=>ht (by rw [←e];exact wZ d hd);refine Y9 sk (some (c',Za,t')) done _ a w hsb hkb (by simp) (fun h=>ht (HE t h)) ha nz HD ?_;intro jX a1 rO tQ mH Zc;simp only [aj3] at rO;have NP:bR a1 t= .bool (!want):=by rw [mH t (fun h=>ht (HE t h))];exact nz
     refine R.quiet jX p a1 w tQ rO.1 ⟨undef,op,y6 D0,⟨op,y6 D0,.inr ⟨unw op sk a1 D7 NP Zc,rfl⟩⟩,eF,?_⟩;have abZ: ∀g∈sk,∃og,ops[g]? =some og∧∀d,og.dst=some d→bR (a1.put op.dst undef) d=undef:=by
      intro g V_;obtain⟨og,h1,h2⟩:=Zc g V_;refine⟨og,h1,fun d hd=>?_⟩
      by_cases NN:op.dst=some d
      ·rw [ow (fun d h=>by rw [tQ.size];exact eF d h),NN]
       simp [Env.put,Env.Tv]
      ·rw [lP tQ eF (fun d' h e=>NN (by rw [h,e]))];exact h2 d hd
     refine Y_ sk cur (p::jX) k _ w hsr rO.2 sY (fun h=>ht (Mv t h)) (tQ.put _ _) (by rw [lP tQ eF Y7];exact NP) abZ ?_;intro gF a' Mu Hu xM ab0;refine hX gF a' Mu Hu ?_ ab0;exact((mH.mono HE).trans ((jW.put tQ eF wZ).trans (xM.mono Mv))).mono (by simp)
 |fork a b _ _=>
  intro sk cur done k a w hs
  simp [xK] at hs
theorem Qs [Go.Vc.Mode] {K:Value→ak→Prop} {o:Oper} {a:Act} {w:World} {F:Act→World→Prop} (h:after P K w ((execOp a.eval o).run P w)) (hF: ∀v w',dI w w' →K v w'.heap→F (a.put o.dst v) w'):
  o.wp P a w F (QN fun _ _=>False):=by
 unfold Oper.wp;generalize (execOp a.eval o).run P w=r at h
 cases r with
 |ok n w' =>
  cases n<;>simp only [after] at h
  case value v=>exact hF v w' h.1 h.2
  case skip=>exact hF undef w' h.1 h.2
  case enter f args=>
   refine(h.2 w' rfl).mono fun e D5 he=>?_;obtain⟨v,rfl,hr,hk⟩:=he;exact hF v D5 (h.1.trans hr) hk
 |halt x w' =>simp only [after] at h
theorem B0 {ρ:Env} {H:ak} {X:Prop}: ∀ {st:List Nat},Mn P ops.toList ρ H X st→(∀k∈st,FH P ops.toList ρ H k)∧X
 | [],h=> ⟨by simp,h⟩
 |k::r,h=>by
  obtain⟨h1,h2⟩:=h;obtain⟨h3,h4⟩:=B0 h2;exact⟨fun j hj=>by rcases aj5.1 hj with rfl|hj;exact h1;exact h3 j hj,h4⟩
theorem NQ {a:Act} {w' :World} {st:List Nat} (h: ∀k∈st,FH P ops.toList (bR a) w'.heap k):Qq P ops st a w' :=by
 intro k hk o ho d hd;have hr:=h k hk;unfold FH at hr;rw [show ops.toList[k]? =some o by simpa using ho] at hr;simp only [hd] at hr;obtain⟨dst,op,ty,pos,af,g⟩:=o;obtain⟨v,jc,rfl⟩:=yZ (dst:=dst) (ty:=ty) (pos:=pos) (af:=af) (g:=g) hr;rw [rY];exact jc w' rfl
variable {C:List Nat}
def B3 [Go.Vc.Mode] (P:Program) (ops:Array Oper) (C:List Nat) (ck:V9) (R:Runner P ops ck) (p:sT):Prop:=
 ∀ (cur:Option (Nat × Bool × Nat)) (done:List Nat) (k:List Nat→Bool) (K:Env→ak→Prop) (a:Act) (w:World),pI P ops ck p false cur done k=true→Ok ck.n a→u_ ops cur a→
  Eu P C ops.toList p (bR a) w.heap K→(∀gF a' w',k gF =true→Ok ck.n a' →jW (bJ ops.toList p) a a' →dI w w' →u_ ops cur a' →K (bR a') w'.heap→R.X gF a' w')→R.X done a w
def Ve [Go.Vc.Mode] (P:Program) (ops:Array Oper) (C:List Nat) (ck:V9) (R:Runner P ops ck) (p:sT):Prop:=
 ∀ (done:List Nat) (k:List Nat→Bool) (K:Env→ak→Prop) (a:Act) (w:World),pI P ops ck p true none done k=true→Ok ck.n a→
  Eu P C ops.toList p (bR a) w.heap K→(∀gF a' w',k gF =true→Ok ck.n a' →jW (bJ ops.toList p) a a' →dI w w' →K (bR a') w'.heap→R.X gF a' w')→
  ∀h∈Al p,ck.Qp done h.1 h.2=true∧Qr P ops R.X done h.1 h.2 a w
theorem B4 [Go.Vc.Mode] (hC:nG P C) {R:Runner P ops ck} {i:Nat} {st:List Nat} {r:sT} (ih:B3 P ops C ck R r) {o:Oper} (ho:ops.toList[i]? =some o) (TO:cls P o.op≠0∧cls P o.op≠1)
  {cur:Option (Nat × Bool × Nat)} {done:List Nat} {k:List Nat→Bool} {K:Env→ak→Prop} {a:Act} {w:World} (BZ:BX cur o=true) (eF: ∀d,o.dst=some d→d<ck.n) (TM:pI P ops ck r false cur (i::done) k=true) (ha:Ok ck.n a) (sY:u_ ops cur a)
  (hv:Eu P C ops.toList (.op i st r) (bR a) w.heap K) (hX: ∀gF a' w',k gF =true→Ok ck.n a' →jW (bJ ops.toList (.op i st r)) a a' →dI w w' →u_ ops cur a' →K (bR a') w'.heap→R.X gF a' w'):
  Qr P ops R.X done i st a w:=by
 simp only [Eu,ho] at hv;have hE: ∀w1:World,w1.heap=w.heap→after P (fun v H' =>Mn P ops.toList (bR a) H' (Eu P C ops.toList r ((bR a).put o.dst v) H' K) st) w1 ((execOp (ev (bR a)) o).run P w1):=by
  unfold YU at hv;obtain⟨dst,op,ty,pos,af,g⟩:=o
  split at hv
  ·rename_i h0;exact absurd h0 TO.1
  ·rename_i h1;exact absurd h1 TO.2
  ·exact ED hC hv
 refine⟨o,y6 ho,qD BZ sY,Qs (by rw [rY];exact hE w rfl) fun v w' hr hk=>?_⟩;obtain⟨h1,h2⟩:=B0 hk;refine⟨⟨v,rfl⟩,hr,NQ h1,?_⟩;have wZ: ∀d,o.dst=some d→d∈bJ ops.toList (.op i st r):=by intro d hd;simp [bJ,ho,hd]
 have NO: ∀d∈bJ ops.toList r,d∈bJ ops.toList (.op i st r):=by
  intro d hd;simp only [bJ,ho];cases o.dst<;>simp [hd]
 refine ih cur (i::done) k K _ w' TM (ha.put _ _) (sY.put BZ ha eF) (by rw [ow (fun d h=>by rw [ha.size];exact eF d h)];exact h2) ?_;intro gF a' D5 Mu Hu xM Wa Zd hK;exact hX gF a' D5 Mu Hu (((jW.put ha eF wZ).trans (xM.mono NO)).mono (by simp)) (hr.trans Wa) Zd hK
theorem TP [Go.Vc.Mode] (hC:nG P C) {R:Runner P ops ck} {i:Nat} {st:List Nat} {r:sT} (ih:B3 P ops C ck R r):B3 P ops C ck R (.op i st r):=by
 intro cur done k K a w hk ha sY hv hX;simp only [pI] at hk
 cases ho:ops.toList[i]? with
 |none=>rw [ho] at hk;cases hk
 |some o=>
  rw [ho] at hk;simp only [aj3] at hk;obtain⟨⟨⟨BZ,eF⟩,iz⟩,TM⟩:=hk;have eF:=rn eF;have wZ: ∀d,o.dst=some d→d∈bJ ops.toList (.op i st r):=by intro d hd;simp [bJ,ho,hd]
  have NO: ∀d∈bJ ops.toList r,d∈bJ ops.toList (.op i st r):=by
   intro d hd;simp only [bJ,ho];cases o.dst<;>simp [hd]
  have quiet: ∀v,st= []→ck.Qo done i=true→Quiet P ops i v a w→Eu P C ops.toList r ((bR a).put o.dst v) w.heap K→R.X done a w:=by
   intro v _ hq Ze hvr;refine R.quiet done i a w ha hq ⟨v,o,y6 ho,Ze,eF,?_⟩;refine ih cur (i::done) k K _ w TM (ha.put _ _) (sY.put BZ ha eF) (by rw [ow (fun d h=>by rw [ha.size];exact eF d h)];exact hvr) ?_;intro gF a' D5 Mu Hu xM Wa Zd hK;exact hX gF a' D5 Mu Hu (((jW.put ha eF wZ).trans (xM.mono NO)).mono (by simp)) Wa Zd hK
  have qN :=hv;simp only [Eu,ho,YU] at hv
  by_cases h0:cls P o.op=0
  ·rw [h0] at iz hv
   simp only [aj3] at iz;have ff:st= []:=by simpa using iz.1.2
   subst ff;obtain⟨dst,op,ty,pos,af,g⟩:=o;obtain⟨v,jc,D4⟩:=Ey (dst:=dst) (ty:=ty) (pos:=pos) (af:=af) (g:=g) hv;exact quiet v rfl iz.2 ⟨_,y6 ho,.inl ⟨qD BZ sY,.inl ⟨h0,by rw [rY];exact jc⟩⟩⟩ D4
  ·by_cases h1:cls P o.op=1
   ·rw [h1] at iz hv
    simp only [aj3] at iz;have ff:st= []:=by simpa using iz.1.2
    subst ff;obtain⟨dst,op,ty,pos,af,g⟩:=o;obtain⟨v,jc,D4⟩:=yZ (dst:=dst) (ty:=ty) (pos:=pos) (af:=af) (g:=g) hv;exact quiet v rfl iz.2 ⟨_,y6 ho,.inl ⟨qD BZ sY,.inr ⟨h1,by rw [rY];exact jc⟩⟩⟩ D4
   ·split at iz
    ·rename_i h;exact absurd h h0
    ·rename_i h;exact absurd h h1
    ·simp only [aj3,al4] at iz
     refine R.effect done [(i,st)] a w ha (by simpa using iz.1.1) ?_;intro h hm;simp only [akt] at hm;subst hm;exact⟨iz.1.2,B4 hC ih ho ⟨h0,h1⟩ BZ eF TM ha sY qN hX⟩
theorem B5 {o:Op} {t u:Nat} {want:Bool} (h:BY o=some (t,u,want)): (o= .pick (.tmp t) (.tmp u) (.const (.bool false))∧want=true)∨(o= .pick (.tmp t) (.const (.bool true)) (.tmp u)∧want=false):=by
 unfold BY at h
 split at h
 ·simp only [ajY,ak4] at h
  obtain⟨rfl,rfl,rfl⟩:=h;exact .inl ⟨rfl,rfl⟩
 ·simp only [ajY,ak4] at h
  obtain⟨rfl,rfl,rfl⟩:=h;exact .inr ⟨rfl,rfl⟩
 ·cases h
theorem B6 {l:List Nat} {a a' :Act} (h:jW l a a'): (bR a).mix (bR a') l=bR a' :=by
 funext s
 simp only [Env.mix]
 cases hm:re s l with
 |true=>rfl
 |false=>exact(h s (wY.1 hm)).symm
theorem u_.same {cur:Option (Nat × Bool × Nat)} {l:List Nat} {a a' :Act} (h:u_ ops cur a) (hs:jW l a a') (hc:FT cur l=true):u_ ops cur a' :=by
 cases cur with
 |none=>trivial
 |some c=>
  obtain⟨c,w,t⟩:=c;refine⟨h.1,?_⟩;simp only [FT,alO] at hc;rw [hs t (wY.1 hc)];exact h.2
theorem Qt [Go.Vc.Mode] {R:Runner P ops ck} {c p:Nat} {body r:sT} (Y9:B3 P ops C ck R body) (Y_:B3 P ops C ck R r):B3 P ops C ck R (.dQ c body p r):=by
 intro cur done k K a w hk ha sY hv hX;simp only [pI] at hk
 cases D0:ops.toList[p]? with
 |none=>rw [D0] at hk;cases hk
 |some op=>
  cases Ku :ops.toList[c]? with
  |none=>rw [D0,Ku] at hk;cases hk
  |some oc=>
   rw [D0,Ku] at hk;simp only at hk
   cases FU:BY op.op with
   |none=>rw [FU] at hk;cases hk
   |some q=>
    obtain⟨t,u,want⟩:=q;rw [FU] at hk;simp only [aj3] at hk;obtain⟨⟨⟨⟨⟨⟨⟨_,BZ⟩,eF⟩,TN⟩,Kv⟩,Vd⟩,Zb⟩,hkb⟩:=hk;have eF:=rn eF;have Zf:oc.dst=some t:=by
     split at TN
     ·rename_i t' h;rw [h,akv TN]
     ·cases TN
    have Kv:t∉bJ ops.toList body:=wY.1 (by simpa using Kv);have HE: ∀d∈bJ ops.toList body,d∈bJ ops.toList (.dQ c body p r):=fun d hd=>by simp [bJ,hd]
    have Mv: ∀d∈bJ ops.toList r,d∈bJ ops.toList (.dQ c body p r):=fun d hd=>by
     simp only [bJ,D0];cases op.dst<;>simp [hd]
    have wZ: ∀d,op.dst=some d→d∈bJ ops.toList (.dQ c body p r):=fun d hd=>by simp [bJ,D0,hd]
    have rest: ∀ (v:Value) (jX:List Nat) (a1:Act) (w1:World),(ck.Qo jX p && pI P ops ck r false cur (p::jX) k)=true→Ok ck.n a1→jW (bJ ops.toList body) a a1→dI w w1→
      (∀w',(execOp a1.eval op).run P w' = .ok (.value v) w')→(∀BM:Env,Eu P C ops.toList r (((bR a).mix BM (bJ ops.toList body)).put op.dst v) w1.heap K)→R.X jX a1 w1:=by
     intro v jX a1 w1 rO tQ mH A3 jc hvr;simp only [aj3] at rO;have Vf:=sY.same mH Vd;have TO:cls P op.op=0:=by rcases B5 FU with ⟨h,_⟩ | ⟨h,_⟩<;>rw [h]<;>rfl
     refine R.quiet jX p a1 w1 tQ rO.1 ⟨v,op,y6 D0,⟨op,y6 D0,.inl ⟨qD BZ Vf,.inl ⟨TO,jc⟩⟩⟩,eF,?_⟩;have Zg:=hvr (bR a1);rw [B6 mH] at Zg;refine Y_ cur (p::jX) k K _ w1 rO.2 (tQ.put _ _) (Vf.put BZ tQ eF) (by rw [ow (fun d h=>by rw [tQ.size];exact eF d h)];exact Zg) ?_;intro gF a' D5 Mu Hu xM Wa Zd hK;exact hX gF a' D5 Mu Hu (((mH.mono HE).trans ((jW.put tQ eF wZ).trans (xM.mono Mv))).mono (by simp)) (A3.trans Wa) Zd hK
    have Mw:bR a t= .bool (!want)→(∀jX a1,(ck.Qo jX p && pI P ops ck r false cur (p::jX) k)=true→Ok ck.n a1→jW (bJ ops.toList body) a a1→R.X jX a1 w)→R.X done a w:=by
     intro nz h;exact Kt (y6 Ku) Zf body [] (some (c,want,t)) done _ a w Zb hkb (by simp) Kv ha nz (by simp) (fun gF a' h1 h2 h3 _=>h gF a' h1 h2 h3)
    have Vg: ∀ (J:Value→ak→Prop),bR a t= .bool want→Eu P C ops.toList body (bR a) w.heap (fun ρ' H' =>J (ρ' u) H')→
      (∀jX a1 w1,(ck.Qo jX p && pI P ops ck r false cur (p::jX) k)=true→Ok ck.n a1→jW (bJ ops.toList body) a a1→dI w w1→bR a1 t= .bool want→J (bR a1 u) w1.heap→R.X jX a1 w1)→R.X done a w:=by
     intro J nz hb h;exact Y9 (some (c,want,t)) done _ _ a w hkb ha ⟨⟨oc,y6 Ku,Zf⟩,nz⟩ hb (fun jX a1 w1 h1 h2 h3 h4 h5 h6=>h jX a1 w1 h1 h2 h3 h4 h5.2 h6)
    simp only [Eu,D0] at hv;rcases B5 FU with ⟨B7,rfl⟩ | ⟨B7,rfl⟩
    ·rw [B7] at hv
     simp only at hv
     cases nz:bR a t<;>rw [nz] at hv<;>simp only [dC] at hv
     rename_i b
     obtain⟨J,hJ,h0,h1⟩:=hv;have runs: ∀ (a1:Act) (bb:Bool),bR a1 t= .bool bb→∀w',(execOp a1.eval op).run P w' = .ok (.value (if bb then bR a1 u else .bool false)) w' :=by
      intro a1 bb hbb w';obtain⟨dst,o,ty,pos,af,g⟩:=op;simp only at B7;subst B7;rw [rY];have:ev (bR a1) (.tmp t)= .bool bb:=hbb
      cases bb<;>simp [execOp,this,asBool]<;>rfl
     cases b with
     |false=>
      refine Mw nz fun jX a1 rO tQ mH=>?_;refine rest (.bool false) jX a1 w rO tQ mH (dI.refl w) ?_ (hJ _ _ (h0 rfl));have:=runs a1 false (by rw [mH t Kv];exact nz)
      simpa using this
     |true=>
      refine Vg J nz (h1 rfl) fun jX a1 w1 rO tQ mH A3 NP hj=>?_;refine rest (bR a1 u) jX a1 w1 rO tQ mH A3 ?_ (hJ _ _ hj);have:=runs a1 true NP
      simpa using this
    ·rw [B7] at hv
     simp only at hv
     cases nz:bR a t<;>rw [nz] at hv<;>simp only [lk] at hv
     rename_i b
     obtain⟨J,hJ,h0,h1⟩:=hv;have runs: ∀ (a1:Act) (bb:Bool),bR a1 t= .bool bb→∀w',(execOp a1.eval op).run P w' = .ok (.value (if bb then .bool true else bR a1 u)) w' :=by
      intro a1 bb hbb w';obtain⟨dst,o,ty,pos,af,g⟩:=op;simp only at B7;subst B7;rw [rY];have:ev (bR a1) (.tmp t)= .bool bb:=hbb
      cases bb<;>simp [execOp,this,asBool]<;>rfl
     cases b with
     |true=>
      refine Mw nz fun jX a1 rO tQ mH=>?_;refine rest (.bool true) jX a1 w rO tQ mH (dI.refl w) ?_ (hJ _ _ (h0 rfl));have:=runs a1 true (by rw [mH t Kv];exact nz)
      simpa using this
     |false=>
      refine Vg J nz (h1 rfl) fun jX a1 w1 rO tQ mH A3 NP hj=>?_;refine rest (bR a1 u) jX a1 w1 rO tQ mH A3 ?_ (hJ _ _ hj);have:=runs a1 false NP
      simpa using this
theorem HF [Go.Vc.Mode] (hC:nG P C) {R:Runner P ops ck}: ∀p,B3 P ops C ck R p∧Ve P ops C ck R p:=by
 intro p
 induction p with
 |nil=>
  refine⟨?_,?_⟩
  ·intro cur done k K a w hk ha sY hv hX
   simp only [pI,alh,Bool.true_and] at hk;exact hX done a w hk ha (jW.refl _ _) (dI.refl w) sY hv
  ·intro done k K a w hk
   simp [pI] at hk
 |op i st r ih=>
  refine⟨TP hC ih.1,?_⟩;intro done k K a w hk ha hv hX h hm;simp only [Al,akt] at hm;subst hm;simp only [pI] at hk
  cases ho:ops.toList[i]? with
  |none=>rw [ho] at hk;cases hk
  |some o=>
   rw [ho] at hk;simp only [aj3] at hk;obtain⟨⟨⟨BZ,eF⟩,iz⟩,TM⟩:=hk
   split at iz
   ·simp at iz
   ·simp at iz
   ·rename_i h0 h1
    simp only [aj3] at iz;exact⟨iz.1.2,B4 hC ih.1 ho ⟨h0,h1⟩ BZ (rn eF) TM ha trivial hv (fun gF a' w' g1 g2 g0 g3 _ g4=>hX gF a' w' g1 g2 g0 g3 g4)⟩
 |dQ c body p r Y9 Y_=>
  refine⟨Qt Y9.1 Y_.1,?_⟩;intro done k K a w hk;simp only [pI] at hk
  split at hk
  ·split at hk
   ·simp at hk
   ·cases hk
  ·cases hk
 |fork p q ihp ihq=>
  have hB:Ve P ops C ck R (.fork p q):=by
   intro done k K a w hk ha hv hX h hm;simp only [pI,aj3] at hk;obtain⟨⟨_,hkp⟩,hkq⟩:=hk;simp only [Eu] at hv;rcases akg.1 hm with hm|hm
   ·exact ihp.2 done k K a w hkp ha hv.1 (fun gF a' w' g1 g2 g0=>hX gF a' w' g1 g2 (g0.mono (by intro t ht;simp [bJ,ht]))) h hm
   ·exact ihq.2 done k K a w hkq ha hv.2 (fun gF a' w' g1 g2 g0=>hX gF a' w' g1 g2 (g0.mono (by intro t ht;simp [bJ,ht]))) h hm
  refine⟨?_,hB⟩;intro cur done k K a w hk ha sY hv hX;simp only [pI,aj3,al4] at hk;obtain⟨⟨⟨hn,he⟩,hkp⟩,hkq⟩:=hk;have hn:cur=none:=by cases cur with|none=>rfl|some _=>simp at hn
  subst hn;refine R.effect done (Al p++Al q) a w ha he ?_;intro h hm;exact hB done k K a w (by simp [pI,hkp,hkq]) ha hv (fun gF a' w' g1 g2 g0 g3 g4=>hX gF a' w' g1 g2 g0 g3 trivial g4) h hm
end
end
section
section
variable {P:Program} {ops:Array Oper} {N:Act→World→Prop}
theorem Vh {o:Oper} {a:Act} {w:World} {F:Act→World→Prop} {N0 N1:Act→World→Prop} (h:o.wp P a w F (QN N0)):o.wp P a w F (QN N1):=by
 unfold Oper.wp at*;generalize (execOp a.eval o).run P w=r at*
 cases r with
 |ok n w' =>
  cases n<;>simp only [Oper.upon] at h ⊢ <;>first|exact h|skip
 |halt x w' =>cases x<;>simp only [Oper.upon] at h ⊢ <;>exact h
theorem Quiet.Qu {i:Nat} {v:Value} {a:Act} {w:World} {o:Oper} (ho:ops[i]? =some o) (h:Quiet P ops i v a w):dS P ops o v a w:=by
 obtain⟨o',V6,h⟩:=h;rw [ho] at V6;obtain rfl:=akA V6;rcases h with ⟨hw,⟨_,h⟩ | ⟨_,h⟩⟩ |h
 ·exact .inl ⟨hw,h w⟩
 ·exact .inl ⟨hw,h w rfl⟩
 ·exact .inr h
def Bn (sz n:Nat):V9 where
 n:=n
 Qo done i:=Nat.beq i done.length
 Y6 done hs:=match hs with| [i]=>Nat.beq i done.length|_=>false
 Qp _ _ _:=true
theorem B8 {n i:Nat} (h:i<n): (List.range n).drop i=i:: (List.range n).drop (i+1):=by
 rw [akN (by simpa using h)]
 simp
def Mx [Go.Vc.Mode] (P:Program) (ops:Array Oper) (N:Act→World→Prop) (n:Nat):Runner P ops (Bn ops.size n) where
 X done a w:=wpOps P ops (QN N) ((List.range ops.size).drop done.length) a w
 quiet done i a w ha hq h:=by
  obtain⟨v,o,ho,Ze,hd,hx⟩:=h;have hi:i=done.length:=akv hq;subst hi;have eF:done.length<ops.size:= (alL.1 ho).1;rw [B8 eF,wpOps_cons];exact(Ze.Qu ho).wpOp ho hx
 effect done hs a w ha he h:=by
  cases hs with
  |nil=>simp [Bn] at he
  |cons x r=>
   cases r with
   |cons y r=>simp [Bn] at he
   |nil=>
    obtain⟨i,st⟩:=x;have hi:i=done.length:=akv he;subst hi;obtain⟨o,ho,hw,hwp⟩:= (h (done.length,st) (by simp)).2;have eF:done.length<ops.size:= (alL.1 ho).1;rw [B8 eF,wpOps_cons];unfold wpOp;simp only [ho,hw,if_true];exact .inl (Oper.wp_mono (fun a' w' h=>h.2.2.2) (Vh hwp))
def nH (sz:Nat) (done:List Nat):Array Bool:=done.foldr (fun i l=>l.setIfInBounds i true) (Array.replicate sz false)
def pr (P:Program) (ops:Array Oper) (done:List Nat):List Nat:=done.filter fun i=>match ops[i]? with|some o=>Nat.beq (cls P o.op) 1|none=>false
def EH (ops:Array Oper) (o:Oper):Bool:=match o.dst with|some d=> !(o.looksAt ops).contains d|none=>true
def xN (P:Program) (ops:Array Oper) (Bs:List Nat) (n:Nat):V9 where
 n:=n
 Qo done i:=Nat.blt done.length ops.size && (Region.ready .any ops (nH ops.size done)).contains i && Region.free .any ops (nH ops.size done) i && (match ops[i]? with
  |some o=>EH ops o && (o.dst.isSome|| !Nat.beq (cls P o.op) 1) && (pr P ops done).all fun k=>match ops[k]? with|some ok=>xJ ops o ok|none=>true
  |none=>false)
 Y6 done hs:=Nat.blt done.length ops.size && !hs.isEmpty && (Region.ready .any ops (nH ops.size done)==hs)
 Qp done j st:= (pr P ops done).all fun k=>Y1 Bs k j||re k st
def TQ [Go.Vc.Mode] (P:Program) (ops:Array Oper) (N:Act→World→Prop) (Bs:List Nat) (n:Nat) (hB:okB ops.toList Bs=true) (hS:Region.noSelect ops=true):Runner P ops (xN P ops Bs n) where
 X done a w:=u9 ops (nH ops.size done)→V3 P ops N (Y1 Bs) (ops.size - done.length) (nH ops.size done) (pr P ops done) a w
 quiet done i a w ha hq h:=by
  intro iz;obtain⟨v,o,ho,Ze,hd,hx⟩:=h;simp only [xN,ho,aj3] at hq;obtain⟨⟨⟨eF,hr⟩,hf⟩,⟨EF,wZ⟩,V4⟩:=hq;have hr:i∈Region.ready .any ops (nH ops.size done):=by simpa using hr
  rw [Nat.blt_eq] at eF;rw [show ops.size - done.length= (ops.size - (i::done).length)+1 by simp;omega];have ab5 :=iz.add hr;have hx:=hx ab5;refine NM (D' :=pr P ops (i::done)) ho (Region.noSelect_spec hS) ?_ ?_ ?_ _ _ a w (fun d h=>by rw [ha.size];exact hd d h) iz (Region.free_spec ho hf) hr ?_ hx
  ·intro d h
   unfold EH at EF;rw [h] at EF
   simpa using EF
  ·intro k hk ok pJ
   rw [alA] at V4;have:=V4 k hk;rw [pJ] at this;exact this
  ·intro listed ab6 j hj hb
   obtain⟨_,oj,V5,qC⟩:=mem_ready.1 hj;refine Kq hB ab6 (j+1) j i (by omega) hb (fun o2 U_ e he TL=>?_);rw [V5] at U_;obtain rfl:=akA U_;exact qC e he TL
  ·have TR:pr P ops (i::done)=if Nat.beq (cls P o.op) 1=true then i::pr P ops done else pr P ops done:=by
    simp only [pr,aml,ho]
   obtain⟨o',V6,hqq⟩:=Ze;rw [ho] at V6;obtain rfl:=akA V6
   cases y7:Nat.beq (cls P o.op) 1 with
   |true=>
    rw [y7] at TR wZ;refine .inl ⟨by simpa using TR,?_,Quiet.Qu ho ⟨o,ho,hqq⟩⟩;intro hn;rw [hn] at wZ
    simp at wZ
   |false=>
    rw [y7] at TR;refine .inr ⟨by simpa using TR,fun w' =>?_⟩;rcases hqq with ⟨hw,⟨_,h⟩ | ⟨h1,_⟩⟩ |h
    ·exact .inl ⟨hw,h w'⟩
    ·rw [h1] at y7;simp at y7
    ·exact .inr h
 effect done hs a w ha he h:=by
  intro iz;simp only [xN,aj3,beq_iff_eq] at he;obtain⟨⟨eF,d_⟩,Wh⟩:=he;rw [Nat.blt_eq] at eF;rw [show ops.size - done.length= (ops.size - (done.length+1))+1 by omega];refine⟨fun h0=>?_,fun j hj=>?_⟩
  ·rw [Wh] at h0
   rw [h0] at d_
   simp at d_
  ·have NI :=hj
   rw [Wh] at NI;obtain⟨⟨j',st⟩,hm,Yq⟩:=akn.1 NI;simp only at Yq;subst Yq;obtain⟨ff,o,ho,hw,hwp⟩:=h _ hm;unfold wpOp;simp only [ho,hw,if_true];refine .inl (Oper.wp_mono (fun a' w' h=> ⟨?_,?_⟩) (Vh hwp))
   ·intro k hk hb ok pJ d hd hy
    simp only [xN,alA,ak5] at ff;rcases ff k hk with h1|h1
    ·rw [hb] at h1;cases h1
    ·rcases hy with ⟨Tc,_⟩ |hy
     ·exact .inl ⟨Tc,h.2.2.1 k (sX.1 h1) ok pJ d hd⟩
     ·exact .inr hy
   ·have hx:=h.2.2.2 (iz.add hj)
    simp only [aj2] at hx;refine BW (D' :=pr P ops (j' ::done)) ?_ _ _ _ _ hx;intro k hk;rw [pr,List.mem_filter] at hk ⊢;exact⟨ajO _ hk.1,hk.2⟩
def B9:List Oper→List Nat
 | []=> []
 |o::r=>match o.dst with
  |some d=>d::B9 r
  |none=>B9 r
theorem y8 {d:Nat}: ∀ {l:List Oper} {i:Nat} {o:Oper},l[i]? =some o→o.dst=some d→d∈B9 l
 | [],i,o,h,_=>by simp at h
 |x::r,0,o,h,hd=>by
  simp only [akl,ajY] at h;subst h
  simp [B9,hd]
 |x::r,i+1,o,h,hd=>by
  have:=y8 (l:=r) (i:=i) (by simpa using h) hd;simp only [B9]
  cases x.dst<;>simp [this]
theorem jI {l:List Oper} {d:Nat}: ∀ {p:sT},d∈bJ l p→d∈B9 l
 | .nil,h=>by simp [bJ] at h
 | .op i st r,h=>by
  simp only [bJ] at h
  cases ho:l[i]? with
  |none=>rw [ho] at h;exact jI h
  |some o=>
   rw [ho] at h;simp only at h
   cases hd:o.dst with
   |none=>rw [hd] at h;exact jI h
   |some d' =>
    rw [hd] at h;rcases aj5.1 h with rfl|h
    ·exact y8 ho hd
    ·exact jI h
 | .dQ c b p r,h=>by
  simp only [bJ,akg] at h;rcases h with h|h
  ·exact jI h
  ·cases ho:l[p]? with
   |none=>rw [ho] at h;exact jI h
   |some o=>
    rw [ho] at h;simp only at h
    cases hd:o.dst with
    |none=>rw [hd] at h;exact jI h
    |some d' =>
     rw [hd] at h;rcases aj5.1 h with rfl|h
     ·exact y8 ho hd
     ·exact jI h
 | .fork a b,h=>by
  simp only [bJ,akg] at h;rcases h with h|h<;>exact jI h
def A4:Code→List Nat
 | .region _ ops _=>B9 ops.toList
 | .seq a b=>A4 a++A4 b
 | .cond _ a b=>A4 a++A4 b
 | .block _ a=>A4 a
 | .loop a=>A4 a
 | .scope a=>A4 a
 |_=> []
def Qv:List Nat→List Nat→Bool
 | [],_=>true
 |x::r,l=>re x l && Qv r l
theorem y_: ∀ {l m:List Nat},Qv l m=true→∀t∈l,t∈m
 | [],_,_,t,ht=>by simp at ht
 |x::r,m,h,t,ht=>by
  simp only [Qv,aj3] at h;rcases aj5.1 ht with rfl|ht
  ·exact sX.1 h.1
  ·exact y_ h.2 t ht
def qj [Go.Vc.Mode] (P:Program) (n:Nat):Code→cF→Bool
 | .skip,_| .ret,_| .exit _,_| .label _,_=>true
 | .scope x,a=>qj P n x a
 | .region _ ops draw,.aq p=> !draw && pI P ops (Bn ops.size n) p false none [] fun d=>Nat.beq d.length ops.size
 | .region _ ops draw,.iG Bs p=>draw && Region.noSelect ops && okB ops.toList Bs && pI P ops (xN P ops Bs n) p false none [] fun d=>Nat.beq d.length ops.size && (Region.ready .any ops (nH ops.size d)).isEmpty
 | .seq x y,.seq a b=>qj P n x a && qj P n y b
 | .seq x y,.cut _ wr a b=>Qv (A4 x) wr && qj P n x a && qj P n y b
 | .cond _ x y,.cond a b=>qj P n x a && qj P n y b
 | .block _ x,.block a=>qj P n x a
 | .loop x,.loop _ wr a=>Qv (A4 x) wr && qj P n x a
 |_,_=>false
def QX (Q:Ex→Env→ak→Prop):Exit→Act→World→Prop
 | .normal,a,w=>Q .normal (bR a) w.heap
 | .exit id,a,w=>Q (.exit id) (bR a) w.heap
 | .ret,a,w=>Q .ret (bR a) w.heap
 |_,_,_=>False
def QC [Go.Vc.Mode] (n:Nat) (l:List Nat) (a0:Act) (w0:World) (Q:Ex→Env→ak→Prop) (e:Exit) (a:Act) (w:World):Prop:=Ok n a∧dI w0 w∧jW l a0 a∧QX Q e a w
theorem QC.le [Go.Vc.Mode] {n:Nat} {l l' :List Nat} {a0 a1:Act} {w0 w1:World} {Q Q' :Ex→Env→ak→Prop} {e:Exit} {a:Act} {w:World} (h:QC n l' a1 w1 Q' e a w) (hs:jW l a0 a1) (hl: ∀t∈l',t∈l) (hr:dI w0 w1) (hq:QX Q' e a w→QX Q e a w):QC n l a0 w0 Q e a w:=
 ⟨h.1,hr.trans h.2.1,((hs.trans (h.2.2.1.mono hl)).mono (by simp)),hq h.2.2.2⟩
theorem za: ∀ {mv:List Nat} {ρ:Env} {K:Env→Prop},Tx mv ρ K→K ρ
 | [],_,_,h=>h
 |t::s,ρ,K,h=>by
  have h:=h (ρ t);have:ρ.Tv t (ρ t)=ρ:=by
   funext s
   simp only [Env.Tv]
   cases hb:Nat.beq s t with
   |true=>simp [akv hb]
   |false=>rfl
  rw [this] at h;exact za h
variable {C:List Nat}
theorem Qw [Go.Vc.Mode] (hC:nG P C) (hm:P.follows .mixedOrders=true) {n:Nat}: ∀ (c:Code) (an:cF) (a:Act) (w:World) (Q:Ex→Env→ak→Prop),qj P n c an=true→Ok n a→vc P C c an (bR a) w.heap Q→
  c.wp P (QC n (A4 c) a w Q) a w:=by
 intro c
 induction c with
 |skip=>
  intro an a w Q hk ha hv;simp only [vc] at hv;exact wp_skip ⟨ha,dI.refl w,jW.refl _ _,hv⟩
 |ret=>
  intro an a w Q hk ha hv;simp only [vc] at hv;exact wp_ret ⟨ha,dI.refl w,jW.refl _ _,hv⟩
 |exit id=>
  intro an a w Q hk ha hv;simp only [vc] at hv;exact wp_exit ⟨ha,dI.refl w,jW.refl _ _,hv⟩
 |label l=>
  intro an a w Q hk ha hv;simp only [vc] at hv;exact wp_label ⟨ha,dI.refl w,jW.refl _ _,hv⟩
 |scope x ih=>
  intro an a w Q hk ha hv;simp only [qj] at hk;simp only [vc] at hv;refine wp_scope_straight (wp_mono (ih an a w Q hk ha hv) fun e a' w' he=>?_)
  cases e with
  |goto l=>exact he.2.2.2.elim
  |_=>exact he
 |region id ops draw=>
  intro an a w Q hk ha hv
  cases an with
  |aq p=>
   simp only [qj,aj3,alO] at hk;obtain⟨hd,hk⟩:=hk;subst hd;simp only [vc] at hv
   let N:Act→World→Prop:=fun a' w' =>QC n (A4 (.region id ops false)) a w Q .normal a' w'
   have h:= (HF hC (R:=Mx P ops N n) p).1 none [] _ _ a w hk ha trivial hv (fun gF a' w' h1 h2 h3 h4 _ h6=>by
    have hl:gF.length=ops.size:=akv h1;show wpOps P ops (QN N) ((List.range ops.size).drop gF.length) a' w';rw [hl,ak3 (by simp)];exact⟨h2,h4,h3.mono (fun t ht=>jI ht),h6⟩)
   refine wp_mono (Q:=QN N) (wp_region (by simpa [Mx] using h)) fun e a' w' he=>?_
   cases e<;>first|exact he|exact he.elim
  |iG Bs p=>
   simp only [qj,aj3] at hk;obtain⟨⟨⟨hd,hS⟩,hB⟩,hk⟩:=hk;subst hd;simp only [vc] at hv
   let N:Act→World→Prop:=fun a' w' =>QC n (A4 (.region id ops true)) a w Q .normal a' w'
   have ab7:u9 ops (nH ops.size []):=by
    intro k o ho hk;have: (Array.replicate ops.size false)[k]?.getD false=false:=by
     by_cases h:k<ops.size<;>simp [h]
    simp only [nH,List.foldr_nil,amG] at hk;rw [this] at hk
    cases hk
   have h:= (HF hC (R:=TQ P ops N Bs n hB hS) p).1 none [] _ _ a {w with drawn:=w.drawn+1} hk ha trivial hv (fun gF a' w' h1 h2 h3 h4 _ h6=>by
    intro _;simp only [aj3] at h1;have hl:gF.length=ops.size:=akv h1.1;rw [hl,ali];exact⟨by simpa using h1.2,h2,dI.trans (show dI w {w with drawn:=w.drawn+1} from ⟨rfl,rfl,rfl,fun _=>by first|exact ajR _|exact akh _⟩) h4,h3.mono (fun t ht=>jI ht),h6⟩)
   have h:=h ab7;refine wp_mono (Q:=QN N) (wp_region_any hm (BV _ _ _ _ h)) fun e a' w' he=>?_
   cases e<;>first|exact he|exact he.elim
  |_=>simp [qj] at hk
 |seq x y ihx ihy=>
  intro an a w Q hk ha hv
  cases an with
  |seq p q=>
   simp only [qj,aj3] at hk;simp only [vc] at hv;refine wp_seq (wp_mono (ihx p a w _ hk.1 ha hv) fun e a' w' he=>?_)
   cases e with
   |normal=>
    obtain⟨h1,h2,h3,h4⟩:=he;refine wp_mono (ihy q a' w' Q hk.2 h1 h4) fun e2 a2 w2 Qn=>Qn.le (h3.mono (by intro t ht;simp [A4,ht])) (by intro t ht;simp [A4,ht]) h2 (fun h=>h)
   |exit id=>exact QC.le he (jW.refl _ _) (by intro t ht;simp [A4,ht]) (dI.refl w) (fun h=>h)
   |ret=>exact QC.le he (jW.refl _ _) (by intro t ht;simp [A4,ht]) (dI.refl w) (fun h=>h)
   |goto l=>exact he.2.2.2.elim
   |panic ch=>exact he.2.2.2.elim
   |outgrown=>exact he.2.2.2.elim
  |cut mv wr p q=>
   simp only [qj,aj3] at hk;simp only [vc] at hv;obtain⟨J,hJ,hv⟩:=hv;refine wp_seq (wp_mono (ihx p a w _ hk.1.2 ha hv) fun e a' w' he=>?_)
   cases e with
   |normal=>
    obtain⟨h1,h2,h3,h4⟩:=he;have h5:=hJ (bR a');rw [B6 (h3.mono (y_ hk.1.1))] at h5;refine wp_mono (ihy q a' w' Q hk.2 h1 (za h5 w'.heap h4)) fun e2 a2 w2 Qn=>Qn.le (h3.mono (by intro t ht;simp [A4,ht])) (by intro t ht;simp [A4,ht]) h2 (fun h=>h)
   |exit id=>exact QC.le he (jW.refl _ _) (by intro t ht;simp [A4,ht]) (dI.refl w) (fun h=>h)
   |ret=>exact QC.le he (jW.refl _ _) (by intro t ht;simp [A4,ht]) (dI.refl w) (fun h=>h)
   |goto l=>exact he.2.2.2.elim
   |panic ch=>exact he.2.2.2.elim
   |outgrown=>exact he.2.2.2.elim
  |_=>simp [qj] at hk
 |cond c x y ihx ihy=>
  intro an a w Q hk ha hv
  cases an with
  |cond p q=>
   simp only [qj,aj3] at hk;simp only [vc] at hv;rw [←rY] at hv
   cases hc:a.eval c<;>rw [hc] at hv<;>simp only [ar] at hv
   refine wp_cond_split hc (fun ht=>?_) (fun hf=>?_)
   ·exact wp_mono (ihx p a w Q hk.1 ha (hv.1 ht)) fun e a' w' he=>he.le (jW.refl _ _) (by intro t ht;simp [A4,ht]) (dI.refl w) (fun h=>h)
   ·exact wp_mono (ihy q a w Q hk.2 ha (hv.2 hf)) fun e a' w' he=>he.le (jW.refl _ _) (by intro t ht;simp [A4,ht]) (dI.refl w) (fun h=>h)
  |_=>simp [qj] at hk
 |block id x ih=>
  intro an a w Q hk ha hv
  cases an with
  |block p=>
   simp only [qj] at hk;simp only [vc] at hv;refine wp_block (wp_mono (ih p a w _ hk ha hv) fun e a' w' he=>?_)
   cases e with
   |exit k=>
    simp only [Exit.inBlock];obtain⟨h1,h2,h3,h4⟩:=he;simp only [QX] at h4
    by_cases Y4:k=id
    ·subst Y4
     rw [if_pos rfl];simp only [Nat.beq_eq_true_eq,Nat.beq_refl,cond_true] at h4;exact⟨h1,h2,h3,h4⟩
    ·rw [if_neg Y4]
     have:Nat.beq k id=false:=by cases hb:Nat.beq k id with|false=>rfl|true=>exact absurd (akv hb) Y4
     rw [this] at h4;exact⟨h1,h2,h3,h4⟩
   |normal=>exact he
   |ret=>exact he
   |goto l=>exact he
   |panic ch=>exact he
   |outgrown=>exact he
  |_=>simp [qj] at hk
 |loop x ih=>
  intro an a w Q hk ha hv
  cases an with
  |loop mv wr p=>
   simp only [qj,aj3] at hk;simp only [vc] at hv;obtain⟨I,μ,h0,Wi⟩:=hv;refine wp_loop (fun a' w' =>Ok n a' ∧dI w w' ∧jW (A4 x) a a' ∧sB mv I (bR a') w'.heap) (fun a' w' =>Mp mv μ (bR a') w'.heap) ⟨ha,dI.refl w,jW.refl _ _,h0⟩ ?_;intro a1 w1 ⟨g1,g2,g3,g4⟩;have h5:=Wi (bR a1);rw [B6 (g3.mono (y_ hk.1))] at h5;refine wp_mono (ih p a1 w1 _ hk.2 g1 (za h5 w1.heap g4)) fun e a' w' he=>?_
   cases e with
   |normal=>
    obtain⟨h1,h2,h3,h4⟩:=he;exact⟨⟨h1,g2.trans h2,(g3.trans h3).mono (by simp),h4.1⟩,h4.2⟩
   |exit id=>exact QC.le he g3 (by simp [A4]) g2 (fun h=>h)
   |ret=>exact QC.le he g3 (by simp [A4]) g2 (fun h=>h)
   |goto l=>exact he.2.2.2.elim
   |panic ch=>exact he.2.2.2.elim
   |outgrown=>exact he.2.2.2.elim
  |_=>simp [qj] at hk
 |_=>intro an a w Q hk;simp [qj] at hk
def B_ (tmps:Array Value):ResultVar→Sem Value
 | .tmp t=>pure (tmps.getD t undef)
 | .cell b t=>do loadVar t (←asAddr (tmps.getD b undef))
theorem Kw (fn:Func) (tmps:Array Value):results fn tmps= (do let vs←fn.results.mapM (B_ tmps);pure (if h:vs.size=1 then vs[0] else .tuple vs)):=rfl
theorem pw {a:Act} {w:World}: ∀ {rs:List ResultVar} {K:List Value→Prop},Hk P (bR a) w.heap K rs→
  ∃l,(rs.mapM (B_ a.tmps)).run P w=Result.ok l w∧K l
 | [],K,h=> ⟨[],rfl,h⟩
 | .tmp t::r,K,h=>by
  simp only [Hk] at h;obtain⟨l,hl,hk⟩:=pw h;refine⟨bR a t::l,?_,hk⟩;simp only [amF,B_,Sem.run_bind,Sem.run_pure,Result.andThen_ok,hl]
  rfl
 | .cell b t::r,K,h=>by
  simp only [Hk] at h
  split at h
  ·rename_i d i hd hi
   have key: ∀ {K' :Value→Prop},Hv P (Instr.loadAt t (bR a b)) w.heap K' →∃v,(B_ a.tmps (.cell b t)).run P w= .ok v w∧K' v:=by
    intro K' ⟨v,hv,hk⟩;refine⟨v,?_,hk⟩;have hv:=hv w rfl;have he:a.tmps.getD b undef=bR a b:=rfl;simp only [B_];rw [he]
    cases hb:bR a b<;>rw [hb] at hv<;> (try simp only [Instr.loadAt,Instr.sureAddr,Sem.run_bind,run_stuck,Result.andThen_halt,reduceCtorEq] at hv)
    rename_i p
    cases p with
    |none=>simp [Instr.loadAt,Instr.sureAddr] at hv
    |some p=>simpa [asAddr,Instr.loadAt,Instr.sureAddr] using hv
   cases ha:iy P t with
   |true=>
    rw [ha] at h;simp only [cond_true] at h;obtain⟨v,hv,hk⟩:=key (BR hd hi ha h);obtain⟨l,hl,hk⟩:=pw hk;refine⟨v::l,?_,hk⟩;simp only [amF,Sem.run_bind,hv,Result.andThen_ok,hl,Sem.run_pure]
   |false=>
    rw [ha] at h;simp only [cond_false] at h;obtain⟨v,hv,hk⟩:=key (Ez hd ha h);obtain⟨l,hl,hk⟩:=pw hk;refine⟨v::l,?_,hk⟩;simp only [amF,Sem.run_bind,hv,Result.andThen_ok,hl,Sem.run_pure]
  ·exact h.elim
def My [Go.Vc.Mode] (P:Program) (fn:Func) (an:cF) (Zh:Nat):Bool:=Nat.ble Zh fn.ntmps && match fn.body with
 |some c=>qj P fn.ntmps c an
 |none=>false
theorem Kx [Go.Vc.Mode] {P:Program} {C:List Nat} (hC:nG P C) (hm:P.follows .mixedOrders=true) {f:FuncId} {fn:Func} {an:cF} {args:List Value} {H:ak} {R:Value→ak→Prop}
  (hf:P.funcs[f]? =some fn) (hk:My P fn an args.length=true) (h:Ty P C fn an args H R):ab P f args.toArray H R:=by
 intro w hw;subst hw;unfold My at hk;unfold Ty at h;simp only [aj3] at hk;obtain⟨hle,hk⟩:=hk;have hle:=ajU hle
 cases hb:fn.body with
 |none=>rw [hb] at h;exact h.elim
 |some c=>
  rw [hb] at h hk;simp only at h hk;refine calls_of_wp hf hb ?_;generalize ha: ({tmps:=args.toArray++Array.replicate (fn.ntmps - args.toArray.size) undef,defers:= []}:Act)=a;have pJ:Ok fn.ntmps a:=by subst ha;exact⟨by simp;omega,rfl⟩
  have nz:bR a=FI args:=by
   subst ha
   funext t
   simp only [bR,FI,amG]
   by_cases ht:t<args.length
   ·rw [Array.getElem?_append_left (by simpa using ht)]
    simp [ht]
   ·rw [Array.getElem?_append_right (by simp;omega)]
    simp only [akI,Array.getElem?_replicate];rw [akc (by omega)]
    split<;>rfl
  rw [←nz] at h;refine wp_mono (Qw hC hm c an a w _ hk pJ h) fun e a' w' he=>?_;obtain⟨h1,h2,h3,h4⟩:=he;have fin:Hk P (bR a') w'.heap (fun l=>R (Hl l) w'.heap) fn.results.toList→a'.defers= []∧∃v,(results fn a'.tmps).run P w' = .ok v w' ∧∃v',Ending.returned v=Ending.returned v' ∧dI w w' ∧R v' w'.heap:=by
   intro hr;obtain⟨l,hl,hk⟩:=pw hr;refine⟨h1.defers,Hl l,?_,Hl l,rfl,h2,hk⟩;rw [Kw,anq];simp only [Sem.run_bind,Sem.run_map,hl,Result.andThen_ok,Sem.run_pure]
   cases l with
   |nil=>rfl
   |cons x r=>cases r<;>simp [Hl]
  cases e with
  |normal=>exact fin h4
  |ret=>exact fin h4
  |exit id=>exact h4.elim
  |goto l=>exact h4.elim
  |panic ch=>exact h4.elim
  |outgrown=>exact h4.elim
end
theorem TS [Go.Vc.Mode] {P:Program} {C:List Nat} (hC:nG P C) (hm:P.follows .mixedOrders=true) {f:FuncId} {fn:Func} (an:cF) {args:List Value} {H:ak} {R:Value→ak→Prop} {r:Prop}
  (hf:P.funcs[f]? =some fn) (hk:My P fn an args.length=true) (e:Ty P C fn an args H R=r) (h:r):ab P f args.toArray H R:=Kx hC hm hf hk (e.mpr h)
end
end Go.Vc
