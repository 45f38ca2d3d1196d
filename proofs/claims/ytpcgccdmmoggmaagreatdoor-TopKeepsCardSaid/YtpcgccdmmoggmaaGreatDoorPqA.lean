/- Part 1 of the proof of RowTopKeeps: what it is built on, in the order of its needs. -/
import Derived.Orders
import Derived.Laws.Sem
import Derived.RowKit3
import Derived.Laws.Entries
import Derived.Laws.Cells
import Derived.Laws.IdiomCopy
import Derived.Laws.StructEq
import Derived.Laws.BytesString
import Derived.Scope
namespace Go
abbrev af7:=@List.mem_cons_of_mem
abbrev af8:=@List.mem_cons_self
abbrev af9:=@List.length_append
abbrev af_:=@Int.toNat_natCast
abbrev aga:=@Nat.le_refl
abbrev agb:=@List.getElem?_eq_getElem
abbrev agc:=@List.append_assoc
abbrev agd:=@List.getD_eq_getElem?_getD
abbrev age:=@List.length_take
abbrev agf:=@Option.some.injEq
abbrev agh:=@Nat.mul_one
abbrev agi:=@List.length_cons
abbrev agj:=@List.getElem_mem
abbrev agk:=@Bool.and_eq_true
abbrev agl:=@List.length_drop
abbrev agm:=@Nat.le_of_ble_eq_true
abbrev agn:=@List.nil_append
abbrev ago:=@List.mem_cons
abbrev agp:=@Nat.mod_eq_of_lt
abbrev agq:=@List.getElem?_eq_none
abbrev agr:=@List.take_length
abbrev ags:=@Nat.zero_add
abbrev agt:=@List.length_nil
abbrev agu:=@List.getElem?_map
abbrev agv:=@List.mem_append
abbrev agw:=@List.length_map
abbrev agx:=@List.take_of_length_le
abbrev agy:=@List.append_nil
abbrev agz:=@List.take_add_one
abbrev agA:=@Nat.pow_le_pow_right
abbrev agB:=@List.getElem?_cons_zero
abbrev agC:=@List.pairwise_cons
abbrev agD:=@List.getElem?_eq_some_iff
abbrev agE:=@List.take_append_drop
abbrev agF:=@List.length_replicate
abbrev agG:=@Nat.le_succ
abbrev agH:=@List.mem_singleton
abbrev agI:=@List.getElem?_cons_succ
abbrev agJ:=@Nat.le_trans
abbrev agK:=@Nat.zero_le
abbrev agL:=@Nat.add_zero
abbrev agM:=@List.getElem?_append_left
abbrev agN:=@Option.some.inj
abbrev agO:=@List.getElem?_toArray
abbrev agP:=@List.mem_map
abbrev agQ:=@List.getElem?_append_right
abbrev agR:=@Nat.eq_of_beq_eq_true
abbrev agS:=@List.drop_zero
abbrev agT:=@Nat.mul_comm
abbrev agU:=@List.map_append
abbrev agV:=@List.getElem?_take
abbrev agW:=@Nat.pow_succ
abbrev agX:=@List.ext_getElem?
abbrev agY:=@BitVec.ofInt_natCast
abbrev agZ:=@BitVec.toNat_ofNat
abbrev ag0:=@List.flatten_cons
abbrev ag1:=@List.size_toArray
abbrev ag2:=@Nat.min_eq_left
abbrev ag3:=@List.mem_of_mem_take
abbrev ag4:=@List.drop_eq_getElem_cons
abbrev ag5:=@Nat.mod_lt
abbrev ag6:=@Nat.lt_or_ge
abbrev ag7:=@List.getElem?_drop
abbrev ag8:=@List.length_set
abbrev ag9:=@List.mem_of_getElem?
abbrev ag_:=@List.sublist_cons_self
abbrev aha:=@List.map_cons
abbrev ahb:=@Nat.sub_zero
abbrev ahc:=@List.drop_drop
abbrev ahd:=@List.cons_append
abbrev ahe:=@Bool.false_eq_true
abbrev ahf:=@List.take_succ_cons
abbrev ahg:=@Bool.or_eq_true
abbrev ahh:=@Ne.symm
abbrev ahi:=@Option.getD_some
abbrev ahj:=@Nat.lt_of_lt_of_le
abbrev ahk:=@List.drop_append_of_le_length
abbrev ahl:=@List.take_append_of_le_length
abbrev ahm:=@Bool.eq_iff_iff
abbrev ahn:=@Bool.not_true
abbrev aho:=@List.getElem?_range
abbrev ahp:=@List.set_cons_succ
abbrev ahq:=@List.Sublist.refl
abbrev ahr:=@Prod.mk.injEq
abbrev ahs:=@List.map_congr_left
abbrev aht:=@Nat.mul_le_mul_right
abbrev ahu:=@List.all_eq_true
abbrev ahv:=@Int.toNat_of_nonneg
abbrev ahw:=@Nat.add_mul
abbrev ahx:=@List.set_cons_zero
abbrev ahy:=@Int.tmod_eq_emod_of_nonneg
abbrev ahz:=@List.flatten_append
abbrev ahA:=@Bool.or_eq_false_iff
abbrev ahB:=@Nat.sub_self
abbrev ahC:=@List.getElem?_set_self
abbrev ahD:=@Option.map_some
abbrev ahE:=@List.cons.injEq
abbrev ahF:=@List.ext_getElem
abbrev ahG:=@Bool.not_false
abbrev ahH:=@Array.getElem?_eq_none
abbrev ahI:=@List.getElem?_of_mem
abbrev ahJ:=@List.mem_append_left
abbrev ahK:=@Nat.xor_lt_two_pow
abbrev ahL:=@List.flatMap_cons
abbrev ahM:=@List.drop_length
abbrev ahN:=@List.drop_of_length_le
abbrev ahO:=@List.Sublist.append
abbrev ahP:=@Array.ext'
abbrev ahQ:=@Nat.add_comm
abbrev ahR:=@Nat.add_assoc
abbrev ahS:=@Array.ext_getElem?
abbrev ahT:=@Array.getElem?_eq_some_iff
abbrev ahU:=@Array.getD_eq_getD_getElem?
abbrev ahV:=@Bool.not_eq_true'
abbrev ahW:=@List.take_zero
abbrev ahX:=@Nat.pow_zero
abbrev ahY:=@List.mem_append_right
abbrev ahZ:=@List.getElem_of_mem
abbrev ah0:=@List.getElem_map
abbrev ah1:=@List.sublist_append_right
abbrev ah2:=@List.drop_eq_nil_of_le
abbrev ah3:=@List.foldl_cons
abbrev ah4:=@Nat.succ_mul
abbrev ah5:=@List.map_map
abbrev ah6:=@Array.getElem?_modify
abbrev ah7:=@Nat.le_add_right
abbrev ah8:=@Nat.mul_assoc
abbrev ah9:=@Nat.mul_pos
abbrev ah_:=@List.nodup_nil
abbrev aia:=@Int.natCast_pow
abbrev aib:=@Nat.two_pow_pos
abbrev aic:=@List.countP_cons
abbrev aid:=@List.sum_cons
abbrev aie:=@List.getElem?_replicate
abbrev aif:=@Nat.add_sub_cancel
abbrev aih:=@Nat.pow_add
abbrev aii:=@List.length_singleton
abbrev aij:=@Nat.xor_assoc
abbrev aik:=@Array.getElem?_setIfInBounds
abbrev ail:=@Nat.blt_eq
abbrev aim:=@Bool.false_or
abbrev ain:=@List.filter_cons
abbrev aio:=@Int.emod_nonneg
abbrev aip:=@Int.pow_pos
abbrev aiq:=@Nat.or_comm
abbrev air:=@Nat.eq_zero_or_pos
abbrev ais:=@Nat.eq_of_mul_eq_mul_right
abbrev ait:=@Int.le_refl
abbrev aiu:=@List.setIfInBounds_toArray
abbrev aiv:=@List.getElem?_set_ne
abbrev aiw:=@Int.fdiv_eq_ediv_of_nonneg
abbrev aix:=@Int.tdiv_eq_ediv_of_nonneg
abbrev aiy:=@List.mem_range
abbrev aiz:=@Nat.mod_one
abbrev aiA:=@Nat.testBit_zero
abbrev aiB:=@Nat.mod_two_eq_zero_or_one
abbrev aiC:=@List.range_succ
abbrev aiD:=@List.flatten_nil
abbrev aiE:=@List.perm_middle
abbrev aiF:=@Nat.add_sub_cancel_left
abbrev aiG:=@Array.getElem?_eq_getElem
abbrev aiH:=@Int.emod_lt_of_pos
abbrev aiI:=@Nat.zero_mul
abbrev aiJ:=@List.getElem?_eraseIdx
abbrev aiK:=@List.Perm.refl
abbrev aiL:=@UInt8.toNat_ofNat'
abbrev aiM:=@List.take_take
abbrev aiN:=@List.countP_le_length
abbrev aiO:=@List.filter_append
abbrev aiP:=@List.replicate_succ'
abbrev aiQ:=@Bool.and_false
abbrev aiR:=@Array.replicate_succ
abbrev aiS:=@Array.replicate_zero
abbrev aiT:=@List.push_toArray
abbrev aiU:=@List.append_toArray
abbrev aiV:=@Nat.lt_trichotomy
abbrev aiW:=@List.foldl_append
abbrev aiX:=@List.drop_left
abbrev aiY:=@List.append_inj
abbrev aiZ:=@List.mapM_cons
abbrev ai0:=@List.map_take
abbrev ai1:=@Bool.true_and
abbrev ai2:=@List.mem_filter
abbrev ai3:=@Array.size_setIfInBounds
abbrev ai4:=@List.all_cons
abbrev ai5:=@List.set_append_left
abbrev ai6:=@List.set_append_right
abbrev ai7:=@List.pairwise_append
abbrev ai8:=@BitVec.toNat_xor
abbrev ai9:=@Nat.mod_mul
abbrev ai_:=@List.getElem_take
abbrev aja:=@Nat.div_one
abbrev ajb:=@Nat.div_div_eq_div_mul
abbrev ajc:=@List.countP_nil
abbrev ajd:=@List.filter_nil
abbrev aje:=@Nat.testBit_xor
abbrev ajf:=@List.take_left'
abbrev ajg:=@List.drop_left'
abbrev ajh:=@List.cons.inj
abbrev aji:=@Nat.lt_of_not_le
abbrev ajj:=@ByteArray.ext_iff
abbrev ajk:=@List.take_drop
abbrev ajl:=@ByteArray.data_extract
abbrev ajm:=@Array.getElem?_push
abbrev ajn:=@Nat.le_mul_of_pos_right
abbrev ajo:=@List.nodup_cons
abbrev ajp:=@BitVec.toNat_and
abbrev ajq:=@Nat.one_le_two_pow
abbrev ajr:=@BitVec.toNat_or
abbrev ajs:=@Nat.two_pow_add_eq_or_of_lt
abbrev ajt:=@Array.size_push
abbrev aju:=@List.nodup_append
abbrev ajv:=@List.take_set_of_le
abbrev ajw:=@List.getElem_set
abbrev ajx:=@Nat.mul_le_mul
abbrev ajy:=@List.length_eq_zero_iff
abbrev ajz:=@List.length_range
abbrev ajA:=@List.pairwise_iff_getElem
abbrev ajB:=@Nat.eq_of_testBit_eq
abbrev ajC:=@List.count_eq_zero_of_not_mem
abbrev ajD:=@List.getElem?_take_of_lt
abbrev ajE:=@List.mem_of_mem_drop
abbrev ajF:=@List.getElem?_set
abbrev ajG:=@List.eq_of_mem_replicate
abbrev ajH:=@List.flatMap_append
abbrev ajI:=@Option.map_eq_some_iff
abbrev ajJ:=@Array.mapM_eq_mapM_toList
abbrev ajK:=@Array.getElem?_setIfInBounds_ne
abbrev ajL:=@Classical.byContradiction
abbrev ajM:=@Nat.and_two_pow_sub_one_eq_mod
abbrev ajN:=@Array.eq_empty_of_size_eq_zero
abbrev ajO:=@Array.filter_eq_empty_iff
abbrev ajP:=@List.eq_nil_of_length_eq_zero
abbrev ajQ:=@Int.mul_le_mul_of_nonneg_right
abbrev ajR:=@Nat.testBit_two_pow_sub_succ
abbrev ajS:=@Nat.testBit_two_pow_sub_one
abbrev ajT:=@List.idxOf_lt_length_of_mem
abbrev ajU:=@List.mem_or_eq_of_mem_set
end Go
set_option linter.unusedSimpArgs false
set_option linter.unusedVariables false
namespace Go.Vc
open Go
section
abbrev ai:=Array Obj
abbrev Env:=Nat→Value
abbrev str (l:List UInt8):Value:= .string ⟨l.toArray⟩
def fL (s:ByteArray):List UInt8:=s.data.toList
@[simp] theorem bu (l:List UInt8):fL ⟨l.toArray⟩=l:=by simp [fL]
abbrev bX (b:UInt8):Value:= .int .u8 (b.toNat:Int)
theorem P6 (s:ByteArray):Value.string s=str (fL s):=by cases s;simp [fL]
def jT (n:Nat):List Nat→Bool
 | []=>false
 |m::r=>bif Nat.beq n m then true else jT n r
def Env.PF (ρ:Env) (t:Nat) (v:Value):Env:=fun s=>bif Nat.beq s t then v else ρ s
def Env.put (ρ:Env):Option Tmp→Value→Env
 |some t,v=>ρ.PF t v
 |none,_=>ρ
def Env.mix (ρ oS:Env) (l:List Nat):Env:=fun s=>bif jT s l then oS s else ρ s
def ev (ρ:Env):Operand→Value
 | .tmp t=>ρ t
 | .const v=>v
 | .global g=> .pointer (some ⟨g,0,none⟩)
 | .func f=> .func (.func f) #[] #[]
def MJ (ρ:Env):List Operand→List Value
 | []=> []
 |x::r=>ev ρ x::MJ ρ r
def Sy (ρ:Env):Option Operand→Option Value
 |none=>none
 |some x=>some (ev ρ x)
def D4 (ρ:Env):List (Nat × Operand)→List (Nat × Value)
 | []=> []
 | (i,x)::r=> (i,ev ρ x)::D4 ρ r
structure Ext (H H' :ai):Prop where
 size:H.size≤H'.size
 get: ∀i,i<H.size→H'[i]? =H[i]?
theorem Ext.refl (H:ai):Ext H H:= ⟨aga _,fun _ _=>rfl⟩
theorem Ext.trans {A B C:ai} (h:Ext A B) (k:Ext B C):Ext A C:= ⟨agJ h.size k.size,fun i hi=> (k.get i (ahj hi h.size)).trans (h.get i hi)⟩
class Mode where
 Sz:Prop
instance Mode.SA:Mode:= ⟨False⟩
variable [Mode]
structure b0 (w w' :World):Prop where
 os:w'.os=w.os
 output:w'.output=w.output
 tape:w'.tape=w.tape
 drawn:Mode.Sz→w.drawn≤w'.drawn
theorem b0.refl (w:World):b0 w w:= ⟨rfl,rfl,rfl,fun _=>aga _⟩
theorem b0.trans {a b c:World} (h:b0 a b) (k:b0 b c):b0 a c:= ⟨k.os.trans h.os,k.output.trans h.output,k.tape.trans h.tape,fun m=>agJ (h.drawn m) (k.drawn m)⟩
def fP (P:Program) (f:FuncId) (args:Array Value) (H:ai) (R:Value→ai→Prop):Prop:=
 ∀w:World,w.heap=H→Calls P f args w fun e w' => ∃v,e= .returned v∧b0 w w' ∧R v w'.heap
theorem fP.mono {P:Program} {f:FuncId} {args:Array Value} {H:ai} {R R' :Value→ai→Prop} (h:fP P f args H R) (hr: ∀v H',R v H' →R' v H'):fP P f args H R' :=
 fun w hw=> (h w hw).mono fun _ _ ⟨v,he,hk,hv⟩=> ⟨v,he,hk,hr _ _ hv⟩
def cellAt (H:ai) (a:Addr):Option Value:=
 match H[a.block]? with
 |some (.cells c _ _)=>if a.spot.isSome then none else c[a.off]?
 |_=>none
def frozenAt (H:ai) (a:Addr):Bool:=
 match H[a.block]? with
 |some (.cells _ _ (lo,hi))=>lo≤a.off && a.off<hi
 |_=>false
def setAt (H:ai) (a:Addr) (v:Value):ai:=
 H.modify a.block fun
  | .cells c elem frozen=> .cells (if a.spot.isSome then c else c.setIfInBounds a.off v) elem frozen
  |o=>o
def aK:Value→Bool
 | .agg _| .tuple _=>false
 |_=>true
def dT (H:ai) (a:Addr):Nat→Option (List Value)
 |0=>some []
 |n+1=>match dT H a n with
  |some l=>match cellAt H (a.add n) with
   |some v=>some (l++ [v])
   |none=>none
  |none=>none
def eA (H:ai) (a:Addr):Nat→List Value→Option ai
 |_,[]=>some H
 |i,v::r=>match cellAt H (a.add i) with
  |some _=>bif frozenAt H (a.add i) then none else bif aK v then eA (setAt H (a.add i) v) a (i+1) r else none
  |none=>none
section
def MK (c a b:Value) (K:Value→Prop):Prop:=match c with
 | .bool t=>K (bif t then a else b)
 |_=>False
def aB (x:Value) (K:Value→Prop):Prop:=match x with
 | .pointer (some a)=>K (.pointer (some a))
 | .func (.func f) a b=>K (.func (.func f) a b)
 |_=>False
def aG (x y:Value) (K:Value→Prop):Prop:=match x,y with
 | .int k a,.int k' b=>k=k' ∧K (.int k (k.wrap (a+b)))
 | .string a,.string b=>a.size+b.size≤9223372036854775807∧K (str (fL a++fL b))
 |_,_=>False
def bY (x y:Value) (K:Value→Prop):Prop:=match x,y with
 | .int k a,.int k' b=>k=k' ∧K (.int k (k.wrap (a - b)))
 |_,_=>False
def qE (x y:Value) (K:Value→Prop):Prop:=match x,y with
 | .int k a,.int k' b=>k=k' ∧K (.int k (k.wrap (a*b)))
 |_,_=>False
def rh (x y:Value) (K:Value→Prop):Prop:=match x,y with
 | .int k a,.int k' b=>k=k' ∧b≠0∧K (.int k (k.wrap (a.tdiv b)))
 |_,_=>False
def l8 (x y:Value) (K:Value→Prop):Prop:=match x,y with
 | .int k a,.int k' b=>k=k' ∧b≠0∧K (.int k (a.tmod b))
 |_,_=>False
def bitsOf (op:BinOp) (k:IntKind) (x y:Int):Int:=
 let a:=BitVec.ofInt k.bits x
 let b:=BitVec.ofInt k.bits y
 k.wrap (match op with
  | .and=> (a &&& b).toNat
  | .or=> (a|||b).toNat
  | .xor=> (a ^^^ b).toNat
  |_=> (a &&& ~~~b).toNat:Nat)
def cx (op:BinOp) (x y:Value) (K:Value→Prop):Prop:=match x,y with
 | .int k a,.int k' b=>k=k' ∧K (.int k (bitsOf op k a b))
 |_,_=>False
def jv (x y:Value) (K:Value→Prop):Prop:=match x,y with
 | .int k a,.int _ b=>0≤b∧K (.int k (k.wrap (a*2 ^ (min b.toNat k.bits))))
 |_,_=>False
def mo (x y:Value) (K:Value→Prop):Prop:=match x,y with
 | .int k a,.int _ b=>0≤b∧K (.int k (a.fdiv (2 ^ (min b.toNat k.bits))))
 |_,_=>False
def cq (x y:Value) (K:Value→Prop):Prop:=match x,y with
 | .int k a,.int k' b=>k=k' ∧K (.bool (decide (a<b)))
 |_,_=>False
def vk (x y:Value) (K:Value→Prop):Prop:=match x,y with
 | .int k a,.int k' b=>k=k' ∧K (.bool (decide (a≤b)))
 |_,_=>False
def dW (x y:Value) (K:Value→Prop):Prop:=match x,y with
 | .int k a,.int k' b=>k=k' ∧K (.bool (decide (b<a)))
 |_,_=>False
def lB (x y:Value) (K:Value→Prop):Prop:=match x,y with
 | .int k a,.int k' b=>k=k' ∧K (.bool (decide (b≤a)))
 |_,_=>False
def kT:Nat→Value→Value→Option Bool
 |0,.int k a,.int k' b=>if k=k' then some (decide (a=b)) else none
 |1,.string a,.string b=>some (decide (fL a=fL b))
 |2,.bool a,.bool b=>some (decide (a=b))
 |3,.pointer none,.pointer b=>some b.isNone
 |3,.pointer (some _),.pointer none=>some false
 |4,.slice none _ _,.slice b _ _=>some b.isNone
 |4,.slice (some _) _ _,.slice none _ _=>some false
 |5,.map none,.map b=>some b.isNone
 |5,.map (some _),.map none=>some false
 |_,_,_=>none
def kU:TypeDesc→Option Nat
 | .int _=>some 0
 | .string=>some 1
 | .bool=>some 2
 | .pointer _=>some 3
 | .slice _=>some 4
 | .map _ _=>some 5
 |_=>none
def cu (k:Nat) (x y:Value) (K:Value→Prop):Prop:=match kT k x y with
 |some b=>K (.bool b)
 |none=>False
def ea (k:Nat) (x y:Value) (K:Value→Prop):Prop:=match kT k x y with
 |some b=>K (.bool (!b))
 |none=>False
def cI:List Nat→List Value→List Value→Option Bool
 | [],[],[]=>some true
 |k::ks,x::r,y::s=>match kT k x y with
  |some b=>match cI ks r s with
   |some c=>some (b && c)
   |none=>none
  |none=>none
 |_,_,_=>none
def GZ (ks:List Nat) (x y:Value) (K:Value→Prop):Prop:=match x,y with
 | .agg a,.agg b=>match cI ks a.toList b.toList with
  |some c=>K (.bool c)
  |none=>False
 |_,_=>False
def G0 (ks:List Nat) (x y:Value) (K:Value→Prop):Prop:=match x,y with
 | .agg a,.agg b=>match cI ks a.toList b.toList with
  |some c=>K (.bool (!c))
  |none=>False
 |_,_=>False
def e7 (x:Value) (K:Value→Prop):Prop:=match x with
 | .bool b=>K (.bool !b)
 |_=>False
def UW (x:Value) (K:Value→Prop):Prop:=match x with
 | .int k n=>K (.int k (k.wrap (0 - n)))
 |_=>False
def ML (x:Value) (K:Value→Prop):Prop:=match x with
 | .int k n=>K (.int k (bitsOf .xor k (if k.signed then -1 else k.max) n))
 |_=>False
def bm (k:IntKind) (x:Value) (K:Value→Prop):Prop:=match x with
 | .int _ n=>K (.int k (k.wrap n))
 |_=>False
def MM (x:Value) (K:Value→Prop):Prop:=match x with
 | .string s=>K (.string s)
 |_=>False
def jU (x y:Value) (K:Value→Prop):Prop:=match x,y with
 | .int k a,.int k' b=>k=k' ∧K (.int k (min a b))
 |_,_=>False
def G1 (x y:Value) (K:Value→Prop):Prop:=match x,y with
 | .int k a,.int k' b=>k=k' ∧K (.int k (max a b))
 |_,_=>False
def aa (off:Nat) (x:Value) (K:Value→Prop):Prop:=match x with
 | .pointer (some a)=>K (.pointer (some (a.add off)))
 |_=>False
def ic (off:Nat) (x:Value) (K:Value→Prop):Prop:=match x with
 | .agg cs=>match cs.toList[off]? with
  |some v=>K v
  |none=>False
 |_=>False
def Cf (off n:Nat) (x:Value) (K:Value→Prop):Prop:=match x with
 | .agg cs=>K (.agg ((cs.toList.drop off).take n).toArray)
 |_=>False
def aq (i:Nat) (x:Value) (K:Value→Prop):Prop:=match x with
 | .tuple vs=>match vs.toList[i]? with
  |some v=>K v
  |none=>False
 |_=>False
def dL (len size:Nat) (x i:Value) (K:Value→Prop):Prop:=match x,i with
 | .pointer (some a),.int _ j=>0≤j∧j< (len:Int)∧K (.pointer (some (a.add (j.toNat*size))))
 |_,_=>False
def aI (size:Nat) (x i:Value) (K:Value→Prop):Prop:=match x,i with
 | .slice (some a) n _,.int _ j=>0≤j∧j< (n:Int)∧K (.pointer (some (a.add (j.toNat*size))))
 |_,_=>False
def bO (x i:Value) (K:Value→Prop):Prop:=match x,i with
 | .string s,.int _ j=>0≤j∧j< ((fL s).length:Int)∧K (.int .u8 (((fL s).getD j.toNat 0).toNat:Int))
 |_,_=>False
def np (len:Nat) (x i:Value) (K:Value→Prop):Prop:=match x,i with
 | .agg cs,.int _ j=>0≤j∧j< (len:Int)∧(match cs.toList[j.toNat]? with
  |some v=>K v
  |none=>False)
 |_,_=>False
def jV (len n:Nat) (x i:Value) (K:Value→Prop):Prop:=match x,i with
 | .agg cs,.int _ j=>0≤j∧j< (len:Int)∧K (.agg ((cs.toList.drop (j.toNat*n)).take n).toArray)
 |_,_=>False
def fk (len cap:Nat) (lo hi:Option Value) (Kb:Nat→Nat→Prop):Prop:=match lo,hi with
 |none,none=>Kb 0 len
 |some (.int _ l),none=>0≤l∧l≤(len:Int)∧Kb l.toNat len
 |none,some (.int _ h)=>0≤h∧h≤(cap:Int)∧Kb 0 h.toNat
 |some (.int _ l),some (.int _ h)=>0≤h∧h≤(cap:Int)∧0≤l∧l≤h∧Kb l.toNat h.toNat
 |_,_=>False
def a7 (x:Value) (lo hi:Option Value) (K:Value→Prop):Prop:=match x with
 | .string s=>fk (fL s).length (fL s).length lo hi fun l h=>K (str (((fL s).drop l).take (h - l)))
 |_=>False
def fg (size:Nat) (x:Value) (lo hi:Option Value) (K:Value→Prop):Prop:=match x with
 | .slice a len cap=>fk len cap lo hi fun l h=>K (.slice (if cap=l then a else a.map (·.add (l*size))) (h - l) (cap - l))
 |_=>False
def ri (n size:Nat) (x:Value) (lo hi:Option Value) (K:Value→Prop):Prop:=match x with
 | .pointer (some a)=>fk n n lo hi fun l h=>K (.slice (some (if n=l then a else a.add (l*size))) (h - l) (n - l))
 |_=>False
def aX (x:Value) (K:Value→Prop):Prop:=match x with
 | .string s=>K (.int .i64 ((fL s).length:Int))
 |_=>False
def bV (x:Value) (K:Value→Prop):Prop:=match x with
 | .slice _ n _=>K (.int .i64 (n:Int))
 |_=>False
def G2 (x:Value) (K:Value→Prop):Prop:=match x with
 | .slice _ _ c=>K (.int .i64 (c:Int))
 |_=>False
def iI (cs:List Value):Nat→List Value→List Value
 |_,[]=>cs
 |off,v::r=>iI (cs.set off v) (off+1) r
def aT:List Value→List (Nat × Nat × Value)→(Value→Prop)→Prop
 |cells,[],K=>K (.agg cells.toArray)
 |cells,(off,size,v)::r,K=>v.cells.size=size∧off+size≤cells.length∧aT (iI cells off v.cells.toList) r K
end
section
variable (H:ai)
def ak (x:Value) (K:Value→Prop):Prop:=match x with
 | .pointer (some a)=>match cellAt H a with
  |some v=>K v
  |none=>False
 |_=>False
def aE (n:Nat) (x:Value) (K:Value→Prop):Prop:=match x with
 | .pointer (some a)=>match dT H a n with
  |some l=>K (.agg l.toArray)
  |none=>False
 |_=>False
def bytesOf:List Value→Option (List UInt8)
 | []=>some []
 | .int .u8 n::r=>match bytesOf r with
  |some l=>some (UInt8.ofNat n.toNat::l)
  |none=>none
 |_::_=>none
def kh (x:Value) (K:Value→Prop):Prop:=match x with
 | .slice none _ _=>K (str [])
 | .slice (some a) n _=>match dT H a n with
  |some l=>match bytesOf l with
   |some b=>K (str b)
   |none=>False
  |none=>False
 |_=>False
def mq (x:Value):Option (List MapEntry):=match x with
 | .map none=>some []
 | .map (some r)=>match H[r]? with
  |some (.map es _)=>some es.toList
  |_=>none
 |_=>none
def ko (kind:Nat) (k:Value):List MapEntry→Nat→Option (Option (Nat × Value))
 | [],_=>some none
 |e::es,i=>match kT kind k e.key with
  |some true=>some (some (i,e.val))
  |some false=>ko kind k es (i+1)
  |none=>none
def fT (kind:Nat) (zero:Value) (ok:Bool) (m k:Value) (K:Value→Prop):Prop:=match mq H m with
 |some es=>match ko kind k es 0 with
  |some (some (_,v))=>K (bif ok then .tuple #[v,.bool true] else v)
  |some none=>K (bif ok then .tuple #[zero,.bool false] else zero)
  |none=>False
 |none=>False
def Jt (x:Value) (K:Value→Prop):Prop:=match x with
 | .map none=>K (.int .i64 0)
 | .map (some r)=>match H[r]? with
  |some (.map es _)=>K (.int .i64 (es.size:Int))
  |_=>False
 |_=>False
end
section
variable (H:ai)
def aF (x v:Value) (K:Value→ai→Prop):Prop:=match x with
 | .pointer (some a)=>match eA H a 0 [v] with
  |some H' =>K undef H'
  |none=>False
 |_=>False
def aC (n:Nat) (x v:Value) (K:Value→ai→Prop):Prop:=match x with
 | .pointer (some a)=>v.cells.size=n∧match eA H a 0 v.cells.toList with
  |some H' =>K undef H'
  |none=>False
 |_=>False
def bs (e:TypeId) (v:Value) (K:Value→ai→Prop):Prop:=K (.pointer (some ⟨H.size,0,none⟩)) (H.push (.cells v.cells e))
def mr (K:Value→ai→Prop):Prop:=K (.map (some H.size)) (H.push (.map #[] 0))
def eJ (z:List Value):Nat→List Value
 |0=> []
 |n+1=>z++eJ z n
def dF (e:TypeId) (bytes:Nat) (zero:List Value) (l c:Value) (K:Value→ai→Prop):Prop:=match l,c with
 | .int .i64 n,.int .i64 m=>0≤n∧n≤m∧(bytes:Int)*m≤281474976710656∧m≤9223372036854775807∧
   K (.slice (some ⟨H.size,0,none⟩) n.toNat m.toNat) (H.push (.cells (eJ zero m.toNat).toArray e))
 |_,_=>False
def aY (e:TypeId) (len:Nat) (zero:List Value) (parts:List (Nat × Nat × Value)) (K:Value→ai→Prop):Prop:=
 aT zero parts (fun v=>K (.slice (some ⟨H.size,0,none⟩) len len) (H.push (.cells v.cells e)))
def G3 (e:TypeId) (x:Value) (K:Value→ai→Prop):Prop:=match x with
 | .string s=> ∀cap:Nat,(fL s).length≤cap→
   K (.slice (some ⟨H.size,0,none⟩) (fL s).length cap)
    (H.push (.cells (((fL s).map bX)++List.replicate (cap - (fL s).length) (Value.int .u8 0)).toArray e (cap,cap+1)))
 |_=>False
def cellsOf (size:Nat) (x:Value):Option (List Value):=match x with
 | .slice none _ _=>some []
 | .slice (some a) n _=>dT H a (n*size)
 | .string s=>some ((fL s).map bX)
 |_=>none
def iJ:Value→Option Nat
 | .slice _ n _=>some n
 | .string s=>some (fL s).length
 |_=>none
def D5 (k:Nat):Value→Value
 | .slice a _ c=> .slice a k c
 | .string t=>str ((fL t).take k)
 |v=>v
def bj (e:TypeId) (size bytes:Nat) (zero:List Value) (s x:Value) (K:Value→ai→Prop):Prop:=match s,iJ x,cellsOf H size x with
 | .slice base n cap,some m,some new=>
  (n+m≤cap→match base with
   |none=>K (.slice none (n+m) cap) H
   |some a=>match eA H (a.add (n*size)) 0 new with
    |some H' =>K (.slice (some a) (n+m) cap) H'
    |none=>False)∧
  (cap<n+m→2* (n+m)*bytes≤281474976710656∧match cellsOf H size (.slice base n cap) with
   |some Uk=> ∀c:Nat,n+m≤c→K (.slice (some ⟨H.size,0,none⟩) (n+m) c) (H.push (.cells (Uk++new++eJ zero (c - (n+m))).toArray e))
   |none=>False)
 |_,_,_=>False
def oT (e:TypeId) (bytes:Nat) (zero:List Value) (s x:Value) (K:Value→ai→Prop):Prop:=match s,x with
 | .slice none 0 0,.int .i64 n=> (0<n∧2*n.toNat*bytes≤281474976710656)∧∀c:Nat,n.toNat≤c→K (.slice (some ⟨H.size,0,none⟩) n.toNat c) (H.push (.cells (eJ zero n.toNat++eJ zero (c - n.toNat)).toArray e))
 |_,_=>False
def MN (size:Nat) (d s:Value) (K:Value→ai→Prop):Prop:=match d,iJ s with
 | .slice base n _,some m=>match cellsOf H size (D5 (min m n) s) with
  |some new=>match base with
   |none=>K (.int .i64 (min m n:Nat)) H
   |some a=>match eA H a 0 new with
    |some H' =>K (.int .i64 (min m n:Nat)) H'
    |none=>False
  |none=>False
 |_,_=>False
def ie (kind:Nat) (m k v:Value) (K:Value→ai→Prop):Prop:=match m with
 | .map (some r)=>match H[r]? with
  |some (.map es clock)=>match ko kind k es.toList 0 with
   |some (some (i,_))=>K undef (H.setIfInBounds r (.map (es.modify i fun e=> {e with key:=k,val:=v}) clock))
   |some none=>K undef (H.setIfInBounds r (.map (es.push {key:=k,val:=v,born:=clock}) (clock+1)))
   |none=>False
  |_=>False
 |_=>False
def lK (kind:Nat) (m k:Value) (K:Value→ai→Prop):Prop:=match m with
 | .map (some r)=>match H[r]? with
  |some (.map es clock)=>match ko kind k es.toList 0 with
   |some (some (i,_))=>K (.tuple #[]) (H.setIfInBounds r (.map (es.eraseIdxIfInBounds i) clock))
   |some none=>K (.tuple #[]) H
   |none=>False
  |_=>False
 |_=>False
def nq (m:Value) (K:Value→ai→Prop):Prop:=match m with
 | .map none=>K (.tuple #[]) H
 | .map (some r)=>match H[r]? with
  |some (.map _ clock)=>K (.tuple #[]) (H.setIfInBounds r (.map #[] clock))
  |_=>False
 |_=>False
def si (z:List Value) (x:Value) (K:Value→ai→Prop):Prop:=match x with
 | .slice none _ _=>K (.tuple #[]) H
 | .slice (some a) n _=>match eA H a 0 (eJ z n) with
  |some H' =>K (.tuple #[]) H'
  |none=>False
 |_=>False
def MO (x:Value) (K:Value→ai→Prop):Prop:=match x with
 | .chan none=>K (.int .i64 0) H
 | .chan (some r)=>match H[r]? with
  |some (.chan _ buf _ _ _ false)=>K (.int .i64 (buf.size:Int)) H
  |_=>False
 |_=>False
def tW (P:Program) (s:Sem Value) (K:Value→ai→Prop):Prop:= ∀w:World,w.heap=H→match s.run P w with
 | .ok v w' =>b0 w w' ∧K v w'.heap
 | .halt _ _=>False
end
def dU (P:Program) (t:TypeId):Bool:=match P.underlying t with
 |some (.struct _) |some (.array _ _)=>true
 |_=>false
def RO (P:Program) (t:TypeId):Nat:=match P.info? t with
 |some i=>i.size
 |none=>0
def iP (P:Program) (t:TypeId):Option Value:=match P.info? t with
 |some i=>i.zero
 |none=>none
def xz (P:Program):List Field→Nat→Option (List Nat)
 | [],_=>some []
 |f::r,off=>bif Nat.beq f.offset off && f.name != "_" then match P.underlying f.type,P.info? f.type with
  |some d,some i=>match kU d with
   |some k=>bif Nat.ble k 2 && Nat.beq i.size 1 then match xz P r (off+1) with
    |some l=>some (k::l)
    |none=>none
    else none
   |none=>none
  |_,_=>none
  else none
def sj (P:Program):List Field→Nat→Option (List Nat)
 | [],_=>some []
 |f::r,off=>bif Nat.beq f.offset off && f.name != "_" then match P.underlying f.type,P.info? f.type with
  |some (.struct gs),some i=>bif P.stoodInHeld f.type then none else match xz P gs.toList 0 with
   |some k=>bif Nat.beq k.length i.size then match sj P r (off+i.size) with
    |some l=>some (k++l)
    |none=>none
    else none
   |none=>none
  |some d,some i=>match kU d with
   |some k=>bif Nat.ble k 2 && Nat.beq i.size 1 then match sj P r (off+1) with
    |some l=>some (k::l)
    |none=>none
    else none
   |none=>none
  |_,_=>none
  else none
def A3 (P:Program) (t:TypeId):Option (List Nat):=match P.underlying t with
 |some (.struct fs)=>bif P.stoodInHeld t||P.eqGuardType P.depth t then none else sj P fs.toList 0
 |_=>none
def XR (P:Program):Builtin→List TypeId→Nat
 | .len,t::_=>match P.underlying t with
  |some (.map _ _)=>1
  |some (.chan _ _)=>2
  |_=>0
 | .cap,_| .min,_| .max,_=>0
 |_,_=>2
def cls (P:Program):Op→Nat
 | .move _| .assign _| .pick .. | .nilCheck _| .binOp .. | .unOp .. | .fieldAddr .. | .field .. | .extract .. | .indexAddr .. | .index .. | .slice .. | .makeFunc .. | .build .. =>0
 | .convert s d _=>match P.underlying s,P.underlying d with
  |some (.slice _),some .string=>1
  |some .string,some (.slice _)=>2
  |some (.slice _),some (.slice _)=>2
  |_,_=>0
 | .call c=>match c.callee with
  | .builtin b=>XR P b c.argTypes.toList
  |_=>2
 | .load .. | .lookup .. =>1
 |_=>2
section
variable (P:Program) (ρ:Env)
def lL (P:Program):List Field→List (Nat × Nat)
 | []=> []
 |f::r=> (f.offset,RO P f.type)::lL P r
def sn (P:Program):List Field→Bool
 | []=>true
 |f::r=>match P.info? f.type with
  |some _=>sn P r
  |none=>false
def rj (pl:List (Nat × Nat)):List (Nat × Value)→Option (List (Nat × Nat × Value))
 | []=>some []
 | (i,v)::r=>match pl[i]? with
  |some (o,s)=>match rj pl r with
   |some l=>some ((o,s,v)::l)
   |none=>none
  |none=>none
def nr (size:Nat):List (Nat × Value)→List (Nat × Nat × Value)
 | []=> []
 | (i,v)::r=> (i*size,size,v)::nr size r
def bK:Value→List Value
 | .agg cs=>cs.toList
 |v=> [v]
def D6 (b:Builtin) (D7:List TypeId) (args:List Operand) (K:Value→Prop):Prop:=match b,D7,args with
 | .len,[t],[x]=>match P.underlying t with
  |some .string=>aX (ev ρ x) K
  |some (.slice _)=>bV (ev ρ x) K
  |_=>False
 | .cap,[t],[x]=>match P.underlying t with
  |some (.slice _)=>G2 (ev ρ x) K
  |_=>False
 | .min,_,[x,y]=>jU (ev ρ x) (ev ρ y) K
 | .max,_,[x,y]=>G1 (ev ρ x) (ev ρ y) K
 | .min,_,[x,y,z]=>jU (ev ρ x) (ev ρ y) (fun v=>jU v (ev ρ z) K)
 |_,_,_=>False
def XS (o:Op) (K:Value→Prop):Prop:=match o with
 | .move x| .assign x=>K (ev ρ x)
 | .pick c a b=>MK (ev ρ c) (ev ρ a) (ev ρ b) K
 | .nilCheck x=>aB (ev ρ x) K
 | .binOp op t x y _=>match op with
  | .add=>aG (ev ρ x) (ev ρ y) K
  | .sub=>bY (ev ρ x) (ev ρ y) K
  | .mul=>qE (ev ρ x) (ev ρ y) K
  | .quo=>rh (ev ρ x) (ev ρ y) K
  | .rem=>l8 (ev ρ x) (ev ρ y) K
  | .and=>cx .and (ev ρ x) (ev ρ y) K
  | .or=>cx .or (ev ρ x) (ev ρ y) K
  | .xor=>cx .xor (ev ρ x) (ev ρ y) K
  | .andNot=>cx .andNot (ev ρ x) (ev ρ y) K
  | .shl=>jv (ev ρ x) (ev ρ y) K
  | .shr=>mo (ev ρ x) (ev ρ y) K
  | .lss=>cq (ev ρ x) (ev ρ y) K
  | .leq=>vk (ev ρ x) (ev ρ y) K
  | .gtr=>dW (ev ρ x) (ev ρ y) K
  | .geq=>lB (ev ρ x) (ev ρ y) K
  | .eql=>match P.underlying t with
   |some (.struct _)=>match A3 P t with
    |some ks=>GZ ks (ev ρ x) (ev ρ y) K
    |none=>False
   |some d=>match kU d with
    |some k=>cu k (ev ρ x) (ev ρ y) K
    |none=>False
   |none=>False
  | .neq=>match P.underlying t with
   |some (.struct _)=>match A3 P t with
    |some ks=>G0 ks (ev ρ x) (ev ρ y) K
    |none=>False
   |some d=>match kU d with
    |some k=>ea k (ev ρ x) (ev ρ y) K
    |none=>False
   |none=>False
 | .unOp op _ x=>match op with
  | .not=>e7 (ev ρ x) K
  | .neg=>UW (ev ρ x) K
  | .xor=>ML (ev ρ x) K
  | .plus=>False
 | .convert s d x=>match P.underlying s,P.underlying d with
  |some (.int _),some (.int k)=>bm k (ev ρ x) K
  |some .string,some .string=>MM (ev ρ x) K
  |_,_=>False
 | .fieldAddr t x f=>match P.underlying t with
  |some (.struct fs)=>match fs.toList[f]? with
   |some fd=>match P.info? fd.type with
    |some i=>bif Nat.beq i.size 0 then False else aa fd.offset (ev ρ x) K
    |none=>False
   |none=>False
  |_=>False
 | .field t x f=>match P.underlying t with
  |some (.struct fs)=>match fs.toList[f]? with
   |some fd=>match P.underlying fd.type,P.info? fd.type with
    |some _,some i=>bif dU P fd.type then Cf fd.offset i.size (ev ρ x) K else ic fd.offset (ev ρ x) K
    |_,_=>False
   |none=>False
  |_=>False
 | .extract x i=>aq i (ev ρ x) K
 | .indexAddr t x i=>match P.underlying t with
  |some (.array n e)=>match P.info? e with
   |some ti=>dL n ti.size (ev ρ x) (ev ρ i) K
   |none=>False
  |some (.slice e)=>match P.info? e with
   |some ti=>aI ti.size (ev ρ x) (ev ρ i) K
   |none=>False
  |_=>False
 | .index t x i=>match P.underlying t with
  |some .string=>bO (ev ρ x) (ev ρ i) K
  |some (.array n e)=>match P.underlying e,P.info? e with
   |some _,some ti=>bif dU P e then jV n ti.size (ev ρ x) (ev ρ i) K else bif Nat.beq ti.size 1 then np n (ev ρ x) (ev ρ i) K else False
   |_,_=>False
  |_=>False
 | .slice t x lo hi none=>match P.underlying t with
  |some .string=>a7 (ev ρ x) (Sy ρ lo) (Sy ρ hi) K
  |some (.slice e)=>match P.info? e with
   |some ti=>fg ti.size (ev ρ x) (Sy ρ lo) (Sy ρ hi) K
   |none=>False
  |some (.array n e)=>match P.info? e with
   |some ti=>ri n ti.size (ev ρ x) (Sy ρ lo) (Sy ρ hi) K
   |none=>False
  |_=>False
 | .makeFunc (.func f) first cap=>K (.func (.func f) (MJ ρ first.toList).toArray (MJ ρ cap.toList).toArray)
 | .build t ps=>match iP P t,P.underlying t with
  |some z,some (.struct fs)=>match rj (lL P fs.toList) (D4 ρ ps.toList) with
   |some parts=>bif sn P fs.toList then aT (bK z) parts K else False
   |none=>False
  |some z,some (.array _ e)=>match P.info? e with
   |some ti=>aT (bK z) (nr ti.size (D4 ρ ps.toList)) K
   |none=>False
  |_,_=>False
 | .call c=>match c.callee with
  | .builtin b=>D6 P ρ b c.argTypes.toList c.args.toList K
  |_=>False
 |_=>False
def SB (o:Op) (H:ai) (K:Value→Prop):Prop:=match o with
 | .load t x=>match P.underlying t,P.info? t with
  |some _,some i=>bif dU P t then aE H i.size (ev ρ x) K else ak H (ev ρ x) K
  |_,_=>False
 | .convert s d x=>match P.underlying s,P.underlying d with
  |some (.slice e),some .string=>match P.underlying e with
   |some (.int .u8)=>kh H (ev ρ x) K
   |_=>False
  |_,_=>False
 | .lookup t m k ok=>match P.underlying t with
  |some (.map kt e)=>match P.underlying kt,iP P e with
   |some (.int _),some z=>fT H 0 z ok (ev ρ m) (ev ρ k) K
   |some .string,some z=>fT H 1 z ok (ev ρ m) (ev ρ k) K
   |_,_=>False
  |_=>False
 | .call c=>match c.callee,c.argTypes.toList,c.args.toList with
  | .builtin .len,[t],[x]=>match P.underlying t with
   |some (.map _ _)=>Jt H (ev ρ x) K
   |_=>False
  |_,_,_=>False
 |_=>False
def jk (P:Program) (C:List Nat) (f:Value) (args:List Value) (H:ai) (K:Value→ai→Prop):Prop:=match f with
 | .func (.func g) first cap=>bif jT g C then fP P g (first.toList++args++cap.toList).toArray H K else False
 |_=>False
def D8 (b:Builtin) (D7:List TypeId) (args:List Operand) (H:ai) (K:Value→ai→Prop):Prop:=match b,args,D7 with
 | .append,[s,x],[t,u]=>match P.underlying t,P.underlying u with
  |some (.slice e),some (.slice _) |some (.slice e),some .string=>match P.info? e,iP P e with
   |some i,some z=>bif Nat.ble 1 i.bytes && Nat.ble 1 (bK z).length then bj H e i.size i.bytes (bK z) (ev ρ s) (ev ρ x) K else False
   |_,_=>False
  |some (.slice e),some (.int _)=>match P.info? e,iP P e with
   |some i,some z=>bif Nat.ble 1 i.bytes && (Nat.ble 1 (bK z).length && Nat.ble 1 i.size) then oT H e i.bytes (bK z) (ev ρ s) (ev ρ x) K else False
   |_,_=>False
  |_,_=>False
 | .copy,[d,s],[t,_]=>match P.underlying t with
  |some (.slice e)=>match P.info? e with
   |some i=>MN H i.size (ev ρ d) (ev ρ s) K
   |none=>False
  |_=>False
 | .delete,[m,k],[t,_]=>match P.underlying t with
  |some (.map kt _)=>match P.underlying kt with
   |some (.int _)=>lK H 0 (ev ρ m) (ev ρ k) K
   |some .string=>lK H 1 (ev ρ m) (ev ρ k) K
   |_=>False
  |_=>False
 | .clear,[m],[t]=>match P.underlying t with
  |some (.map _ _)=>nq H (ev ρ m) K
  |some (.slice e)=>match iP P e with
   |some z=>bif Nat.ble 1 (bK z).length then si H (bK z) (ev ρ m) K else False
   |none=>False
  |_=>False
 | .len,[x],[t]=>match P.underlying t with
  |some (.chan _ _)=>MO H (ev ρ x) K
  |_=>False
 |_,_,_=>False
def MP (fr:Nat × Nat) (n:Nat):Nat × Nat:=if fr.1==fr.2 then (n,n+1) else (min fr.1 n,max fr.2 (n+1))
def MQ (H:ai) (x:Value) (K:Value→ai→Prop):Prop:=match x with
 | .slice (some a) _ _=>match H[a.block]? with
  |some (.cells cs t fr)=>K x (H.setIfInBounds a.block (.cells cs t (MP fr cs.size)))
  |_=>False
 |_=>False
def PG (C:List Nat) (o:Op) (ty:TypeId) (H:ai) (K:Value→ai→Prop):Prop:=match o with
 | .store t x v=>match P.underlying t,P.info? t with
  |some _,some i=>bif dU P t then aC H i.size (ev ρ x) (ev ρ v) K else bif Nat.beq i.size 1 then aF H (ev ρ x) (ev ρ v) K else False
  |_,_=>False
 | .alloc e=>match iP P e with
  |some z=>bs H e z K
  |none=>False
 | .box e v=>bs H e (ev ρ v) K
 | .makeMap _ none=>mr H K
 | .makeSlice t l c=>match P.underlying t with
  |some (.slice e)=>match P.info? e,iP P e with
   |some i,some z=>bif Nat.beq (bK z).length i.size && Nat.ble 1 i.size then dF H e i.bytes (bK z) (ev ρ l) (ev ρ c) K else False
   |_,_=>False
  |_=>False
 | .buildSlice t len ps=>match P.underlying t with
  |some (.slice e)=>match P.info? e,iP P e with
   |some i,some z=>bif Nat.ble (len*i.size) 16777216 && (Nat.beq (bK z).length i.size && Nat.ble 1 i.size) then aY H e len (eJ (bK z) len) (nr i.size (D4 ρ ps.toList)) K else False
   |_,_=>False
  |_=>False
 | .convert s d x=>match P.underlying s,P.underlying d with
  |some .string,some (.slice e)=>match P.underlying e with
   |some (.int .u8)=>G3 H e (ev ρ x) K
   |_=>False
  |some (.slice e),some (.slice _)=>match P.underlying e with
   |some (.int .u8)=>bif Nat.beq s d then MQ H (ev ρ x) K else False
   |_=>False
  |_,_=>False
 | .mapUpdate t m k v=>match P.underlying t with
  |some (.map kt _)=>match P.underlying kt with
   |some (.int _)=>ie H 0 (ev ρ m) (ev ρ k) (ev ρ v) K
   |some .string=>ie H 1 (ev ρ m) (ev ρ k) (ev ρ v) K
   |_=>False
  |_=>False
 | .call c=>match c.callee with
  | .value f=>match f with
   | .func g=>bif jT g C then fP P g (MJ ρ c.args.toList).toArray H K else False
   |f=>jk P C (ev ρ f) (MJ ρ c.args.toList) H K
  | .builtin b=>D8 P ρ b c.argTypes.toList c.args.toList H K
  |_=>False
 | .makeChan t n=>tW H P (Instr.makeChan t (ev ρ n)) K
 | .range t x=>tW H P (Instr.range t (ev ρ x)) K
 | .next it s=>tW H P (Instr.next (ev ρ it) s ty) K
 | .entry it=>tW H P (Instr.entry (ev ρ it)) K
 | .mapEntry t m k=>tW H P (Instr.mapEntry t (ev ρ m) (ev ρ k)) K
 | .entryStore t m s v=>tW H P (do Instr.entryStore t (ev ρ m) (ev ρ s) (ev ρ v);pure undef) (fun _=>K undef)
 |_=>False
def P7 (C:List Nat) (o:Oper) (H:ai) (K:Value→ai→Prop):Prop:=match cls P o.op with
 |0=>XS P ρ o.op fun v=>K v H
 |1=>SB P ρ o.op H fun v=>K v H
 |_=>PG P ρ C o.op o.type H K
end
inductive l9 where
 |nil
 |op (i:Nat) (st:List Nat) (r:l9)
 |G4 (c:Nat) (body:l9) (p:Nat) (r:l9)
 |fork (a b:l9)
def P8:Nat→Nat→l9→l9
 |_,0,r=>r
 |i,n+1,r=> .op i [] (P8 (i+1) n r)
def Z8:Nat→Nat→List Nat→List Nat
 |_,0,r=>r
 |a,n+1,r=>a::Z8 (a+1) n r
def bt (ops:List Oper):l9→List Nat
 | .nil=> []
 | .op i _ r=>match ops[i]? with
  |some o=>match o.dst with
   |some d=>d::bt ops r
   |none=>bt ops r
  |none=>bt ops r
 | .G4 _ b p r=>bt ops b++ (match ops[p]? with
  |some o=>match o.dst with
   |some d=>d::bt ops r
   |none=>bt ops r
  |none=>bt ops r)
 | .fork a b=>bt ops a++bt ops b
def bZ (x:Value) (body: (Value→ai→Prop)→Prop) (H:ai) (K:Value→ai→Prop):Prop:=match x with
 | .bool a=> ∃J:Value→ai→Prop,(∀v H',J v H' →K v H')∧(a=false→J (.bool false) H)∧(a=true→body J)
 |_=>False
def d_ (x:Value) (body: (Value→ai→Prop)→Prop) (H:ai) (K:Value→ai→Prop):Prop:=match x with
 | .bool a=> ∃J:Value→ai→Prop,(∀v H',J v H' →K v H')∧(a=true→J (.bool true) H)∧(a=false→body J)
 |_=>False
section
variable (P:Program) (C:List Nat) (ops:List Oper)
def Cg (ρ:Env) (H:ai) (j:Nat):Prop:=match ops[j]? with
 |some o=>match o.dst with
  |some d=>SB P ρ o.op H fun v=>v=ρ d
  |none=>False
 |none=>False
def Ju (ρ:Env) (H:ai) (X:Prop):List Nat→Prop
 | []=>X
 |j::r=>Cg P ops ρ H j∧Ju ρ H X r
def A4:l9→Env→ai→(Env→ai→Prop)→Prop
 | .nil,ρ,H,K=>K ρ H
 | .op i st r,ρ,H,K=>match ops[i]? with
  |some o=>P7 P ρ C o H fun v H' =>Ju P ops ρ H' (A4 r (ρ.put o.dst v) H' K) st
  |none=>False
 | .G4 _ body p r,ρ,H,K=>match ops[p]? with
  |some o=>match o.op with
   | .pick (.tmp t) (.tmp u) (.const (.bool false))=>
    bZ (ρ t) (fun J=>A4 body ρ H fun ρ' H' =>J (ρ' u) H') H fun v H' => ∀oS:Env,A4 r ((ρ.mix oS (bt ops body)).put o.dst v) H' K
   | .pick (.tmp t) (.const (.bool true)) (.tmp u)=>
    d_ (ρ t) (fun J=>A4 body ρ H fun ρ' H' =>J (ρ' u) H') H fun v H' => ∀oS:Env,A4 r ((ρ.mix oS (bt ops body)).put o.dst v) H' K
   |_=>False
  |none=>False
 | .fork a b,ρ,H,K=>A4 a ρ H K∧A4 b ρ H K
end
inductive sq where
 |leaf
 |Ul (p:l9)
 |WX (Bs:List Nat) (p:l9)
 |seq (a b:sq)
 |cut (gY wr:List Nat) (a b:sq)
 |cond (a b:sq)
 |block (a:sq)
 |loop (gY wr:List Nat) (a:sq)
 |inv (Bs:List Nat) (js:List (List Nat)) (fin:List Nat)
def ao (x:Value) (A B:Prop):Prop:=match x with
 | .bool b=> (b=true→A)∧(b=false→B)
 |_=>False
def Jv:List Nat→Type
 | []=>ai→Prop
 |_::s=>Value→Jv s
def l_: (s:List Nat)→Jv s→Env→ai→Prop
 | [],J,_,H=>J H
 |t::s,J,ρ,H=>l_ s (J (ρ t)) ρ H
def G5:List Nat→Env→(Env→Prop)→Prop
 | [],ρ,K=>K ρ
 |t::s,ρ,K=> ∀v:Value,G5 s (ρ.PF t v) K
def iQ:List Oper→List Nat
 | []=> []
 |o::r=>match o.dst with
  |some d=>d::iQ r
  |none=>iQ r
def slotsOf (ops:List Oper):List Nat→List Nat
 | []=> []
 |j::r=>match ops[j]? with
  |some o=>match o.dst with
   |some d=>d::slotsOf ops r
   |none=>slotsOf ops r
  |none=>slotsOf ops r
def Kl (ops:List Oper) (V:Nat→Value→ai→Prop) (ρ:Env) (H:ai) (X:Prop):List Nat→Prop
 | []=>X
 |j::r=>match ops[j]? with
  |some o=>match o.dst with
   |some d=>V j (ρ d) H→Kl ops V ρ H X r
   |none=>False
  |none=>False
def WY (P:Program) (C:List Nat) (ops:List Oper) (V:Nat→Value→ai→Prop) (ρ:Env) (H:ai) (X:Prop):Nat→List Oper→List (List Nat)→Prop
 |i,o::r,js::t=> (∀oS:Env,G5 (slotsOf ops js) (ρ.mix oS (iQ ops)) fun ρ' => ∀H' :ai,Ext H H' →Kl ops V ρ' H' (P7 P ρ' C o H' fun v Km =>Ext H' Km ∧V i v Km) js)∧WY P C ops V ρ H X (i+1) r t
 |_,[],[]=>X
 |_,_,_=>False
def G6:List Nat→Type
 | []=>ai→Nat
 |_::s=>Value→G6 s
def Jw: (s:List Nat)→G6 s→Env→ai→Nat
 | [],J,_,H=>J H
 |t::s,J,ρ,H=>Jw s (J (ρ t)) ρ H
inductive Ex where
 |normal
 |exit (id:Nat)
 |ret
def vc (P:Program) (C:List Nat):Code→sq→Env→ai→(Ex→Env→ai→Prop)→Prop
 | .skip,_,ρ,H,Q=>Q .normal ρ H
 | .ret,_,ρ,H,Q=>Q .ret ρ H
 | .exit id,_,ρ,H,Q=>Q (.exit id) ρ H
 | .label _,_,ρ,H,Q=>Q .normal ρ H
 | .scope x,a,ρ,H,Q=>vc P C x a ρ H Q
 | .region _ ops _,.Ul p,ρ,H,Q=>A4 P C ops.toList p ρ H (Q .normal)
 | .region _ ops _,.WX _ p,ρ,H,Q=>A4 P C ops.toList p ρ H (Q .normal)
 | .region _ ops _,.inv _ js fin,ρ,H,Q=> ∃V:Nat→Value→ai→Prop,(∀i v H1 H2,Ext H1 H2→V i v H1→V i v H2)∧
   WY P C ops.toList V ρ H (∀oS:Env,G5 (slotsOf ops.toList fin) (ρ.mix oS (iQ ops.toList)) fun ρ' => ∀H' :ai,Ext H H' →Kl ops.toList V ρ' H' (Q .normal ρ' H') fin) 0 ops.toList js
 | .seq x y,.seq a b,ρ,H,Q=>vc P C x a ρ H fun e ρ' H' =>match e with
  | .normal=>vc P C y b ρ' H' Q
  |e=>Q e ρ' H'
 | .seq x y,.cut gY wr a b,ρ,H,Q=> ∃J:Jv gY,
   (∀oS:Env,G5 gY (ρ.mix oS wr) fun ρ' => ∀H' :ai,l_ gY J ρ' H' →vc P C y b ρ' H' Q)∧
   vc P C x a ρ H fun e ρ' H' =>match e with
    | .normal=>l_ gY J ρ' H'
    |e=>Q e ρ' H'
 | .cond c x y,.cond a b,ρ,H,Q=>ao (ev ρ c) (vc P C x a ρ H Q) (vc P C y b ρ H Q)
 | .block id x,.block a,ρ,H,Q=>vc P C x a ρ H fun e ρ' H' =>match e with
  | .exit k=>bif Nat.beq k id then Q .normal ρ' H' else Q (.exit k) ρ' H'
  |e=>Q e ρ' H'
 | .loop x,.loop gY wr a,ρ,H,Q=> ∃ (I:Jv gY) (μ:G6 gY),l_ gY I ρ H∧
   ∀oS:Env,G5 gY (ρ.mix oS wr) fun ρ0=> ∀H0:ai,l_ gY I ρ0 H0→
    vc P C x a ρ0 H0 fun e ρ' H' =>match e with
     | .normal=>l_ gY I ρ' H' ∧Jw gY μ ρ' H' <Jw gY μ ρ0 H0
     |e=>Q e ρ' H'
 |_,_,_,_,_=>False
def D9 (P:Program) (ρ:Env) (H:ai) (K:List Value→Prop):List ResultVar→Prop
 | []=>K []
 | .tmp t::r=>D9 P ρ H (fun l=>K (ρ t::l)) r
 | .cell a t::r=>match P.underlying t,P.info? t with
  |some _,some i=>bif dU P t then aE H i.size (ρ a) (fun v=>D9 P ρ H (fun l=>K (v::l)) r) else ak H (ρ a) (fun v=>D9 P ρ H (fun l=>K (v::l)) r)
  |_,_=>False
def D_:List Value→Value
 | [v]=>v
 |l=> .tuple l.toArray
def Ch (args:List Value):Env:=fun t=>match args[t]? with
 |some v=>v
 |none=>undef
def MR (P:Program) (C:List Nat) (fn:Func) (a:sq) (args:List Value) (H:ai) (R:Value→ai→Prop):Prop:=match fn.body with
 |some c=>vc P C c a (Ch args) H fun e ρ H' =>match e with
  | .exit _=>False
  |_=>D9 P ρ H' (fun l=>R (D_ l) H') fn.results.toList
 |none=>False
end
section
section
variable {P:Program}
theorem a_ {t:TypeId} {d:TypeDesc} (h:P.underlying t=some d) (w:World): (underlying t).run P w= .ok d w:=run_underlying h w
theorem kV {t:TypeId} {i:TypeInfo} (h:P.info? t=some i) (w:World): (typeInfo t).run P w= .ok i w:=by
 simp [typeInfo,h]
theorem cT {t:TypeId} {i:TypeInfo} (h:P.info? t=some i) (w:World): (Go.sizeOf t).run P w= .ok i.size w:=by
 simp [Go.sizeOf,kV h]
theorem iR {t:TypeId} {i:TypeInfo} {z:Value} (h:P.info? t=some i) (hz:i.zero=some z) (w:World): (zeroValue t).run P w= .ok z w:=by
 simp [zeroValue,kV h,hz]
theorem p9 {t:TypeId} {d:TypeDesc} (h:P.underlying t=some d) (w:World): (isAgg t).run P w= .ok (dU P t) w:=by
 simp only [isAgg,Sem.run_bind,a_ h,Result.andThen_ok,dU,h]
 cases d<;>rfl
theorem fm {t:TypeId} {z:Value} (h:iP P t=some z): ∃i,P.info? t=some i∧i.zero=some z:=by
 unfold iP at h
 cases hi:P.info? t with
 |none=>simp [hi] at h
 |some i=>exact⟨i,rfl,by simpa [hi] using h⟩
theorem vl {op:BinOp} {t:TypeId} {x y:Operand} {a b:Value} {c:Bool} {k:Nat} (h:kT k a b=some c) (w:World): (eqGuard op t x y a b).run P w= .ok () w:=by
 unfold eqGuard
 cases a<;>cases b<;>simp [kT] at h<;>simp
theorem Ci {op:BinOp} {t:TypeId} {x y:Operand} {a b:Value} (h:op≠ .eql∧op≠ .neq) (w:World): (eqGuard op t x y a b).run P w= .ok () w:=by
 unfold eqGuard
 cases op<;>simp_all
def fo (P:Program) (op:BinOp) (t:TypeId) (x y:Operand) (a b:Value) (K:Value→Prop):Prop:=
 ∃v,(∀w,(do eqGuard op t x y a b;binOp op t a b:Sem Value).run P w= .ok v w)∧K v
theorem fo.of {op:BinOp} {t:TypeId} {x y:Operand} {a b v:Value} {K:Value→Prop} (tU:op≠ .eql∧op≠ .neq) (h: ∀w,(binOp op t a b).run P w= .ok v w) (hv:K v):fo P op t x y a b K:=
 ⟨v,fun w=>by simp only [Sem.run_bind,Ci tU,Result.andThen_ok,h],hv⟩
theorem G7 (a b:ByteArray): (⟨(fL a++fL b).toArray⟩:ByteArray)=a++b:=by
 cases a;cases b;simp [fL,ajj,ByteArray.data_append]
theorem eK (a:ByteArray): (fL a).length=a.size:=by cases a;simp [fL,ByteArray.size]
theorem G8 (s:ByteArray):s.toList=fL s:=by
 have hl: ∀ (n i:Nat) (r:List UInt8),s.size - i=n→ByteArray.toList.loop s i r=r.reverse++ (fL s).drop i:=by
  intro n
  induction n with
  |zero=>
   intro i r h;unfold ByteArray.toList.loop;rw [if_neg (by omega),ah2 (by rw [eK];omega),agy]
  |succ n ih=>
   intro i r h;unfold ByteArray.toList.loop;rw [if_pos (by omega),ih (i+1) _ (by omega)];have hi:i< (fL s).length:=by rw [eK];omega
   rw [ag4 hi,List.reverse_cons,agc,List.singleton_append]
   congr 2
   cases s
   simp [fL,ByteArray.get!] at hi ⊢
   simp [hi]
 have:=hl s.size 0 [] (by omega)
 simpa [ByteArray.toList] using this
theorem SC (a b:ByteArray): (a.toList==b.toList)=decide (fL a=fL b):=by
 have h: ∀s:ByteArray,s.toList=fL s:=G8;rw [h,h]
 by_cases e:fL a=fL b<;>simp [e]
theorem P9 {a b:ByteArray}:fL a=fL b↔a=b:=by
 constructor
 ·intro h;cases a;cases b;simp [fL] at h;simp [h]
 ·rintro rfl;rfl
theorem ma (a b:ByteArray): (a==b)=decide (fL a=fL b):=by
 have h: (a==b)= (a.data==b.data):=by cases a;cases b;rfl
 rw [h,ahm]
 simp [fL]
variable {t:TypeId} {x y:Operand} {a b:Value} {K:Value→Prop}
theorem MS (h:aG a b K):fo P .add t x y a b K:=by
 cases a<;>cases b<;>simp only [aG] at h
 ·obtain⟨rfl,hk⟩:=h
  exact .of (by simp) (fun w=>by simp [binOp,Op.intArith]) hk
 ·obtain⟨hs,hk⟩:=h
  refine .of (by simp) (fun w=>?_) hk
  rename_i a b
  have hm:IntKind.i64.max=9223372036854775807:=by decide
  have: ¬ ((a.size+b.size:Nat):Int)>IntKind.i64.max:=by rw [hm];omega
  simp only [binOp,Op.stringOp,if_neg this,str,G7]
  rfl
theorem MT (h:bY a b K):fo P .sub t x y a b K:=by
 cases a<;>cases b<;>simp only [bY] at h
 obtain⟨rfl,hk⟩:=h;exact .of (by simp) (fun w=>by simp [binOp,Op.intArith]) hk
theorem MU (h:qE a b K):fo P .mul t x y a b K:=by
 cases a<;>cases b<;>simp only [qE] at h
 obtain⟨rfl,hk⟩:=h;exact .of (by simp) (fun w=>by simp [binOp,Op.intArith]) hk
theorem MV (h:rh a b K):fo P .quo t x y a b K:=by
 cases a<;>cases b<;>simp only [rh] at h
 obtain⟨rfl,h0,hk⟩:=h;exact .of (by simp) (fun w=>by simp [binOp,Op.intDiv,h0]) hk
theorem MW (h:l8 a b K):fo P .rem t x y a b K:=by
 cases a<;>cases b<;>simp only [l8] at h
 obtain⟨rfl,h0,hk⟩:=h;exact .of (by simp) (fun w=>by simp [binOp,Op.intDiv,h0]) hk
theorem p_ {op:BinOp} (tU:op= .and∨op= .or∨op= .xor∨op= .andNot) (h:cx op a b K):fo P op t x y a b K:=by
 cases a<;>cases b<;>simp only [cx] at h
 obtain⟨rfl,hk⟩:=h;rcases tU with rfl|rfl|rfl|rfl<;>exact .of (by simp) (fun w=>by simp [binOp,Op.intBits,bitsOf]) hk
theorem MX (h:jv a b K):fo P .shl t x y a b K:=by
 cases a<;>cases b<;>simp only [jv] at h
 obtain⟨h0,hk⟩:=h;exact .of (by simp) (fun w=>by simp only [binOp,Op.shift];rw [if_neg (by omega)];rfl) hk
theorem MY (h:mo a b K):fo P .shr t x y a b K:=by
 cases a<;>cases b<;>simp only [mo] at h
 obtain⟨h0,hk⟩:=h;exact .of (by simp) (fun w=>by simp only [binOp,Op.shift];rw [if_neg (by omega)];rfl) hk
theorem P_ (h:cq a b K):fo P .lss t x y a b K:=by
 cases a<;>cases b<;>simp only [cq] at h
 obtain⟨rfl,hk⟩:=h;exact .of (by simp) (fun w=>by simp [binOp,Op.intCmp]) hk
theorem Qa (h:vk a b K):fo P .leq t x y a b K:=by
 cases a<;>cases b<;>simp only [vk] at h
 obtain⟨rfl,hk⟩:=h;exact .of (by simp) (fun w=>by simp [binOp,Op.intCmp]) hk
theorem Qb (h:dW a b K):fo P .gtr t x y a b K:=by
 cases a<;>cases b<;>simp only [dW] at h
 obtain⟨rfl,hk⟩:=h;exact .of (by simp) (fun w=>by simp [binOp,Op.intCmp]) hk
theorem Qc (h:lB a b K):fo P .geq t x y a b K:=by
 cases a<;>cases b<;>simp only [lB] at h
 obtain⟨rfl,hk⟩:=h;exact .of (by simp) (fun w=>by simp [binOp,Op.intCmp]) hk
theorem Qd {c:Bool} (h:kT 0 a b=some c): ∃k m n,a= .int k m∧b= .int k n∧c=decide (m=n):=by
 cases a<;>simp only [kT,reduceCtorEq] at h
 cases b<;>simp only [kT,reduceCtorEq] at h
 split at h
 ·rename_i e;subst e;exact⟨_,_,_,rfl,rfl,by simpa using h.symm⟩
 ·simp at h
theorem Qe {c:Bool} (h:kT 1 a b=some c): ∃s t,a= .string s∧b= .string t∧c=decide (fL s=fL t):=by
 cases a<;>simp only [kT,reduceCtorEq] at h
 cases b<;>simp only [kT,reduceCtorEq] at h
 exact⟨_,_,rfl,rfl,by simpa using h.symm⟩
theorem UX {c:Bool} (h:kT 2 a b=some c): ∃s t,a= .bool s∧b= .bool t∧c=decide (s=t):=by
 cases a<;>simp only [kT,reduceCtorEq] at h
 cases b<;>simp only [kT,reduceCtorEq] at h
 exact⟨_,_,rfl,rfl,by simpa using h.symm⟩
theorem kW {d:TypeDesc} {n k:Nat} {c:Bool} (hu:P.underlying t=some d) (hd:kU d=some k) (h:kT k a b=some c) (w:World):
  (Op.equalIn (n+1) t a b).run P w= .ok c w:=by
 have hr:=a_ hu
 cases d<;>simp only [kU,reduceCtorEq,agf] at hd<;>subst hd
 case bool=>
  obtain⟨s,t,rfl,rfl,rfl⟩:=UX h
  simp [Op.equalIn,hr];cases s<;>cases t<;>rfl
 case int=>
  obtain⟨k,m,n,rfl,rfl,rfl⟩:=Qd h
  simp [Op.equalIn,hr]
  rw [ahm];simp
 case string=>
  obtain⟨s,t,rfl,rfl,rfl⟩:=Qe h
  simp [Op.equalIn,hr,ma]
 case pointer=>
  cases a<;> (try simp only [kT,reduceCtorEq] at h)
  rename_i p
  cases p<;>cases b<;> (try simp only [kT,reduceCtorEq] at h)
  ·simp [Op.equalIn,hr];simpa using h
  ·rename_i p q;cases q<;>simp [kT] at h
   subst h;simp [Op.equalIn,hr]
 case slice=>
  cases a<;> (try simp only [kT,reduceCtorEq] at h)
  rename_i p _ _
  cases p<;>cases b<;> (try simp only [kT,reduceCtorEq] at h)
  ·simp [Op.equalIn,hr];simpa using h
  ·rename_i q _ _;cases q<;>simp [kT] at h
   subst h;simp [Op.equalIn,hr]
 case map=>
  cases a<;> (try simp only [kT,reduceCtorEq] at h)
  rename_i p
  cases p<;>cases b<;> (try simp only [kT,reduceCtorEq] at h)
  ·simp [Op.equalIn,hr];simpa using h
  ·rename_i q;cases q<;>simp [kT] at h
   subst h;simp [Op.equalIn,hr]
theorem A5 {d:TypeDesc} {k:Nat} {c:Bool} (hu:P.underlying t=some d) (hd:kU d=some k) (h:kT k a b=some c) (w:World):
  (binOp .eql t a b).run P w= .ok (.bool c) w∧(binOp .neq t a b).run P w= .ok (.bool !c) w:=by
 have he:=kW (n:=9999) hu hd h w
 cases d<;>simp only [kU,reduceCtorEq,agf] at hd<;>subst hd
 case bool=>obtain⟨s,t,rfl,rfl,rfl⟩:=UX h;constructor<;>simp only [binOp,Op.equal,Op.maxDepth,Sem.run_bind,he,Result.andThen_ok]<;>rfl
 case int=>
  obtain⟨k,m,n,rfl,rfl,rfl⟩:=Qd h;have: (m==n)=decide (m=n):=by rw [ahm];simp
  constructor<;>simp [binOp,Op.intCmp,bne,this]
 case string=>
  obtain⟨s,t,rfl,rfl,rfl⟩:=Qe h
  constructor<;>simp [binOp,Op.stringOp,SC]
 case pointer=>
  cases a<;> (try simp only [kT,reduceCtorEq] at h)
  cases b<;> (try simp only [kT,reduceCtorEq] at h)
  constructor<;>simp only [binOp,Op.equal,Op.maxDepth,Sem.run_bind,he,Result.andThen_ok]<;>rfl
 case slice=>
  cases a<;> (try simp only [kT,reduceCtorEq] at h)
  cases b<;> (try simp only [kT,reduceCtorEq] at h)
  constructor<;>simp only [binOp,Op.equal,Op.maxDepth,Sem.run_bind,he,Result.andThen_ok]<;>rfl
 case map=>
  cases a<;> (try simp only [kT,reduceCtorEq] at h)
  cases b<;> (try simp only [kT,reduceCtorEq] at h)
  constructor<;>simp only [binOp,Op.equal,Op.maxDepth,Sem.run_bind,he,Result.andThen_ok]<;>rfl
theorem Qf {d:TypeDesc} {k:Nat} (hu:P.underlying t=some d) (hd:kU d=some k) (h:cu k a b K):fo P .eql t x y a b K:=by
 unfold cu at h
 split at h
 ·rename_i c hc
  exact⟨_,fun w=>by simp only [Sem.run_bind,vl hc,Result.andThen_ok,(A5 hu hd hc w).1],h⟩
 ·exact h.elim
theorem Qg {d:TypeDesc} {k:Nat} (hu:P.underlying t=some d) (hd:kU d=some k) (h:ea k a b K):fo P .neq t x y a b K:=by
 unfold ea at h
 split at h
 ·rename_i c hc
  exact⟨_,fun w=>by simp only [Sem.run_bind,vl hc,Result.andThen_ok,(A5 hu hd hc w).2],h⟩
 ·exact h.elim
end
end
section
section
variable {P:Program} {K:Value→Prop}
theorem mu {t:TypeId} {d:TypeDesc} {cs:Array Value} {off:Nat} {v:Value} (hu:P.underlying t=some d) (ha:dU P t=false) (hv:cs[off]? =some v) (w:World):
  (part t cs off).run P w= .ok v w:=by
 simp [part,p9 hu,ha,hv]
theorem tX {t:TypeId} {d:TypeDesc} {i:TypeInfo} {cs:Array Value} {off:Nat} (hu:P.underlying t=some d) (ha:dU P t=true) (hi:P.info? t=some i) (w:World):
  (part t cs off).run P w= .ok (.agg (cs.extract off (off+i.size))) w:=by
 simp [part,p9 hu,ha,cT hi]
theorem vm {t:TypeId} {d:TypeDesc} {k:Nat} (hu:P.underlying t=some d) (hk:kU d=some k):dU P t=false:=by
 unfold dU;rw [hu];cases d<;>simp [kU] at hk<;>rfl
theorem Cj {xs ys:Array Value} (n:Nat) (w:World): ∀ (fs:List Field) (off:Nat) (ks:List Nat) (c:Bool),xz P fs off=some ks→
  cI ks (xs.toList.drop off) (ys.toList.drop off)=some c→(Op.eqFields (n+1) xs ys fs).run P w= .ok c w:=by
 intro fs
 induction fs with
 |nil=>
  intro off ks c hf hc;simp only [xz,agf] at hf;subst hf;generalize xs.toList.drop off=l at hc;generalize ys.toList.drop off=m at hc
  cases l<;>cases m<;>simp [cI] at hc
  subst hc;simp [Op.eqFields]
 |cons f r ih=>
  intro off ks c hf hc;simp only [xz] at hf
  cases h1: (Nat.beq f.offset off && f.name != "_") with
  |false=>simp [h1] at hf
  |true=>
   rw [h1] at hf;simp only [cond_true] at hf;simp only [agk,bne_iff_ne,ne_eq] at h1;obtain⟨h1,hn⟩:=h1;have h1:f.offset=off:=agR h1
   cases hu:P.underlying f.type with
   |none=>simp [hu] at hf
   |some d=>
    cases hi:P.info? f.type with
    |none=>simp [hu,hi] at hf
    |some i=>
     rw [hu,hi] at hf;simp only at hf
     cases hk:kU d with
     |none=>simp [hk] at hf
     |some k=>
      rw [hk] at hf;simp only at hf
      cases hb: (Nat.ble k 2 && Nat.beq i.size 1) with
      |false=>simp [hb] at hf
      |true=>
       rw [hb] at hf;simp only [cond_true] at hf
       cases hr:xz P r (off+1) with
       |none=>simp [hr] at hf
       |some l=>
        rw [hr] at hf;simp only [agf] at hf;subst hf
        cases hx:xs.toList.drop off with
        |nil=>simp [hx,cI] at hc
        |cons x xr=>
         cases hy:ys.toList.drop off with
         |nil=>simp [hx,hy,cI] at hc
         |cons y yr=>
          rw [hx,hy] at hc;simp only [cI] at hc
          cases he:kT k x y with
          |none=>simp [he] at hc
          |some b=>
           rw [he] at hc;simp only at hc
           cases tV:cI l xr yr with
           |none=>simp [tV] at hc
           |some c' =>
            rw [tV] at hc;simp only [agf] at hc;subst hc;have gx:xs[off]? =some x:=by
             have:=congrArg (·[0]?) hx;simpa using this
            have gy:ys[off]? =some y:=by
             have:=congrArg (·[0]?) hy;simpa using this
            have dx:xs.toList.drop (off+1)=xr:=by rw [←ahc,hx];rfl
            have dy:ys.toList.drop (off+1)=yr:=by rw [←ahc,hy];rfl
            have Ck:=ih (off+1) l c' hr (by rw [dx,dy];exact tV);have na:=vm hu hk;simp only [Op.eqFields,if_pos hn,Sem.run_bind,h1,mu hu na gx,mu hu na gy,Result.andThen_ok,kW hu hk he,Sem.run_ite,Ck]
            cases b<;>simp
theorem vn: ∀ {ks l:List Nat} {xs ys:List Value} {c:Bool},cI (ks++l) xs ys=some c→∃a b,cI ks (xs.take ks.length) (ys.take ks.length)=some a∧cI l (xs.drop ks.length) (ys.drop ks.length)=some b∧c= (a && b)
 | [],l,xs,ys,c,h=> ⟨true,c,rfl,h,rfl⟩
 |k::ks,l,[],ys,c,h=>by simp [cI] at h
 |k::ks,l,_::_,[],c,h=>by simp [cI] at h
 |k::ks,l,x::xs,y::ys,c,h=>by
  simp only [ahd,cI] at h
  cases he:kT k x y with
  |none=>simp [he] at h
  |some b=>
   rw [he] at h;simp only at h
   cases hr:cI (ks++l) xs ys with
   |none=>simp [hr] at h
   |some d=>
    rw [hr] at h;simp only [agf] at h;obtain⟨a,e,h1,h2,h3⟩:=vn hr;refine⟨b && a,e,?_,h2,by rw [←h,h3,Bool.and_assoc]⟩;simp only [agi,ahf,cI,he,h1]
theorem qT {xs ys:Array Value} (n:Nat) (w:World): ∀ (fs:List Field) (off:Nat) (ks:List Nat) (c:Bool),sj P fs off=some ks→
  cI ks (xs.toList.drop off) (ys.toList.drop off)=some c→(Op.eqFields (n+2) xs ys fs).run P w= .ok c w:=by
 intro fs
 induction fs with
 |nil=>
  intro off ks c hf hc;simp only [sj,agf] at hf;subst hf;generalize xs.toList.drop off=l at hc;generalize ys.toList.drop off=m at hc
  cases l<;>cases m<;>simp [cI] at hc
  subst hc;simp [Op.eqFields]
 |cons f r ih=>
  intro off ks c hf hc;rw [sj] at hf
  cases h1: (Nat.beq f.offset off && f.name != "_") with
  |false=>simp [h1] at hf
  |true=>
   rw [h1] at hf;simp only [cond_true] at hf;simp only [agk,bne_iff_ne,ne_eq] at h1;obtain⟨h1,hn⟩:=h1;have h1:f.offset=off:=agR h1
   cases hu:P.underlying f.type with
   |none=>simp [hu] at hf
   |some d=>
    cases hi:P.info? f.type with
    |none=>cases d<;>simp [hu,hi] at hf
    |some i=>
     by_cases jM: ∃gs,d= .struct gs
     ·obtain⟨gs,rfl⟩:=jM
      rw [hu,hi] at hf;simp only at hf
      cases hh:P.stoodInHeld f.type with
      |true=>simp [hh] at hf
      |false=>
       rw [hh] at hf;simp only [cond_false] at hf
       cases hk:xz P gs.toList 0 with
       |none=>simp [hk] at hf
       |some k=>
        rw [hk] at hf;simp only at hf
        cases hb:Nat.beq k.length i.size with
        |false=>simp [hb] at hf
        |true=>
         rw [hb] at hf;simp only [cond_true] at hf;have kg:k.length=i.size:=agR hb
         cases hr:sj P r (off+i.size) with
         |none=>simp [hr] at hf
         |some l=>
          rw [hr] at hf;simp only [agf] at hf;subst hf;obtain⟨a,b,g1,g2,rfl⟩:=vn hc;rw [ahc,ahc,kg] at g2;have Ck:=ih (off+i.size) l b hr g2;have na:dU P f.type=true:=by unfold dU;rw [hu]
          have hs:P.underlying f.type=some (.struct (P.fieldsOf f.type)):=by simp [Program.fieldsOf,hu]
          have My: (P.fieldsOf f.type).toList=gs.toList:=by simp [Program.fieldsOf,hu]
          have dz:=run_equalIn_struct (P:=P) w (n+1) f.type (xs.extract off (off+i.size)) (ys.extract off (off+i.size)) hs hh;have e0: ∀zs:Array Value,(zs.extract off (off+i.size)).toList.drop 0= (zs.toList.drop off).take k.length:=fun zs=>by
           rw [agS,Array.toList_extract,List.extract_eq_take_drop,kg,aiF]
          rw [My,Cj n w gs.toList 0 k a hk (by rw [e0,e0];exact g1)] at dz;simp only [Op.eqFields,if_pos hn,Sem.run_bind,h1,tX hu na hi,Result.andThen_ok,dz,Sem.run_ite,Ck]
          cases a<;>simp
     ·have hf: (match kU d with
       |some k=>bif Nat.ble k 2 && Nat.beq i.size 1 then match sj P r (off+1) with
        |some l=>some (k::l)
        |none=>none
        else none
       |none=>none)=some ks:=by
       rw [hu,hi] at hf
       cases d<;>first|exact hf|exact absurd ⟨_,rfl⟩ jM
      cases hk:kU d with
      |none=>simp [hk] at hf
      |some k=>
       rw [hk] at hf;simp only at hf
       cases hb: (Nat.ble k 2 && Nat.beq i.size 1) with
       |false=>simp [hb] at hf
       |true=>
        rw [hb] at hf;simp only [cond_true] at hf
        cases hr:sj P r (off+1) with
        |none=>simp [hr] at hf
        |some l=>
         rw [hr] at hf;simp only [agf] at hf;subst hf
         cases hx:xs.toList.drop off with
         |nil=>simp [hx,cI] at hc
         |cons x xr=>
          cases hy:ys.toList.drop off with
          |nil=>simp [hx,hy,cI] at hc
          |cons y yr=>
           rw [hx,hy] at hc;simp only [cI] at hc
           cases he:kT k x y with
           |none=>simp [he] at hc
           |some b=>
            rw [he] at hc;simp only at hc
            cases tV:cI l xr yr with
            |none=>simp [tV] at hc
            |some c' =>
             rw [tV] at hc;simp only [agf] at hc;subst hc;have gx:xs[off]? =some x:=by
              have:=congrArg (·[0]?) hx;simpa using this
             have gy:ys[off]? =some y:=by
              have:=congrArg (·[0]?) hy;simpa using this
             have dx:xs.toList.drop (off+1)=xr:=by rw [←ahc,hx];rfl
             have dy:ys.toList.drop (off+1)=yr:=by rw [←ahc,hy];rfl
             have Ck:=ih (off+1) l c' hr (by rw [dx,dy];exact tV);have na:=vm hu hk;simp only [Op.eqFields,if_pos hn,Sem.run_bind,h1,mu hu na gx,mu hu na gy,Result.andThen_ok,kW hu hk he,Sem.run_ite,Ck]
             cases b<;>simp
theorem MZ {t:TypeId} {x y:Operand} {a b:Value} {ks:List Nat} (hf:A3 P t=some ks) (h:GZ ks a b K):fo P .eql t x y a b K:=by
 cases a<;>simp only [GZ] at h
 cases b<;>simp only [GZ] at h
 rename_i xs ys
 unfold A3 at hf
 cases hu:P.underlying t with
 |none=>simp [hu] at hf
 |some d=>
  rw [hu] at hf
  cases d<;>simp only [reduceCtorEq] at hf
  rename_i fs
  cases hb: (P.stoodInHeld t||P.eqGuardType P.depth t) with
  |true=>simp [hb] at hf
  |false=>
   rw [hb] at hf;simp only [cond_false] at hf;simp only [ahA] at hb
   cases hc:cI ks xs.toList ys.toList with
   |none=>simp [hc] at h
   |some c=>
    rw [hc] at h;refine⟨_,fun w=>?_,h⟩;have hs:P.underlying t=some (.struct (P.fieldsOf t)):=by simp [Program.fieldsOf,hu]
    have My: (P.fieldsOf t).toList=fs.toList:=by simp [Program.fieldsOf,hu]
    have:=run_equalIn_struct (P:=P) w 9999 t xs ys hs hb.1;rw [My,qT 9997 w fs.toList 0 ks c hf (by simpa using hc)] at this;simp only [Sem.run_bind,run_eqGuard_agg w .eql t x y xs ys hb.2,Result.andThen_ok,run_eql_struct,this]
theorem M5 {t:TypeId} {x y:Operand} {a b:Value} {ks:List Nat} (hf:A3 P t=some ks) (h:G0 ks a b K):fo P .neq t x y a b K:=by
 cases a<;>simp only [G0] at h
 cases b<;>simp only [G0] at h
 rename_i xs ys
 unfold A3 at hf
 cases hu:P.underlying t with
 |none=>simp [hu] at hf
 |some d=>
  rw [hu] at hf
  cases d<;>simp only [reduceCtorEq] at hf
  rename_i fs
  cases hb: (P.stoodInHeld t||P.eqGuardType P.depth t) with
  |true=>simp [hb] at hf
  |false=>
   rw [hb] at hf;simp only [cond_false] at hf;simp only [ahA] at hb
   cases hc:cI ks xs.toList ys.toList with
   |none=>simp [hc] at h
   |some c=>
    rw [hc] at h;refine⟨_,fun w=>?_,h⟩;have hs:P.underlying t=some (.struct (P.fieldsOf t)):=by simp [Program.fieldsOf,hu]
    have My: (P.fieldsOf t).toList=fs.toList:=by simp [Program.fieldsOf,hu]
    have:=run_equalIn_struct (P:=P) w 9999 t xs ys hs hb.1;rw [My,qT 9997 w fs.toList 0 ks c hf (by simpa using hc)] at this;simp only [Sem.run_bind,run_eqGuard_agg w .neq t x y xs ys hb.2,Result.andThen_ok,run_neq_struct,this]
def kx (P:Program) (s:Sem Value) (K:Value→Prop):Prop:= ∃v,(∀w,s.run P w= .ok v w)∧K v
theorem xA {t:TypeId} {fs:Array Field} {f:Nat} {fd:Field} {i:TypeInfo} {x:Value} (hu:P.underlying t=some (.struct fs)) (hf:fs.toList[f]? =some fd)
  (hi:P.info? fd.type=some i) (h0:Nat.beq i.size 0=false) (h:aa fd.offset x K):kx P (Instr.fieldAt t x f) K:=by
 cases x<;>simp only [aa] at h
 rename_i a
 cases a<;>simp only [aa] at h
 refine⟨_,fun w=>?_,h⟩;have DX :fs[f]? =some fd:=by simpa using hf
 have df:i.size≠0:=by intro e;rw [e] at h0;exact absurd h0 (by decide)
 simp [Instr.fieldAt,a_ hu,DX,Instr.sureAddr,fieldPlace,cT hi,df]
theorem Ea {t:TypeId} {fs:Array Field} {f:Nat} {fd:Field} {d:TypeDesc} {x:Value} (hu:P.underlying t=some (.struct fs)) (hf:fs.toList[f]? =some fd)
  (hd:P.underlying fd.type=some d) (h0:dU P fd.type=false) (h:ic fd.offset x K):kx P (Instr.field t x f) K:=by
 cases x<;>simp only [ic] at h
 split at h
 ·rename_i cs v hv
  refine⟨v,fun w=>?_,h⟩;have DX :fs[f]? =some fd:=by simpa using hf
  simp [Instr.field,a_ hu,DX,asAgg,mu hd h0 (v:=v) (by simpa using hv)]
 ·exact h.elim
theorem Eb {t:TypeId} {fs:Array Field} {f:Nat} {fd:Field} {d:TypeDesc} {i:TypeInfo} {x:Value} (hu:P.underlying t=some (.struct fs)) (hf:fs.toList[f]? =some fd)
  (hd:P.underlying fd.type=some d) (hi:P.info? fd.type=some i) (h0:dU P fd.type=true) (h:Cf fd.offset i.size x K):kx P (Instr.field t x f) K:=by
 cases x<;>simp only [Cf] at h
 rename_i cs
 refine⟨_,fun w=>?_,h⟩;have DX :fs[f]? =some fd:=by simpa using hf
 simp only [Instr.field,Sem.run_bind,a_ hu,Result.andThen_ok,DX,asAgg,Sem.run_pure,tX hd h0 hi]
 congr 2
 apply ahP
 simp [ajk,ahQ]
theorem Cl {x:Value} {i:Nat} (h:aq i x K):kx P (Instr.extract x i) K:=by
 cases x<;>simp only [aq] at h
 rename_i vs
 cases hv:vs.toList[i]? with
 |none=>simp [hv] at h
 |some v=>
  rw [hv] at h;refine⟨v,fun w=>?_,h⟩;have:vs[i]? =some v:=by simpa using hv
  simp [Instr.extract,this]
theorem Ec {t e:TypeId} {n:Nat} {ti:TypeInfo} {x i:Value} (hu:P.underlying t=some (.array n e)) (hi:P.info? e=some ti) (h:dL n ti.size x i K):kx P (Instr.indexAt t x i) K:=by
 cases x<;> (try simp only [dL] at h)
 rename_i a
 cases a<;> (try simp only [dL] at h)
 cases i<;>simp only [dL] at h
 obtain⟨h0,h1,hk⟩:=h;exact⟨_,fun w=>by simp [Instr.indexAt,asIntOf,a_ hu,Instr.sureAddr,h0,h1,cT hi],hk⟩
theorem G9 {t e:TypeId} {ti:TypeInfo} {x i:Value} (hu:P.underlying t=some (.slice e)) (hi:P.info? e=some ti) (h:aI ti.size x i K):kx P (Instr.indexAt t x i) K:=by
 cases x<;> (try simp only [aI] at h)
 rename_i a _ _
 cases a<;> (try simp only [aI] at h)
 cases i<;>simp only [aI] at h
 obtain⟨h0,h1,hk⟩:=h;exact⟨_,fun w=>by simp [Instr.indexAt,asIntOf,a_ hu,h0,h1,cT hi],hk⟩
theorem Ed {t:TypeId} {x i:Value} (hu:P.underlying t=some .string) (h:bO x i K):kx P (Instr.index t x i) K:=by
 cases x<;>simp only [bO] at h
 cases i<;>simp only [bO] at h
 obtain⟨h0,h1,hk⟩:=h
 rename_i s k j
 refine⟨_,fun w=>?_,hk⟩;have hl:j.toNat<s.size:=by rw [eK] at h1;omega
 have hg:s[j.toNat]? =some ((fL s).getD j.toNat 0):=by
  rw [agd]
  cases s with|mk d=>
  have Kn :j.toNat<d.size:=hl
  simp [fL,getElem?_def,Kn]
  exact⟨hl,rfl⟩
 simp [Instr.index,asIntOf,a_ hu,h0,hg]
theorem Ee {t e:TypeId} {n:Nat} {d:TypeDesc} {ti:TypeInfo} {x i:Value} (hu:P.underlying t=some (.array n e)) (hd:P.underlying e=some d) (hi:P.info? e=some ti) (h0:dU P e=false) (h1:Nat.beq ti.size 1=true)
  (h:np n x i K):kx P (Instr.index t x i) K:=by
 cases x<;>simp only [np] at h
 cases i<;>simp only [np] at h
 obtain⟨g0,g1,hk⟩:=h
 rename_i cs _ j
 cases hv:cs.toList[j.toNat]? with
 |none=>simp [hv] at hk
 |some v=>
  rw [hv] at hk;refine⟨v,fun w=>?_,hk⟩;have hs:ti.size=1:=agR h1
  simp [Instr.index,asIntOf,a_ hu,g0,g1,cT hi,hs,mu hd h0 (v:=v) (cs:=cs) (off:=j.toNat) (by simpa using hv)]
theorem Cm {t e:TypeId} {n:Nat} {d:TypeDesc} {ti:TypeInfo} {x i:Value} (hu:P.underlying t=some (.array n e)) (hd:P.underlying e=some d) (hi:P.info? e=some ti) (h0:dU P e=true)
  (h:jV n ti.size x i K):kx P (Instr.index t x i) K:=by
 cases x<;>simp only [jV] at h
 cases i<;>simp only [jV] at h
 obtain⟨g0,g1,hk⟩:=h
 rename_i cs _ j
 refine⟨_,fun w=>?_,hk⟩;simp only [Instr.index,asIntOf,Sem.run_bind,Sem.run_pure,a_ hu,Result.andThen_ok,cT hi];rw [if_pos ⟨g0,g1⟩,Sem.run_bind,cT hi,Result.andThen_ok,tX hd h0 hi]
 congr 2
 apply ahP
 simp [ajk,ahQ]
theorem rk {isSlice:Bool} {len cap:Nat} {lo hi:Option Value} {Kb:Nat→Nat→Prop} (h:fk len cap lo hi Kb): ∃l g,(∀w,(Instr.sliceBounds isSlice len cap lo hi none).run P w= .ok (l,g,cap) w)∧Kb l g:=by
 cases lo with
 |none=>
  cases hi with
  |none=>exact⟨0,len,fun w=>by simp [Instr.sliceBounds],h⟩
  |some b=>
   cases b<;>simp only [fk] at h
   obtain⟨h0,h1,hk⟩:=h;exact⟨_,_,fun w=>by simp [Instr.sliceBounds,Instr.sliceBound,asIntOf,h0,h1],hk⟩
 |some a=>
  cases a<;>cases hi with
  |none=>
   simp only [fk] at h<;>
   (obtain⟨h0,h1,hk⟩:=h
    exact⟨_,_,fun w=>by simp [Instr.sliceBounds,Instr.sliceBound,asIntOf,h0,h1],hk⟩)
  |some b=>
   cases b<;>simp only [fk] at h<;>
   (obtain⟨h0,h1,h2,h3,hk⟩:=h
    refine⟨_,_,fun w=>?_,hk⟩
    simp [Instr.sliceBounds,Instr.sliceBound,asIntOf,h0,h1]
    omega)
theorem G_ {t:TypeId} {x:Value} {lo hi:Option Value} (hu:P.underlying t=some .string) (h:a7 x lo hi K):kx P (Instr.sliceAt t x lo hi none) K:=by
 cases x<;>simp only [a7] at h
 rename_i s
 obtain⟨l,g,hr,hk⟩:=rk (P:=P) (isSlice:=false) h;refine⟨_,fun w=>?_,hk⟩;rw [eK] at hr;have hs:s.extract l g= ⟨(((fL s).drop l).take (g - l)).toArray⟩:=by
  cases s with|mk d=>
  simp [fL,ajj,ajl]
  apply ahP
  simp [ajk]
 simp only [Instr.sliceAt,Instr.slice,Sem.run_bind,a_ hu,Result.andThen_ok,hr,hs]
 simp [hr,hs]
theorem Ko {t e:TypeId} {ti:TypeInfo} {x:Value} {lo hi:Option Value} (hu:P.underlying t=some (.slice e)) (As :P.info? e=some ti) (h:fg ti.size x lo hi K):kx P (Instr.sliceAt t x lo hi none) K:=by
 cases x<;>simp only [fg] at h
 obtain⟨l,g,hr,hk⟩:=rk (P:=P) (isSlice:=true) h;refine⟨_,fun w=>?_,hk⟩;simp only [Instr.sliceAt,Instr.slice,Sem.run_bind,a_ hu,Result.andThen_ok,hr,cT As,Sem.run_pure]
theorem Ha {t e:TypeId} {n:Nat} {ti:TypeInfo} {x:Value} {lo hi:Option Value} (hu:P.underlying t=some (.array n e)) (As :P.info? e=some ti) (h:ri n ti.size x lo hi K):kx P (Instr.sliceAt t x lo hi none) K:=by
 cases x<;>simp only [ri] at h
 rename_i a
 cases a<;>simp only [ri] at h
 obtain⟨l,g,hr,hk⟩:=rk (P:=P) (isSlice:=false) h;refine⟨_,fun w=>?_,hk⟩;simp only [Instr.sliceAt,Sem.run_bind,a_ hu,Result.andThen_ok,hr,cT As,Sem.run_pure,Instr.sureAddr]
theorem Kp (v:List Value): ∀ (cs:Array Value) (off k:Nat),(v.zipIdx k).foldl (fun cs (x:Value × Nat)=>cs.setIfInBounds (off+x.2) x.1) cs= (iI cs.toList (off+k) v).toArray:=by
 induction v with
 |nil=>intro cs off k;simp [iI]
 |cons x r ih=>
  intro cs off k;simp only [List.zipIdx_cons,ah3,iI];rw [ih]
  congr 1
  rw [Array.toList_setIfInBounds,ahR]
theorem oV {places:Nat→Option (Nat × Nat)}: ∀ (ps:List (Nat × Nat × Value)) (parts:List (Nat × Value)) (cells:List Value),
  (∀k:Nat,(parts[k]?).map (fun p=> (places p.1,p.2))= (ps[k]?).map fun q=> (some (q.1,q.2.1),q.2.2))→
  aT cells ps K→∃cs,Instr.fill places cells.toArray parts=some cs∧K (.agg cs):=by
 intro ps
 induction ps with
 |nil=>
  intro parts cells hp h
  cases parts with
  |nil=>exact⟨_,rfl,h⟩
  |cons p r=>have:=hp 0;simp at this
 |cons q ps ih=>
  intro parts cells hp h
  cases parts with
  |nil=>have:=hp 0;simp at this
  |cons p r=>
   obtain⟨i,v⟩:=p;obtain⟨off,size,u⟩:=q;have h0:=hp 0;simp only [agB,ahD,agf,ahr] at h0;obtain⟨h0,rfl⟩:=h0;simp only [aT] at h;obtain⟨h1,h2,h3⟩:=h;obtain⟨cs,hc,hk⟩:=ih r _ (fun k=>by have:=hp (k+1);simpa using this) h3;refine⟨cs,?_,hk⟩;simp only [Instr.fill,h0];rw [if_neg (by simp [h1];omega)];rw [←hc]
   congr 1
   have:=Kp v.cells.toList cells.toArray off 0;simp only [agL] at this;rw [←this,←Array.toList_zipIdx,Array.foldl_toList]
theorem iS (z:Value): (bK z).toArray=z.cells:=by cases z<;>simp [bK,Value.cells]
theorem Ef {fs:List Field} (h: ∀f∈fs,∃i,P.info? f.type=some i) (w:World):
  (fs.mapM fun f=> (do pure (f.offset,←Go.sizeOf f.type):Sem (Nat × Nat))).run P w= .ok (lL P fs) w:=by
 induction fs with
 |nil=>simp [lL]
 |cons f r ih=>
  obtain⟨i,hi⟩:=h f (by simp);simp only [aiZ,Sem.run_bind,cT hi,Result.andThen_ok,Sem.run_pure,ih (fun g hg=>h g (by simp [hg])),lL,RO,hi]
theorem Hb {pl:List (Nat × Nat)}: ∀ (vs:List (Nat × Value)) (ps:List (Nat × Nat × Value)),rj pl vs=some ps→
  ∀k:Nat,(vs[k]?).map (fun p=> ((fun j=>pl[j]?) p.1,p.2))= (ps[k]?).map fun q=> (some (q.1,q.2.1),q.2.2):=by
 intro vs
 induction vs with
 |nil=>intro ps h k;simp only [rj,agf] at h;subst h;simp
 |cons p r ih=>
  intro ps h k;obtain⟨i,v⟩:=p;simp only [rj] at h
  cases hp:pl[i]? with
  |none=>simp [hp] at h
  |some q=>
   obtain⟨o,s⟩:=q;rw [hp] at h;simp only at h
   cases hr:rj pl r with
   |none=>simp [hr] at h
   |some l=>
    rw [hr] at h;simp only [agf] at h;subst h
    cases k with
    |zero=>simp [hp]
    |succ k=>have:=ih l hr k;simpa using this
theorem xB {size:Nat}: ∀ (vs:List (Nat × Value)) (k:Nat),(vs[k]?).map (fun p=> ((fun i=>some (i*size,size)) p.1,p.2))= ((nr size vs)[k]?).map fun q=> (some (q.1,q.2.1),q.2.2):=by
 intro vs
 induction vs with
 |nil=>intro k;simp [nr]
 |cons p r ih=>
  intro k;obtain⟨i,v⟩:=p
  cases k with
  |zero=>simp [nr]
  |succ k=>have:=ih k;simpa [nr] using this
theorem sr: ∀ {fs:List Field},sn P fs=true→∀f∈fs,∃i,P.info? f.type=some i
 | [],_,f,hf=>by simp at hf
 |g::r,h,f,hf=>by
  simp only [sn] at h
  cases hi:P.info? g.type with
  |none=>simp [hi] at h
  |some i=>
   rw [hi] at h;rcases ago.1 hf with rfl|hf
   ·exact⟨i,hi⟩
   ·exact sr h f hf
theorem Eg {t:TypeId} {z:Value} {fs:Array Field} {vs:List (Nat × Value)} {ps:List (Nat × Nat × Value)} (hz:iP P t=some z) (hu:P.underlying t=some (.struct fs))
  (hi: ∀f∈fs.toList,∃i,P.info? f.type=some i) (hp:rj (lL P fs.toList) vs=some ps) (h:aT (bK z) ps K):kx P (Instr.build t vs.toArray) K:=by
 obtain⟨cs,hc,hk⟩:=oV (places:=fun j=> (lL P fs.toList)[j]?) ps vs (bK z) (Hb vs ps hp) h;refine⟨_,fun w=>?_,hk⟩;obtain⟨i,As,vo⟩:=fm hz;have hm: (fs.mapM fun f=> (do pure (f.offset,←Go.sizeOf f.type):Sem (Nat × Nat))).run P w= .ok (lL P fs.toList).toArray w:=by
  rw [ajJ];simp only [Sem.run_map,Ef hi,Result.andThen_ok]
 simp only [Instr.build,Sem.run_bind,iR As vo,Result.andThen_ok,a_ hu,hm,Sem.run_pure];rw [←iS]
 simp [hc]
theorem Eh {t e:TypeId} {n:Nat} {z:Value} {ti:TypeInfo} {vs:List (Nat × Value)} (hz:iP P t=some z) (hu:P.underlying t=some (.array n e))
  (hi:P.info? e=some ti) (h:aT (bK z) (nr ti.size vs) K):kx P (Instr.build t vs.toArray) K:=by
 obtain⟨cs,hc,hk⟩:=oV (places:=fun i=>some (i*ti.size,ti.size)) _ vs (bK z) (xB vs) h;refine⟨_,fun w=>?_,hk⟩;obtain⟨i,As,vo⟩:=fm hz;simp only [Instr.build,Sem.run_bind,iR As vo,Result.andThen_ok,a_ hu,cT hi,Sem.run_pure];rw [←iS]
 simp [hc]
theorem Cn (ρ:Env): ∀ps:List (Nat × Operand),D4 ρ ps=ps.map fun (i,x)=> (i,ev ρ x)
 | []=>rfl
 | (i,x)::r=>by simp [D4,Cn ρ r]
theorem He (ρ:Env): ∀xs:List Operand,MJ ρ xs=xs.map (ev ρ)
 | []=>rfl
 |x::r=>by simp [MJ,He ρ r]
theorem Hf (ρ:Env): ∀x:Option Operand,Sy ρ x=x.map (ev ρ)
 |none=>rfl
 |some _=>rfl
theorem kx.exec {o:Oper} {ρ:Operand→Value} {s:Sem Value} (he:execOp ρ o= (do pure (.value (←s)))) (h:kx P s K): ∃v,(∀w,(execOp ρ o).run P w= .ok (.value v) w)∧K v:=by
 obtain⟨v,hr,hk⟩:=h;exact⟨v,fun w=>by rw [he];simp [hr],hk⟩
theorem Kq {c a b:Value} (h:MK c a b K):kx P (do pure (if←asBool c then a else b)) K:=by
 cases c<;>simp only [MK] at h
 rename_i t
 cases t<;>exact⟨_,fun w=>by simp [asBool],h⟩
theorem tY {dst:Option Tmp} {op:Op} {ty:TypeId} {pos:String} {af:Array Edge} {g:Option (Nat × Bool)} {ρ:Env} (h:XS P ρ op K):
  ∃v,(∀w,(execOp (ev ρ) ⟨dst,op,ty,pos,af,g⟩).run P w= .ok (.value v) w)∧K v:=by
 cases op<;>simp only [XS] at h
 case move x=>exact⟨_,fun w=>rfl,h⟩
 case assign x=>exact⟨_,fun w=>rfl,h⟩
 case pick c a b=>exact(Kq h).exec (by simp [execOp])
 case nilCheck x=>
  simp only [aB] at h
  split at h
  ·rename_i a hx
   exact⟨_,fun w=>by simp only [execOp,hx];rfl,h⟩
  ·rename_i f a b hx
   exact⟨_,fun w=>by simp only [execOp,hx];rfl,h⟩
  ·exact h.elim
 case binOp op t x y yt=>
  have key: ∀ {op:BinOp},fo P op t x y (ev ρ x) (ev ρ y) K→∃v,(∀w,(execOp (ev ρ) ⟨dst,.binOp op t x y yt,ty,pos,af,g⟩).run P w= .ok (.value v) w)∧K v:=
   fun h=>kx.exec (s:=do eqGuard _ t x y (ev ρ x) (ev ρ y);binOp _ t (ev ρ x) (ev ρ y)) rfl h
  cases op<;>simp only at h
  case add=>exact key (MS h)
  case sub=>exact key (MT h)
  case mul=>exact key (MU h)
  case quo=>exact key (MV h)
  case rem=>exact key (MW h)
  case and=>exact key (p_ (by simp) h)
  case or=>exact key (p_ (by simp) h)
  case xor=>exact key (p_ (by simp) h)
  case andNot=>exact key (p_ (by simp) h)
  case shl=>exact key (MX h)
  case shr=>exact key (MY h)
  case lss=>exact key (P_ h)
  case leq=>exact key (Qa h)
  case gtr=>exact key (Qb h)
  case geq=>exact key (Qc h)
  case eql=>
   split at h
   ·split at h
    ·rename_i ks Kr;exact key (MZ Kr h)
    ·exact h.elim
   ·rename_i d _ hd
    split at h
    ·rename_i k hk;exact key (Qf hd hk h)
    ·exact h.elim
   ·exact h.elim
  case neq=>
   split at h
   ·split at h
    ·rename_i ks Kr;exact key (M5 Kr h)
    ·exact h.elim
   ·rename_i d _ hd
    split at h
    ·rename_i k hk;exact key (Qg hd hk h)
    ·exact h.elim
   ·exact h.elim
 case unOp op t x=>
  cases op<;>simp only at h
  case not=>
   generalize hx:ev ρ x=vx at h
   cases vx<;>simp only [e7] at h
   exact⟨_,fun w=>by simp [execOp,hx,Op.unary],h⟩
  case neg=>
   generalize hx:ev ρ x=vx at h
   cases vx<;>simp only [UW] at h
   exact⟨_,fun w=>by simp only [execOp,hx,Op.unary,Op.intArith];rfl,h⟩
  case xor=>
   generalize hx:ev ρ x=vx at h
   cases vx<;>simp only [ML] at h
   exact⟨_,fun w=>by simp only [execOp,hx,Op.unary,Op.intBits,bitsOf];rfl,h⟩
 case convert s d x=>
  generalize hx:ev ρ x=vx at h
  split at h
  ·rename_i k hd hk
   cases vx<;>simp only [bm] at h
   exact⟨_,fun w=>by simp [execOp,hx,convert,a_ hd,a_ hk,Conv.intToInt],h⟩
  ·rename_i hd hk
   cases vx<;>simp only [MM] at h
   exact⟨_,fun w=>by simp [execOp,hx,convert,a_ hd,a_ hk],h⟩
  ·exact h.elim
 case fieldAddr t x f=>
  split at h
  ·rename_i fs hu
   split at h
   ·rename_i fd hf
    split at h
    ·rename_i i hi
     cases hb:Nat.beq i.size 0 with
     |true=>rw [hb] at h;exact h.elim
     |false=>rw [hb] at h;exact(xA hu hf hi hb h).exec rfl
    ·exact h.elim
   ·exact h.elim
  ·exact h.elim
 case field t x f=>
  split at h
  ·rename_i fs hu
   split at h
   ·rename_i fd hf
    split at h
    ·rename_i d i hd hi
     cases hb:dU P fd.type with
     |true=>rw [hb] at h;exact(Eb hu hf hd hi hb h).exec rfl
     |false=>rw [hb] at h;exact(Ea hu hf hd hb h).exec rfl
    ·exact h.elim
   ·exact h.elim
  ·exact h.elim
 case extract x i=>exact(Cl h).exec rfl
 case indexAddr t x i=>
  split at h
  ·rename_i n e hu
   split at h
   ·rename_i ti hi;exact(Ec hu hi h).exec rfl
   ·exact h.elim
  ·rename_i e hu
   split at h
   ·rename_i ti hi;exact(G9 hu hi h).exec rfl
   ·exact h.elim
  ·exact h.elim
 case index t x i=>
  split at h
  ·rename_i hu;exact(Ed hu h).exec rfl
  ·rename_i n e hu
   split at h
   ·rename_i d ti hd hi
    cases hb:dU P e with
    |true=>rw [hb] at h;exact(Cm hu hd hi hb h).exec rfl
    |false=>
     rw [hb] at h
     cases h1:Nat.beq ti.size 1 with
     |false=>rw [h1] at h;exact h.elim
     |true=>rw [h1] at h;exact(Ee hu hd hi hb h1 h).exec rfl
   ·exact h.elim
  ·exact h.elim
 case slice t x lo hi mx=>
  cases mx with
  |some m=>exact h.elim
  |none=>
   simp only at h
   split at h
   ·rename_i hu;exact(G_ hu h).exec (by simp [execOp,Hf])
   ·rename_i e hu
    split at h
    ·rename_i ti UY;exact(Ko hu UY h).exec (by simp [execOp,Hf])
    ·exact h.elim
   ·rename_i n e hu
    split at h
    ·rename_i ti UY;exact(Ha hu UY h).exec (by simp [execOp,Hf])
    ·exact h.elim
   ·exact h.elim
 case makeFunc fn first cap=>
  cases fn<;>first| (refine⟨_,fun w=>?_,h⟩) |exact h.elim
  have e: ∀a:Array Operand,(MJ ρ a.toList).toArray=a.map (ev ρ):=fun a=>by rw [He];cases a;simp
  rw [e,e];rfl
 case build t ps=>
  have e:execOp (ev ρ) ⟨dst,.build t ps,ty,pos,af,g⟩= (do pure (.value (←Instr.build t (D4 ρ ps.toList).toArray))):=by
   rw [Cn,show ∀f:Nat × Operand→Nat × Value,(ps.toList.map f).toArray=ps.map f from fun f=>by cases ps;simp];rfl
  split at h
  ·rename_i z fs hz hu
   split at h
   ·rename_i parts hp
    cases hb:sn P fs.toList with
    |false=>rw [hb] at h;exact h.elim
    |true=>rw [hb] at h;exact(Eg hz hu (sr hb) hp h).exec e
   ·exact h.elim
  ·rename_i z n e' hz hu
   split at h
   ·rename_i ti UY;exact(Eh hz hu UY h).exec e
   ·exact h.elim
  ·exact h.elim
 case call c=>
  obtain⟨callee,args,D7⟩:=c
  cases callee<;>first|exact h.elim|skip
  rename_i b
  simp only at h;have ex: ∀ (l:List Operand) (s:Sem Value),args.toList=l→builtin b D7 ty (args.map fun| .const _=>true|_=>false) (l.map (ev ρ)).toArray= (do pure (.value (←s)))→
    execOp (ev ρ) ⟨dst,.call ⟨.builtin b,args,D7⟩,ty,pos,af,g⟩= (do pure (.value (←s))):=by
   intro l s h1 h2;rw [←h2];subst h1;simp only [execOp,resolve,List.map_toArray,invoke,pure_bind,Array.toArray_toList];simp only [←Array.toList_map,Array.toArray_toList]
   rfl
  have SD: ∀l,D7.toList=l→D7=l.toArray:=fun l e=>by subst e;simp
  unfold D6 at h
  split at h
  ·rename_i t x hb ha
   have Ei :=SD _ hb;subst Ei
   split at h
   ·rename_i hu
    generalize hx:ev ρ x=vx at h
    cases vx<;>simp only [aX] at h
    exact kx.exec (ex _ (Builtin.len_ #[t] ty #[ev ρ x]) ha (by simp [builtin])) ⟨_,fun w=>by simp [Builtin.len_,a_ hu,hx,goInt,eK],h⟩
   ·rename_i e hu
    generalize hx:ev ρ x=vx at h
    cases vx<;>simp only [bV] at h
    exact kx.exec (ex _ (Builtin.len_ #[t] ty #[ev ρ x]) ha (by simp [builtin])) ⟨_,fun w=>by simp [Builtin.len_,a_ hu,hx,goInt],h⟩
   ·exact h.elim
  ·rename_i t x hb ha
   have Ei :=SD _ hb;subst Ei
   split at h
   ·rename_i e hu
    generalize hx:ev ρ x=vx at h
    cases vx<;>simp only [G2] at h
    exact kx.exec (ex _ (Builtin.cap_ #[t] ty #[ev ρ x]) ha (by simp [builtin])) ⟨_,fun w=>by simp [Builtin.cap_,a_ hu,hx,goInt],h⟩
   ·exact h.elim
  ·rename_i x y ha
   generalize hx:ev ρ x=vx at h;generalize hy:ev ρ y=vy at h
   cases vx<;>simp only [jU] at h
   cases vy<;>simp only [jU] at h
   obtain⟨rfl,h⟩:=h;refine kx.exec (ex _ (Builtin.min_ D7 ty #[ev ρ x,ev ρ y]) ha (by simp [builtin])) ⟨_,fun w=>?_,h⟩
   simp [Builtin.min_,Builtin.min2,hx,hy]
   omega
  ·rename_i x y ha
   generalize hx:ev ρ x=vx at h;generalize hy:ev ρ y=vy at h
   cases vx<;>simp only [G1] at h
   cases vy<;>simp only [G1] at h
   obtain⟨rfl,h⟩:=h;refine kx.exec (ex _ (Builtin.max_ D7 ty #[ev ρ x,ev ρ y]) ha (by simp [builtin])) ⟨_,fun w=>?_,h⟩
   simp [Builtin.max_,Builtin.max2,hx,hy]
   omega
  ·rename_i x y z ha
   generalize hx:ev ρ x=vx at h;generalize hy:ev ρ y=vy at h;generalize hz:ev ρ z=vz at h
   cases vx<;>simp only [jU] at h
   cases vy<;>simp only [jU] at h
   obtain⟨rfl,h⟩:=h
   cases vz<;>simp only [jU] at h
   obtain⟨rfl,h⟩:=h;refine kx.exec (ex _ (Builtin.min_ D7 ty #[ev ρ x,ev ρ y,ev ρ z]) ha (by simp [builtin])) ⟨_,fun w=>?_,h⟩
   simp [Builtin.min_,Builtin.min2,hx,hy,hz]
   omega
  ·exact h.elim
 all_goals exact h.elim
end
end
section
section
variable {P:Program}
theorem Jx (w:World) (a:Addr):w.cell? a=cellAt w.heap a:=rfl
theorem Ks (w:World) (a:Addr):w.frozen? a=frozenAt w.heap a:=rfl
theorem SE (w:World) (a:Addr) (v:Value): (w.setCell a v).heap=setAt w.heap a v:=rfl
theorem kX {H:ai} {a:Addr}: ∀ {n:Nat} {l:List Value},dT H a n=some l→l.length=n
 |0,l,h=>by simp only [dT,agf] at h;subst h;rfl
 |n+1,l,h=>by
  simp only [dT] at h
  split at h
  ·rename_i m hm
   split at h
   ·simp only [agf] at h;subst h;simp [kX hm]
   ·simp at h
  ·simp at h
theorem vp {H:ai} {a:Addr}: ∀ {n:Nat} {l:List Value},dT H a n=some l→∀j v,l[j]? =some v→cellAt H (a.add j)=some v
 |0,l,h,j,v,hv=>by simp only [dT,agf] at h;subst h;simp at hv
 |n+1,l,h,j,v,hv=>by
  simp only [dT] at h
  split at h
  ·rename_i m hm
   split at h
   ·rename_i u hu
    simp only [agf] at h;subst h;have hl:=kX hm
    by_cases hj:j<n
    ·rw [agM (by omega)] at hv
     exact vp hm j v hv
    ·by_cases Hg :j=n
     ·subst Hg
      rw [agQ (by omega),hl] at hv
      simp at hv
      rw [hu,hv]
     ·have: (m++ [u]).length≤j:=by simp;omega
      rw [agq this] at hv;simp at hv
   ·simp at h
  ·simp at h
theorem gC {a:Addr} {n:Nat} {l:List Value} {w:World} (h:dT w.heap a n=some l): (loadCells a n).run P w= .ok l.toArray w:=by
 have hl:=kX h;subst hl;exact run_loadCells_list w a l (fun j v hv=>vp h j v hv)
theorem cells_one {v:Value} (h:aK v=true):v.cells= #[v]:=by cases v<;>simp [aK] at h<;>rfl
theorem tZ (v:Value):aK v=v.oneCell' :=by cases v<;>rfl
theorem run_storeCells_at [Go.Vc.Mode] {a:Addr}: ∀ {vs:List Value} {i:Nat} {H' :ai} {w:World},eA w.heap a i vs=some H' →
  ∃w',(storeCells a vs i).run P w= .ok () w' ∧b0 w w' ∧w'.heap=H'
 | [],i,H',w,h=>by simp only [eA,agf] at h;exact⟨w,rfl,b0.refl w,h⟩
 |v::r,i,H',w,h=>by
  simp only [eA] at h
  split at h
  ·rename_i u hu
   cases hf:frozenAt w.heap (a.add i) with
   |true=>rw [hf] at h;simp at h
   |false=>
    rw [hf] at h;simp only [cond_false] at h
    cases h1:aK v with
    |false=>rw [h1] at h;simp at h
    |true=>
     rw [h1] at h;simp only [cond_true] at h;obtain⟨w',hr,hw,hh⟩:=run_storeCells_at (w:=w.setCell (a.add i) v) (by rw [SE];exact h);refine⟨w',?_,b0.trans (show b0 w (w.setCell (a.add i) v) from ⟨rfl,rfl,rfl,fun _=>by first|exact aga _|exact agG _⟩) hw,hh⟩;have jM: (store (a.add i) v).run P w= .ok () (w.setCell (a.add i) v):=by
      rw [run_store P w _ v _ (by rw [←tZ];exact h1),Jx,hu,Ks,hf]
      simp
     simp only [storeCells,Sem.run_bind,jM,Result.andThen_ok,hr]
  ·simp at h
def Ej (P:Program) (s:Sem Value) (H:ai) (K:Value→Prop):Prop:= ∃v,(∀w:World,w.heap=H→s.run P w= .ok v w)∧K v
theorem Ej.exec {o:Oper} {ρ:Operand→Value} {s:Sem Value} {H:ai} {K:Value→Prop} (he:execOp ρ o= (do pure (.value (←s)))) (h:Ej P s H K):
  ∃v,(∀w:World,w.heap=H→(execOp ρ o).run P w= .ok (.value v) w)∧K v:=by
 obtain⟨v,hr,hk⟩:=h;exact⟨v,fun w hw=>by rw [he];simp [hr w hw],hk⟩
variable {H:ai} {K:Value→Prop}
theorem A6 {t:TypeId} {d:TypeDesc} {x:Value} (hu:P.underlying t=some d) (ha:dU P t=false) (h:ak H x K):Ej P (Instr.loadAt t x) H K:=by
 cases x<;> (try simp only [ak] at h)
 rename_i a
 cases a<;> (try simp only [ak] at h)
 rename_i a
 split at h
 ·rename_i v hv
  refine⟨v,fun w hw=>?_,h⟩;subst hw;have:w.cell? a=some v:=hv
  simp [Instr.loadAt,Instr.sureAddr,loadVar,p9 hu,ha,this]
 ·exact h.elim
theorem xC {t:TypeId} {d:TypeDesc} {i:TypeInfo} {x:Value} (hu:P.underlying t=some d) (hi:P.info? t=some i) (ha:dU P t=true) (h:aE H i.size x K):Ej P (Instr.loadAt t x) H K:=by
 cases x<;> (try simp only [aE] at h)
 rename_i a
 cases a<;> (try simp only [aE] at h)
 rename_i a
 split at h
 ·rename_i l hv
  refine⟨_,fun w hw=>?_,h⟩;subst hw;simp only [Instr.loadAt,Instr.sureAddr,loadVar,Sem.run_bind,Sem.run_pure,Result.andThen_ok,p9 hu,ha,if_true,cT hi,gC hv]
 ·exact h.elim
theorem vq: ∀ {l:List Value} {b:List UInt8},bytesOf l=some b→∃ns:List Int,l=ns.map (Value.int .u8)∧b=ns.map fun n=>UInt8.ofNat n.toNat
 | [],b,h=>by simp only [bytesOf,agf] at h;subst h;exact⟨[],rfl,rfl⟩
 |x::r,b,h=>by
  unfold bytesOf at h
  split at h
  ·rename_i heq;simp at heq
  ·rename_i n r' heq
   simp only [ahE] at heq;obtain⟨rfl,rfl⟩:=heq
   split at h
   ·rename_i l hl
    simp only [agf] at h;subst h;obtain⟨ns,rfl,rfl⟩:=vq hl;exact⟨n::ns,rfl,rfl⟩
   ·simp at h
  ·simp at h
theorem foldl_push: ∀ (ns:List Int) (s:ByteArray),ns.foldl (fun r n=>r.push (UInt8.ofNat n.toNat)) s= ⟨(fL s++ns.map fun n=>UInt8.ofNat n.toNat).toArray⟩
 | [],s=>by cases s;simp [fL]
 |n::r,s=>by
  simp only [ah3];rw [foldl_push r]
  cases s
  simp [fL,ByteArray.push]
theorem Hh {s d e:TypeId} {x:Value} (hs:P.underlying s=some (.slice e)) (he:P.underlying e=some (.int .u8)) (hd:P.underlying d=some .string) (h:kh H x K):Ej P (convert s d x) H K:=by
 cases x<;> (try simp only [kh] at h)
 rename_i a n c
 cases a with
 |none=>
  simp only [kh] at h;refine⟨_,fun w hw=>?_,h⟩;rw [run_convert_bytes_string w s d e none n c hs he hd]
  rfl
 |some a=>
  simp only [kh] at h
  split at h
  ·rename_i l hl
   split at h
   ·rename_i b hb
    obtain⟨ns,rfl,rfl⟩:=vq hb;refine⟨_,fun w hw=>?_,h⟩;subst hw;rw [run_convert_bytes_string w s d e (some a) n c hs he hd,run_bytesToString w a n c ns (gC hl),foldl_push]
    simp [fL,str]
   ·exact h.elim
  ·exact h.elim
theorem Hi {d:TypeDesc} {kind:Nat} {k:Value} (hd:d= .string∧kind=1∨(∃j,d= .int j)∧kind=0): ∀ (es:List MapEntry) (i:Nat) (r:Option (Nat × Value)),
  ko kind k es i=some r→Instr.findNow d k es i=some r:=by
 intro es
 induction es with
 |nil=>intro i r h;simpa [ko,Instr.findNow] using h
 |cons e es ih=>
  intro i r h;simp only [ko] at h;have hs: ∀c,kT kind k e.key=some c→Instr.sameNow d k e.key=some c:=by
   intro c hc;rcases hd with ⟨rfl,rfl⟩ | ⟨⟨j,rfl⟩,rfl⟩
   ·obtain⟨s,t,hs,ht,rfl⟩:=Qe hc
    rw [hs,ht];simp [Instr.sameNow,ma]
   ·obtain⟨j,m,n,hm,hn,rfl⟩:=Qd hc
    rw [hm,hn];simp [Instr.sameNow];rw [ahm];simp
  simp only [Instr.findNow]
  split at h
  ·rename_i hc;rw [hs _ hc];exact h
  ·rename_i hc;rw [hs _ hc];exact ih _ _ h
  ·simp at h
theorem qa {t:TypeId} {k:Value} {d:TypeDesc} (hu:P.underlying t=some d) (hd:d= .string∨∃j,d= .int j) (em:Bool) (n:Nat) (w:World): (Instr.checkKey em (n+1) t k).run P w= .ok () w:=by
 rcases hd with rfl| ⟨j,rfl⟩<;>simp [Instr.checkKey,a_ hu]
theorem run_findKey {kt:TypeId} {d:TypeDesc} {kind:Nat} {k:Value} {es:List MapEntry} {r:Option (Nat × Value)} (hu:P.underlying kt=some d) (hd:d= .string∧kind=1∨(∃j,d= .int j)∧kind=0)
  (h:ko kind k es 0=some r) (w:World): (Instr.findKey kt k es).run P w= .ok r w:=by
 simp [Instr.findKey,a_ hu,Hi hd es 0 r h]
theorem qc {d:TypeDesc} {kind:Nat} (hd:d= .string∧kind=1∨(∃j,d= .int j)∧kind=0):d= .string∨∃j,d= .int j:=hd.imp (·.1) (·.1)
theorem xD {t kt e:TypeId} {m k:Value} {ok:Bool} {es:List MapEntry} {w:World} {R:Result Value} (ht:P.underlying t=some (.map kt e)) (h:mq w.heap m=some es)
  (hr: (do
   Instr.checkKey es.isEmpty 10000 kt k
   let (v,o) ←match←Instr.findKey kt k es with
    |some (_,v)=>pure (v,true)
    |none=>pure (←zeroValue e,false)
   pure (if ok then .tuple #[v,.bool o] else v):Sem Value).run P w=R): (Instr.lookup t m k ok).run P w=R:=by
 subst hr
 cases m<;>simp only [mq,reduceCtorEq] at h
 rename_i r
 cases r with
 |none=>simp only [agf] at h;subst h;simp [Instr.lookup,a_ ht];rfl
 |some r=>
  simp only at h
  split at h
  ·rename_i es' c hr
   simp only [agf] at h;subst h;have hg: (getObj r).run P w= .ok (.map es' c) w:=by simp [getObj,Sem.run,hr]
   simp only [Instr.lookup,Sem.run_bind,a_ ht,Result.andThen_ok,hg,pure_bind]
   simp [Array.isEmpty_toList];rfl
  ·simp at h
theorem vr {t kt e:TypeId} {d:TypeDesc} {kind:Nat} {z m k:Value} {ok:Bool} (ht:P.underlying t=some (.map kt e)) (hu:P.underlying kt=some d)
  (hd:d= .string∧kind=1∨(∃j,d= .int j)∧kind=0) (hz:iP P e=some z) (h:fT H kind z ok m k K):Ej P (Instr.lookup t m k ok) H K:=by
 unfold fT at h;obtain⟨i,hi,vo⟩:=fm hz
 split at h
 ·rename_i es Z9
  split at h
  ·rename_i j v hf
   refine⟨_,fun w hw=>?_,h⟩;subst hw;refine xD ht Z9 ?_;simp only [Sem.run_bind,Result.andThen_ok,qa hu (qc hd),run_findKey hu hd hf,Sem.run_pure]
   cases ok<;>rfl
  ·rename_i hf
   refine⟨_,fun w hw=>?_,h⟩;subst hw;refine xD ht Z9 ?_;simp only [Sem.run_bind,Result.andThen_ok,qa hu (qc hd),run_findKey hu hd hf,Sem.run_pure,iR hi vo]
   cases ok<;>rfl
  ·exact h.elim
 ·exact h.elim
theorem qd {dst:Option Tmp} {op:Op} {ty:TypeId} {pos:String} {af:Array Edge} {g:Option (Nat × Bool)} {ρ:Env} (h:SB P ρ op H K):
  ∃v,(∀w:World,w.heap=H→(execOp (ev ρ) ⟨dst,op,ty,pos,af,g⟩).run P w= .ok (.value v) w)∧K v:=by
 cases op<;>first|exact(h:False).elim|skip
 case load t x=>
  simp only [SB] at h
  split at h
  ·rename_i d i hd hi
   cases ha:dU P t with
   |true=>rw [ha] at h;exact(xC hd hi ha h).exec rfl
   |false=>rw [ha] at h;exact(A6 hd ha h).exec rfl
  ·exact h.elim
 case convert s d x=>
  simp only [SB] at h
  split at h
  ·rename_i e hs hd
   split at h
   ·rename_i he;exact(Hh hs he hd h).exec rfl
   ·exact h.elim
  ·exact h.elim
 case lookup t m k ok=>
  simp only [SB] at h
  split at h
  ·rename_i kt e ht
   split at h
   ·rename_i j z hu hz;exact(vr ht hu (.inr ⟨⟨j,rfl⟩,rfl⟩) hz h).exec rfl
   ·rename_i z hu hz;exact(vr ht hu (.inl ⟨rfl,rfl⟩) hz h).exec rfl
   ·exact h.elim
  ·exact h.elim
 case call c=>
  obtain⟨callee,args,D7⟩:=c;simp only [SB] at h
  split at h
  ·rename_i t x hb ha
   split at h
   ·rename_i kt e hu
    generalize hx:ev ρ x=vx at h;have e1:args= #[x]:=by cases args;simp at ha;simp [ha]
    have e2:D7= #[t]:=by cases D7;simp at hb;simp [hb]
    subst e1;subst e2;refine Ej.exec (s:=Builtin.len_ #[t] ty #[ev ρ x]) (by simp [execOp,resolve,invoke,builtin]) ?_
    cases vx<;>simp only [Jt] at h
    rename_i r
    cases r with
    |none=>exact⟨_,fun w hw=>by simp [Builtin.len_,a_ hu,hx,goInt],h⟩
    |some r=>
     simp only at h
     split at h
     ·rename_i es c hr
      refine⟨_,fun w hw=>?_,h⟩;subst hw
      simp [Builtin.len_,a_ hu,hx,goInt,getObj,Sem.run,hr]
     ·exact h.elim
   ·exact h.elim
  ·exact h.elim
end
end
section
def after [Go.Vc.Mode] (P:Program) (K:Value→ai→Prop) (w:World):Result Next→Prop
 | .ok (.value v) w' =>b0 w w' ∧K v w'.heap
 | .ok .skip w' =>b0 w w' ∧K undef w'.heap
 | .ok (.enter f args) w' =>b0 w w' ∧fP P f args w'.heap K
 |_=>False
section
variable {P:Program} {H:ai} {K:Value→ai→Prop}
def qF [Go.Vc.Mode] (P:Program) (s:Sem Value) (H:ai) (K:Value→ai→Prop):Prop:= ∀w:World,w.heap=H→∃v w',s.run P w= .ok v w' ∧b0 w w' ∧K v w'.heap
def M6 [Go.Vc.Mode] (P:Program) (s:Sem Unit) (H:ai) (K:Value→ai→Prop):Prop:= ∀w:World,w.heap=H→∃w',s.run P w= .ok () w' ∧b0 w w' ∧K undef w'.heap
theorem qF.exec [Go.Vc.Mode] {o:Oper} {ρ:Operand→Value} {s:Sem Value} (he:execOp ρ o= (do pure (.value (←s)))) (h:qF P s H K): ∀w:World,w.heap=H→after P K w ((execOp ρ o).run P w):=by
 intro w hw;obtain⟨v,w',hr,hk⟩:=h w hw;rw [he];simpa [hr,after] using hk
theorem M6.exec [Go.Vc.Mode] {o:Oper} {ρ:Operand→Value} {s:Sem Unit} (he:execOp ρ o= (do s;pure .skip)) (h:M6 P s H K): ∀w:World,w.heap=H→after P K w ((execOp ρ o).run P w):=by
 intro w hw;obtain⟨w',hr,hk⟩:=h w hw;rw [he];simpa [hr,after] using hk
theorem Hj [Go.Vc.Mode] {t:TypeId} {i:TypeInfo} {x v:Value} (hi:P.info? t=some i) (h1:Nat.beq i.size 1=true) (h:aF H x v K):M6 P (Instr.storeAt t x v) H K:=by
 cases x<;> (try simp only [aF] at h)
 rename_i a
 cases a<;> (try simp only [aF] at h)
 rename_i a
 split at h
 ·rename_i H' hs
  intro w hw;subst hw;obtain⟨w',hr,mn,hh⟩:=run_storeCells_at (P:=P) hs;have hv:aK v=true:=by
   simp only [eA] at hs
   split at hs
   ·cases hf:frozenAt w.heap (a.add 0) with
    |true=>rw [hf] at hs;simp at hs
    |false=>
     rw [hf] at hs;simp only [cond_false] at hs
     cases h2:aK v with
     |true=>rfl
     |false=>rw [h2] at hs;simp at hs
   ·simp at hs
  refine⟨w',?_,mn,by rw [hh];exact h⟩;have gW:i.size=1:=agR h1
  simp [Instr.storeAt,Instr.sureAddr,storeVar,cT hi,cells_one hv,gW,hr]
 ·exact h.elim
theorem Ek [Go.Vc.Mode] {t:TypeId} {i:TypeInfo} {x v:Value} (hi:P.info? t=some i) (h:aC H i.size x v K):M6 P (Instr.storeAt t x v) H K:=by
 cases x<;> (try simp only [aC] at h)
 rename_i a
 cases a<;> (try simp only [aC] at h)
 rename_i a
 obtain⟨hc,h⟩:=h
 split at h
 ·rename_i H' hs
  intro w hw;subst hw;obtain⟨w',hr,mn,hh⟩:=run_storeCells_at (P:=P) hs;refine⟨w',?_,mn,by rw [hh];exact h⟩
  simp [Instr.storeAt,Instr.sureAddr,storeVar,cT hi,hc,hr]
 ·exact h.elim
theorem M7 [Go.Vc.Mode] {e:TypeId} {v:Value} (h:bs H e v K):qF P (Instr.box e v) H K:=by
 intro w hw;subst hw;exact⟨_,_,rfl,⟨rfl,rfl,rfl,fun _=>by first|exact aga _|exact agG _⟩,h⟩
theorem Hk [Go.Vc.Mode] {e:TypeId} {z:Value} (hz:iP P e=some z) (h:bs H e z K):qF P (Instr.alloc e true (.tuple #[])) H K:=by
 intro w hw;subst hw;obtain⟨i,hi,vo⟩:=fm hz;refine⟨.pointer (some ⟨w.heap.size,0,none⟩),{w with heap:=w.heap.push (.cells z.cells e)},?_,⟨rfl,rfl,rfl,fun _=>by first|exact aga _|exact agG _⟩,h⟩
 simp [Instr.alloc,iR hi vo,newVar,newRow]
theorem xE (z:List Value) (hz:0<z.length): ∀n:Nat,((List.range (n*z.length)).map fun i=>z.getD (i%z.length) undef)=eJ z n
 |0=>by simp [eJ]
 |n+1=>by
  have h1: (n+1)*z.length=z.length+n*z.length:=by rw [ah4,ahQ]
  rw [h1,List.range_add,agU,eJ,←xE z hz n]
  congr 1
  ·apply ahF (by simp)
   intro i h1 h2
   simp at h1
   simp [agp h1,agd,h1]
  ·simp [ah5,Function.comp_def,Nat.add_mod_left]
theorem t_ {z:Value} (hz:1≤(bK z).length) (n:Nat): (Array.range (n* (bK z).length)).map (fun i=>z.cells[i%z.cells.size]!)= (eJ (bK z) n).toArray:=by
 rw [←xE _ hz n];apply ahP;have hs:z.cells.size= (bK z).length:=by rw [←iS];simp
 simp only [Array.toList_map,Array.toList_range];apply ahs;intro i _;rw [hs,←iS];have cF:i% (bK z).length< (bK z).length:=ag5 _ (by omega)
 simp [getElem!_def,agd,cF]
theorem A7 {n:Int} (h0:0≤n) (h1:n≤9223372036854775807):IntKind.i64.wrap n=n:=by
 simp [IntKind.wrap,IntKind.bits,IntKind.signed]
 omega
theorem El [Go.Vc.Mode] {t e:TypeId} {i:TypeInfo} {z l c:Value} (ht:P.underlying t=some (.slice e)) (hi:P.info? e=some i) (hz:iP P e=some z)
  (hs: (bK z).length=i.size) (h1:1≤i.size) (h:dF H e i.bytes (bK z) l c K):qF P (Instr.makeSlice t l c) H K:=by
 unfold dF at h
 split at h
 ·rename_i n m
  obtain⟨h0,Mz,hb,hm,hk⟩:=h;intro w hw;subst hw;obtain⟨i',As,vo⟩:=fm hz;obtain rfl:i' =i:=by rw [hi] at As;exact(agN As).symm
  have wn:=A7 h0 (by omega);have wm:=A7 (n:=m) (by omega) hm;have PH : ¬ ((i'.bytes:Int)*m>2 ^ 48):=by omega
  have nt: (decide (m<0) ||decide ((i'.bytes:Int)*m>2 ^ 48) ||decide (n<0) ||decide (n>m))=false:=by
   simp only [ahA,decide_eq_false_iff_not];omega
  refine⟨_,{w with heap:=w.heap.push (.cells (eJ (bK z) m.toNat).toArray e)},?_,⟨rfl,rfl,rfl,fun _=>by first|exact aga _|exact agG _⟩,hk⟩;simp only [Instr.makeSlice,Sem.run_bind,a_ ht,Result.andThen_ok,asInt,asIntOf,Sem.run_pure,kV hi,wn,wm,Sem.run_ite,run_askRoom,cT hi,iR hi vo];rw [if_neg (by simp only [ahg,decide_eq_true_eq];omega)]
  by_cases XT:m.toNat*i'.size=0
  ·have:m.toNat=0:=by rcases Nat.mul_eq_zero.1 XT with h|h;exact h;omega
   rw [if_pos XT]
   simp [this,newRow,eJ,Array.range_zero']
  ·rw [if_neg XT]
   rw [←hs] at*;have:=t_ (z:=z) (by omega) m.toNat
   simp [newRow,this]
 ·exact h.elim
theorem Co [Go.Vc.Mode] {t e:TypeId} {i:TypeInfo} {z:Value} {len:Nat} {vs:List (Nat × Value)} (ht:P.underlying t=some (.slice e)) (hi:P.info? e=some i) (hz:iP P e=some z)
  (hl:len*i.size≤16777216) (hs: (bK z).length=i.size) (h1:1≤i.size) (h:aY H e len (eJ (bK z) len) (nr i.size vs) K):qF P (Instr.buildSlice t len vs.toArray) H K:=by
 intro w hw;subst hw;obtain⟨i',As,vo⟩:=fm hz;obtain rfl:i' =i:=by rw [hi] at As;exact(agN As).symm
 obtain⟨cs,hc,hk⟩:=oV (places:=fun j=>some (j*i'.size,i'.size)) _ vs (eJ (bK z) len) (xB vs) h;refine⟨_,{w with heap:=w.heap.push (.cells cs e)},?_,⟨rfl,rfl,rfl,fun _=>by first|exact aga _|exact agG _⟩,hk⟩;simp only [Instr.buildSlice,Sem.run_bind,a_ ht,Result.andThen_ok,cT hi,Sem.run_ite];rw [if_neg (by omega)]
 by_cases h0:len*i'.size=0
 ·have:len=0:=by rcases Nat.mul_eq_zero.1 h0 with h|h;exact h;omega
  subst this;simp only [eJ] at hc
  simp [newRow,Array.range_zero',hc]
 ·rw [if_neg h0]
  have hr:=t_ (z:=z) (by omega) len;rw [hs] at hr;simp only [Sem.run_bind,iR hi vo,Result.andThen_ok,Sem.run_pure,hr,hc]
  simp [newRow]
theorem Kt [Go.Vc.Mode] {s e:TypeId} {x:Value} (hs:P.underlying s=some (.slice e)) (he:P.underlying e=some (.int .u8)) (h:MQ H x K):qF P (convert s s x) H K:=by
 cases x<;>simp only [MQ] at h
 rename_i a n c
 cases a with
 |none=>exact h.elim
 |some a=>
  simp only at h;intro w hw;subst hw
  cases hb:w.heap[a.block]? with
  |none=>rw [hb] at h;exact h.elim
  |some ob=>
   rw [hb] at h
   cases ob with
   |cells cs t fr=>
    refine⟨.slice (some a) n c,{w with heap:=w.heap.setIfInBounds a.block (.cells cs t (MP fr cs.size))},?_,⟨rfl,rfl,rfl,fun _=>by first|exact aga _|exact agG _⟩,h⟩;simp only [convert,Sem.run_bind,a_ hs,a_ he,Result.andThen_ok,BEq.rfl,markStringish,run_shape,World.shape?,hb,run_freeze,Sem.run_pure]
    congr 1
    simp only [World.freeze];rw [if_neg (by omega)]
    congr 1
    apply ahS;intro j;rw [ah6,aik]
    by_cases hj:a.block=j
    ·subst hj
     have cF:a.block<w.heap.size:=by
      rw [ahT] at hb;exact hb.1
     rw [if_pos rfl,if_pos rfl,if_pos cF,hb]
     rfl
    ·rw [if_neg hj,if_neg hj]
   |_=>exact h.elim
theorem Hl [Go.Vc.Mode] {s t e:TypeId} {x:Value} (hs:P.underlying s=some .string) (ht:P.underlying t=some (.slice e)) (he:P.underlying e=some (.int .u8)) (h:G3 H e x K):qF P (convert s t x) H K:=by
 cases x<;>simp only [G3] at h
 rename_i b
 intro w hw;subst hw
 let c:= (Question.appendCap b.size 0 e).cut (w.tape w.drawn (Question.appendCap b.size 0 e))
 have hc:b.size≤c:=ah7 _ _;have hk:=h c (by rw [eK];exact hc);rw [eK] at hk;have eD: ((fL b).map bX++List.replicate (c - b.size) (Value.int .u8 0)).toArray= (b.data.map fun b=>Value.int .u8 b.toNat)++Array.replicate (c - b.size) (.int .u8 0):=by
  cases b
  apply ahP
  simp [fL]
 have kg: ((fL b).map bX++List.replicate (c - b.size) (Value.int .u8 0)).length=c:=by
  simp [eK];omega
 refine⟨.slice (some ⟨w.heap.size,0,none⟩) b.size c,{w with drawn:=w.drawn+1,heap:=w.heap.push (.cells ((fL b).map bX++List.replicate (c - b.size) (Value.int .u8 0)).toArray e (c,c+1))},?_,⟨rfl,rfl,rfl,fun _=>by first|exact aga _|exact agG _⟩,hk⟩;have hf: ∀q:Question,q= .appendCap b.size 0 e→q.forced=false:=fun q hq=>by subst hq;rfl
 simp only [convert,Sem.run_bind,a_ hs,a_ ht,a_ he,Result.andThen_ok,Conv.stringToBytes,run_choose,hf _ rfl,ahe,if_false,newRow,run_newObj,Sem.run_pure,markStringish,run_shape];rw [←eD];simp only [World.shape?,Array.getElem?_push_size,ag1,kg,Sem.run_bind,run_freeze,Result.andThen_ok,Sem.run_pure];simp only [World.freeze];rw [if_neg (by omega)]
 congr 2
 apply ahS;intro j;rw [ah6]
 by_cases hj:w.heap.size=j
 ·subst hj;simp
 ·rw [if_neg hj,ajm,ajm,if_neg (ahh hj),if_neg (ahh hj)]
theorem mv {x:Value} {m:Nat} (h:iJ x=some m) (w:World): (Builtin.lenOf x).run P w= .ok m w:=by
 cases x<;>simp only [iJ,reduceCtorEq,agf] at h
 ·subst h;simp [Builtin.lenOf,eK]
 ·subst h;simp [Builtin.lenOf]
theorem iT {x:Value} {m size:Nat} {new:List Value} {w:World} (hm:iJ x=some m) (h:cellsOf w.heap size x=some new) (hs: (∃s,x= .string s)→size=1∨True):
  (Builtin.firstCells size m x).run P w= .ok new.toArray w:=by
 cases x<;>simp only [iJ,reduceCtorEq,agf] at hm
 ·rename_i s
  subst hm;simp only [cellsOf,agf] at h;subst h;simp only [Builtin.firstCells,Sem.run_pure]
  congr 1
  rw [eK];have:s.extract 0 s.size=s:=by
   cases s with|mk d=>simp [ajj,ajl,ByteArray.size]
  rw [this]
  cases s;simp only [fL];apply ahP;simp
 ·rename_i a n c
  subst hm
  cases a with
  |none=>simp only [cellsOf,agf] at h;subst h;simp [Builtin.firstCells]
  |some a=>simp only [cellsOf] at h;exact gC h
theorem A8 (newLen:Nat): ∀ (k c:Nat),256≤c→c≤2*newLen→Builtin.growBy newLen k c≤2*newLen
 |0,c,_,h=>h
 |k+1,c,h0,h=>by
  simp only [Builtin.growBy]
  split
  ·exact h
  ·exact A8 newLen k _ (by omega) (by omega)
theorem nextslicecap_le {newLen oldCap:Nat} (h:oldCap<newLen):Builtin.nextslicecap newLen oldCap≤2*newLen:=by
 unfold Builtin.nextslicecap
 split
 ·omega
 ·split
  ·omega
  ·exact A8 _ _ _ (by omega) (by omega)
theorem iU {z:Value} (hz:1≤(bK z).length) (n:Nat):Builtin.zeroCells z.cells n= (eJ (bK z) n).toArray:=by
 have hs:z.cells.size= (bK z).length:=by rw [←iS];simp
 rw [←t_ hz n];simp only [Builtin.zeroCells,hs]
theorem vt [Go.Vc.Mode] {t u e:TypeId} {du:TypeDesc} {ty:TypeId} {i:TypeInfo} {z s x:Value} (ht:P.underlying t=some (.slice e)) (hu:P.underlying u=some du) (hdu: ∀k,du≠ .int k) (hi:P.info? e=some i) (hz:iP P e=some z)
  (hb:1≤i.bytes) (h1:1≤(bK z).length) (h:bj H e i.size i.bytes (bK z) s x K):qF P (Builtin.append_ #[t,u] ty #[s,x]) H K:=by
 intro w hw;subst hw;obtain⟨i',As,vo⟩:=fm hz;obtain rfl:i' =i:=by rw [hi] at As;exact(agN As).symm
 unfold bj at h
 split at h
 ·rename_i base n cap m new hm Em
  obtain⟨ha,hg⟩:=h;have En: ((du matches .int _):Bool)=false:=by cases du<;>first|rfl|exact absurd rfl (hdu _)
  by_cases hc:n+m≤cap
  ·have ha:=ha hc
   cases base with
   |none=>
    refine⟨_,w,?_,b0.refl w,ha⟩;simp only [Builtin.append_,agO,agB,agI,Sem.run_bind,a_ ht,a_ hu,Result.andThen_ok,cT hi,Sem.run_pure,En,ahe,if_false,mv hm,if_pos hc,
     ahG,if_true,iT hm Em (fun _=> .inr trivial)]
   |some a=>
    simp only at ha
    split at ha
    ·rename_i H' hs
     obtain⟨w',hr,mn,hh⟩:=run_storeCells_at (P:=P) hs;refine⟨_,w',?_,mn,by rw [hh];exact ha⟩;simp only [Builtin.append_,agO,agB,agI,Sem.run_bind,a_ ht,a_ hu,Result.andThen_ok,cT hi,Sem.run_pure,En,ahe,if_false,mv hm,if_pos hc,
      ahG,if_true,iT hm Em (fun _=> .inr trivial),hr]
    ·exact ha.elim
  ·obtain⟨SF,hg⟩:=hg (by omega)
   split at hg
   ·rename_i Uk hold
    let c:= (Question.appendCap (n+m) cap e).cut (w.tape w.drawn (Question.appendCap (n+m) cap e))
    have XU:n+m≤c:=ah7 _ _;have hk:=hg c XU;have jw: (Uk++new++eJ (bK z) (c - (n+m))).toArray=Uk.toArray++new.toArray++Builtin.zeroCells z.cells (c - (n+m)):=by
     rw [iU h1];simp
    refine⟨_,{w with drawn:=w.drawn+1,heap:=w.heap.push (.cells (Uk++new++eJ (bK z) (c - (n+m))).toArray e)},?_,⟨rfl,rfl,rfl,fun _=>by first|exact aga _|exact agG _⟩,hk⟩;have jh: ¬ (Builtin.nextslicecap (n+m) cap*i'.bytes>2 ^ 48):=by
     have:=nextslicecap_le (newLen:=n+m) (oldCap:=cap) (by omega);have:=aht i'.bytes this;omega
    have hq: (Question.appendCap (n+m) cap e).forced=false:=rfl;have XV: ¬ (((n+m:Nat):Int)>IntKind.i64.max∧((false:Bool)=true∨i'.bytes=0)):=by rintro⟨_,h|h⟩;cases h;omega
    have M8 : (Builtin.firstCells i'.size n (.slice base n cap)).run P {w with drawn:=w.drawn+1}= .ok Uk.toArray {w with drawn:=w.drawn+1}:=iT (w:= {w with drawn:=w.drawn+1}) rfl hold (fun _=> .inr trivial);have UZ : (Builtin.firstCells i'.size m x).run P {w with drawn:=w.drawn+1}= .ok new.toArray {w with drawn:=w.drawn+1}:=iT (w:= {w with drawn:=w.drawn+1}) hm Em (fun _=> .inr trivial);simp only [Builtin.append_,agO,agB,agI,Sem.run_bind,a_ ht,a_ hu,Result.andThen_ok,cT hi,Sem.run_pure,En,ahe,if_false,mv hm,if_neg hc,
     ahG,if_true,kV hi,Sem.run_ite]
    rw [if_neg (by simpa using XV),if_neg jh];simp only [Sem.run_bind,run_choose,hq,ahe,if_false,Result.andThen_ok,kV hi,run_askRoom,M8,UZ,iR hi vo,newRow,run_newObj,Sem.run_pure];rw [jw]
   ·exact hg.elim
 ·exact h.elim
theorem Cp [Go.Vc.Mode] {t u e:TypeId} {kd:IntKind} {ty:TypeId} {i:TypeInfo} {z s x:Value} (ht:P.underlying t=some (.slice e)) (hu:P.underlying u=some (.int kd)) (hi:P.info? e=some i) (hz:iP P e=some z)
  (hb:1≤i.bytes) (h1:1≤(bK z).length) (h2:1≤i.size) (h:oT H e i.bytes (bK z) s x K):qF P (Builtin.append_ #[t,u] ty #[s,x]) H K:=by
 intro w hw;subst hw;obtain⟨i',As,vo⟩:=fm hz;obtain rfl:i' =i:=by rw [hi] at As;exact(agN As).symm
 unfold oT at h
 split at h
 ·rename_i n
  obtain⟨⟨h0,hB⟩,hg⟩:=h;obtain⟨m,rfl⟩: ∃m:Nat,n=m:= ⟨n.toNat,by omega⟩;rw [af_] at hB hg;have MA:0<m:=by omega
  have hmb:2*m≤281474976710656:=agJ (ajn _ hb) hB;have hwr:IntKind.i64.wrap (m:Int)=m:=by simp [IntKind.wrap,IntKind.bits,IntKind.signed];omega
  let c:= (Question.appendCap m 0 e).cut (w.tape w.drawn (Question.appendCap m 0 e))
  have XU:m≤c:=ah7 _ _;have hk:=hg c XU;have jw: (eJ (bK z) m++eJ (bK z) (c - m)).toArray= #[]++Builtin.zeroCells z.cells m++Builtin.zeroCells z.cells (c - (0+m)):=by
   rw [iU h1,iU h1];simp
  refine⟨_,{w with drawn:=w.drawn+1,heap:=w.heap.push (.cells (eJ (bK z) m++eJ (bK z) (c - m)).toArray e)},?_,⟨rfl,rfl,rfl,fun _=>by first|exact aga _|exact agG _⟩,hk⟩;have jh: ¬ (Builtin.nextslicecap (0+m) 0*i'.bytes>2 ^ 48):=by
   have:=nextslicecap_le (newLen:=0+m) (oldCap:=0) (by omega);have:=aht i'.bytes this;rw [ags] at this ⊢;omega
  have hq: (Question.appendCap (0+m) 0 e).forced=false:=rfl;have Hm: ¬ ((m:Int)<0):=by omega
  have U0: ¬ ((m:Int)* (i'.bytes:Int)>2 ^ 48):=by
   have e1: (m:Int)* (i'.bytes:Int)= ((m*i'.bytes:Nat):Int):=by simp
   have e2:2*m*i'.bytes=2* (m*i'.bytes):=ah8 _ _ _;rw [e1];omega
  have XV: ¬ (((0+m:Nat):Int)>IntKind.i64.max∧((true:Bool)=true∨i'.bytes=0)):=by rintro⟨h,_⟩;simp [IntKind.max,IntKind.bits,IntKind.signed] at h;omega
  have XW: ¬ (0+m≤0):=by omega
  have hms: ¬ (m*i'.size=0):=by have:=ah9 MA h2;omega
  have XX: (asInt (.int .i64 (m:Int))).run P w= .ok (m:Int) w:=rfl;have M8 : (Builtin.firstCells i'.size 0 (.slice none 0 0)).run P {w with drawn:=w.drawn+1}= .ok #[] {w with drawn:=w.drawn+1}:=by simp [Builtin.firstCells]
  have En: ((TypeDesc.int kd matches .int _):Bool)=true:=rfl;simp only [Builtin.append_,agO,agB,agI,Sem.run_bind,a_ ht,a_ hu,Result.andThen_ok,cT hi,Sem.run_pure,En,XX,hwr,if_neg Hm,if_true,kV hi,if_neg U0,af_,if_neg XW,Sem.run_ite];rw [if_neg (by simpa using XV),if_neg jh];simp only [Sem.run_bind,run_choose,hq,ahn,ahe,if_false,Result.andThen_ok,kV hi,run_askRoom,M8,if_neg hms,iR hi vo,newRow,run_newObj,Sem.run_pure];rw [jw,ags]
 ·exact h.elim
theorem kY {r:Nat} {es:Array MapEntry} {c:Nat} {w:World} (h:w.heap[r]? =some (.map es c)): (getObj r).run P w= .ok (.map es c) w:=by simp [getObj,Sem.run,h]
theorem kZ {r:Nat} {es:Array MapEntry} {c:Nat} {o:Obj} {w:World} (h:w.heap[r]? =some (.map es c)): (setObj r o).run P w= .ok () {w with heap:=w.heap.setIfInBounds r o}:=by simp [setObj,Sem.run,h]
theorem xF {kind:Nat} {k:Value}: ∀ {es:List MapEntry} {i j:Nat} {v:Value},ko kind k es i=some (some (j,v))→∃e,es[j - i]? =some e∧i≤j∧kT kind k e.key=some true∧e.val=v
 | [],i,j,v,h=>by simp [ko] at h
 |e::es,i,j,v,h=>by
  simp only [ko] at h
  split at h
  ·rename_i hc
   simp only [agf,ahr] at h;obtain⟨rfl,rfl⟩:=h;exact⟨e,by simp,aga _,hc,rfl⟩
  ·obtain⟨e',he,hl,hk,hv⟩:=xF h
   refine⟨e',?_,by omega,hk,hv⟩;rw [show j - i= (j - (i+1))+1 by omega]
   simpa using he
  ·simp at h
theorem M9 {kind:Nat} {k k' :Value} (hd:kind=0∨kind=1) (h:kT kind k k' =some true) (w:World): (Instr.keyThatStays k' k).run P w= .ok k w:=by
 rcases hd with rfl|rfl
 ·obtain⟨j,m,n,rfl,rfl,hc⟩:=Qd h
  have:m=n:=by simpa using hc.symm
  subst this
  simp [Instr.keyThatStays,Instr.sameBits]
 ·obtain⟨s,t,rfl,rfl,hc⟩:=Qe h
  have:fL s=fL t:=by simpa using hc.symm
  rw [P9] at this;subst this;have: (s==s)=true:=by rw [ma];simp
  simp [Instr.keyThatStays,Instr.sameBits,this]
theorem Qh {d:TypeDesc} {kind:Nat} (hd:d= .string∧kind=1∨(∃j,d= .int j)∧kind=0):kind=0∨kind=1:=by rcases hd with ⟨_,h⟩ | ⟨_,h⟩<;>simp [h]
theorem vu [Go.Vc.Mode] {t kt e:TypeId} {d:TypeDesc} {kind:Nat} {m k v:Value} (ht:P.underlying t=some (.map kt e)) (hu:P.underlying kt=some d)
  (hd:d= .string∧kind=1∨(∃j,d= .int j)∧kind=0) (h:ie H kind m k v K):M6 P (Instr.mapUpdate t m k v) H K:=by
 intro w hw;subst hw
 cases m<;> (try simp only [ie] at h)
 rename_i r
 cases r<;> (try simp only [ie] at h)
 rename_i r
 split at h
 ·rename_i es clock hr
  split at h
  ·rename_i j u hf
   obtain⟨en,he,_,hk,_⟩:=xF hf;refine⟨{w with heap:=w.heap.setIfInBounds r _},?_,⟨rfl,rfl,rfl,fun _=>by first|exact aga _|exact agG _⟩,h⟩;have Ap: ((es[j]?).map (·.key)).getD k=en.key:=by simp at he;simp [he]
   simp only [Instr.mapUpdate,Sem.run_bind,a_ ht,Result.andThen_ok,kY hr,qa hu (qc hd),run_findKey hu hd hf,Ap,M9 (Qh hd) hk,kZ hr]
  ·rename_i hf
   refine⟨{w with heap:=w.heap.setIfInBounds r _},?_,⟨rfl,rfl,rfl,fun _=>by first|exact aga _|exact agG _⟩,h⟩;simp only [Instr.mapUpdate,Sem.run_bind,a_ ht,Result.andThen_ok,kY hr,qa hu (qc hd),run_findKey hu hd hf,kZ hr]
  ·exact h.elim
 ·exact h.elim
theorem vv [Go.Vc.Mode] {t u kt e ty:TypeId} {d:TypeDesc} {kind:Nat} {m k:Value} (ht:P.underlying t=some (.map kt e)) (hu:P.underlying kt=some d)
  (hd:d= .string∧kind=1∨(∃j,d= .int j)∧kind=0) (h:lK H kind m k K):qF P (Builtin.delete_ #[t,u] ty #[m,k]) H K:=by
 intro w hw;subst hw
 cases m<;> (try simp only [lK] at h)
 rename_i r
 cases r<;> (try simp only [lK] at h)
 rename_i r
 split at h
 ·rename_i es clock hr
  split at h
  ·rename_i j u hf
   refine⟨_,{w with heap:=w.heap.setIfInBounds r _},?_,⟨rfl,rfl,rfl,fun _=>by first|exact aga _|exact agG _⟩,h⟩
   simp [Builtin.delete_,a_ ht,kY hr,qa hu (qc hd),run_findKey hu hd hf,kZ hr]
  ·rename_i hf
   refine⟨_,w,?_,b0.refl w,h⟩;have:w.heap.setIfInBounds r (.map es clock)=w.heap:=by
    apply ahS;intro j;rw [aik]
    by_cases hj:r=j
    ·subst hj
     have hl:r<w.heap.size:=by
      rcases ag6 r w.heap.size with h|h
      ·exact h
      ·simp [ahH h] at hr
     simp [hl] at hr ⊢
     exact hr.symm
    ·simp [hj]
   simp [Builtin.delete_,a_ ht,kY hr,qa hu (qc hd),run_findKey hu hd hf,kZ hr,this]
  ·exact h.elim
 ·exact h.elim
theorem Eo [Go.Vc.Mode] {t kt e ty:TypeId} {m:Value} (ht:P.underlying t=some (.map kt e)) (h:nq H m K):qF P (Builtin.clear_ #[t] ty #[m]) H K:=by
 intro w hw;subst hw
 cases m<;> (try simp only [nq] at h)
 rename_i r
 cases r<;> (try simp only [nq] at h)
 ·exact⟨_,w,by simp [Builtin.clear_,a_ ht],b0.refl w,h⟩
 ·rename_i r
  split at h
  ·rename_i es clock hr
   refine⟨_,{w with heap:=w.heap.setIfInBounds r _},?_,⟨rfl,rfl,rfl,fun _=>by first|exact aga _|exact agG _⟩,h⟩
   simp [Builtin.clear_,a_ ht,kY hr,kZ hr]
  ·exact h.elim
theorem Ku [Go.Vc.Mode] {t e ty:TypeId} {d:ChanDir} {x:Value} (ht:P.underlying t=some (.chan d e)) (h:MO H x K):qF P (Builtin.len_ #[t] ty #[x]) H K:=by
 intro w hw;subst hw
 cases x<;>simp only [MO] at h
 rename_i r
 cases r with
 |none=>exact⟨_,w,by simp [Builtin.len_,a_ ht,goInt],⟨rfl,rfl,rfl,fun _=>by first|exact aga _|exact agG _⟩,h⟩
 |some r=>
  simp only at h
  split at h
  ·rename_i cap buf cl s r2 tm hr
   exact⟨_,w,by simp [Builtin.len_,a_ ht,goInt,getObj,Sem.run,hr],⟨rfl,rfl,rfl,fun _=>by first|exact aga _|exact agG _⟩,h⟩
  ·exact h.elim
theorem mw [Go.Vc.Mode] {s:Sem Value} (h:tW H P s K):qF P s H K:=by
 intro w hw;have:=h w hw
 split at this
 ·rename_i v w' hr;exact⟨v,w',hr,this⟩
 ·exact this.elim
theorem M_ {s:Value} {m n:Nat} {new:List Value} {size:Nat} {w:World} (hm:iJ s=some m)
  (h:cellsOf w.heap size (D5 (min m n) s)=some new):
  (Builtin.firstCells size (Nat.min m n) s).run P w= .ok new.toArray w:=by
 have e:Nat.min m n=min m n:=rfl;rw [e]
 cases s<;>simp only [iJ,reduceCtorEq,agf] at hm
 ·rename_i b
  simp only [D5,cellsOf,agf,bu] at h;subst h;simp only [Builtin.firstCells,Sem.run_pure]
  congr 1
  apply ahP
  simp [fL,ajl,ai0]
 ·rename_i a l c
  cases a with
  |none=>simp only [D5,cellsOf,agf] at h;subst h;simp [Builtin.firstCells]
  |some a=>simp only [D5,cellsOf] at h;exact gC h
theorem Kv [Go.Vc.Mode] {t u e ty:TypeId} {i:TypeInfo} {d s:Value} (ht:P.underlying t=some (.slice e)) (hi:P.info? e=some i) (h:MN H i.size d s K):qF P (Builtin.copy_ #[t,u] ty #[d,s]) H K:=by
 intro w hw;subst hw;unfold MN at h
 split at h
 ·rename_i base n c m hm
  split at h
  ·rename_i new Em
   have hl:=M_ (P:=P) hm Em
   cases base with
   |none=>
    refine⟨_,w,?_,b0.refl w,h⟩;simp only [Builtin.copy_,agO,agB,agI,Sem.run_bind,a_ ht,Result.andThen_ok,mv hm,cT hi,hl,Sem.run_pure,goInt]
   |some a=>
    simp only at h
    split at h
    ·rename_i H' hs
     obtain⟨w',hr,mn,hh⟩:=run_storeCells_at (P:=P) hs;refine⟨_,w',?_,mn,by rw [hh];exact h⟩;simp only [Builtin.copy_,agO,agB,agI,Sem.run_bind,a_ ht,Result.andThen_ok,mv hm,cT hi,hl,Sem.run_pure,goInt,hr]
    ·exact h.elim
  ·exact h.elim
 ·exact h.elim
theorem Ep [Go.Vc.Mode] {t e ty:TypeId} {z x:Value} (ht:P.underlying t=some (.slice e)) (hz:iP P e=some z) (h1:1≤(bK z).length) (h:si H (bK z) x K):qF P (Builtin.clear_ #[t] ty #[x]) H K:=by
 intro w hw;subst hw;obtain⟨i',As,vo⟩:=fm hz;unfold si at h
 split at h
 ·exact⟨_,w,by simp [Builtin.clear_,a_ ht],b0.refl w,h⟩
 ·rename_i a n c
  split at h
  ·rename_i H' hs
   obtain⟨w',hr,mn,hh⟩:=run_storeCells_at (P:=P) hs
   by_cases h0:n=0
   ·subst h0
    simp only [eJ,eA,agf] at hs;subst hs;exact⟨_,w,by simp [Builtin.clear_,a_ ht],b0.refl w,h⟩
   ·refine⟨_,w',?_,mn,by rw [hh];exact h⟩
    obtain⟨m,rfl⟩: ∃m,n=m+1:= ⟨n - 1,by omega⟩
    simp [Builtin.clear_,a_ ht,iR As vo,iU h1,hr]
  ·exact h.elim
 ·exact h.elim
theorem Jy {α:Type} {a:Array α} {x:α} (h:a.toList= [x]):a= #[x]:=by cases a;simp at h;simp [h]
theorem A9 {α:Type} {a:Array α} {x y:α} (h:a.toList= [x,y]):a= #[x,y]:=by cases a;simp at h;simp [h]
theorem toA {ρ:Env} (a:Array Operand): (MJ ρ a.toList).toArray=a.map (ev ρ):=by rw [He];cases a;simp
def gm (P:Program) (C:List Nat):Prop:= ∀f,jT f C=true→∀ (args:Array Value) (w:World),(callFunc f args).run P w= .ok (.enter f args) w
theorem ua [Go.Vc.Mode] {C:List Nat} (hC:gm P C) {dst:Option Tmp} {op:Op} {ty:TypeId} {pos:String} {af:Array Edge} {g:Option (Nat × Bool)} {ρ:Env} (h:PG P ρ C op ty H K):
  ∀w:World,w.heap=H→after P K w ((execOp (ev ρ) ⟨dst,op,ty,pos,af,g⟩).run P w):=by
 cases op<;>first|exact(h:False).elim|skip
 case alloc e=>
  simp only [PG] at h
  split at h
  ·rename_i z hz;exact(Hk hz h).exec rfl
  ·exact h.elim
 case box e v=>exact(M7 h).exec rfl
 case buildSlice t len ps=>
  simp only [PG] at h
  split at h
  ·rename_i e ht
   split at h
   ·rename_i i z hi hz
    cases hb: (Nat.ble (len*i.size) 16777216 && (Nat.beq (bK z).length i.size && Nat.ble 1 i.size)) with
    |false=>rw [hb] at h;exact h.elim
    |true=>
     rw [hb] at h;simp only [agk] at hb;obtain⟨h1,h2,h3⟩:=hb;have e1:execOp (ev ρ) ⟨dst,.buildSlice t len ps,ty,pos,af,g⟩= (do pure (.value (←Instr.buildSlice t len (D4 ρ ps.toList).toArray))):=by
      rw [Cn,show ∀f:Nat × Operand→Nat × Value,(ps.toList.map f).toArray=ps.map f from fun f=>by cases ps;simp];rfl
     exact(Co ht hi hz (agm h1) (agR h2) (agm h3) h).exec e1
   ·exact h.elim
  ·exact h.elim
 case store t x v=>
  simp only [PG] at h
  split at h
  ·rename_i d i hd hi
   cases ha:dU P t with
   |true=>rw [ha] at h;exact(Ek hi h).exec rfl
   |false=>
    rw [ha] at h;simp only [cond_false] at h
    cases h1:Nat.beq i.size 1 with
    |false=>rw [h1] at h;exact h.elim
    |true=>rw [h1] at h;exact(Hj hi h1 h).exec rfl
  ·exact h.elim
 case convert s d x=>
  simp only [PG] at h
  split at h
  ·rename_i e hs hd
   split at h
   ·rename_i he;exact(Hl hs hd he h).exec rfl
   ·exact h.elim
  ·rename_i e e2 hs hd
   split at h
   ·rename_i he
    cases hb:Nat.beq s d with
    |false=>rw [hb] at h;exact h.elim
    |true=>
     rw [hb] at h;obtain rfl:=agR hb;exact(Kt hs he h).exec rfl
   ·exact h.elim
  ·exact h.elim
 case makeMap t r=>
  cases r with
  |some r=>exact(h:False).elim
  |none=>
   intro w hw;subst hw;exact⟨⟨rfl,rfl,rfl,fun _=>by first|exact aga _|exact agG _⟩,h⟩
 case makeSlice t l c=>
  simp only [PG] at h
  split at h
  ·rename_i e ht
   split at h
   ·rename_i i z hi hz
    cases hb: (Nat.beq (bK z).length i.size && Nat.ble 1 i.size) with
    |false=>rw [hb] at h;exact h.elim
    |true=>
     rw [hb] at h;simp only [agk] at hb;exact(El ht hi hz (agR hb.1) (agm hb.2) h).exec rfl
   ·exact h.elim
  ·exact h.elim
 case mapUpdate t m k v=>
  simp only [PG] at h
  split at h
  ·rename_i kt e ht
   split at h
   ·rename_i j hu;exact(vu ht hu (.inr ⟨⟨j,rfl⟩,rfl⟩) h).exec rfl
   ·rename_i hu;exact(vu ht hu (.inl ⟨rfl,rfl⟩) h).exec rfl
   ·exact h.elim
  ·exact h.elim
 case mapEntry t m k=>exact(mw h).exec rfl
 case entryStore t m k v=>
  have hr:=mw h;intro w hw;obtain⟨v',w',hr,hk⟩:=hr w hw;have: (Instr.entryStore t (ev ρ m) (ev ρ k) (ev ρ v)).run P w= .ok () w' :=by
   simp only [Sem.run_bind] at hr
   cases hx: (Instr.entryStore t (ev ρ m) (ev ρ k) (ev ρ v)).run P w with
   |ok u w2=>rw [hx] at hr;simp at hr;rw [hr.2]
   |halt h w2=>rw [hx] at hr;simp at hr
  have e:execOp (ev ρ) ⟨dst,.entryStore t m k v,ty,pos,af,g⟩= (do Instr.entryStore t (ev ρ m) (ev ρ k) (ev ρ v);pure .skip):=rfl;rw [e];simpa [this,after] using hk
 case makeChan t n=>exact(mw h).exec rfl
 case range t x=>exact(mw h).exec rfl
 case next it s=>exact(mw h).exec rfl
 case entry it=>exact(mw h).exec rfl
 case call c=>
  obtain⟨callee,args,D7⟩:=c
  cases callee with
  |invoke r m=>exact(h:False).elim
  |value f=>
   have main: ∀ (fv:Value),ev ρ f=fv→jk P C fv (MJ ρ args.toList) H K→∀w:World,w.heap=H→after P K w ((execOp (ev ρ) ⟨dst,.call ⟨.value f,args,D7⟩,ty,pos,af,g⟩).run P w):=by
    intro fv hf h w hw;subst hw;unfold jk at h
    split at h
    ·rename_i gg first cap
     cases hm:jT gg C with
     |false=>rw [hm] at h;exact h.elim
     |true=>
      rw [hm] at h;simp only [cond_true] at h;have e: (first.toList++MJ ρ args.toList++cap.toList).toArray=first++args.map (ev ρ)++cap:=by
       rw [←toA (ρ:=ρ) args];apply ahP;simp
      rw [e] at h;have: (execOp (ev ρ) ⟨dst,.call ⟨.value f,args,D7⟩,ty,pos,af,g⟩).run P w= .ok (.enter gg (first++args.map (ev ρ)++cap)) w:=by
       simp only [execOp,resolve,hf,Deferred.ofValue,pure_bind,invoke];exact hC gg hm _ w
      rw [this];exact⟨b0.refl w,h⟩
    ·exact h.elim
   simp only [PG] at h
   cases f with
   |func gg=>
    refine main _ rfl ?_
    simpa [jk,ev] using h
   |tmp t=>exact main _ rfl h
   |const v=>exact main _ rfl h
   |global gg=>exact main _ rfl h
  |builtin b=>
   simp only [PG] at h;unfold D8 at h
   split at h
   ·rename_i s x t u ha ht
    rw [A9 ha,A9 ht];have ex:execOp (ev ρ) ⟨dst,.call ⟨.builtin .append,#[s,x],#[t,u]⟩,ty,pos,af,g⟩= (do pure (.value (←Builtin.append_ #[t,u] ty #[ev ρ s,ev ρ x]))):=by
     simp [execOp,resolve,invoke,builtin]
    split at h
    ·rename_i e e2 RP SG
     split at h
     ·rename_i i z hi hz
      cases hb: (Nat.ble 1 i.bytes && Nat.ble 1 (bK z).length) with
      |false=>rw [hb] at h;exact h.elim
      |true=>
       rw [hb] at h;simp only [agk] at hb;exact(vt RP SG (fun k=>by simp) hi hz (agm hb.1) (agm hb.2) h).exec ex
     ·exact h.elim
    ·rename_i e RP SG
     split at h
     ·rename_i i z hi hz
      cases hb: (Nat.ble 1 i.bytes && Nat.ble 1 (bK z).length) with
      |false=>rw [hb] at h;exact h.elim
      |true=>
       rw [hb] at h;simp only [agk] at hb;exact(vt RP SG (fun k=>by simp) hi hz (agm hb.1) (agm hb.2) h).exec ex
     ·exact h.elim
    ·rename_i e kd RP SG
     split at h
     ·rename_i i z hi hz
      cases hb: (Nat.ble 1 i.bytes && (Nat.ble 1 (bK z).length && Nat.ble 1 i.size)) with
      |false=>rw [hb] at h;exact h.elim
      |true=>
       rw [hb] at h;simp only [agk] at hb;exact(Cp RP SG hi hz (agm hb.1) (agm hb.2.1) (agm hb.2.2) h).exec ex
     ·exact h.elim
    ·exact h.elim
   ·rename_i d s t u ha ht
    rw [A9 ha,A9 ht]
    split at h
    ·rename_i e hu
     split at h
     ·rename_i i hi;exact(Kv (u:=u) (ty:=ty) hu hi h).exec (by simp [execOp,resolve,invoke,builtin])
     ·exact h.elim
    ·exact h.elim
   ·rename_i m k t u ha ht
    rw [A9 ha,A9 ht]
    split at h
    ·rename_i kt e hu
     split at h
     ·rename_i j hk;exact(vv (u:=u) (ty:=ty) hu hk (.inr ⟨⟨j,rfl⟩,rfl⟩) h).exec (by simp [execOp,resolve,invoke,builtin])
     ·rename_i hk;exact(vv (u:=u) (ty:=ty) hu hk (.inl ⟨rfl,rfl⟩) h).exec (by simp [execOp,resolve,invoke,builtin])
     ·exact h.elim
    ·exact h.elim
   ·rename_i m t ha ht
    rw [Jy ha,Jy ht]
    split at h
    ·rename_i kt e hu;exact(Eo (ty:=ty) hu h).exec (by simp [execOp,resolve,invoke,builtin])
    ·rename_i e hu
     split at h
     ·rename_i z hz
      cases hb:Nat.ble 1 (bK z).length with
      |false=>rw [hb] at h;exact h.elim
      |true=>rw [hb] at h;exact(Ep (ty:=ty) hu hz (agm hb) h).exec (by simp [execOp,resolve,invoke,builtin])
     ·exact h.elim
    ·exact h.elim
   ·rename_i x t ha ht
    rw [Jy ha,Jy ht]
    split at h
    ·rename_i d e hu;exact(Ku (ty:=ty) hu h).exec (by simp [execOp,resolve,invoke,builtin])
    ·exact h.elim
   ·exact h.elim
end
end
section
def bn (a:Act):Env:=fun t=>a.tmps.getD t undef
theorem ky (a:Act):a.eval=ev (bn a):=by funext x;cases x<;>rfl
theorem iB {a:Act} {dst:Option Tmp} {v:Value} (h: ∀d,dst=some d→d<a.tmps.size):bn (a.put dst v)= (bn a).put dst v:=by
 cases dst with
 |none=>rfl
 |some d=>
  funext s
  have hd:=h d rfl;simp only [bn,Act.put,Env.put,Env.PF]
  by_cases hs:s=d
  ·subst hs;simp [hd]
  ·have:Nat.beq s d=false:=by cases h:Nat.beq s d with|false=>rfl|true=>exact absurd (agR h) hs
   simp [this,ajK (ahh hs)]
def QN (N:Act→World→Prop):Exit→Act→World→Prop
 | .normal,a,w=>N a w
 |_,_,_=>False
theorem Qi {N:Act→World→Prop}: ¬LetsOut (QN N):=fun ⟨_,_,h⟩=>h
section
variable {P:Program} {ops:Array Oper} {N:Act→World→Prop}
def cz (P:Program) (ops:Array Oper) (o:Oper) (v:Value) (a:Act) (w:World):Prop:=
 (Region.wanted o (yielded ops a.tmps)=true∧(execOp a.eval o).run P w= .ok (.value v) w)∨(Region.wanted o (yielded ops a.tmps)=false∧v=undef)
theorem cz.of_same {o:Oper} {v:Value} {a a' :Act} {w:World} (hy:cz P ops o v a w) (he:execOp a'.eval o=execOp a.eval o)
  (hw:Region.wanted o (yielded ops a'.tmps)=Region.wanted o (yielded ops a.tmps)):cz P ops o v a' w:=by
 unfold cz at*;rw [he,hw];exact hy
theorem cz.wpOp {i:Nat} {o:Oper} {v:Value} {a:Act} {w:World} {Q:Exit→Act→World→Prop} (hi:ops[i]? =some o) (hy:cz P ops o v a w)
  {K:Act→World→Prop} (h:K (a.put o.dst v) w):wpOp P ops Q i K a w:=by
 unfold Go.wpOp;simp only [hi];rcases hy with ⟨hw,hv⟩ | ⟨hw,rfl⟩
 ·simp only [hw,if_true,Oper.wp,hv,Oper.upon];exact .inl h
 ·simp only [hw,ahe,if_false];exact h
def Obl (P:Program) (ops:Array Oper) (b:Nat→Nat→Bool) (D:List Nat) (j:Nat) (a:Act) (w w' :World):Prop:=
 ∀i∈D,b i j=false→∀o,ops[i]? =some o→∀d,o.dst=some d→cz P ops o (bn a d) a w→cz P ops o (bn a d) a w'
def SH (P:Program) (ops:Array Oper) (N:Act→World→Prop) (b:Nat→Nat→Bool):Nat→Array Bool→List Nat→Act→World→Prop
 |0,listed,_,a,w=>Region.ready .any ops listed= []∧N a w
 |fuel+1,listed,D,a,w=>
  (Region.ready .any ops listed= []→N a w)∧
  ∀j∈Region.ready .any ops listed,wpOp P ops (QN N) j (fun a' w' =>Obl P ops b D j a w w' ∧SH P ops N b fuel (listed.setIfInBounds j true) D a' w') a w
theorem xG {b:Nat→Nat→Bool} {D:List Nat}: ∀ (fuel:Nat) (listed:Array Bool) (a:Act) (w:World),SH P ops N b fuel listed D a w→wpAny P .any ops (QN N) fuel listed a w
 |0,_,_,_,h=>h
 |fuel+1,_,_,_,h=> ⟨h.1,fun i hi=>wpOp_mono (fun a' w' h' =>xG fuel _ a' w' h'.2) (h.2 i hi)⟩
theorem Hn {j:Nat} {oi oj:Oper} {v:Value} (hj:ops[j]? =some oj) (SI:oi.apart ops oj=true)
  (hsj: ∀cs b,oj.op≠ .select cs b) {K:Act→World→Prop} {a:Act} {w:World}
  (h:wpOp P ops (QN N) j K (a.put oi.dst v) w):
  wpOp P ops (QN N) j (fun a' w' => (∃u,a'.tmps= (a.put oj.dst u).tmps)∧K (a'.put oi.dst v) w') a w:=by
 obtain⟨h1,h2,h3⟩:=Oper.apart_spec SI;unfold wpOp at*;simp only [hj] at*;rw [wanted_put oj a oi.dst v h1] at h
 split
 ·rename_i hw
  simp only [hw,if_true] at h;rcases h with h| ⟨_,U1⟩
  case inr=>exact(Qi U1).elim
  refine .inl ?_;unfold Oper.wp at*;rw [execOp_put oj hsj a oi.dst v h1] at h;generalize hr: (execOp a.eval oj).run P w=r at*
  cases r with
  |ok n w' =>
   cases n<;>simp only [Oper.upon] at h ⊢
   case value u=>exact⟨⟨u,rfl⟩,by rw [←Act.put_comm a v u h2];exact h⟩
   case skip=>exact⟨⟨_,rfl⟩,by rw [←Act.put_comm a v undef h2];exact h⟩
   case defer d=>
    refine⟨⟨undef,by cases oj.dst<;>rfl⟩,?_⟩;rw [←Act.put_comm _ v undef h2,←Act.put_defers];exact h
   case enter f args=>
    refine Calls.mono h fun e Au he=>?_
    cases e with
    |returned u=>exact⟨⟨u,rfl⟩,by rw [←Act.put_comm a v u h2];exact he⟩
    |panicked c=>exact he
    |outgrown=>exact he
   case row row args=>exact Rows.mono h fun u Au he=> ⟨⟨u,rfl⟩,by rw [←Act.put_comm a v u h2];exact he⟩
  |halt x w' =>
   cases x<;>simp only [Oper.upon] at h ⊢
   case panic u=>exact h
 ·rename_i hw
  simp only [hw] at h;exact⟨⟨_,rfl⟩,by rw [←Act.put_comm a v undef h2];exact h⟩
theorem cz.Jz {o:Oper} {v:Value} {a a' :Act} {w:World} (hy:cz P ops o v a w) (h:a'.tmps=a.tmps):cz P ops o v a' w:=by
 have he:a'.eval=a.eval:=by funext x;cases x<;>simp [Act.eval,h]
 exact hy.of_same (by rw [he]) (by rw [h])
theorem cz.put {o:Oper} {v u:Value} {a:Act} {w:World} {dst:Option Tmp} (hs: ∀cs b,o.op≠ .select cs b) (hd: ∀d,dst=some d→d∉o.looksAt ops):cz P ops o v (a.put dst u) w↔cz P ops o v a w:=by
 constructor
 ·intro h
  exact h.of_same (execOp_put o hs a dst u hd).symm (wanted_put o a dst u hd).symm
 ·intro h
  exact h.of_same (execOp_put o hs a dst u hd) (wanted_put o a dst u hd)
def nu [Go.Vc.Mode] (ops:Array Oper) (listed:Array Bool):Prop:= ∀ (k:Nat) (o:Oper),ops[k]? =some o→listed.getD k false=true→∀e∈o.after,Region.binds .any e=true→listed.getD e.on false=true
theorem nu.add [Go.Vc.Mode] {listed:Array Bool} {j:Nat} (h:nu ops listed) (hj:j∈Region.ready .any ops listed):nu ops (listed.setIfInBounds j true):=by
 obtain⟨_,oj,SJ,ij⟩:=mem_ready.1 hj;intro k o ho hk e he hb
 by_cases Qj:j=k
 ·subst Qj
  rw [SJ] at ho;obtain rfl:=agN ho;exact getD_set_true (ij e he hb)
 ·rw [getD_set_ne false Qj] at hk
  exact getD_set_true (h k o ho hk e he hb)
def okB [Go.Vc.Mode] (ops:List Oper) (Bs:List Nat):Bool:=Bs.zipIdx.all fun (x,j)=>match ops[j]? with
 |some o=>Nat.beq (x|||o.after.toList.foldl (fun s e=>bif Region.binds .any e && Nat.blt e.on j then s|||2 ^ e.on|||Bs.getD e.on 0 else s) 0) (o.after.toList.foldl (fun s e=>bif Region.binds .any e && Nat.blt e.on j then s|||2 ^ e.on|||Bs.getD e.on 0 else s) 0)
 |none=>Nat.beq x 0
def SK (Bs:List Nat) (i j:Nat):Bool:= (Bs.getD j 0).testBit i
theorem A_ {Bs:List Nat} {i j:Nat}: ∀ (l:List Edge) (s:Nat),(l.foldl (fun s e=>bif Region.binds .any e && Nat.blt e.on j then s|||2 ^ e.on|||Bs.getD e.on 0 else s) s).testBit i=true→
  s.testBit i=true∨∃e∈l,Region.binds .any e=true∧e.on<j∧(e.on=i∨SK Bs i e.on=true)
 | [],s,h=> .inl h
 |e::l,s,h=>by
  simp only [ah3] at h;rcases A_ l _ h with h| ⟨e',Um,h⟩
  ·cases hb: (Region.binds .any e && Nat.blt e.on j) with
   |false=>rw [hb] at h;exact .inl h
   |true=>
    rw [hb] at h;simp only [cond_true,Nat.testBit_or,ahg] at h;simp only [agk] at hb;have cF:e.on<j:=by have:=hb.2;rwa [ail] at this
    rcases h with (h|h) |h
    ·exact .inl h
    ·rw [Nat.testBit_two_pow] at h
     exact .inr ⟨e,by simp,hb.1,cF,.inl (by simpa using h)⟩
    ·exact .inr ⟨e,by simp,hb.1,cF,.inr h⟩
  ·exact .inr ⟨e',af7 _ Um,h⟩
theorem xH [Go.Vc.Mode] {Bs:List Nat} (hB:okB ops.toList Bs=true) {listed:Array Bool} (hc:nu ops listed): ∀ (n j i:Nat),j<n→SK Bs i j=true→(∀o,ops[j]? =some o→∀e∈o.after,Region.binds .any e=true→listed.getD e.on false=true)→listed.getD i false=true:=by
 intro n
 induction n with
 |zero=>intro j i h;omega
 |succ n ih=>
  intro j i hj hb ij;unfold okB at hB;rw [ahu] at hB;unfold SK at hb
  cases hx:Bs[j]? with
  |none=>simp [agd,hx] at hb
  |some x=>
   rw [agd,hx] at hb;simp only [ahi] at hb;have hm:=hB (x,j) (by rw [List.mem_zipIdx_iff_getElem?];exact hx);simp only at hm
   cases ho:ops.toList[j]? with
   |none=>
    rw [ho] at hm;have:=agR hm;subst this
    simp at hb
   |some o=>
    rw [ho] at hm;have heq:=agR hm;have U2: (x|||o.after.toList.foldl (fun s e=>bif Region.binds .any e && Nat.blt e.on j then s|||2 ^ e.on|||Bs.getD e.on 0 else s) 0).testBit i=true:=by
     rw [Nat.testBit_or,hb];rfl
    rw [heq] at U2;have ub :ops[j]? =some o:=by simpa using ho
    rcases A_ _ _ U2 with h| ⟨e,he,Ho,cF,h⟩
    ·simp at h
    ·have hl:=ij o ub e (by simpa using he) Ho
     rcases h with h|h
     ·rw [←h];exact hl
     ·exact ih e.on i (by omega) h (fun o2 Hp e2 PI SF=>hc e.on o2 Hp hl e2 PI SF)
theorem xI {b:Nat→Nat→Bool} {D D' :List Nat} (hD: ∀k∈D,k∈D'): ∀ (fuel:Nat) (listed:Array Bool) (a:Act) (w:World),SH P ops N b fuel listed D' a w→SH P ops N b fuel listed D a w
 |0,_,_,_,h=>h
 |fuel+1,_,_,_,h=> ⟨h.1,fun i hi=>wpOp_mono (fun a' w' h' => ⟨fun k hk=>h'.1 k (hD k hk),xI hD fuel _ a' w' h'.2⟩) (h.2 i hi)⟩
def ss (ops:Array Oper) (x y:Oper):Bool:=match x.dst with
 |some d=> !(y.looksAt ops).contains d && y.dst !=some d
 |none=>true
theorem Av {x y:Oper} (h:ss ops x y=true): (∀d,x.dst=some d→d∉y.looksAt ops)∧(∀d,x.dst=some d→y.dst≠some d):=by
 constructor<;>intro d hd<;>simp [ss,hd] at h
 ·exact h.1
 ·exact h.2
theorem Kw [Go.Vc.Mode] {b:Nat→Nat→Bool} {i:Nat} {oi:Oper} {v:Value} {D D' :List Nat} (hi:ops[i]? =some oi) (Hq: ∀ (j:Nat) (o:Oper) cs b,ops[j]? =some o→o.op≠ .select cs b)
  (Ba: ∀d,oi.dst=some d→d∉oi.looksAt ops) (hD: ∀k∈D,∀ok,ops[k]? =some ok→ss ops oi ok=true)
  (Bb: ∀listed:Array Bool,nu ops listed→∀j∈Region.ready .any ops listed,b i j=true→listed.getD i false=true):
  ∀ (fuel:Nat) (listed:Array Bool) (a:Act) (w:World),(∀d,oi.dst=some d→d<a.tmps.size)→nu ops listed→
   (∀j oj,ops[j]? =some oj→j≠i→listed.getD j true=false→(∀e∈oj.after,Region.binds .any e=true→e.on≠i)→oi.apart ops oj=true)→
   i∈Region.ready .any ops listed→((D' =i::D∧oi.dst≠none∧cz P ops oi v a w)∨(D' =D∧∀w',cz P ops oi v a w'))→
   SH P ops N b fuel (listed.setIfInBounds i true) D' (a.put oi.dst v) w→SH P ops N b (fuel+1) listed D a w:=by
 intro fuel
 induction fuel with
 |zero=>
  intro listed a w _ _ _ hr hy H;refine⟨fun h=> (by rw [h] at hr;cases hr),fun j hj=>?_⟩
  by_cases MB:j=i
  ·subst MB
   have XY :cz P ops oi v a w:=by rcases hy with ⟨_,_,h⟩ | ⟨_,h⟩;exact h;exact h w
   exact XY.wpOp hi ⟨fun _ _ _ _ _ _ _ h=>h,H⟩
  ·have:=ready_mono hj MB
   rw [H.1] at this
   cases this
 |succ fuel ih=>
  intro listed a w kg dX RQ hr hy H;refine⟨fun h=> (by rw [h] at hr;cases hr),fun j hj=>?_⟩;have XY :cz P ops oi v a w:=by rcases hy with ⟨_,_,h⟩ | ⟨_,h⟩;exact h;exact h w
  have Z_ : ∀k∈D,k∈D' :=by rcases hy with ⟨rfl,_⟩ | ⟨rfl,_⟩;exact fun k hk=>af7 _ hk;exact fun k hk=>hk
  by_cases MB:j=i
  ·subst MB
   refine XY.wpOp hi ⟨fun _ _ _ _ _ _ _ h=>h,?_⟩;exact xI Z_ _ _ _ _ H
  ·have h1:=H.2 j (ready_mono hj MB)
   obtain⟨U3,oj,SJ,ij⟩:=mem_ready.1 hj;have Hr:listed.getD i false=false:=by
    have:= (mem_ready.1 hr).1;rcases ag6 i listed.size with h' |h'
    ·simpa [h'] using this
    ·simp [ahH h'] at this
   have XZ: ∀e∈oj.after,Region.binds .any e=true→e.on≠i:=fun e he hb heq=>by
    have h1:=ij e he hb;rw [heq,Hr] at h1
    cases h1
   have SI:=RQ j oj SJ MB U3 XZ;obtain⟨g1,g2,g3⟩:=Oper.apart_spec SI;have h2:=Hn SJ SI (fun cs b=>Hq j oj cs b SJ) h1;have X0:b i j=false:=by
    cases hb:b i j with
    |false=>rfl
    |true=>rw [Bb listed dX j hj hb] at Hr;cases Hr
   have SL : ∀k ok,ops[k]? =some ok→k≠i→(listed.setIfInBounds j true).getD k true=false→
     (∀e∈ok.after,Region.binds .any e=true→e.on≠i)→oi.apart ops ok=true:=fun k ok hk SM Hr nt=>by
    refine RQ k ok hk SM ?_ nt
    by_cases Un:j=k
    ·subst Un;exact U3
    ·rw [getD_set_ne true Un] at Hr;exact Hr
   refine wpOp_mono (fun a' w' h3=>?_) h2;obtain⟨⟨u,hu⟩,SN,h3⟩:=h3;refine⟨?_,ih (listed.setIfInBounds j true) a' w' ?_ (dX.add hj) SL (ready_mono hr (ahh MB)) ?_ ?_⟩
   ·intro k hk U4 o ho d hd hyk
    have hko:=hD k hk o ho;obtain⟨k1,k2⟩:=Av hko;have rl:bn (a.put oi.dst v) d=bn a d:=by
     cases Bc:oi.dst with
     |none=>rfl
     |some di=>
      have df:di≠d:=fun e=>k2 di Bc (by rw [hd,e])
      simp [bn,Act.put,ajK df]
    have:=SN k (Z_ k hk) U4 o ho d hd;rw [rl,cz.put (Hq k o · · ho) k1,cz.put (Hq k o · · ho) k1] at this;exact this hyk
   ·intro d hd
    rw [hu];have:=kg d hd
    cases oj.dst<;>simpa [Act.put] using this
   ·rcases hy with ⟨WZ,df,hy⟩ | ⟨WZ,hy⟩
    ·refine .inl ⟨WZ,df,?_⟩
     obtain⟨d,hd⟩:=Option.ne_none_iff_exists'.1 df;have rl:bn (a.put oi.dst v) d=v:=by
      have:=kg d hd
      simp [bn,Act.put,hd,this]
     have:=SN i (by rw [WZ];simp) X0 oi hi d hd;rw [rl,cz.put (Hq i oi · · hi) Ba,cz.put (Hq i oi · · hi) Ba] at this;have h4:= (cz.put (u:=u) (dst:=oj.dst) (Hq i oi · · hi) (fun d hd=>g3 d hd)).2 (this hy);exact h4.Jz hu
    ·refine .inr ⟨WZ,fun w2=>?_⟩
     have h4:= (cz.put (u:=u) (dst:=oj.dst) (Hq i oi · · hi) (fun d hd=>g3 d hd)).2 (hy w2);exact h4.Jz hu
   ·rw [Array.setIfInBounds_comm _ _ MB]
    exact h3
end
end
section
structure Ok (n:Nat) (a:Act):Prop where
 size:a.tmps.size=n
 defers:a.defers= []
theorem Ok.put {n:Nat} {a:Act} (h:Ok n a) (dst:Option Tmp) (v:Value):Ok n (a.put dst v):=by
 cases dst with
 |none=>exact h
 |some d=>exact⟨by simpa [Act.put] using h.size,h.defers⟩
structure SO where
 n:Nat
 Na:List Nat→Nat→Bool
 U5:List Nat→List Nat→Bool
 Nb:List Nat→Nat→List Nat→Bool
section
variable (P:Program) (ops:Array Oper)
def Quiet (i:Nat) (v:Value) (a:Act) (w:World):Prop:= ∃o,ops[i]? =some o∧
 ((Region.wanted o (yielded ops a.tmps)=true∧((cls P o.op=0∧∀w',(execOp a.eval o).run P w' = .ok (.value v) w')∨(cls P o.op=1∧∀w',w'.heap=w.heap→(execOp a.eval o).run P w' = .ok (.value v) w')))∨
  (Region.wanted o (yielded ops a.tmps)=false∧v=undef))
def Nc (st:List Nat) (a:Act) (w' :World):Prop:= ∀k∈st,∀o,ops[k]? =some o→∀d,o.dst=some d→(execOp a.eval o).run P w' = .ok (.value (bn a d)) w'
def Nd [Go.Vc.Mode] (X:List Nat→Act→World→Prop) (done:List Nat) (i:Nat) (st:List Nat) (a:Act) (w:World):Prop:= ∃o,ops[i]? =some o∧Region.wanted o (yielded ops a.tmps)=true∧
 o.wp P a w (fun a' w' => (∃v,a' =a.put o.dst v)∧b0 w w' ∧Nc P ops st a w' ∧X (i::done) a' w') (QN fun _ _=>False)
structure Runner [Go.Vc.Mode] (ck:SO) where
 X:List Nat→Act→World→Prop
 quiet: ∀done i a w,Ok ck.n a→ck.Na done i=true→(∃v o,ops[i]? =some o∧Quiet P ops i v a w∧(∀d,o.dst=some d→d<ck.n)∧X (i::done) (a.put o.dst v) w)→X done a w
 effect: ∀done (hs:List (Nat × List Nat)) a w,Ok ck.n a→ck.U5 done (hs.map (·.1))=true→(∀h∈hs,ck.Nb done h.1 h.2=true∧Nd P ops X done h.1 h.2 a w)→X done a w
end
def vw:l9→List (Nat × List Nat)
 | .op i st _=> [(i,st)]
 | .fork a b=>vw a++vw b
 |_=> []
def xJ (cur:Option (Nat × Bool × Nat)) (o:Oper):Bool:=match cur,o.guard with
 |none,none=>true
 |some (c,w,t),some (c',w')=>Nat.beq c c' && (w==w') && (match o.dst with|some d=> !Nat.beq d t|none=>true)
 |_,_=>false
def JA (n:Nat) (o:Oper):Bool:=match o.dst with
 |some d=>Nat.blt d n
 |none=>true
def sA (ops:List Oper) (c:Nat) (want:Bool):l9→List Nat→Bool
 | .nil,_=>true
 | .op i _ r,sk=>match ops[i]? with
  |some o=>match o.guard with
   |some (g,b)=> (Nat.beq g c && (b==want) ||jT g sk) && sA ops c want r (i::sk)
   |none=>false
  |none=>false
 | .G4 _ body p r,sk=>sA ops c want body sk && (match ops[p]? with
  |some o=>match o.guard with
   |some (g,b)=> (Nat.beq g c && (b==want) ||jT g sk)
   |none=>false
  |none=>false) && sA ops c want r sk
 | .fork _ _,_=>false
def Cq (cur:Option (Nat × Bool × Nat)) (l:List Nat):Bool:=match cur with
 |some (_,_,t0)=> !jT t0 l
 |none=>true
def xK (o:Op):Option (Nat × Nat × Bool):=match o with
 | .pick (.tmp t) (.tmp u) (.const (.bool false))=>some (t,u,true)
 | .pick (.tmp t) (.const (.bool true)) (.tmp u)=>some (t,u,false)
 |_=>none
section
variable {P:Program} {ops:Array Oper} {ck:SO}
def jW (P:Program) (ops:Array Oper) (ck:SO):l9→Bool→Option (Nat × Bool × Nat)→List Nat→(List Nat→Bool)→Bool
 | .nil,fl,_,done,k=> !fl && k done
 | .op i st r,fl,cur,done,k=>match ops.toList[i]? with
  |some o=>xJ cur o && JA ck.n o && (match cls P o.op with
    |0|1=> !fl && st.isEmpty && ck.Na done i
    |_=> (fl||ck.U5 done [i]) && ck.Nb done i st && (cur.isNone||ck.Na done i)) && jW P ops ck r false cur (i::done) k
  |none=>false
 | .G4 c body p r,fl,cur,done,k=>match ops.toList[p]?,ops.toList[c]? with
  |some o,some oc=>match xK o.op with
   |some (t,_,want)=> !fl && xJ cur o && JA ck.n o && (match oc.dst with|some t' =>Nat.beq t t' |none=>false) && !jT t (bt ops.toList body) &&
     Cq cur (bt ops.toList body) && sA ops.toList c want body [] &&
     jW P ops ck body false (some (c,want,t)) done fun d=>ck.Na d p && jW P ops ck r false cur (p::d) k
   |none=>false
  |_,_=>false
 | .fork a b,fl,cur,done,k=>cur.isNone && (fl||ck.U5 done ((vw a++vw b).map (·.1))) && jW P ops ck a true none done k && jW P ops ck b true none done k
theorem vA {a:Act} {c t:Nat} {b:Bool} {oc:Oper} (hc:ops[c]? =some oc) (hd:oc.dst=some t) (h:bn a t= .bool b):yielded ops a.tmps c=some b:=by
 have:a.tmps[t]? =some (.bool b):=by
  unfold bn at h;rw [ahU] at h
  cases hx:a.tmps[t]? with
  |none=>rw [hx] at h;simp [undef] at h
  |some v=>rw [hx] at h;simp at h;rw [h]
 simp [yielded,hc,hd,this]
theorem sB {a:Act} {c:Nat} {oc:Oper} (hc:ops[c]? =some oc) (h: ∀t,oc.dst=some t→bn a t=undef):yielded ops a.tmps c=none:=by
 unfold yielded
 cases hd:oc.dst with
 |none=>simp [hc,hd]
 |some t=>
  have h:=h t hd
  cases hx:a.tmps[t]? with
  |none=>simp [hc,hd,hx]
  |some v=>
   unfold bn at h;rw [ahU,hx] at h
   simp at h
   simp [hc,hd,hx,h,undef]
def oW (ops:Array Oper) (cur:Option (Nat × Bool × Nat)) (a:Act):Prop:=match cur with
 |none=>True
 |some (c,want,t)=> (∃oc,ops[c]? =some oc∧oc.dst=some t)∧bn a t= .bool want
theorem kz {cur:Option (Nat × Bool × Nat)} {o:Oper} {a:Act} (hk:xJ cur o=true) (hc:oW ops cur a):Region.wanted o (yielded ops a.tmps)=true:=by
 unfold xJ at hk;unfold Region.wanted
 split at hk
 ·rename_i h;rw [h]
 ·rename_i c w t c' w' h
  rw [h];simp only [agk,beq_iff_eq] at hk;obtain⟨⟨h1,h2⟩,_⟩:=hk;have h1:=agR h1;subst h1;subst h2;obtain⟨⟨oc,h1,h2⟩,h3⟩:=hc
  simp [vA h1 h2 h3]
 ·cases hk
theorem fp {n:Nat} {a:Act} {dst:Option Tmp} {v:Value} {s:Nat} (ha:Ok n a) (hd: ∀d,dst=some d→d<n) (hs: ∀d,dst=some d→d≠s):bn (a.put dst v) s=bn a s:=by
 rw [iB (fun d h=>by rw [ha.size];exact hd d h)]
 cases dst with
 |none=>rfl
 |some d=>
  have:Nat.beq s d=false:=by cases h:Nat.beq s d with|false=>rfl|true=>exact absurd (agR h).symm (hs d rfl)
  simp [Env.put,Env.PF,this]
theorem oW.put {n:Nat} {cur:Option (Nat × Bool × Nat)} {o:Oper} {a:Act} {v:Value} (h:oW ops cur a) (hk:xJ cur o=true) (ha:Ok n a) (hd: ∀d,o.dst=some d→d<n):oW ops cur (a.put o.dst v):=by
 cases cur with
 |none=>trivial
 |some c=>
  obtain⟨c,w,t⟩:=c;refine⟨h.1,?_⟩;have h2:=h.2;rw [fp ha hd ?_]
  ·exact h2
  ·intro d Nf he
   subst he;unfold xJ at hk
   split at hk
   ·rename_i h0 _;cases h0
   ·rename_i h0 _
    simp only [agf,ahr] at h0;obtain⟨rfl,rfl,rfl⟩:=h0;rw [Nf] at hk
    simp at hk
   ·cases hk
theorem k_ {n:Nat} {o:Oper} (h:JA n o=true): ∀d,o.dst=some d→d<n:=by
 intro d hd;unfold JA at h;rw [hd] at h
 rwa [ail] at h
theorem my {n:Nat}: ∀ {l:List Nat},jT n l=true↔n∈l
 | []=>by simp [jT]
 |m::r=>by
  simp only [jT,ago]
  cases h:Nat.beq n m with
  |true=>simp [agR h]
  |false=>
   have:n≠m:=fun e=>by subst e;simp at h
   simp [this,my]
theorem nw {n:Nat} {l:List Nat}:jT n l=false↔n∉l:=by
 rw [←my];simp
def ef (l:List Nat) (a a' :Act):Prop:= ∀t,t∉l→bn a' t=bn a t
theorem ef.refl (l:List Nat) (a:Act):ef l a a:=fun _ _=>rfl
theorem ef.trans {l l' :List Nat} {a b c:Act} (h:ef l a b) (k:ef l' b c):ef (l++l') a c:=fun t ht=>by
 rw [agv,not_or] at ht;rw [k t ht.2,h t ht.1]
theorem ef.mono {l l' :List Nat} {a b:Act} (h:ef l a b) (hl: ∀t∈l,t∈l'):ef l' a b:=fun t ht=>h t (fun hm=>ht (hl t hm))
theorem ef.put {n:Nat} {a:Act} {dst:Option Tmp} {v:Value} {l:List Nat} (ha:Ok n a) (hd: ∀d,dst=some d→d<n) (hl: ∀d,dst=some d→d∈l):ef l a (a.put dst v):=fun t ht=>
 fp ha hd (fun d hd e=>ht (by rw [←e];exact hl d hd))
theorem uc {i:Nat} {o:Oper} (h:ops.toList[i]? =some o):ops[i]? =some o:=by simpa using h
theorem Hs [Go.Vc.Mode] {R:Runner P ops ck} {c t:Nat} {want:Bool} {oc:Oper} (hc:ops[c]? =some oc) (hoc:oc.dst=some t):
  ∀ (p:l9) (sk:List Nat) (cur:Option (Nat × Bool × Nat)) (done:List Nat) (k:List Nat→Bool) (a:Act) (w:World),sA ops.toList c want p sk=true→jW P ops ck p false cur done k=true→cur≠none→t∉bt ops.toList p→
   Ok ck.n a→bn a t= .bool (!want)→(∀g∈sk,∃og,ops[g]? =some og∧∀d,og.dst=some d→bn a d=undef)→
   (∀dC a',k dC =true→Ok ck.n a' →ef (bt ops.toList p) a a' →(∀g∈sk,∃og,ops[g]? =some og∧∀d,og.dst=some d→bn a' d=undef)→R.X dC a' w)→R.X done a w:=by
 have unw: ∀ (o:Oper) (sk:List Nat) (a:Act),(match o.guard with
   |some (g,b)=> (Nat.beq g c && (b==want) ||jT g sk)
   |none=>false)=true→bn a t= .bool (!want)→(∀g∈sk,∃og,ops[g]? =some og∧∀d,og.dst=some d→bn a d=undef)→Region.wanted o (yielded ops a.tmps)=false:=by
  intro o sk a h ha Er;unfold Region.wanted
  split at h
  ·rename_i g b hg
   rw [hg];simp only [ahg,agk,beq_iff_eq] at h;rcases h with ⟨h1,h2⟩ |h
   ·have h1:=agR h1
    subst h1;subst h2;simp only [vA hc hoc ha]
    cases b<;>rfl
   ·obtain⟨og,h1,h2⟩:=Er g (my.1 h)
    simp only [sB h1 h2]
    rfl
  ·cases h
 intro p
 induction p with
 |nil=>
  intro sk cur done k a w hs hk mz ht ha rl Er hX;simp only [jW,ahG,ai1] at hk;exact hX done a hk ha (ef.refl _ _) Er
 |op i st r ih=>
  intro sk cur done k a w hs hk mz ht ha rl Er hX;simp only [sA] at hs;simp only [jW] at hk
  cases ho:ops.toList[i]? with
  |none=>rw [ho] at hs;cases hs
  |some o=>
   rw [ho] at hs hk;simp only [agk] at hk;obtain⟨⟨⟨xL,cF⟩,dX⟩,Qk⟩:=hk;have cF:=k_ cF;have hq:ck.Na done i=true:=by
    split at dX
    ·simp only [agk] at dX;exact dX.2
    ·simp only [agk] at dX;exact dX.2
    ·simp only [agk,ahg] at dX
     rcases dX.2 with h|h
     ·cases cur with
      |none=>exact absurd rfl mz
      |some _=>simp at h
     ·exact h
   have hg: (match o.guard with
     |some (g,b)=> (Nat.beq g c && (b==want) ||jT g sk)
     |none=>false)=true∧sA ops.toList c want r (i::sk)=true:=by
    simp only at hs
    cases Uo:o.guard with
    |none=>rw [Uo] at hs;cases hs
    |some gb=>
     rw [Uo] at hs;simp only [agk] at hs;exact hs
   have rm: ∀d,o.dst=some d→d∈bt ops.toList (.op i st r):=by
    intro d hd;simp [bt,ho,hd]
   have Kx: ∀d∈bt ops.toList r,d∈bt ops.toList (.op i st r):=by
    intro d hd;simp only [bt,ho]
    cases o.dst<;>simp [hd]
   have U6 : ∀d,o.dst=some d→d≠t:=fun d hd e=>ht (by rw [←e];exact rm d hd);refine R.quiet done i a w ha hq ⟨undef,o,uc ho,⟨o,uc ho,.inr ⟨unw o sk a hg.1 rl Er,rfl⟩⟩,cF,?_⟩;have X1 : ∀g∈i::sk,∃og,ops[g]? =some og∧∀d,og.dst=some d→bn (a.put o.dst undef) d=undef:=by
    intro g SP;have key: ∀d,bn a d=undef→bn (a.put o.dst undef) d=undef:=by
     intro d hd
     by_cases Nf:o.dst=some d
     ·rw [iB (fun d h=>by rw [ha.size];exact cF d h),Nf]
      simp [Env.put,Env.PF]
     ·rw [fp ha cF (fun d' h e=>Nf (by rw [h,e]))];exact hd
    rcases ago.1 SP with rfl|SP
    ·refine⟨o,uc ho,fun d hd=>?_⟩
     rw [iB (fun d h=>by rw [ha.size];exact cF d h),hd]
     simp [Env.put,Env.PF]
    ·obtain⟨og,h1,h2⟩:=Er g SP
     exact⟨og,h1,fun d hd=>key d (h2 d hd)⟩
   refine ih (i::sk) cur (i::done) k _ w hg.2 Qk mz (fun h=>ht (Kx t h)) (ha.put _ _) (by rw [fp ha cF U6];exact rl) X1 ?_;intro dC a' PJ Ei sC U7;refine hX dC a' PJ Ei ?_ (fun g SP=>U7 g (af7 _ SP));exact((ef.put ha cF rm).trans (sC.mono Kx)).mono (by simp)
 |G4 c' body p r U8 U9=>
  intro sk cur done k a w hs hk mz ht ha rl Er hX;simp only [sA,agk] at hs;obtain⟨⟨X2,Ky⟩,W0⟩:=hs;simp only [jW] at hk
  cases tU:ops.toList[p]? with
  |none=>rw [tU] at hk;cases hk
  |some op=>
   cases Ht :ops.toList[c']? with
   |none=>rw [tU,Ht] at hk;cases hk
   |some oc' =>
    rw [tU,Ht] at hk;simp only at hk
    cases GR:xK op.op with
    |none=>rw [GR] at hk;cases hk
    |some q=>
     obtain⟨t',u',U_⟩:=q;rw [GR] at hk;simp only [agk] at hk;obtain⟨⟨⟨⟨⟨⟨⟨_,xL⟩,cF⟩,Ql⟩,Es⟩,RR⟩,Va⟩,W7⟩:=hk;have cF:=k_ cF;rw [tU] at Ky;have Et: ∀d∈bt ops.toList body,d∈bt ops.toList (.G4 c' body p r):=fun d hd=>by simp [bt,hd]
     have JB: ∀d∈bt ops.toList r,d∈bt ops.toList (.G4 c' body p r):=fun d hd=>by
      simp only [bt,tU];cases op.dst<;>simp [hd]
     have rm: ∀d,op.dst=some d→d∈bt ops.toList (.G4 c' body p r):=fun d hd=>by simp [bt,tU,hd]
     have U6 : ∀d,op.dst=some d→d≠t:=fun d hd e=>ht (by rw [←e];exact rm d hd);refine U8 sk (some (c',U_,t')) done _ a w X2 W7 (by simp) (fun h=>ht (Et t h)) ha rl Er ?_;intro eU a1 lD qG gW Vb;simp only [agk] at lD;have Kz:bn a1 t= .bool (!want):=by rw [gW t (fun h=>ht (Et t h))];exact rl
     refine R.quiet eU p a1 w qG lD.1 ⟨undef,op,uc tU,⟨op,uc tU,.inr ⟨unw op sk a1 Ky Kz Vb,rfl⟩⟩,cF,?_⟩;have X3: ∀g∈sk,∃og,ops[g]? =some og∧∀d,og.dst=some d→bn (a1.put op.dst undef) d=undef:=by
      intro g SP;obtain⟨og,h1,h2⟩:=Vb g SP;refine⟨og,h1,fun d hd=>?_⟩
      by_cases Nf:op.dst=some d
      ·rw [iB (fun d h=>by rw [qG.size];exact cF d h),Nf]
       simp [Env.put,Env.PF]
      ·rw [fp qG cF (fun d' h e=>Nf (by rw [h,e]))];exact h2 d hd
     refine U9 sk cur (p::eU) k _ w W0 lD.2 mz (fun h=>ht (JB t h)) (qG.put _ _) (by rw [fp qG cF U6];exact Kz) X3 ?_;intro dC a' PJ Ei sC X4;refine hX dC a' PJ Ei ?_ X4;exact((gW.mono Et).trans ((ef.put qG cF rm).trans (sC.mono JB))).mono (by simp)
 |fork a b _ _=>
  intro sk cur done k a w hs
  simp [sA] at hs
theorem Eu [Go.Vc.Mode] {K:Value→ai→Prop} {o:Oper} {a:Act} {w:World} {F:Act→World→Prop} (h:after P K w ((execOp a.eval o).run P w)) (hF: ∀v w',b0 w w' →K v w'.heap→F (a.put o.dst v) w'):
  o.wp P a w F (QN fun _ _=>False):=by
 unfold Oper.wp;generalize (execOp a.eval o).run P w=r at h
 cases r with
 |ok n w' =>
  cases n<;>simp only [after] at h
  case value v=>exact hF v w' h.1 h.2
  case skip=>exact hF undef w' h.1 h.2
  case enter f args=>
   refine(h.2 w' rfl).mono fun e Au he=>?_;obtain⟨v,rfl,hr,hk⟩:=he;exact hF v Au (h.1.trans hr) hk
 |halt x w' =>simp only [after] at h
theorem xM {ρ:Env} {H:ai} {X:Prop}: ∀ {st:List Nat},Ju P ops.toList ρ H X st→(∀k∈st,Cg P ops.toList ρ H k)∧X
 | [],h=> ⟨by simp,h⟩
 |k::r,h=>by
  obtain⟨h1,h2⟩:=h;obtain⟨h3,h4⟩:=xM h2;exact⟨fun j hj=>by rcases ago.1 hj with rfl|hj;exact h1;exact h3 j hj,h4⟩
theorem KA {a:Act} {w' :World} {st:List Nat} (h: ∀k∈st,Cg P ops.toList (bn a) w'.heap k):Nc P ops st a w' :=by
 intro k hk o ho d hd;have hr:=h k hk;unfold Cg at hr;rw [show ops.toList[k]? =some o by simpa using ho] at hr;simp only [hd] at hr;obtain⟨dst,op,ty,pos,af,g⟩:=o;obtain⟨v,fY,rfl⟩:=qd (dst:=dst) (ty:=ty) (pos:=pos) (af:=af) (g:=g) hr;rw [ky];exact fY w' rfl
variable {C:List Nat}
def xN [Go.Vc.Mode] (P:Program) (ops:Array Oper) (C:List Nat) (ck:SO) (R:Runner P ops ck) (p:l9):Prop:=
 ∀ (cur:Option (Nat × Bool × Nat)) (done:List Nat) (k:List Nat→Bool) (K:Env→ai→Prop) (a:Act) (w:World),jW P ops ck p false cur done k=true→Ok ck.n a→oW ops cur a→
  A4 P C ops.toList p (bn a) w.heap K→(∀dC a' w',k dC =true→Ok ck.n a' →ef (bt ops.toList p) a a' →b0 w w' →oW ops cur a' →K (bn a') w'.heap→R.X dC a' w')→R.X done a w
def RS [Go.Vc.Mode] (P:Program) (ops:Array Oper) (C:List Nat) (ck:SO) (R:Runner P ops ck) (p:l9):Prop:=
 ∀ (done:List Nat) (k:List Nat→Bool) (K:Env→ai→Prop) (a:Act) (w:World),jW P ops ck p true none done k=true→Ok ck.n a→
  A4 P C ops.toList p (bn a) w.heap K→(∀dC a' w',k dC =true→Ok ck.n a' →ef (bt ops.toList p) a a' →b0 w w' →K (bn a') w'.heap→R.X dC a' w')→
  ∀h∈vw p,ck.Nb done h.1 h.2=true∧Nd P ops R.X done h.1 h.2 a w
theorem xO [Go.Vc.Mode] (hC:gm P C) {R:Runner P ops ck} {i:Nat} {st:List Nat} {r:l9} (ih:xN P ops C ck R r) {o:Oper} (ho:ops.toList[i]? =some o) (Qm:cls P o.op≠0∧cls P o.op≠1)
  {cur:Option (Nat × Bool × Nat)} {done:List Nat} {k:List Nat→Bool} {K:Env→ai→Prop} {a:Act} {w:World} (xL:xJ cur o=true) (cF: ∀d,o.dst=some d→d<ck.n) (Qk:jW P ops ck r false cur (i::done) k=true) (ha:Ok ck.n a) (mz:oW ops cur a)
  (hv:A4 P C ops.toList (.op i st r) (bn a) w.heap K) (hX: ∀dC a' w',k dC =true→Ok ck.n a' →ef (bt ops.toList (.op i st r)) a a' →b0 w w' →oW ops cur a' →K (bn a') w'.heap→R.X dC a' w'):
  Nd P ops R.X done i st a w:=by
 simp only [A4,ho] at hv;have hE: ∀w1:World,w1.heap=w.heap→after P (fun v H' =>Ju P ops.toList (bn a) H' (A4 P C ops.toList r ((bn a).put o.dst v) H' K) st) w1 ((execOp (ev (bn a)) o).run P w1):=by
  unfold P7 at hv;obtain⟨dst,op,ty,pos,af,g⟩:=o
  split at hv
  ·rename_i h0;exact absurd h0 Qm.1
  ·rename_i h1;exact absurd h1 Qm.2
  ·exact ua hC hv
 refine⟨o,uc ho,kz xL mz,Eu (by rw [ky];exact hE w rfl) fun v w' hr hk=>?_⟩;obtain⟨h1,h2⟩:=xM hk;refine⟨⟨v,rfl⟩,hr,KA h1,?_⟩;have rm: ∀d,o.dst=some d→d∈bt ops.toList (.op i st r):=by intro d hd;simp [bt,ho,hd]
 have Kx: ∀d∈bt ops.toList r,d∈bt ops.toList (.op i st r):=by
  intro d hd;simp only [bt,ho];cases o.dst<;>simp [hd]
 refine ih cur (i::done) k K _ w' Qk (ha.put _ _) (mz.put xL ha cF) (by rw [iB (fun d h=>by rw [ha.size];exact cF d h)];exact h2) ?_;intro dC a' Au PJ Ei sC Qn Vd hK;exact hX dC a' Au PJ Ei (((ef.put ha cF rm).trans (sC.mono Kx)).mono (by simp)) (hr.trans Qn) Vd hK
theorem Qo [Go.Vc.Mode] (hC:gm P C) {R:Runner P ops ck} {i:Nat} {st:List Nat} {r:l9} (ih:xN P ops C ck R r):xN P ops C ck R (.op i st r):=by
 intro cur done k K a w hk ha mz hv hX;simp only [jW] at hk
 cases ho:ops.toList[i]? with
 |none=>rw [ho] at hk;cases hk
 |some o=>
  rw [ho] at hk;simp only [agk] at hk;obtain⟨⟨⟨xL,cF⟩,dX⟩,Qk⟩:=hk;have cF:=k_ cF;have rm: ∀d,o.dst=some d→d∈bt ops.toList (.op i st r):=by intro d hd;simp [bt,ho,hd]
  have Kx: ∀d∈bt ops.toList r,d∈bt ops.toList (.op i st r):=by
   intro d hd;simp only [bt,ho];cases o.dst<;>simp [hd]
  have quiet: ∀v,st= []→ck.Na done i=true→Quiet P ops i v a w→A4 P C ops.toList r ((bn a).put o.dst v) w.heap K→R.X done a w:=by
   intro v _ hq Ve X5;refine R.quiet done i a w ha hq ⟨v,o,uc ho,Ve,cF,?_⟩;refine ih cur (i::done) k K _ w Qk (ha.put _ _) (mz.put xL ha cF) (by rw [iB (fun d h=>by rw [ha.size];exact cF d h)];exact X5) ?_;intro dC a' Au PJ Ei sC Qn Vd hK;exact hX dC a' Au PJ Ei (((ef.put ha cF rm).trans (sC.mono Kx)).mono (by simp)) Qn Vd hK
  have sD :=hv;simp only [A4,ho,P7] at hv
  by_cases h0:cls P o.op=0
  ·rw [h0] at dX hv
   simp only [agk] at dX;have jM:st= []:=by simpa using dX.1.2
   subst jM;obtain⟨dst,op,ty,pos,af,g⟩:=o;obtain⟨v,fY,Ap⟩:=tY (dst:=dst) (ty:=ty) (pos:=pos) (af:=af) (g:=g) hv;exact quiet v rfl dX.2 ⟨_,uc ho,.inl ⟨kz xL mz,.inl ⟨h0,by rw [ky];exact fY⟩⟩⟩ Ap
  ·by_cases h1:cls P o.op=1
   ·rw [h1] at dX hv
    simp only [agk] at dX;have jM:st= []:=by simpa using dX.1.2
    subst jM;obtain⟨dst,op,ty,pos,af,g⟩:=o;obtain⟨v,fY,Ap⟩:=qd (dst:=dst) (ty:=ty) (pos:=pos) (af:=af) (g:=g) hv;exact quiet v rfl dX.2 ⟨_,uc ho,.inl ⟨kz xL mz,.inr ⟨h1,by rw [ky];exact fY⟩⟩⟩ Ap
   ·split at dX
    ·rename_i h;exact absurd h h0
    ·rename_i h;exact absurd h h1
    ·simp only [agk,aim] at dX
     refine R.effect done [(i,st)] a w ha (by simpa using dX.1.1) ?_;intro h hm;simp only [agH] at hm;subst hm;exact⟨dX.1.2,xO hC ih ho ⟨h0,h1⟩ xL cF Qk ha mz sD hX⟩
theorem xP {o:Op} {t u:Nat} {want:Bool} (h:xK o=some (t,u,want)): (o= .pick (.tmp t) (.tmp u) (.const (.bool false))∧want=true)∨(o= .pick (.tmp t) (.const (.bool true)) (.tmp u)∧want=false):=by
 unfold xK at h
 split at h
 ·simp only [agf,ahr] at h
  obtain⟨rfl,rfl,rfl⟩:=h;exact .inl ⟨rfl,rfl⟩
 ·simp only [agf,ahr] at h
  obtain⟨rfl,rfl,rfl⟩:=h;exact .inr ⟨rfl,rfl⟩
 ·cases h
theorem oX {l:List Nat} {a a' :Act} (h:ef l a a'): (bn a).mix (bn a') l=bn a' :=by
 funext s
 simp only [Env.mix]
 cases hm:jT s l with
 |true=>rfl
 |false=>exact(h s (nw.1 hm)).symm
theorem oW.same {cur:Option (Nat × Bool × Nat)} {l:List Nat} {a a' :Act} (h:oW ops cur a) (hs:ef l a a') (hc:Cq cur l=true):oW ops cur a' :=by
 cases cur with
 |none=>trivial
 |some c=>
  obtain⟨c,w,t⟩:=c;refine⟨h.1,?_⟩;simp only [Cq,ahV] at hc;rw [hs t (nw.1 hc)];exact h.2
theorem Ng [Go.Vc.Mode] {R:Runner P ops ck} {c p:Nat} {body r:l9} (U8:xN P ops C ck R body) (U9:xN P ops C ck R r):xN P ops C ck R (.G4 c body p r):=by
 intro cur done k K a w hk ha mz hv hX;simp only [jW] at hk
 cases tU:ops.toList[p]? with
 |none=>rw [tU] at hk;cases hk
 |some op=>
  cases Ht :ops.toList[c]? with
  |none=>rw [tU,Ht] at hk;cases hk
  |some oc=>
   rw [tU,Ht] at hk;simp only at hk
   cases GR:xK op.op with
   |none=>rw [GR] at hk;cases hk
   |some q=>
    obtain⟨t,u,want⟩:=q;rw [GR] at hk;simp only [agk] at hk;obtain⟨⟨⟨⟨⟨⟨⟨_,xL⟩,cF⟩,Ql⟩,Es⟩,RR⟩,Va⟩,W7⟩:=hk;have cF:=k_ cF;have Vf:oc.dst=some t:=by
     split at Ql
     ·rename_i t' h;rw [h,agR Ql]
     ·cases Ql
    have Es:t∉bt ops.toList body:=nw.1 (by simpa using Es);have Et: ∀d∈bt ops.toList body,d∈bt ops.toList (.G4 c body p r):=fun d hd=>by simp [bt,hd]
    have JB: ∀d∈bt ops.toList r,d∈bt ops.toList (.G4 c body p r):=fun d hd=>by
     simp only [bt,tU];cases op.dst<;>simp [hd]
    have rm: ∀d,op.dst=some d→d∈bt ops.toList (.G4 c body p r):=fun d hd=>by simp [bt,tU,hd]
    have rest: ∀ (v:Value) (eU:List Nat) (a1:Act) (w1:World),(ck.Na eU p && jW P ops ck r false cur (p::eU) k)=true→Ok ck.n a1→ef (bt ops.toList body) a a1→b0 w w1→
      (∀w',(execOp a1.eval op).run P w' = .ok (.value v) w')→(∀oS:Env,A4 P C ops.toList r (((bn a).mix oS (bt ops.toList body)).put op.dst v) w1.heap K)→R.X eU a1 w1:=by
     intro v eU a1 w1 lD qG gW wz fY X5;simp only [agk] at lD;have RT:=mz.same gW RR;have Qm:cls P op.op=0:=by rcases xP GR with ⟨h,_⟩ | ⟨h,_⟩<;>rw [h]<;>rfl
     refine R.quiet eU p a1 w1 qG lD.1 ⟨v,op,uc tU,⟨op,uc tU,.inl ⟨kz xL RT,.inl ⟨Qm,fY⟩⟩⟩,cF,?_⟩;have Vg:=X5 (bn a1);rw [oX gW] at Vg;refine U9 cur (p::eU) k K _ w1 lD.2 (qG.put _ _) (RT.put xL qG cF) (by rw [iB (fun d h=>by rw [qG.size];exact cF d h)];exact Vg) ?_;intro dC a' Au PJ Ei sC Qn Vd hK;exact hX dC a' Au PJ Ei (((gW.mono Et).trans ((ef.put qG cF rm).trans (sC.mono JB))).mono (by simp)) (wz.trans Qn) Vd hK
    have JC:bn a t= .bool (!want)→(∀eU a1,(ck.Na eU p && jW P ops ck r false cur (p::eU) k)=true→Ok ck.n a1→ef (bt ops.toList body) a a1→R.X eU a1 w)→R.X done a w:=by
     intro rl h;exact Hs (uc Ht) Vf body [] (some (c,want,t)) done _ a w Va W7 (by simp) Es ha rl (by simp) (fun dC a' h1 h2 h3 _=>h dC a' h1 h2 h3)
    have RU: ∀ (J:Value→ai→Prop),bn a t= .bool want→A4 P C ops.toList body (bn a) w.heap (fun ρ' H' =>J (ρ' u) H')→
      (∀eU a1 w1,(ck.Na eU p && jW P ops ck r false cur (p::eU) k)=true→Ok ck.n a1→ef (bt ops.toList body) a a1→b0 w w1→bn a1 t= .bool want→J (bn a1 u) w1.heap→R.X eU a1 w1)→R.X done a w:=by
     intro J rl hb h;exact U8 (some (c,want,t)) done _ _ a w W7 ha ⟨⟨oc,uc Ht,Vf⟩,rl⟩ hb (fun eU a1 w1 h1 h2 h3 h4 h5 h6=>h eU a1 w1 h1 h2 h3 h4 h5.2 h6)
    simp only [A4,tU] at hv;rcases xP GR with ⟨xQ,rfl⟩ | ⟨xQ,rfl⟩
    ·rw [xQ] at hv
     simp only at hv
     cases rl:bn a t<;>rw [rl] at hv<;>simp only [bZ] at hv
     rename_i b
     obtain⟨J,hJ,h0,h1⟩:=hv;have runs: ∀ (a1:Act) (bb:Bool),bn a1 t= .bool bb→∀w',(execOp a1.eval op).run P w' = .ok (.value (if bb then bn a1 u else .bool false)) w' :=by
      intro a1 bb X6 w';obtain⟨dst,o,ty,pos,af,g⟩:=op;simp only at xQ;subst xQ;rw [ky];have:ev (bn a1) (.tmp t)= .bool bb:=X6
      cases bb<;>simp [execOp,this,asBool]<;>rfl
     cases b with
     |false=>
      refine JC rl fun eU a1 lD qG gW=>?_;refine rest (.bool false) eU a1 w lD qG gW (b0.refl w) ?_ (hJ _ _ (h0 rfl));have:=runs a1 false (by rw [gW t Es];exact rl)
      simpa using this
     |true=>
      refine RU J rl (h1 rfl) fun eU a1 w1 lD qG gW wz Kz hj=>?_;refine rest (bn a1 u) eU a1 w1 lD qG gW wz ?_ (hJ _ _ hj);have:=runs a1 true Kz
      simpa using this
    ·rw [xQ] at hv
     simp only at hv
     cases rl:bn a t<;>rw [rl] at hv<;>simp only [d_] at hv
     rename_i b
     obtain⟨J,hJ,h0,h1⟩:=hv;have runs: ∀ (a1:Act) (bb:Bool),bn a1 t= .bool bb→∀w',(execOp a1.eval op).run P w' = .ok (.value (if bb then .bool true else bn a1 u)) w' :=by
      intro a1 bb X6 w';obtain⟨dst,o,ty,pos,af,g⟩:=op;simp only at xQ;subst xQ;rw [ky];have:ev (bn a1) (.tmp t)= .bool bb:=X6
      cases bb<;>simp [execOp,this,asBool]<;>rfl
     cases b with
     |true=>
      refine JC rl fun eU a1 lD qG gW=>?_;refine rest (.bool true) eU a1 w lD qG gW (b0.refl w) ?_ (hJ _ _ (h0 rfl));have:=runs a1 true (by rw [gW t Es];exact rl)
      simpa using this
     |false=>
      refine RU J rl (h1 rfl) fun eU a1 w1 lD qG gW wz Kz hj=>?_;refine rest (bn a1 u) eU a1 w1 lD qG gW wz ?_ (hJ _ _ hj);have:=runs a1 false Kz
      simpa using this
theorem Ew [Go.Vc.Mode] (hC:gm P C) {R:Runner P ops ck}: ∀p,xN P ops C ck R p∧RS P ops C ck R p:=by
 intro p
 induction p with
 |nil=>
  refine⟨?_,?_⟩
  ·intro cur done k K a w hk ha mz hv hX
   simp only [jW,ahG,ai1] at hk;exact hX done a w hk ha (ef.refl _ _) (b0.refl w) mz hv
  ·intro done k K a w hk
   simp [jW] at hk
 |op i st r ih=>
  refine⟨Qo hC ih.1,?_⟩;intro done k K a w hk ha hv hX h hm;simp only [vw,agH] at hm;subst hm;simp only [jW] at hk
  cases ho:ops.toList[i]? with
  |none=>rw [ho] at hk;cases hk
  |some o=>
   rw [ho] at hk;simp only [agk] at hk;obtain⟨⟨⟨xL,cF⟩,dX⟩,Qk⟩:=hk
   split at dX
   ·simp at dX
   ·simp at dX
   ·rename_i h0 h1
    simp only [agk] at dX;exact⟨dX.1.2,xO hC ih.1 ho ⟨h0,h1⟩ xL (k_ cF) Qk ha trivial hv (fun dC a' w' g1 g2 g0 g3 _ g4=>hX dC a' w' g1 g2 g0 g3 g4)⟩
 |G4 c body p r U8 U9=>
  refine⟨Ng U8.1 U9.1,?_⟩;intro done k K a w hk;simp only [jW] at hk
  split at hk
  ·split at hk
   ·simp at hk
   ·cases hk
  ·cases hk
 |fork p q ihp ihq=>
  have hB:RS P ops C ck R (.fork p q):=by
   intro done k K a w hk ha hv hX h hm;simp only [jW,agk] at hk;obtain⟨⟨_,W8⟩,W9⟩:=hk;simp only [A4] at hv;rcases agv.1 hm with hm|hm
   ·exact ihp.2 done k K a w W8 ha hv.1 (fun dC a' w' g1 g2 g0=>hX dC a' w' g1 g2 (g0.mono (by intro t ht;simp [bt,ht]))) h hm
   ·exact ihq.2 done k K a w W9 ha hv.2 (fun dC a' w' g1 g2 g0=>hX dC a' w' g1 g2 (g0.mono (by intro t ht;simp [bt,ht]))) h hm
  refine⟨?_,hB⟩;intro cur done k K a w hk ha mz hv hX;simp only [jW,agk,aim] at hk;obtain⟨⟨⟨hn,he⟩,W8⟩,W9⟩:=hk;have hn:cur=none:=by cases cur with|none=>rfl|some _=>simp at hn
  subst hn;refine R.effect done (vw p++vw q) a w ha he ?_;intro h hm;exact hB done k K a w (by simp [jW,W8,W9]) ha hv (fun dC a' w' g1 g2 g0 g3 g4=>hX dC a' w' g1 g2 g0 g3 trivial g4) h hm
end
end
section
section
variable {P:Program} {ops:Array Oper} {N:Act→World→Prop}
theorem Nh {o:Oper} {a:Act} {w:World} {F:Act→World→Prop} {N0 N1:Act→World→Prop} (h:o.wp P a w F (QN N0)):o.wp P a w F (QN N1):=by
 unfold Oper.wp at*;generalize (execOp a.eval o).run P w=r at*
 cases r with
 |ok n w' =>
  cases n<;>simp only [Oper.upon] at h ⊢ <;>first|exact h|skip
 |halt x w' =>cases x<;>simp only [Oper.upon] at h ⊢ <;>exact h
theorem Quiet.Ni {i:Nat} {v:Value} {a:Act} {w:World} {o:Oper} (ho:ops[i]? =some o) (h:Quiet P ops i v a w):cz P ops o v a w:=by
 obtain⟨o',ub,h⟩:=h;rw [ho] at ub;obtain rfl:=agN ub;rcases h with ⟨hw,⟨_,h⟩ | ⟨_,h⟩⟩ |h
 ·exact .inl ⟨hw,h w⟩
 ·exact .inl ⟨hw,h w rfl⟩
 ·exact .inr h
def xh (sz n:Nat):SO where
 n:=n
 Na done i:=Nat.beq i done.length
 U5 done hs:=match hs with| [i]=>Nat.beq i done.length|_=>false
 Nb _ _ _:=true
theorem xR {n i:Nat} (h:i<n): (List.range n).drop i=i:: (List.range n).drop (i+1):=by
 rw [ag4 (by simpa using h)]
 simp
def JD [Go.Vc.Mode] (P:Program) (ops:Array Oper) (N:Act→World→Prop) (n:Nat):Runner P ops (xh ops.size n) where
 X done a w:=wpOps P ops (QN N) ((List.range ops.size).drop done.length) a w
 quiet done i a w ha hq h:=by
  obtain⟨v,o,ho,Ve,hd,hx⟩:=h;have hi:i=done.length:=agR hq;subst hi;have cF:done.length<ops.size:= (ahT.1 ho).1;rw [xR cF,wpOps_cons];exact(Ve.Ni ho).wpOp ho hx
 effect done hs a w ha he h:=by
  cases hs with
  |nil=>simp [xh] at he
  |cons x r=>
   cases r with
   |cons y r=>simp [xh] at he
   |nil=>
    obtain⟨i,st⟩:=x;have hi:i=done.length:=agR he;subst hi;obtain⟨o,ho,hw,X7⟩:= (h (done.length,st) (by simp)).2;have cF:done.length<ops.size:= (ahT.1 ho).1;rw [xR cF,wpOps_cons];unfold wpOp;simp only [ho,hw,if_true];exact .inl (Oper.wp_mono (fun a' w' h=>h.2.2.2) (Nh X7))
def cn (sz:Nat) (done:List Nat):Array Bool:=done.foldr (fun i l=>l.setIfInBounds i true) (Array.replicate sz false)
def jN (P:Program) (ops:Array Oper) (done:List Nat):List Nat:=done.filter fun i=>match ops[i]? with|some o=>Nat.beq (cls P o.op) 1|none=>false
def Bd (ops:Array Oper) (o:Oper):Bool:=match o.dst with|some d=> !(o.looksAt ops).contains d|none=>true
def sE (P:Program) (ops:Array Oper) (Bs:List Nat) (n:Nat):SO where
 n:=n
 Na done i:=Nat.blt done.length ops.size && (Region.ready .any ops (cn ops.size done)).contains i && Region.free .any ops (cn ops.size done) i && (match ops[i]? with
  |some o=>Bd ops o && (o.dst.isSome|| !Nat.beq (cls P o.op) 1) && (jN P ops done).all fun k=>match ops[k]? with|some ok=>ss ops o ok|none=>true
  |none=>false)
 U5 done hs:=Nat.blt done.length ops.size && !hs.isEmpty && (Region.ready .any ops (cn ops.size done)==hs)
 Nb done j st:= (jN P ops done).all fun k=>SK Bs k j||jT k st
def Qp [Go.Vc.Mode] (P:Program) (ops:Array Oper) (N:Act→World→Prop) (Bs:List Nat) (n:Nat) (hB:okB ops.toList Bs=true) (hS:Region.noSelect ops=true):Runner P ops (sE P ops Bs n) where
 X done a w:=nu ops (cn ops.size done)→SH P ops N (SK Bs) (ops.size - done.length) (cn ops.size done) (jN P ops done) a w
 quiet done i a w ha hq h:=by
  intro dX;obtain⟨v,o,ho,Ve,hd,hx⟩:=h;simp only [sE,ho,agk] at hq;obtain⟨⟨⟨cF,hr⟩,hf⟩,⟨Ba,rm⟩,SI⟩:=hq;have hr:i∈Region.ready .any ops (cn ops.size done):=by simpa using hr
  rw [ail] at cF;rw [show ops.size - done.length= (ops.size - (i::done).length)+1 by simp;omega];have SQ :=dX.add hr;have hx:=hx SQ;refine Kw (D' :=jN P ops (i::done)) ho (Region.noSelect_spec hS) ?_ ?_ ?_ _ _ a w (fun d h=>by rw [ha.size];exact hd d h) dX (Region.free_spec ho hf) hr ?_ hx
  ·intro d h
   unfold Bd at Ba;rw [h] at Ba
   simpa using Ba
  ·intro k hk ok gl
   rw [ahu] at SI;have:=SI k hk;rw [gl] at this;exact this
  ·intro listed X8 j hj hb
   obtain⟨_,oj,SJ,ij⟩:=mem_ready.1 hj;refine xH hB X8 (j+1) j i (by omega) hb (fun o2 Hp e he Ho=>?_);rw [SJ] at Hp;obtain rfl:=agN Hp;exact ij e he Ho
  ·have Qq:jN P ops (i::done)=if Nat.beq (cls P o.op) 1=true then i::jN P ops done else jN P ops done:=by
    simp only [jN,ain,ho]
   obtain⟨o',ub,hqq⟩:=Ve;rw [ho] at ub;obtain rfl:=agN ub
   cases vB:Nat.beq (cls P o.op) 1 with
   |true=>
    rw [vB] at Qq rm;refine .inl ⟨by simpa using Qq,?_,Quiet.Ni ho ⟨o,ho,hqq⟩⟩;intro hn;rw [hn] at rm
    simp at rm
   |false=>
    rw [vB] at Qq;refine .inr ⟨by simpa using Qq,fun w' =>?_⟩;rcases hqq with ⟨hw,⟨_,h⟩ | ⟨h1,_⟩⟩ |h
    ·exact .inl ⟨hw,h w'⟩
    ·rw [h1] at vB;simp at vB
    ·exact .inr h
 effect done hs a w ha he h:=by
  intro dX;simp only [sE,agk,beq_iff_eq] at he;obtain⟨⟨cF,df⟩,PK⟩:=he;rw [ail] at cF;rw [show ops.size - done.length= (ops.size - (done.length+1))+1 by omega];refine⟨fun h0=>?_,fun j hj=>?_⟩
  ·rw [PK] at h0
   rw [h0] at df
   simp at df
  ·have Hg :=hj
   rw [PK] at Hg;obtain⟨⟨j',st⟩,hm,PL⟩:=agP.1 Hg;simp only at PL;subst PL;obtain⟨jM,o,ho,hw,X7⟩:=h _ hm;unfold wpOp;simp only [ho,hw,if_true];refine .inl (Oper.wp_mono (fun a' w' h=> ⟨?_,?_⟩) (Nh X7))
   ·intro k hk hb ok gl d hd hy
    simp only [sE,ahu,ahg] at jM;rcases jM k hk with h1|h1
    ·rw [hb] at h1;cases h1
    ·rcases hy with ⟨PM,_⟩ |hy
     ·exact .inl ⟨PM,h.2.2.1 k (my.1 h1) ok gl d hd⟩
     ·exact .inr hy
   ·have hx:=h.2.2.2 (dX.add hj)
    simp only [agi] at hx;refine xI (D' :=jN P ops (j' ::done)) ?_ _ _ _ _ hx;intro k hk;rw [jN,ai2] at hk ⊢;exact⟨af7 _ hk.1,hk.2⟩
theorem mA {d:Nat}: ∀ {l:List Oper} {i:Nat} {o:Oper},l[i]? =some o→o.dst=some d→d∈iQ l
 | [],i,o,h,_=>by simp at h
 |x::r,0,o,h,hd=>by
  simp only [agB,agf] at h;subst h
  simp [iQ,hd]
 |x::r,i+1,o,h,hd=>by
  have:=mA (l:=r) (i:=i) (by simpa using h) hd;simp only [iQ]
  cases x.dst<;>simp [this]
theorem eL {l:List Oper} {d:Nat}: ∀ {p:l9},d∈bt l p→d∈iQ l
 | .nil,h=>by simp [bt] at h
 | .op i st r,h=>by
  simp only [bt] at h
  cases ho:l[i]? with
  |none=>rw [ho] at h;exact eL h
  |some o=>
   rw [ho] at h;simp only at h
   cases hd:o.dst with
   |none=>rw [hd] at h;exact eL h
   |some d' =>
    rw [hd] at h;rcases ago.1 h with rfl|h
    ·exact mA ho hd
    ·exact eL h
 | .G4 c b p r,h=>by
  simp only [bt,agv] at h;rcases h with h|h
  ·exact eL h
  ·cases ho:l[p]? with
   |none=>rw [ho] at h;exact eL h
   |some o=>
    rw [ho] at h;simp only at h
    cases hd:o.dst with
    |none=>rw [hd] at h;exact eL h
    |some d' =>
     rw [hd] at h;rcases ago.1 h with rfl|h
     ·exact mA ho hd
     ·exact eL h
 | .fork a b,h=>by
  simp only [bt,agv] at h;rcases h with h|h<;>exact eL h
def vC:Code→List Nat
 | .region _ ops _=>iQ ops.toList
 | .seq a b=>vC a++vC b
 | .cond _ a b=>vC a++vC b
 | .block _ a=>vC a
 | .loop a=>vC a
 | .scope a=>vC a
 |_=> []
def Nj:List Nat→List Nat→Bool
 | [],_=>true
 |x::r,l=>jT x l && Nj r l
theorem ud: ∀ {l m:List Nat},Nj l m=true→∀t∈l,t∈m
 | [],_,_,t,ht=>by simp at ht
 |x::r,m,h,t,ht=>by
  simp only [Nj,agk] at h;rcases ago.1 ht with rfl|ht
  ·exact my.1 h.1
  ·exact ud h.2 t ht
theorem mB: ∀ {gY:List Nat} {ρ:Env} {K:Env→Prop},G5 gY ρ K→K ρ
 | [],_,_,h=>h
 |t::s,ρ,K,h=>by
  have h:=h (ρ t);have:ρ.PF t (ρ t)=ρ:=by
   funext s
   simp only [Env.PF]
   cases hb:Nat.beq s t with
   |true=>simp [agR hb]
   |false=>rfl
  rw [this] at h;exact mB h
def nodupB:List Nat→Bool
 | []=>true
 |x::r=> !jT x r && nodupB r
def SS [Go.Vc.Mode] (n:Nat) (ops:Array Oper) (Bs:List Nat) (js:List (List Nat)):Bool:=
 nodupB (iQ ops.toList) && ops.toList.zipIdx.all fun (o,i)=>o.guard.isNone && (match o.dst with
  |some d=>Nat.blt d n
  |none=>false) && (o.after.all fun e=> !Region.binds .any e||Nat.blt e.on i) && (match js[i]? with
  |some l=>l.all fun j=>SK Bs j i
  |none=>false)
theorem Ey: ∀ (n:Nat) (l:List Nat),l.Nodup→(∀i∈l,i<n)→l.length≤n
 |0,l,_,h=>by
  cases l with
  |nil=>exact aga _
  |cons x r=>exact absurd (h x (by simp)) (by omega)
 |n+1,l,hn,h=>by
  have h1:=Ey n (l.erase n) (hn.erase n) (fun i hi=>by
   have h2:=List.mem_of_mem_erase hi;have h3:=h i h2;have h4:i≠n:=fun e=>by subst e;exact(hn.mem_erase_iff.1 hi).1 rfl
   omega)
  have h2:l.length≤(l.erase n).length+1:=by
   have:=List.length_erase (a:=n) (l:=l)
   split at this<;>omega
  omega
theorem xS: ∀ {l:List Oper} {i j:Nat} {o o' :Oper} {d:Nat},nodupB (iQ l)=true→l[i]? =some o→l[j]? =some o' →o.dst=some d→o'.dst=some d→i=j
 | [],i,j,o,o',d,_,h,_,_,_=>by simp at h
 |x::r,i,j,o,o',d,hn,hi,hj,hd,GS =>by
  have hr:nodupB (iQ r)=true:=by
   simp only [iQ] at hn
   cases hx:x.dst with
   |none=>rw [hx] at hn;exact hn
   |some e=>rw [hx] at hn;simp only [nodupB,agk] at hn;exact hn.2
  have hx: ∀ {k:Nat} {p:Oper},r[k]? =some p→p.dst=some d→x.dst=some d→False:=by
   intro k p hk hp hxd;simp only [iQ,hxd,nodupB,agk,ahV] at hn;exact(nw.1 hn.1) (mA hk hp)
  match i,j with
  |0,0=>rfl
  |0,j+1=>
   simp only [agB,agf] at hi;subst hi;exact(hx (by simpa using hj) GS hd).elim
  |i+1,0=>
   simp only [agB,agf] at hj;subst hj;exact(hx (by simpa using hi) hd GS).elim
  |i+1,j+1=>
   have:=xS (i:=i) (j:=j) (d:=d) hr (by simpa using hi) (by simpa using hj) hd GS;omega
theorem jx {sz:Nat}: ∀ {done:List Nat} {k:Nat},k<sz→((cn sz done).getD k false=true↔k∈done)
 | [],k,hk=>by
  simp [cn,hk]
 |i::r,k,hk=>by
  have ih:=jx (sz:=sz) (done:=r) hk;have hz: ∀l:List Nat,(cn sz l).size=sz:=by
   intro l
   induction l with
   |nil=>simp [cn]
   |cons x l ih=>simp only [cn,List.foldr_cons,ai3] at ih ⊢;exact ih
  show ((cn sz r).setIfInBounds i true).getD k false=true↔_
  by_cases X9:i=k
  ·subst X9
   simp [hz,hk]
  ·rw [getD_set_ne false X9,ih]
   simp [ahh X9]
theorem KB [Go.Vc.Mode] {C:List Nat} (hC:gm P C) {o:Oper} {ρ:Env} {H:ai} {K:Value→ai→Prop} (h:P7 P ρ C o H K): ∀w:World,w.heap=H→after P K w ((execOp (ev ρ) o).run P w):=by
 intro w hw;obtain⟨dst,op,ty,pos,af,g⟩:=o;unfold P7 at h
 split at h
 ·obtain⟨v,hr,hk⟩:=tY (dst:=dst) (ty:=ty) (pos:=pos) (af:=af) (g:=g) h
  rw [hr w];exact⟨b0.refl w,by rw [hw];exact hk⟩
 ·obtain⟨v,hr,hk⟩:=qd (dst:=dst) (ty:=ty) (pos:=pos) (af:=af) (g:=g) h
  rw [hr w hw];exact⟨b0.refl w,by rw [hw];exact hk⟩
 ·exact ua hC h w hw
theorem ue {l:List Oper} {V:Nat→Value→ai→Prop} {ρ:Env} {H:ai} {X:Prop}: ∀ {js:List Nat},Kl l V ρ H X js→(∀j∈js,∀o d,l[j]? =some o→o.dst=some d→V j (ρ d) H)→X
 | [],h,_=>h
 |j::r,h,hv=>by
  simp only [Kl] at h
  split at h
  ·rename_i o ho
   split at h
   ·rename_i d hd
    exact ue (h (hv j (by simp) o d ho hd)) fun k hk=>hv k (by simp [hk])
   ·exact h.elim
  ·exact h.elim
theorem xT [Go.Vc.Mode] {C:List Nat} {l:List Oper} {V:Nat→Value→ai→Prop} {ρ:Env} {H:ai} {X:Prop}: ∀ {i:Nat} {r:List Oper} {js:List (List Nat)},WY P C l V ρ H X i r js→X∧∀ (k:Nat) (o:Oper),r[k]? =some o→∃d,js[k]? =some d∧
  ∀oS:Env,G5 (slotsOf l d) (ρ.mix oS (iQ l)) fun ρ' => ∀H' :ai,Ext H H' →Kl l V ρ' H' (P7 P ρ' C o H' fun v Km =>Ext H' Km ∧V (i+k) v Km) d
 |i,o::r,j::t,h=>by
  obtain⟨h1,h2⟩:=h;obtain⟨h3,h4⟩:=xT h2;refine⟨h3,fun k p hk=>?_⟩
  match k with
  |0=>
   simp only [agB,agf] at hk;subst hk;exact⟨j,rfl,h1⟩
  |k+1=>
   obtain⟨d,hd,h5⟩:=h4 k p (by simpa using hk);refine⟨d,by simpa using hd,?_⟩;rw [show i+ (k+1)=i+1+k by omega];exact h5
 |_,[],[],h=> ⟨h,by simp⟩
 |_,[],_::_,h=>h.elim
 |_,_::_,[],h=>h.elim
theorem Qr [Go.Vc.Mode] {C:List Nat} (hC:gm P C) {ops:Array Oper} {N:Act→World→Prop} {Bs:List Nat} {js:List (List Nat)} {n:Nat} (hB:okB ops.toList Bs=true) (hk:SS n ops Bs js=true) {V:Nat→Value→ai→Prop}
  (jM: ∀i v H1 H2,Ext H1 H2→V i v H1→V i v H2) {X:Prop} {a0:Act} {w0:World} (hv:WY P C ops.toList V (bn a0) w0.heap X 0 ops.toList js)
  (hN: ∀a w,Ok n a→b0 w0 w→ef (iQ ops.toList) a0 a→Ext w0.heap w.heap→(∀j o d,ops.toList[j]? =some o→o.dst=some d→V j (bn a d) w.heap)→N a w):
  ∀ (fuel:Nat) (done:List Nat) (a:Act) (w:World),done.Nodup→(∀i∈done,i<ops.size)→ops.size≤done.length+fuel→nu ops (cn ops.size done)→Ok n a→b0 w0 w→ef (iQ ops.toList) a0 a→Ext w0.heap w.heap→
   (∀j∈done,∀o d,ops.toList[j]? =some o→o.dst=some d→V j (bn a d) w.heap)→wpAny P .any ops (QN N) fuel (cn ops.size done) a w:=by
 simp only [SS,agk,ahu] at hk;obtain⟨SU,hk⟩:=hk;have tU: ∀i o,ops[i]? =some o→o.guard=none∧(∃d,o.dst=some d∧d<n)∧(∀e∈o.after,Region.binds .any e=true→e.on<i)∧∃l,js[i]? =some l∧∀j∈l,SK Bs j i=true:=by
  intro i o ho;have hm: (o,i)∈ops.toList.zipIdx:=by
   rw [List.mk_mem_zipIdx_iff_getElem?]
   simpa using ho
  have:=hk _ hm;simp only [agk,Option.isNone_iff_eq_none] at this;obtain⟨⟨⟨h1,h2⟩,h3⟩,h4⟩:=this;refine⟨h1,?_,fun e he hb=>?_,?_⟩
  ·cases hd:o.dst with
   |none=>rw [hd] at h2;cases h2
   |some d=>rw [hd] at h2;exact⟨d,rfl,by rwa [ail] at h2⟩
  ·have:=Array.all_eq_true_iff_forall_mem.1 h3 e he
   rw [hb] at this
   simpa [ail] using this
  ·cases hj:js[i]? with
   |none=>rw [hj] at h4;cases h4
   |some l=>rw [hj] at h4;exact⟨l,rfl,ahu.1 h4⟩
 have cF: ∀ {i:Nat} {o:Oper},ops.toList[i]? =some o→i<ops.size:=fun {i o} h=>by
  have:= (agD.1 h).1
  simpa using this
 have mC: ∀ (done:List Nat) (a:Act) (w:World),(∀i,i<ops.size→i∈done)→Ok n a→b0 w0 w→ef (iQ ops.toList) a0 a→Ext w0.heap w.heap→(∀j∈done,∀o d,ops.toList[j]? =some o→o.dst=some d→V j (bn a d) w.heap)→N a w:=
  fun done a w ij h1 h2 h3 h4 h5=>hN a w h1 h2 h3 h4 fun j o d ho hd=>h5 j (ij j (cF ho)) o d ho hd
 intro fuel
 induction fuel with
 |zero=>
  intro done a w hn hb hf dX ha hr hs hx hV;have ij: ∀i,i<ops.size→i∈done:=by
   intro i hi;apply ajL;intro SV;have:=Ey ops.size (i::done) (ajo.2 ⟨SV,hn⟩) (fun k hk=>by rcases ago.1 hk with rfl|hk;exact hi;exact hb k hk);simp only [agi] at this;omega
  refine⟨List.eq_nil_iff_forall_not_mem.2 fun j hj=>?_,mC done a w ij ha hr hs hx hV⟩;obtain⟨h1,o,ho,_⟩:=mem_ready.1 hj;have Aw:j<ops.size:=by have:= (ahT.1 ho).1;exact this
  have h2:= (jx Aw).2 (ij j Aw);simp only [ahU] at h1 h2
  cases hq: (cn ops.size done)[j]? with
  |none=>rw [hq] at h2;cases h2
  |some b=>rw [hq] at h1 h2;simp only [ahi] at h1 h2;rw [h1] at h2;cases h2
 |succ fuel ih=>
  intro done a w hn hb hf dX ha hr hs hx hV;refine⟨fun h0=>?_,fun i hi=>?_⟩
  ·refine mC done a w (fun i hi=>?_) ha hr hs hx hV
   have key: ∀m i,i<m→i<ops.size→i∈done:=by
    intro m
    induction m with
    |zero=>intro i h;omega
    |succ m ihm=>
     intro i Up hi;apply ajL;intro SV;have ho:ops[i]? =some ops[i]:=aiG hi;have PK:i∈Region.ready .any ops (cn ops.size done):=by
      refine mem_ready.2 ⟨?_,_,ho,fun e he Ho=>?_⟩
      ·have h2: ¬ (cn ops.size done).getD i false=true:=fun h=>SV ((jx hi).1 h)
       have hz: ∀l:List Nat,(cn ops.size l).size=ops.size:=by
        intro l
        induction l with
        |nil=>simp [cn]
        |cons x l ih=>simp only [cn,List.foldr_cons,ai3] at ih ⊢;exact ih
       have hq:i< (cn ops.size done).size:=by rw [hz];exact hi
       simp only [ahU,aiG hq,ahi] at h2 ⊢
       simpa using h2
      ·have hon:= (tU i _ ho).2.2.1 e he Ho
       exact(jx (by omega)).2 (ihm e.on (by omega) (by omega))
     rw [h0] at PK
     cases PK
   exact key (i+1) i (by omega) hi
  ·obtain⟨h1,o,ho,ij⟩:=mem_ready.1 hi
   have Hu:ops.toList[i]? =some o:=by simpa using ho
   have xi:=cF Hu;obtain⟨hg,⟨d,hd,lE⟩,_,l,hl,Uq⟩:=tU i o ho;obtain⟨l',Kn,hc⟩:= (xT hv).2 i o Hu;rw [hl] at Kn;obtain rfl:=agN Kn;have SV:i∉done:=fun h=>by
    have h2:= (jx xi).2 h;simp only [ahU] at h1 h2
    cases hq: (cn ops.size done)[i]? with
    |none=>rw [hq] at h2;cases h2
    |some b=>rw [hq] at h1 h2;simp only [ahi] at h1 h2;rw [h1] at h2;cases h2
   have hc:=hc (bn a);rw [oX hs] at hc;have hc:=ue (mB hc w.heap hx) (fun j hj o' d' ub GS =>by
    have PN: (cn ops.size done).getD j false=true:=xH hB dX (i+1) i j (by omega) (Uq j hj) fun o2 Hp e he Ho=>by
     rw [ho] at Hp;obtain rfl:=agN Hp;exact ij e he Ho
    exact hV j ((jx (cF ub)).1 PN) o' d' ub GS)
   rw [ags] at hc;unfold wpOp;have hw:Region.wanted o (yielded ops a.tmps)=true:=by unfold Region.wanted;rw [hg]
   simp only [ho,hw,if_true];refine .inl (Nh (Eu (by rw [ky];exact KB hC hc w rfl) fun v w' Qn gE =>?_));have ik:ef (iQ ops.toList) a (a.put o.dst v):=by
    rw [hd];exact ef.put ha (fun d' h=>by cases h;exact lE) (fun d' h=>by cases h;exact mA Hu hd)
   have SQ :=dX.add hi;refine ih (i::done) (a.put o.dst v) w' (ajo.2 ⟨SV,hn⟩) (fun k hk=>by rcases ago.1 hk with rfl|hk;exact xi;exact hb k hk) (by simp only [agi];omega) SQ (ha.put _ _) (hr.trans Qn) ((hs.trans ik).mono (by simp)) (hx.trans gE.1) ?_;intro j hj o' d' ub GS
   by_cases MB:j=i
   ·subst MB
    rw [Hu] at ub;obtain rfl:=agN ub;rw [hd] at GS;obtain rfl:=agN GS;have e:bn (a.put o.dst v) d=v:=by
     rw [iB (fun d' h=>by rw [ha.size];rw [hd] at h;cases h;exact lE),hd]
     simp [Env.put,Env.PF]
    rw [e];exact gE.2
   ·have hjd:j∈done:=by rcases ago.1 hj with h|h;exact absurd h MB;exact h
    have df: ∀d2,o.dst=some d2→d2≠d' :=fun d2 h2 e=>by
     subst e;exact MB (xS SU ub Hu GS h2)
    rw [fp ha (fun d2 h2=>by rw [hd] at h2;cases h2;exact lE) df];exact jM _ _ _ _ gE.1 (hV j hjd o' d' ub GS)
def jX [Go.Vc.Mode] (P:Program) (n:Nat):Code→sq→Bool
 | .skip,_| .ret,_| .exit _,_| .label _,_=>true
 | .scope x,a=>jX P n x a
 | .region _ ops draw,.Ul p=> !draw && jW P ops (xh ops.size n) p false none [] fun d=>Nat.beq d.length ops.size
 | .region _ ops draw,.WX Bs p=>draw && Region.noSelect ops && okB ops.toList Bs && jW P ops (sE P ops Bs n) p false none [] fun d=>Nat.beq d.length ops.size && (Region.ready .any ops (cn ops.size d)).isEmpty
 | .region _ ops draw,.inv Bs js _=>draw && okB ops.toList Bs && SS n ops Bs js
 | .seq x y,.seq a b=>jX P n x a && jX P n y b
 | .seq x y,.cut _ wr a b=>Nj (vC x) wr && jX P n x a && jX P n y b
 | .cond _ x y,.cond a b=>jX P n x a && jX P n y b
 | .block _ x,.block a=>jX P n x a
 | .loop x,.loop _ wr a=>Nj (vC x) wr && jX P n x a
 |_,_=>false
def QX (Q:Ex→Env→ai→Prop):Exit→Act→World→Prop
 | .normal,a,w=>Q .normal (bn a) w.heap
 | .exit id,a,w=>Q (.exit id) (bn a) w.heap
 | .ret,a,w=>Q .ret (bn a) w.heap
 |_,_,_=>False
def QC [Go.Vc.Mode] (n:Nat) (l:List Nat) (a0:Act) (w0:World) (Q:Ex→Env→ai→Prop) (e:Exit) (a:Act) (w:World):Prop:=Ok n a∧b0 w0 w∧ef l a0 a∧QX Q e a w
theorem QC.le [Go.Vc.Mode] {n:Nat} {l l' :List Nat} {a0 a1:Act} {w0 w1:World} {Q Q' :Ex→Env→ai→Prop} {e:Exit} {a:Act} {w:World} (h:QC n l' a1 w1 Q' e a w) (hs:ef l a0 a1) (hl: ∀t∈l',t∈l) (hr:b0 w0 w1) (hq:QX Q' e a w→QX Q e a w):QC n l a0 w0 Q e a w:=
 ⟨h.1,hr.trans h.2.1,((hs.trans (h.2.2.1.mono hl)).mono (by simp)),hq h.2.2.2⟩
variable {C:List Nat}
theorem Nk [Go.Vc.Mode] (hC:gm P C) (hm:P.follows .mixedOrders=true) {n:Nat}: ∀ (c:Code) (an:sq) (a:Act) (w:World) (Q:Ex→Env→ai→Prop),jX P n c an=true→Ok n a→vc P C c an (bn a) w.heap Q→
  c.wp P (QC n (vC c) a w Q) a w:=by
 intro c
 induction c with
 |skip=>
  intro an a w Q hk ha hv;simp only [vc] at hv;exact wp_skip ⟨ha,b0.refl w,ef.refl _ _,hv⟩
 |ret=>
  intro an a w Q hk ha hv;simp only [vc] at hv;exact wp_ret ⟨ha,b0.refl w,ef.refl _ _,hv⟩
 |exit id=>
  intro an a w Q hk ha hv;simp only [vc] at hv;exact wp_exit ⟨ha,b0.refl w,ef.refl _ _,hv⟩
 |label l=>
  intro an a w Q hk ha hv;simp only [vc] at hv;exact wp_label ⟨ha,b0.refl w,ef.refl _ _,hv⟩
 |scope x ih=>
  intro an a w Q hk ha hv;simp only [jX] at hk;simp only [vc] at hv;refine wp_scope_straight (wp_mono (ih an a w Q hk ha hv) fun e a' w' he=>?_)
  cases e with
  |goto l=>exact he.2.2.2.elim
  |_=>exact he
 |region id ops draw=>
  intro an a w Q hk ha hv
  cases an with
  |Ul p=>
   simp only [jX,agk,ahV] at hk;obtain⟨hd,hk⟩:=hk;subst hd;simp only [vc] at hv
   let N:Act→World→Prop:=fun a' w' =>QC n (vC (.region id ops false)) a w Q .normal a' w'
   have h:= (Ew hC (R:=JD P ops N n) p).1 none [] _ _ a w hk ha trivial hv (fun dC a' w' h1 h2 h3 h4 _ h6=>by
    have hl:dC.length=ops.size:=agR h1;show wpOps P ops (QN N) ((List.range ops.size).drop dC.length) a' w';rw [hl,ah2 (by simp)];exact⟨h2,h4,h3.mono (fun t ht=>eL ht),h6⟩)
   refine wp_mono (Q:=QN N) (wp_region (by simpa [JD] using h)) fun e a' w' he=>?_
   cases e<;>first|exact he|exact he.elim
  |WX Bs p=>
   simp only [jX,agk] at hk;obtain⟨⟨⟨hd,hS⟩,hB⟩,hk⟩:=hk;subst hd;simp only [vc] at hv
   let N:Act→World→Prop:=fun a' w' =>QC n (vC (.region id ops true)) a w Q .normal a' w'
   have X_:nu ops (cn ops.size []):=by
    intro k o ho hk;have: (Array.replicate ops.size false)[k]?.getD false=false:=by
     by_cases h:k<ops.size<;>simp [h]
    simp only [cn,List.foldr_nil,ahU] at hk;rw [this] at hk
    cases hk
   have h:= (Ew hC (R:=Qp P ops N Bs n hB hS) p).1 none [] _ _ a {w with drawn:=w.drawn+1} hk ha trivial hv (fun dC a' w' h1 h2 h3 h4 _ h6=>by
    intro _;simp only [agk] at h1;have hl:dC.length=ops.size:=agR h1.1;rw [hl,ahB];exact⟨by simpa using h1.2,h2,b0.trans (show b0 w {w with drawn:=w.drawn+1} from ⟨rfl,rfl,rfl,fun _=>by first|exact aga _|exact agG _⟩) h4,h3.mono (fun t ht=>eL ht),h6⟩)
   have h:=h X_;refine wp_mono (Q:=QN N) (wp_region_any hm (xG _ _ _ _ h)) fun e a' w' he=>?_
   cases e<;>first|exact he|exact he.elim
  |inv Bs js fin=>
   simp only [jX,agk] at hk;obtain⟨⟨hd,hB⟩,hk⟩:=hk;subst hd;simp only [vc] at hv;obtain⟨V,jM,hv⟩:=hv
   let N:Act→World→Prop:=fun a' w' =>QC n (vC (.region id ops true)) a w Q .normal a' w'
   have hX:= (xT hv).1;have h:=Qr (N:=N) hC hB hk (w0:= {w with drawn:=w.drawn+1}) jM hv (fun a' w' h1 h2 h3 h4 h5=>by
    have hq:=hX (bn a');rw [oX h3] at hq;have hq:=ue (mB hq w'.heap h4) (fun j _ o d ho hd=>h5 j o d ho hd);exact⟨h1,b0.trans (show b0 w {w with drawn:=w.drawn+1} from ⟨rfl,rfl,rfl,fun _=>by first|exact aga _|exact agG _⟩) h2,h3,hq⟩)
    ops.size [] a {w with drawn:=w.drawn+1} ah_ (by simp) (by simp) (by
     intro k o ho hk;have: (Array.replicate ops.size false)[k]?.getD false=false:=by
      by_cases h:k<ops.size<;>simp [h]
     simp only [cn,List.foldr_nil,ahU] at hk;rw [this] at hk
     cases hk) ha (b0.refl _) (ef.refl _ _) (Ext.refl _) (by simp)
   refine wp_mono (Q:=QN N) (wp_region_any hm h) fun e a' w' he=>?_
   cases e<;>first|exact he|exact he.elim
  |_=>simp [jX] at hk
 |seq x y W_ Xa=>
  intro an a w Q hk ha hv
  cases an with
  |seq p q=>
   simp only [jX,agk] at hk;simp only [vc] at hv;refine wp_seq (wp_mono (W_ p a w _ hk.1 ha hv) fun e a' w' he=>?_)
   cases e with
   |normal=>
    obtain⟨h1,h2,h3,h4⟩:=he;refine wp_mono (Xa q a' w' Q hk.2 h1 h4) fun e2 a2 w2 PI=>PI.le (h3.mono (by intro t ht;simp [vC,ht])) (by intro t ht;simp [vC,ht]) h2 (fun h=>h)
   |exit id=>exact QC.le he (ef.refl _ _) (by intro t ht;simp [vC,ht]) (b0.refl w) (fun h=>h)
   |ret=>exact QC.le he (ef.refl _ _) (by intro t ht;simp [vC,ht]) (b0.refl w) (fun h=>h)
   |goto l=>exact he.2.2.2.elim
   |panic ch=>exact he.2.2.2.elim
   |outgrown=>exact he.2.2.2.elim
  |cut gY wr p q=>
   simp only [jX,agk] at hk;simp only [vc] at hv;obtain⟨J,hJ,hv⟩:=hv;refine wp_seq (wp_mono (W_ p a w _ hk.1.2 ha hv) fun e a' w' he=>?_)
   cases e with
   |normal=>
    obtain⟨h1,h2,h3,h4⟩:=he;have h5:=hJ (bn a');rw [oX (h3.mono (ud hk.1.1))] at h5;refine wp_mono (Xa q a' w' Q hk.2 h1 (mB h5 w'.heap h4)) fun e2 a2 w2 PI=>PI.le (h3.mono (by intro t ht;simp [vC,ht])) (by intro t ht;simp [vC,ht]) h2 (fun h=>h)
   |exit id=>exact QC.le he (ef.refl _ _) (by intro t ht;simp [vC,ht]) (b0.refl w) (fun h=>h)
   |ret=>exact QC.le he (ef.refl _ _) (by intro t ht;simp [vC,ht]) (b0.refl w) (fun h=>h)
   |goto l=>exact he.2.2.2.elim
   |panic ch=>exact he.2.2.2.elim
   |outgrown=>exact he.2.2.2.elim
  |_=>simp [jX] at hk
 |cond c x y W_ Xa=>
  intro an a w Q hk ha hv
  cases an with
  |cond p q=>
   simp only [jX,agk] at hk;simp only [vc] at hv;rw [←ky] at hv
   cases hc:a.eval c<;>rw [hc] at hv<;>simp only [ao] at hv
   refine wp_cond_split hc (fun ht=>?_) (fun hf=>?_)
   ·exact wp_mono (W_ p a w Q hk.1 ha (hv.1 ht)) fun e a' w' he=>he.le (ef.refl _ _) (by intro t ht;simp [vC,ht]) (b0.refl w) (fun h=>h)
   ·exact wp_mono (Xa q a w Q hk.2 ha (hv.2 hf)) fun e a' w' he=>he.le (ef.refl _ _) (by intro t ht;simp [vC,ht]) (b0.refl w) (fun h=>h)
  |_=>simp [jX] at hk
 |block id x ih=>
  intro an a w Q hk ha hv
  cases an with
  |block p=>
   simp only [jX] at hk;simp only [vc] at hv;refine wp_block (wp_mono (ih p a w _ hk ha hv) fun e a' w' he=>?_)
   cases e with
   |exit k=>
    simp only [Exit.inBlock];obtain⟨h1,h2,h3,h4⟩:=he;simp only [QX] at h4
    by_cases SM:k=id
    ·subst SM
     rw [if_pos rfl];simp only [Nat.beq_eq_true_eq,Nat.beq_refl,cond_true] at h4;exact⟨h1,h2,h3,h4⟩
    ·rw [if_neg SM]
     have:Nat.beq k id=false:=by cases hb:Nat.beq k id with|false=>rfl|true=>exact absurd (agR hb) SM
     rw [this] at h4;exact⟨h1,h2,h3,h4⟩
   |normal=>exact he
   |ret=>exact he
   |goto l=>exact he
   |panic ch=>exact he
   |outgrown=>exact he
  |_=>simp [jX] at hk
 |loop x ih=>
  intro an a w Q hk ha hv
  cases an with
  |loop gY wr p=>
   simp only [jX,agk] at hk;simp only [vc] at hv;obtain⟨I,μ,h0,SX⟩:=hv;refine wp_loop (fun a' w' =>Ok n a' ∧b0 w w' ∧ef (vC x) a a' ∧l_ gY I (bn a') w'.heap) (fun a' w' =>Jw gY μ (bn a') w'.heap) ⟨ha,b0.refl w,ef.refl _ _,h0⟩ ?_;intro a1 w1 ⟨g1,g2,g3,g4⟩;have h5:=SX (bn a1);rw [oX (g3.mono (ud hk.1))] at h5;refine wp_mono (ih p a1 w1 _ hk.2 g1 (mB h5 w1.heap g4)) fun e a' w' he=>?_
   cases e with
   |normal=>
    obtain⟨h1,h2,h3,h4⟩:=he;exact⟨⟨h1,g2.trans h2,(g3.trans h3).mono (by simp),h4.1⟩,h4.2⟩
   |exit id=>exact QC.le he g3 (by simp [vC]) g2 (fun h=>h)
   |ret=>exact QC.le he g3 (by simp [vC]) g2 (fun h=>h)
   |goto l=>exact he.2.2.2.elim
   |panic ch=>exact he.2.2.2.elim
   |outgrown=>exact he.2.2.2.elim
  |_=>simp [jX] at hk
 |_=>intro an a w Q hk;simp [jX] at hk
def xU (tmps:Array Value):ResultVar→Sem Value
 | .tmp t=>pure (tmps.getD t undef)
 | .cell b t=>do loadVar t (←asAddr (tmps.getD b undef))
theorem Hv (fn:Func) (tmps:Array Value):results fn tmps= (do let vs←fn.results.mapM (xU tmps);pure (if h:vs.size=1 then vs[0] else .tuple vs)):=rfl
theorem jO {a:Act} {w:World}: ∀ {rs:List ResultVar} {K:List Value→Prop},D9 P (bn a) w.heap K rs→
  ∃l,(rs.mapM (xU a.tmps)).run P w=Result.ok l w∧K l
 | [],K,h=> ⟨[],rfl,h⟩
 | .tmp t::r,K,h=>by
  simp only [D9] at h;obtain⟨l,hl,hk⟩:=jO h;refine⟨bn a t::l,?_,hk⟩;simp only [aiZ,xU,Sem.run_bind,Sem.run_pure,Result.andThen_ok,hl]
  rfl
 | .cell b t::r,K,h=>by
  simp only [D9] at h
  split at h
  ·rename_i d i hd hi
   have key: ∀ {K' :Value→Prop},Ej P (Instr.loadAt t (bn a b)) w.heap K' →∃v,(xU a.tmps (.cell b t)).run P w= .ok v w∧K' v:=by
    intro K' ⟨v,hv,hk⟩;refine⟨v,?_,hk⟩;have hv:=hv w rfl;have he:a.tmps.getD b undef=bn a b:=rfl;simp only [xU];rw [he]
    cases hb:bn a b<;>rw [hb] at hv<;> (try simp only [Instr.loadAt,Instr.sureAddr,Sem.run_bind,run_stuck,Result.andThen_halt,reduceCtorEq] at hv)
    rename_i p
    cases p with
    |none=>simp [Instr.loadAt,Instr.sureAddr] at hv
    |some p=>simpa [asAddr,Instr.loadAt,Instr.sureAddr] using hv
   cases ha:dU P t with
   |true=>
    rw [ha] at h;simp only [cond_true] at h;obtain⟨v,hv,hk⟩:=key (xC hd hi ha h);obtain⟨l,hl,hk⟩:=jO hk;refine⟨v::l,?_,hk⟩;simp only [aiZ,Sem.run_bind,hv,Result.andThen_ok,hl,Sem.run_pure]
   |false=>
    rw [ha] at h;simp only [cond_false] at h;obtain⟨v,hv,hk⟩:=key (A6 hd ha h);obtain⟨l,hl,hk⟩:=jO hk;refine⟨v::l,?_,hk⟩;simp only [aiZ,Sem.run_bind,hv,Result.andThen_ok,hl,Sem.run_pure]
  ·exact h.elim
def Ez [Go.Vc.Mode] (P:Program) (fn:Func) (an:sq) (Vh:Nat):Bool:=Nat.ble Vh fn.ntmps && match fn.body with
 |some c=>jX P fn.ntmps c an
 |none=>false
theorem Hw [Go.Vc.Mode] {P:Program} {C:List Nat} (hC:gm P C) (hm:P.follows .mixedOrders=true) {f:FuncId} {fn:Func} {an:sq} {args:List Value} {H:ai} {R:Value→ai→Prop}
  (hf:P.funcs[f]? =some fn) (hk:Ez P fn an args.length=true) (h:MR P C fn an args H R):fP P f args.toArray H R:=by
 intro w hw;subst hw;unfold Ez at hk;unfold MR at h;simp only [agk] at hk;obtain⟨hle,hk⟩:=hk;have hle:=agm hle
 cases hb:fn.body with
 |none=>rw [hb] at h;exact h.elim
 |some c=>
  rw [hb] at h hk;simp only at h hk;refine calls_of_wp hf hb ?_;generalize ha: ({tmps:=args.toArray++Array.replicate (fn.ntmps - args.toArray.size) undef,defers:= []}:Act)=a;have gl:Ok fn.ntmps a:=by subst ha;exact⟨by simp;omega,rfl⟩
  have rl:bn a=Ch args:=by
   subst ha
   funext t
   simp only [bn,Ch,ahU]
   by_cases ht:t<args.length
   ·rw [Array.getElem?_append_left (by simpa using ht)]
    simp [ht]
   ·rw [Array.getElem?_append_right (by simp;omega)]
    simp only [ag1,Array.getElem?_replicate];rw [agq (by omega)]
    split<;>rfl
  rw [←rl] at h;refine wp_mono (Nk hC hm c an a w _ hk gl h) fun e a' w' he=>?_;obtain⟨h1,h2,h3,h4⟩:=he;have fin:D9 P (bn a') w'.heap (fun l=>R (D_ l) w'.heap) fn.results.toList→a'.defers= []∧∃v,(results fn a'.tmps).run P w' = .ok v w' ∧∃v',Ending.returned v=Ending.returned v' ∧b0 w w' ∧R v' w'.heap:=by
   intro hr;obtain⟨l,hl,hk⟩:=jO hr;refine⟨h1.defers,D_ l,?_,D_ l,rfl,h2,hk⟩;rw [Hv,ajJ];simp only [Sem.run_bind,Sem.run_map,hl,Result.andThen_ok,Sem.run_pure]
   cases l with
   |nil=>rfl
   |cons x r=>cases r<;>simp [D_]
  cases e with
  |normal=>exact fin h4
  |ret=>exact fin h4
  |exit id=>exact h4.elim
  |goto l=>exact h4.elim
  |panic ch=>exact h4.elim
  |outgrown=>exact h4.elim
end
theorem Qs [Go.Vc.Mode] {P:Program} {C:List Nat} (hC:gm P C) (hm:P.follows .mixedOrders=true) {f:FuncId} {fn:Func} (an:sq) {args:List Value} {H:ai} {R:Value→ai→Prop} {r:Prop}
  (hf:P.funcs[f]? =some fn) (hk:Ez P fn an args.length=true) (e:MR P C fn an args H R=r) (h:r):fP P f args.toArray H R:=Hw hC hm hf hk (e.mpr h)
end
end Go.Vc
