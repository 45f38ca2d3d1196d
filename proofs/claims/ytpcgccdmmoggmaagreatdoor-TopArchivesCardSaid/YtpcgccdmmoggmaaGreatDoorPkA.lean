/- Part 1 of the proof of RowTopArchives: what it is built on, in the order of its needs. -/
import Derived.Orders
import Derived.Laws.Sem
import Derived.RowKit3
import Derived.Laws.Entries
import Derived.Laws.Cells
import Derived.Laws.IdiomCopy
import Derived.Laws.StructEq
import Derived.Laws.BytesString
import Derived.Scope
namespace Go
abbrev aiV:=@List.length_append
abbrev aiW:=@List.mem_cons_of_mem
abbrev aiX:=@List.mem_cons_self
abbrev aiY:=@Int.toNat_natCast
abbrev aiZ:=@Nat.le_refl
abbrev ai0:=@List.append_assoc
abbrev ai1:=@List.getElem?_eq_getElem
abbrev ai2:=@List.length_take
abbrev ai3:=@List.getD_eq_getElem?_getD
abbrev ai4:=@List.length_drop
abbrev ai5:=@Nat.mul_one
abbrev ai6:=@List.length_cons
abbrev ai7:=@Nat.le_of_ble_eq_true
abbrev ai8:=@Option.some.injEq
abbrev ai9:=@List.getElem_mem
abbrev ai_:=@List.length_nil
abbrev aja:=@Bool.and_eq_true
abbrev ajb:=@Nat.zero_add
abbrev ajc:=@List.take_length
abbrev ajd:=@List.mem_cons
abbrev aje:=@List.nil_append
abbrev ajf:=@List.take_of_length_le
abbrev ajg:=@Nat.mod_eq_of_lt
abbrev ajh:=@List.length_map
abbrev aji:=@List.getElem?_map
abbrev ajj:=@Nat.zero_le
abbrev ajk:=@Nat.pow_le_pow_right
abbrev ajl:=@List.append_nil
abbrev ajm:=@List.getElem?_eq_none
abbrev ajn:=@List.getElem?_cons_zero
abbrev ajo:=@List.mem_append
abbrev ajp:=@List.take_append_drop
abbrev ajq:=@Nat.add_zero
abbrev ajr:=@List.take_add_one
abbrev ajs:=@List.pairwise_cons
abbrev ajt:=@List.drop_zero
abbrev aju:=@List.getElem?_cons_succ
abbrev ajv:=@Nat.le_trans
abbrev ajw:=@List.mem_map
abbrev ajx:=@Nat.le_succ
abbrev ajy:=@List.map_append
abbrev ajz:=@Option.some.inj
abbrev ajA:=@List.size_toArray
abbrev ajB:=@List.length_replicate
abbrev ajC:=@List.getElem?_toArray
abbrev ajD:=@List.getElem?_eq_some_iff
abbrev ajE:=@List.mem_singleton
abbrev ajF:=@Nat.min_eq_left
abbrev ajG:=@Nat.eq_of_beq_eq_true
abbrev ajH:=@BitVec.toNat_ofNat
abbrev ajI:=@Nat.pow_succ
abbrev ajJ:=@List.drop_eq_getElem_cons
abbrev ajK:=@List.drop_drop
abbrev ajL:=@List.getElem?_append_left
abbrev ajM:=@Nat.lt_or_ge
abbrev ajN:=@Nat.lt_of_lt_of_le
abbrev ajO:=@Nat.sub_zero
abbrev ajP:=@List.getElem?_append_right
abbrev ajQ:=@Nat.mul_comm
abbrev ajR:=@List.drop_append_of_le_length
abbrev ajS:=@List.set_cons_succ
abbrev ajT:=@BitVec.ofInt_natCast
abbrev ajU:=@List.set_cons_zero
abbrev ajV:=@Bool.eq_iff_iff
abbrev ajW:=@List.getElem?_drop
abbrev ajX:=@Int.toNat_of_nonneg
abbrev ajY:=@List.drop_length
abbrev ajZ:=@List.take_append_of_le_length
abbrev aj0:=@Bool.not_true
abbrev aj1:=@List.length_set
abbrev aj2:=@Nat.add_mul
abbrev aj3:=@List.map_cons
abbrev aj4:=@List.ext_getElem?
abbrev aj5:=@List.mem_of_getElem?
abbrev aj6:=@List.mem_of_mem_take
abbrev aj7:=@Nat.add_sub_cancel_left
abbrev aj8:=@Prod.mk.injEq
abbrev aj9:=@Option.getD_some
abbrev aj_:=@List.flatten_cons
abbrev aka:=@List.getElem?_range
abbrev akb:=@List.take_take
abbrev akc:=@List.length_singleton
abbrev akd:=@List.drop_eq_nil_of_le
abbrev ake:=@List.cons_append
abbrev akf:=@Bool.or_eq_true
abbrev akg:=@Bool.false_eq_true
abbrev akh:=@Int.tmod_eq_emod_of_nonneg
abbrev aki:=@List.sublist_cons_self
abbrev akj:=@List.take_succ_cons
abbrev akk:=@Ne.symm
abbrev akl:=@Nat.mul_le_mul_right
abbrev akm:=@List.map_congr_left
abbrev akn:=@Nat.mod_lt
abbrev ako:=@List.Sublist.refl
abbrev akp:=@Nat.sub_self
abbrev akq:=@List.mem_append_left
abbrev akr:=@Int.tdiv_eq_ediv_of_nonneg
abbrev aks:=@Bool.or_eq_false_iff
abbrev akt:=@List.cons.injEq
abbrev aku:=@Bool.not_false
abbrev akv:=@List.all_eq_true
abbrev akw:=@List.getElem?_take
abbrev akx:=@List.flatMap_cons
abbrev aky:=@List.drop_of_length_le
abbrev akz:=@List.drop_left
abbrev akA:=@List.ext_getElem
abbrev akB:=@Array.getElem?_eq_none
abbrev akC:=@Bool.not_eq_true'
abbrev akD:=@List.take_zero
abbrev akE:=@Nat.xor_lt_two_pow
abbrev akF:=@List.range_succ
abbrev akG:=@List.getElem?_set_self
abbrev akH:=@List.countP_cons
abbrev akI:=@List.Sublist.append
abbrev akJ:=@List.mem_append_right
abbrev akK:=@List.getElem_of_mem
abbrev akL:=@List.getElem_map
abbrev akM:=@Array.ext'
abbrev akN:=@Nat.add_comm
abbrev akO:=@Nat.add_assoc
abbrev akP:=@Array.ext_getElem?
abbrev akQ:=@Array.getElem?_eq_some_iff
abbrev akR:=@Nat.mul_pos
abbrev akS:=@Array.getD_eq_getD_getElem?
abbrev akT:=@Int.emod_nonneg
abbrev akU:=@List.getElem?_replicate
abbrev akV:=@Nat.eq_zero_or_pos
abbrev akW:=@Nat.eq_of_mul_eq_mul_right
abbrev akX:=@List.sum_cons
abbrev akY:=@List.countP_le_length
abbrev akZ:=@Nat.add_sub_cancel
abbrev ak0:=@List.sublist_append_right
abbrev ak1:=@List.foldl_cons
abbrev ak2:=@Option.map_some
abbrev ak3:=@Nat.succ_mul
abbrev ak4:=@Array.getElem?_modify
abbrev ak5:=@Nat.mul_assoc
abbrev ak6:=@Int.natCast_pow
abbrev ak7:=@Nat.zero_mul
abbrev ak8:=@Nat.two_pow_pos
abbrev ak9:=@Nat.testBit_zero
abbrev ak_:=@Nat.mod_two_eq_zero_or_one
abbrev ala:=@Nat.pow_zero
abbrev alb:=@List.flatten_append
abbrev alc:=@Nat.pow_add
abbrev ald:=@List.replicate_succ'
abbrev ale:=@List.drop_left'
abbrev alf:=@Nat.xor_assoc
abbrev alg:=@List.map_map
abbrev alh:=@Array.getElem?_setIfInBounds
abbrev ali:=@Nat.le_add_right
abbrev alj:=@Nat.blt_eq
abbrev alk:=@Bool.false_or
abbrev alm:=@Int.pow_pos
abbrev aln:=@Int.emod_lt_of_pos
abbrev alo:=@Nat.or_comm
abbrev alp:=@Int.le_refl
abbrev alq:=@List.getElem?_of_mem
abbrev alr:=@List.setIfInBounds_toArray
abbrev als:=@List.getElem?_set_ne
abbrev alu:=@Int.fdiv_eq_ediv_of_nonneg
abbrev alv:=@List.mem_range
abbrev alw:=@Nat.div_le_self
abbrev alx:=@Nat.div_div_eq_div_mul
abbrev aly:=@List.countP_nil
abbrev alz:=@List.length_eq_zero_iff
abbrev alA:=@List.getElem?_take_of_lt
abbrev alC:=@List.flatten_nil
abbrev alD:=@List.perm_middle
abbrev alE:=@List.take_left
abbrev alF:=@List.append_inj
abbrev alG:=@List.filter_cons
abbrev alH:=@Array.getElem?_eq_getElem
abbrev alI:=@List.nodup_nil
abbrev alJ:=@List.getElem?_eraseIdx
abbrev alK:=@List.set_append_right
abbrev alL:=@List.Perm.refl
abbrev alM:=@BitVec.toNat_xor
abbrev alN:=@Nat.mod_one
abbrev alO:=@UInt8.toNat_ofNat'
abbrev alP:=@Nat.min_eq_right
abbrev alQ:=@Array.replicate_succ
abbrev alR:=@Array.replicate_zero
abbrev alS:=@List.push_toArray
abbrev alT:=@List.append_toArray
abbrev alU:=@List.take_left'
abbrev alV:=@Nat.lt_trichotomy
abbrev alW:=@List.foldl_append
abbrev alX:=@List.flatMap_append
abbrev alY:=@Nat.lt_succ_self
abbrev alZ:=@Bool.false_and
abbrev al0:=@List.mapM_cons
abbrev al1:=@List.map_take
abbrev al2:=@Array.size_setIfInBounds
abbrev al3:=@List.all_cons
abbrev al4:=@List.set_append_left
abbrev al5:=@List.pairwise_append
abbrev al6:=@List.getElem_take
abbrev al7:=@Nat.div_one
abbrev al8:=@List.filter_append
abbrev al9:=@Decidable.not_not
abbrev al_:=@Nat.mul_div_cancel_left
abbrev ama:=@Bool.and_false
abbrev amb:=@List.pairwise_iff_getElem
abbrev amc:=@Nat.testBit_xor
abbrev amd:=@List.cons.inj
abbrev ame:=@Nat.lt_of_not_le
abbrev amf:=@List.take_nil
abbrev amg:=@Bool.and_eq_false_iff
abbrev amh:=@Int.zero_add
abbrev ami:=@Classical.not_not
abbrev amj:=@ByteArray.ext_iff
abbrev amk:=@List.take_drop
abbrev aml:=@ByteArray.data_extract
abbrev amm:=@Array.getElem?_push
abbrev amn:=@Nat.le_mul_of_pos_right
abbrev amo:=@Classical.byContradiction
abbrev amp:=@BitVec.toNat_and
abbrev amq:=@Nat.one_le_two_pow
abbrev amr:=@BitVec.toNat_or
abbrev ams:=@Nat.two_pow_add_eq_or_of_lt
abbrev amt:=@Array.size_push
abbrev amu:=@List.eq_nil_of_length_eq_zero
abbrev amv:=@List.not_mem_nil
abbrev amw:=@List.length_pos_iff
abbrev amx:=@Int.natCast_nonneg
abbrev amy:=@List.getElem_set
abbrev amz:=@Nat.mul_le_mul
abbrev amA:=@List.filter_nil
abbrev amB:=@List.length_range
abbrev amC:=@List.drop_append
abbrev amD:=@List.take_append
abbrev amE:=@Nat.eq_of_testBit_eq
abbrev amF:=@List.flatMap_nil
abbrev amG:=@List.count_eq_zero_of_not_mem
abbrev amH:=@List.mem_of_mem_drop
abbrev amI:=@List.getElem?_set
abbrev amJ:=@List.replicate_zero
abbrev amK:=@List.eq_of_mem_replicate
abbrev amL:=@Option.map_eq_some_iff
abbrev amM:=@Array.mapM_eq_mapM_toList
abbrev amN:=@Array.getElem?_setIfInBounds_ne
abbrev amO:=@Nat.and_two_pow_sub_one_eq_mod
abbrev amP:=@Array.eq_empty_of_size_eq_zero
abbrev amQ:=@Array.filter_eq_empty_iff
abbrev amR:=@Nat.testBit_eq_decide_div_mod_eq
abbrev amS:=@Int.mul_le_mul_of_nonneg_right
abbrev amT:=@Nat.testBit_two_pow_sub_succ
abbrev amU:=@Nat.testBit_two_pow_sub_one
abbrev amV:=@List.idxOf_lt_length_of_mem
abbrev amW:=@List.mem_or_eq_of_mem_set
end Go
set_option linter.unusedSimpArgs false
set_option linter.unusedVariables false
namespace Go.Vc
open Go
section
abbrev ag:=Array Obj
abbrev Env:=Nat→Value
abbrev str (l:List UInt8):Value:= .string ⟨l.toArray⟩
def im (s:ByteArray):List UInt8:=s.data.toList
@[simp] theorem bB (l:List UInt8):im ⟨l.toArray⟩=l:=by simp [im]
abbrev bu (b:UInt8):Value:= .int .u8 (b.toNat:Int)
theorem Sg (s:ByteArray):Value.string s=str (im s):=by cases s;simp [im]
def lV (n:Nat):List Nat→Bool
 | []=>false
 |m::r=>bif Nat.beq n m then true else lV n r
def Env.RY (ρ:Env) (t:Nat) (v:Value):Env:=fun s=>bif Nat.beq s t then v else ρ s
def Env.put (ρ:Env):Option Tmp→Value→Env
 |some t,v=>ρ.RY t v
 |none,_=>ρ
def Env.mix (ρ qB:Env) (l:List Nat):Env:=fun s=>bif lV s l then qB s else ρ s
def ev (ρ:Env):Operand→Value
 | .tmp t=>ρ t
 | .const v=>v
 | .global g=> .pointer (some ⟨g,0,none⟩)
 | .func f=> .func (.func f) #[] #[]
def OJ (ρ:Env):List Operand→List Value
 | []=> []
 |x::r=>ev ρ x::OJ ρ r
def UL (ρ:Env):Option Operand→Option Value
 |none=>none
 |some x=>some (ev ρ x)
def FK (ρ:Env):List (Nat × Operand)→List (Nat × Value)
 | []=> []
 | (i,x)::r=> (i,ev ρ x)::FK ρ r
structure Ext (H H' :ag):Prop where
 size:H.size≤H'.size
 get: ∀i,i<H.size→H'[i]? =H[i]?
theorem Ext.refl (H:ag):Ext H H:= ⟨aiZ _,fun _ _=>rfl⟩
theorem Ext.trans {A B C:ag} (h:Ext A B) (k:Ext B C):Ext A C:= ⟨ajv h.size k.size,fun i hi=> (k.get i (ajN hi h.size)).trans (h.get i hi)⟩
class Mode where
 UM:Prop
instance Mode.UN:Mode:= ⟨False⟩
variable [Mode]
structure cq (w w' :World):Prop where
 os:w'.os=w.os
 output:w'.output=w.output
 tape:w'.tape=w.tape
 drawn:Mode.UM→w.drawn≤w'.drawn
theorem cq.refl (w:World):cq w w:= ⟨rfl,rfl,rfl,fun _=>aiZ _⟩
theorem cq.trans {a b c:World} (h:cq a b) (k:cq b c):cq a c:= ⟨k.os.trans h.os,k.output.trans h.output,k.tape.trans h.tape,fun m=>ajv (h.drawn m) (k.drawn m)⟩
def jb (P:Program) (f:FuncId) (args:Array Value) (H:ag) (R:Value→ag→Prop):Prop:=
 ∀w:World,w.heap=H→Calls P f args w fun e w' => ∃v,e= .returned v∧cq w w' ∧R v w'.heap
theorem jb.mono {P:Program} {f:FuncId} {args:Array Value} {H:ag} {R R' :Value→ag→Prop} (h:jb P f args H R) (hr: ∀v H',R v H' →R' v H'):jb P f args H R' :=
 fun w hw=> (h w hw).mono fun _ _ ⟨v,he,hk,hv⟩=> ⟨v,he,hk,hr _ _ hv⟩
def cellAt (H:ag) (a:Addr):Option Value:=
 match H[a.block]? with
 |some (.cells c _ _)=>if a.spot.isSome then none else c[a.off]?
 |_=>none
def frozenAt (H:ag) (a:Addr):Bool:=
 match H[a.block]? with
 |some (.cells _ _ (lo,hi))=>lo≤a.off && a.off<hi
 |_=>false
def setAt (H:ag) (a:Addr) (v:Value):ag:=
 H.modify a.block fun
  | .cells c elem frozen=> .cells (if a.spot.isSome then c else c.setIfInBounds a.off v) elem frozen
  |o=>o
def aS:Value→Bool
 | .agg _| .tuple _=>false
 |_=>true
def fc (H:ag) (a:Addr):Nat→Option (List Value)
 |0=>some []
 |n+1=>match fc H a n with
  |some l=>match cellAt H (a.add n) with
   |some v=>some (l++ [v])
   |none=>none
  |none=>none
def fQ (H:ag) (a:Addr):Nat→List Value→Option ag
 |_,[]=>some H
 |i,v::r=>match cellAt H (a.add i) with
  |some _=>bif frozenAt H (a.add i) then none else bif aS v then fQ (setAt H (a.add i) v) a (i+1) r else none
  |none=>none
section
def OK (c a b:Value) (K:Value→Prop):Prop:=match c with
 | .bool t=>K (bif t then a else b)
 |_=>False
def aG (x:Value) (K:Value→Prop):Prop:=match x with
 | .pointer (some a)=>K (.pointer (some a))
 | .func (.func f) a b=>K (.func (.func f) a b)
 |_=>False
def aB (x y:Value) (K:Value→Prop):Prop:=match x,y with
 | .int k a,.int k' b=>k=k' ∧K (.int k (k.wrap (a+b)))
 | .string a,.string b=>a.size+b.size≤9223372036854775807∧K (str (im a++im b))
 |_,_=>False
def bR (x y:Value) (K:Value→Prop):Prop:=match x,y with
 | .int k a,.int k' b=>k=k' ∧K (.int k (k.wrap (a - b)))
 |_,_=>False
def kB (x y:Value) (K:Value→Prop):Prop:=match x,y with
 | .int k a,.int k' b=>k=k' ∧K (.int k (k.wrap (a*b)))
 |_,_=>False
def k_ (x y:Value) (K:Value→Prop):Prop:=match x,y with
 | .int k a,.int k' b=>k=k' ∧b≠0∧K (.int k (k.wrap (a.tdiv b)))
 |_,_=>False
def jU (x y:Value) (K:Value→Prop):Prop:=match x,y with
 | .int k a,.int k' b=>k=k' ∧b≠0∧K (.int k (a.tmod b))
 |_,_=>False
def bitsOf (op:BinOp) (k:IntKind) (x y:Int):Int:=
 let a:=BitVec.ofInt k.bits x
 let b:=BitVec.ofInt k.bits y
 k.wrap (match op with
  | .and=> (a &&& b).toNat
  | .or=> (a|||b).toNat
  | .xor=> (a ^^^ b).toNat
  |_=> (a &&& ~~~b).toNat:Nat)
def cK (op:BinOp) (x y:Value) (K:Value→Prop):Prop:=match x,y with
 | .int k a,.int k' b=>k=k' ∧K (.int k (bitsOf op k a b))
 |_,_=>False
def kC (x y:Value) (K:Value→Prop):Prop:=match x,y with
 | .int k a,.int _ b=>0≤b∧K (.int k (k.wrap (a*2 ^ (min b.toNat k.bits))))
 |_,_=>False
def nU (x y:Value) (K:Value→Prop):Prop:=match x,y with
 | .int k a,.int _ b=>0≤b∧K (.int k (a.fdiv (2 ^ (min b.toNat k.bits))))
 |_,_=>False
def b_ (x y:Value) (K:Value→Prop):Prop:=match x,y with
 | .int k a,.int k' b=>k=k' ∧K (.bool (decide (a<b)))
 |_,_=>False
def oZ (x y:Value) (K:Value→Prop):Prop:=match x,y with
 | .int k a,.int k' b=>k=k' ∧K (.bool (decide (a≤b)))
 |_,_=>False
def ef (x y:Value) (K:Value→Prop):Prop:=match x,y with
 | .int k a,.int k' b=>k=k' ∧K (.bool (decide (b<a)))
 |_,_=>False
def jz (x y:Value) (K:Value→Prop):Prop:=match x,y with
 | .int k a,.int k' b=>k=k' ∧K (.bool (decide (b≤a)))
 |_,_=>False
def mq:Nat→Value→Value→Option Bool
 |0,.int k a,.int k' b=>if k=k' then some (decide (a=b)) else none
 |1,.string a,.string b=>some (decide (im a=im b))
 |2,.bool a,.bool b=>some (decide (a=b))
 |3,.pointer none,.pointer b=>some b.isNone
 |3,.pointer (some _),.pointer none=>some false
 |4,.slice none _ _,.slice b _ _=>some b.isNone
 |4,.slice (some _) _ _,.slice none _ _=>some false
 |5,.map none,.map b=>some b.isNone
 |5,.map (some _),.map none=>some false
 |_,_,_=>none
def mr:TypeDesc→Option Nat
 | .int _=>some 0
 | .string=>some 1
 | .bool=>some 2
 | .pointer _=>some 3
 | .slice _=>some 4
 | .map _ _=>some 5
 |_=>none
def cd (k:Nat) (x y:Value) (K:Value→Prop):Prop:=match mq k x y with
 |some b=>K (.bool b)
 |none=>False
def eW (k:Nat) (x y:Value) (K:Value→Prop):Prop:=match mq k x y with
 |some b=>K (.bool (!b))
 |none=>False
def dG:List Nat→List Value→List Value→Option Bool
 | [],[],[]=>some true
 |k::ks,x::r,y::s=>match mq k x y with
  |some b=>match dG ks r s with
   |some c=>some (b && c)
   |none=>none
  |none=>none
 |_,_,_=>none
def Sh (ks:List Nat) (x y:Value) (K:Value→Prop):Prop:=match x,y with
 | .agg a,.agg b=>match dG ks a.toList b.toList with
  |some c=>K (.bool c)
  |none=>False
 |_,_=>False
def FL (ks:List Nat) (x y:Value) (K:Value→Prop):Prop:=match x,y with
 | .agg a,.agg b=>match dG ks a.toList b.toList with
  |some c=>K (.bool (!c))
  |none=>False
 |_,_=>False
def d_ (x:Value) (K:Value→Prop):Prop:=match x with
 | .bool b=>K (.bool !b)
 |_=>False
def XG (x:Value) (K:Value→Prop):Prop:=match x with
 | .int k n=>K (.int k (k.wrap (0 - n)))
 |_=>False
def OL (x:Value) (K:Value→Prop):Prop:=match x with
 | .int k n=>K (.int k (bitsOf .xor k (if k.signed then -1 else k.max) n))
 |_=>False
def bf (k:IntKind) (x:Value) (K:Value→Prop):Prop:=match x with
 | .int _ n=>K (.int k (k.wrap n))
 |_=>False
def OM (x:Value) (K:Value→Prop):Prop:=match x with
 | .string s=>K (.string s)
 |_=>False
def jA (x y:Value) (K:Value→Prop):Prop:=match x,y with
 | .int k a,.int k' b=>k=k' ∧K (.int k (min a b))
 |_,_=>False
def IU (x y:Value) (K:Value→Prop):Prop:=match x,y with
 | .int k a,.int k' b=>k=k' ∧K (.int k (max a b))
 |_,_=>False
def aa (off:Nat) (x:Value) (K:Value→Prop):Prop:=match x with
 | .pointer (some a)=>K (.pointer (some (a.add off)))
 |_=>False
def pg (off:Nat) (x:Value) (K:Value→Prop):Prop:=match x with
 | .agg cs=>match cs.toList[off]? with
  |some v=>K v
  |none=>False
 |_=>False
def DS (off n:Nat) (x:Value) (K:Value→Prop):Prop:=match x with
 | .agg cs=>K (.agg ((cs.toList.drop off).take n).toArray)
 |_=>False
def ar (i:Nat) (x:Value) (K:Value→Prop):Prop:=match x with
 | .tuple vs=>match vs.toList[i]? with
  |some v=>K v
  |none=>False
 |_=>False
def eJ (len size:Nat) (x i:Value) (K:Value→Prop):Prop:=match x,i with
 | .pointer (some a),.int _ j=>0≤j∧j< (len:Int)∧K (.pointer (some (a.add (j.toNat*size))))
 |_,_=>False
def aK (size:Nat) (x i:Value) (K:Value→Prop):Prop:=match x,i with
 | .slice (some a) n _,.int _ j=>0≤j∧j< (n:Int)∧K (.pointer (some (a.add (j.toNat*size))))
 |_,_=>False
def bN (x i:Value) (K:Value→Prop):Prop:=match x,i with
 | .string s,.int _ j=>0≤j∧j< ((im s).length:Int)∧K (.int .u8 (((im s).getD j.toNat 0).toNat:Int))
 |_,_=>False
def pj (len:Nat) (x i:Value) (K:Value→Prop):Prop:=match x,i with
 | .agg cs,.int _ j=>0≤j∧j< (len:Int)∧(match cs.toList[j.toNat]? with
  |some v=>K v
  |none=>False)
 |_,_=>False
def lf (len n:Nat) (x i:Value) (K:Value→Prop):Prop:=match x,i with
 | .agg cs,.int _ j=>0≤j∧j< (len:Int)∧K (.agg ((cs.toList.drop (j.toNat*n)).take n).toArray)
 |_,_=>False
def gJ (len cap:Nat) (lo hi:Option Value) (Kb:Nat→Nat→Prop):Prop:=match lo,hi with
 |none,none=>Kb 0 len
 |some (.int _ l),none=>0≤l∧l≤(len:Int)∧Kb l.toNat len
 |none,some (.int _ h)=>0≤h∧h≤(cap:Int)∧Kb 0 h.toNat
 |some (.int _ l),some (.int _ h)=>0≤h∧h≤(cap:Int)∧0≤l∧l≤h∧Kb l.toNat h.toNat
 |_,_=>False
def bd (x:Value) (lo hi:Option Value) (K:Value→Prop):Prop:=match x with
 | .string s=>gJ (im s).length (im s).length lo hi fun l h=>K (str (((im s).drop l).take (h - l)))
 |_=>False
def gp (size:Nat) (x:Value) (lo hi:Option Value) (K:Value→Prop):Prop:=match x with
 | .slice a len cap=>gJ len cap lo hi fun l h=>K (.slice (if cap=l then a else a.map (·.add (l*size))) (h - l) (cap - l))
 |_=>False
def sU (n size:Nat) (x:Value) (lo hi:Option Value) (K:Value→Prop):Prop:=match x with
 | .pointer (some a)=>gJ n n lo hi fun l h=>K (.slice (some (if n=l then a else a.add (l*size))) (h - l) (n - l))
 |_=>False
def aT (x:Value) (K:Value→Prop):Prop:=match x with
 | .string s=>K (.int .i64 ((im s).length:Int))
 |_=>False
def bK (x:Value) (K:Value→Prop):Prop:=match x with
 | .slice _ n _=>K (.int .i64 (n:Int))
 |_=>False
def IV (x:Value) (K:Value→Prop):Prop:=match x with
 | .slice _ _ c=>K (.int .i64 (c:Int))
 |_=>False
def lg (cs:List Value):Nat→List Value→List Value
 |_,[]=>cs
 |off,v::r=>lg (cs.set off v) (off+1) r
def aW:List Value→List (Nat × Nat × Value)→(Value→Prop)→Prop
 |cells,[],K=>K (.agg cells.toArray)
 |cells,(off,size,v)::r,K=>v.cells.size=size∧off+size≤cells.length∧aW (lg cells off v.cells.toList) r K
end
section
variable (H:ag)
def ao (x:Value) (K:Value→Prop):Prop:=match x with
 | .pointer (some a)=>match cellAt H a with
  |some v=>K v
  |none=>False
 |_=>False
def aF (n:Nat) (x:Value) (K:Value→Prop):Prop:=match x with
 | .pointer (some a)=>match fc H a n with
  |some l=>K (.agg l.toArray)
  |none=>False
 |_=>False
def bytesOf:List Value→Option (List UInt8)
 | []=>some []
 | .int .u8 n::r=>match bytesOf r with
  |some l=>some (UInt8.ofNat n.toNat::l)
  |none=>none
 |_::_=>none
def fR (x:Value) (K:Value→Prop):Prop:=match x with
 | .slice none _ _=>K (str [])
 | .slice (some a) n _=>match fc H a n with
  |some l=>match bytesOf l with
   |some b=>K (str b)
   |none=>False
  |none=>False
 |_=>False
def nV (x:Value):Option (List MapEntry):=match x with
 | .map none=>some []
 | .map (some r)=>match H[r]? with
  |some (.map es _)=>some es.toList
  |_=>none
 |_=>none
def lP (kind:Nat) (k:Value):List MapEntry→Nat→Option (Option (Nat × Value))
 | [],_=>some none
 |e::es,i=>match mq kind k e.key with
  |some true=>some (some (i,e.val))
  |some false=>lP kind k es (i+1)
  |none=>none
def jw (kind:Nat) (zero:Value) (ok:Bool) (m k:Value) (K:Value→Prop):Prop:=match nV H m with
 |some es=>match lP kind k es 0 with
  |some (some (_,v))=>K (bif ok then .tuple #[v,.bool true] else v)
  |some none=>K (bif ok then .tuple #[zero,.bool false] else zero)
  |none=>False
 |none=>False
def La (x:Value) (K:Value→Prop):Prop:=match x with
 | .map none=>K (.int .i64 0)
 | .map (some r)=>match H[r]? with
  |some (.map es _)=>K (.int .i64 (es.size:Int))
  |_=>False
 |_=>False
end
section
variable (H:ag)
def aI (x v:Value) (K:Value→ag→Prop):Prop:=match x with
 | .pointer (some a)=>match fQ H a 0 [v] with
  |some H' =>K undef H'
  |none=>False
 |_=>False
def aH (n:Nat) (x v:Value) (K:Value→ag→Prop):Prop:=match x with
 | .pointer (some a)=>v.cells.size=n∧match fQ H a 0 v.cells.toList with
  |some H' =>K undef H'
  |none=>False
 |_=>False
def bD (e:TypeId) (v:Value) (K:Value→ag→Prop):Prop:=K (.pointer (some ⟨H.size,0,none⟩)) (H.push (.cells v.cells e))
def qC (K:Value→ag→Prop):Prop:=K (.map (some H.size)) (H.push (.map #[] 0))
def fS (z:List Value):Nat→List Value
 |0=> []
 |n+1=>z++fS z n
def dB (e:TypeId) (bytes:Nat) (zero:List Value) (l c:Value) (K:Value→ag→Prop):Prop:=match l,c with
 | .int .i64 n,.int .i64 m=>0≤n∧n≤m∧(bytes:Int)*m≤281474976710656∧m≤9223372036854775807∧
   K (.slice (some ⟨H.size,0,none⟩) n.toNat m.toNat) (H.push (.cells (fS zero m.toNat).toArray e))
 |_,_=>False
def aU (e:TypeId) (len:Nat) (zero:List Value) (parts:List (Nat × Nat × Value)) (K:Value→ag→Prop):Prop:=
 aW zero parts (fun v=>K (.slice (some ⟨H.size,0,none⟩) len len) (H.push (.cells v.cells e)))
def IW (e:TypeId) (x:Value) (K:Value→ag→Prop):Prop:=match x with
 | .string s=> ∀cap:Nat,(im s).length≤cap→
   K (.slice (some ⟨H.size,0,none⟩) (im s).length cap)
    (H.push (.cells (((im s).map bu)++List.replicate (cap - (im s).length) (Value.int .u8 0)).toArray e (cap,cap+1)))
 |_=>False
def cellsOf (size:Nat) (x:Value):Option (List Value):=match x with
 | .slice none _ _=>some []
 | .slice (some a) n _=>fc H a (n*size)
 | .string s=>some ((im s).map bu)
 |_=>none
def jc:Value→Option Nat
 | .slice _ n _=>some n
 | .string s=>some (im s).length
 |_=>none
def FM (k:Nat):Value→Value
 | .slice a _ c=> .slice a k c
 | .string t=>str ((im t).take k)
 |v=>v
def a7 (e:TypeId) (size bytes:Nat) (zero:List Value) (s x:Value) (K:Value→ag→Prop):Prop:=match s,jc x,cellsOf H size x with
 | .slice base n cap,some m,some new=>
  (n+m≤cap→match base with
   |none=>K (.slice none (n+m) cap) H
   |some a=>match fQ H (a.add (n*size)) 0 new with
    |some H' =>K (.slice (some a) (n+m) cap) H'
    |none=>False)∧
  (cap<n+m→2* (n+m)*bytes≤281474976710656∧match cellsOf H size (.slice base n cap) with
   |some WV=> ∀c:Nat,n+m≤c→K (.slice (some ⟨H.size,0,none⟩) (n+m) c) (H.push (.cells (WV++new++fS zero (c - (n+m))).toArray e))
   |none=>False)
 |_,_,_=>False
def qD (e:TypeId) (bytes:Nat) (zero:List Value) (s x:Value) (K:Value→ag→Prop):Prop:=match s,x with
 | .slice none 0 0,.int .i64 n=> (0<n∧2*n.toNat*bytes≤281474976710656)∧∀c:Nat,n.toNat≤c→K (.slice (some ⟨H.size,0,none⟩) n.toNat c) (H.push (.cells (fS zero n.toNat++fS zero (c - n.toNat)).toArray e))
 |_,_=>False
def ON (size:Nat) (d s:Value) (K:Value→ag→Prop):Prop:=match d,jc s with
 | .slice base n _,some m=>match cellsOf H size (FM (min m n) s) with
  |some new=>match base with
   |none=>K (.int .i64 (min m n:Nat)) H
   |some a=>match fQ H a 0 new with
    |some H' =>K (.int .i64 (min m n:Nat)) H'
    |none=>False
  |none=>False
 |_,_=>False
def j0 (kind:Nat) (m k v:Value) (K:Value→ag→Prop):Prop:=match m with
 | .map (some r)=>match H[r]? with
  |some (.map es clock)=>match lP kind k es.toList 0 with
   |some (some (i,_))=>K undef (H.setIfInBounds r (.map (es.modify i fun e=> {e with key:=k,val:=v}) clock))
   |some none=>K undef (H.setIfInBounds r (.map (es.push {key:=k,val:=v,born:=clock}) (clock+1)))
   |none=>False
  |_=>False
 |_=>False
def nd (kind:Nat) (m k:Value) (K:Value→ag→Prop):Prop:=match m with
 | .map (some r)=>match H[r]? with
  |some (.map es clock)=>match lP kind k es.toList 0 with
   |some (some (i,_))=>K (.tuple #[]) (H.setIfInBounds r (.map (es.eraseIdxIfInBounds i) clock))
   |some none=>K (.tuple #[]) H
   |none=>False
  |_=>False
 |_=>False
def rH (m:Value) (K:Value→ag→Prop):Prop:=match m with
 | .map none=>K (.tuple #[]) H
 | .map (some r)=>match H[r]? with
  |some (.map _ clock)=>K (.tuple #[]) (H.setIfInBounds r (.map #[] clock))
  |_=>False
 |_=>False
def DT (z:List Value) (x:Value) (K:Value→ag→Prop):Prop:=match x with
 | .slice none _ _=>K (.tuple #[]) H
 | .slice (some a) n _=>match fQ H a 0 (fS z n) with
  |some H' =>K (.tuple #[]) H'
  |none=>False
 |_=>False
def OO (x:Value) (K:Value→ag→Prop):Prop:=match x with
 | .chan none=>K (.int .i64 0) H
 | .chan (some r)=>match H[r]? with
  |some (.chan _ buf _ _ _ false)=>K (.int .i64 (buf.size:Int)) H
  |_=>False
 |_=>False
def Ca (P:Program) (s:Sem Value) (K:Value→ag→Prop):Prop:= ∀w:World,w.heap=H→match s.run P w with
 | .ok v w' =>cq w w' ∧K v w'.heap
 | .halt _ _=>False
end
def fe (P:Program) (t:TypeId):Bool:=match P.underlying t with
 |some (.struct _) |some (.array _ _)=>true
 |_=>false
def T4 (P:Program) (t:TypeId):Nat:=match P.info? t with
 |some i=>i.size
 |none=>0
def j1 (P:Program) (t:TypeId):Option Value:=match P.info? t with
 |some i=>i.zero
 |none=>none
def zB (P:Program):List Field→Nat→Option (List Nat)
 | [],_=>some []
 |f::r,off=>bif Nat.beq f.offset off && f.name != "_" then match P.underlying f.type,P.info? f.type with
  |some d,some i=>match mr d with
   |some k=>bif Nat.ble k 2 && Nat.beq i.size 1 then match zB P r (off+1) with
    |some l=>some (k::l)
    |none=>none
    else none
   |none=>none
  |_,_=>none
  else none
def uc (P:Program):List Field→Nat→Option (List Nat)
 | [],_=>some []
 |f::r,off=>bif Nat.beq f.offset off && f.name != "_" then match P.underlying f.type,P.info? f.type with
  |some (.struct gs),some i=>bif P.stoodInHeld f.type then none else match zB P gs.toList 0 with
   |some k=>bif Nat.beq k.length i.size then match uc P r (off+i.size) with
    |some l=>some (k++l)
    |none=>none
    else none
   |none=>none
  |some d,some i=>match mr d with
   |some k=>bif Nat.ble k 2 && Nat.beq i.size 1 then match uc P r (off+1) with
    |some l=>some (k::l)
    |none=>none
    else none
   |none=>none
  |_,_=>none
  else none
def CL (P:Program) (t:TypeId):Option (List Nat):=match P.underlying t with
 |some (.struct fs)=>bif P.stoodInHeld t||P.eqGuardType P.depth t then none else uc P fs.toList 0
 |_=>none
def aah (P:Program):Builtin→List TypeId→Nat
 | .len,t::_=>match P.underlying t with
  |some (.map _ _)=>1
  |some (.chan _ _)=>2
  |_=>0
 | .cap,_| .min,_| .max,_=>0
 |_,_=>2
def cls (P:Program):Op→Nat
 | .move _| .assign _| .pick .. | .nilCheck _| .binOp .. | .unOp .. | .fieldAddr .. | .field .. | .extract .. | .indexAddr .. | .index .. | .slice .. | .makeFunc .. | .build .. =>0
 | .convert s d _=>match P.underlying s,P.underlying d with
  |some (.slice _),some .string=>1
  |some .string,some (.slice _)=>2
  |some (.slice _),some (.slice _)=>2
  |_,_=>0
 | .call c=>match c.callee with
  | .builtin b=>aah P b c.argTypes.toList
  |_=>2
 | .load .. | .lookup .. =>1
 |_=>2
section
variable (P:Program) (ρ:Env)
def nf (P:Program):List Field→List (Nat × Nat)
 | []=> []
 |f::r=> (f.offset,T4 P f.type)::nf P r
def ud (P:Program):List Field→Bool
 | []=>true
 |f::r=>match P.info? f.type with
  |some _=>ud P r
  |none=>false
def sV (pl:List (Nat × Nat)):List (Nat × Value)→Option (List (Nat × Nat × Value))
 | []=>some []
 | (i,v)::r=>match pl[i]? with
  |some (o,s)=>match sV pl r with
   |some l=>some ((o,s,v)::l)
   |none=>none
  |none=>none
def pn (size:Nat):List (Nat × Value)→List (Nat × Nat × Value)
 | []=> []
 | (i,v)::r=> (i*size,size,v)::pn size r
def bX:Value→List Value
 | .agg cs=>cs.toList
 |v=> [v]
def FN (b:Builtin) (FO:List TypeId) (args:List Operand) (K:Value→Prop):Prop:=match b,FO,args with
 | .len,[t],[x]=>match P.underlying t with
  |some .string=>aT (ev ρ x) K
  |some (.slice _)=>bK (ev ρ x) K
  |_=>False
 | .cap,[t],[x]=>match P.underlying t with
  |some (.slice _)=>IV (ev ρ x) K
  |_=>False
 | .min,_,[x,y]=>jA (ev ρ x) (ev ρ y) K
 | .max,_,[x,y]=>IU (ev ρ x) (ev ρ y) K
 | .min,_,[x,y,z]=>jA (ev ρ x) (ev ρ y) (fun v=>jA v (ev ρ z) K)
 |_,_,_=>False
def opV (o:Op) (K:Value→Prop):Prop:=match o with
 | .move x| .assign x=>K (ev ρ x)
 | .pick c a b=>OK (ev ρ c) (ev ρ a) (ev ρ b) K
 | .nilCheck x=>aG (ev ρ x) K
 | .binOp op t x y _=>match op with
  | .add=>aB (ev ρ x) (ev ρ y) K
  | .sub=>bR (ev ρ x) (ev ρ y) K
  | .mul=>kB (ev ρ x) (ev ρ y) K
  | .quo=>k_ (ev ρ x) (ev ρ y) K
  | .rem=>jU (ev ρ x) (ev ρ y) K
  | .and=>cK .and (ev ρ x) (ev ρ y) K
  | .or=>cK .or (ev ρ x) (ev ρ y) K
  | .xor=>cK .xor (ev ρ x) (ev ρ y) K
  | .andNot=>cK .andNot (ev ρ x) (ev ρ y) K
  | .shl=>kC (ev ρ x) (ev ρ y) K
  | .shr=>nU (ev ρ x) (ev ρ y) K
  | .lss=>b_ (ev ρ x) (ev ρ y) K
  | .leq=>oZ (ev ρ x) (ev ρ y) K
  | .gtr=>ef (ev ρ x) (ev ρ y) K
  | .geq=>jz (ev ρ x) (ev ρ y) K
  | .eql=>match P.underlying t with
   |some (.struct _)=>match CL P t with
    |some ks=>Sh ks (ev ρ x) (ev ρ y) K
    |none=>False
   |some d=>match mr d with
    |some k=>cd k (ev ρ x) (ev ρ y) K
    |none=>False
   |none=>False
  | .neq=>match P.underlying t with
   |some (.struct _)=>match CL P t with
    |some ks=>FL ks (ev ρ x) (ev ρ y) K
    |none=>False
   |some d=>match mr d with
    |some k=>eW k (ev ρ x) (ev ρ y) K
    |none=>False
   |none=>False
 | .unOp op _ x=>match op with
  | .not=>d_ (ev ρ x) K
  | .neg=>XG (ev ρ x) K
  | .xor=>OL (ev ρ x) K
  | .plus=>False
 | .convert s d x=>match P.underlying s,P.underlying d with
  |some (.int _),some (.int k)=>bf k (ev ρ x) K
  |some .string,some .string=>OM (ev ρ x) K
  |_,_=>False
 | .fieldAddr t x f=>match P.underlying t with
  |some (.struct fs)=>match fs.toList[f]? with
   |some fd=>match P.info? fd.type with
    |some i=>bif Nat.beq i.size 0 then False else aa fd.offset (ev ρ x) K
    |none=>False
   |none=>False
  |_=>False
 | .field t x f=>match P.underlying t with
  |some (.struct fs)=>match fs.toList[f]? with
   |some fd=>match P.underlying fd.type,P.info? fd.type with
    |some _,some i=>bif fe P fd.type then DS fd.offset i.size (ev ρ x) K else pg fd.offset (ev ρ x) K
    |_,_=>False
   |none=>False
  |_=>False
 | .extract x i=>ar i (ev ρ x) K
 | .indexAddr t x i=>match P.underlying t with
  |some (.array n e)=>match P.info? e with
   |some ti=>eJ n ti.size (ev ρ x) (ev ρ i) K
   |none=>False
  |some (.slice e)=>match P.info? e with
   |some ti=>aK ti.size (ev ρ x) (ev ρ i) K
   |none=>False
  |_=>False
 | .index t x i=>match P.underlying t with
  |some .string=>bN (ev ρ x) (ev ρ i) K
  |some (.array n e)=>match P.underlying e,P.info? e with
   |some _,some ti=>bif fe P e then lf n ti.size (ev ρ x) (ev ρ i) K else bif Nat.beq ti.size 1 then pj n (ev ρ x) (ev ρ i) K else False
   |_,_=>False
  |_=>False
 | .slice t x lo hi none=>match P.underlying t with
  |some .string=>bd (ev ρ x) (UL ρ lo) (UL ρ hi) K
  |some (.slice e)=>match P.info? e with
   |some ti=>gp ti.size (ev ρ x) (UL ρ lo) (UL ρ hi) K
   |none=>False
  |some (.array n e)=>match P.info? e with
   |some ti=>sU n ti.size (ev ρ x) (UL ρ lo) (UL ρ hi) K
   |none=>False
  |_=>False
 | .makeFunc (.func f) first cap=>K (.func (.func f) (OJ ρ first.toList).toArray (OJ ρ cap.toList).toArray)
 | .build t ps=>match j1 P t,P.underlying t with
  |some z,some (.struct fs)=>match sV (nf P fs.toList) (FK ρ ps.toList) with
   |some parts=>bif ud P fs.toList then aW (bX z) parts K else False
   |none=>False
  |some z,some (.array _ e)=>match P.info? e with
   |some ti=>aW (bX z) (pn ti.size (FK ρ ps.toList)) K
   |none=>False
  |_,_=>False
 | .call c=>match c.callee with
  | .builtin b=>FN P ρ b c.argTypes.toList c.args.toList K
  |_=>False
 |_=>False
def UO (o:Op) (H:ag) (K:Value→Prop):Prop:=match o with
 | .load t x=>match P.underlying t,P.info? t with
  |some _,some i=>bif fe P t then aF H i.size (ev ρ x) K else ao H (ev ρ x) K
  |_,_=>False
 | .convert s d x=>match P.underlying s,P.underlying d with
  |some (.slice e),some .string=>match P.underlying e with
   |some (.int .u8)=>fR H (ev ρ x) K
   |_=>False
  |_,_=>False
 | .lookup t m k ok=>match P.underlying t with
  |some (.map kt e)=>match P.underlying kt,j1 P e with
   |some (.int _),some z=>jw H 0 z ok (ev ρ m) (ev ρ k) K
   |some .string,some z=>jw H 1 z ok (ev ρ m) (ev ρ k) K
   |_,_=>False
  |_=>False
 | .call c=>match c.callee,c.argTypes.toList,c.args.toList with
  | .builtin .len,[t],[x]=>match P.underlying t with
   |some (.map _ _)=>La H (ev ρ x) K
   |_=>False
  |_,_,_=>False
 |_=>False
def ng (P:Program) (C:List Nat) (f:Value) (args:List Value) (H:ag) (K:Value→ag→Prop):Prop:=match f with
 | .func (.func g) first cap=>bif lV g C then jb P g (first.toList++args++cap.toList).toArray H K else False
 |_=>False
def FP (b:Builtin) (FO:List TypeId) (args:List Operand) (H:ag) (K:Value→ag→Prop):Prop:=match b,args,FO with
 | .append,[s,x],[t,u]=>match P.underlying t,P.underlying u with
  |some (.slice e),some (.slice _) |some (.slice e),some .string=>match P.info? e,j1 P e with
   |some i,some z=>bif Nat.ble 1 i.bytes && Nat.ble 1 (bX z).length then a7 H e i.size i.bytes (bX z) (ev ρ s) (ev ρ x) K else False
   |_,_=>False
  |some (.slice e),some (.int _)=>match P.info? e,j1 P e with
   |some i,some z=>bif Nat.ble 1 i.bytes && (Nat.ble 1 (bX z).length && Nat.ble 1 i.size) then qD H e i.bytes (bX z) (ev ρ s) (ev ρ x) K else False
   |_,_=>False
  |_,_=>False
 | .copy,[d,s],[t,_]=>match P.underlying t with
  |some (.slice e)=>match P.info? e with
   |some i=>ON H i.size (ev ρ d) (ev ρ s) K
   |none=>False
  |_=>False
 | .delete,[m,k],[t,_]=>match P.underlying t with
  |some (.map kt _)=>match P.underlying kt with
   |some (.int _)=>nd H 0 (ev ρ m) (ev ρ k) K
   |some .string=>nd H 1 (ev ρ m) (ev ρ k) K
   |_=>False
  |_=>False
 | .clear,[m],[t]=>match P.underlying t with
  |some (.map _ _)=>rH H (ev ρ m) K
  |some (.slice e)=>match j1 P e with
   |some z=>bif Nat.ble 1 (bX z).length then DT H (bX z) (ev ρ m) K else False
   |none=>False
  |_=>False
 | .len,[x],[t]=>match P.underlying t with
  |some (.chan _ _)=>OO H (ev ρ x) K
  |_=>False
 |_,_,_=>False
def OP (fr:Nat × Nat) (n:Nat):Nat × Nat:=if fr.1==fr.2 then (n,n+1) else (min fr.1 n,max fr.2 (n+1))
def OQ (H:ag) (x:Value) (K:Value→ag→Prop):Prop:=match x with
 | .slice (some a) _ _=>match H[a.block]? with
  |some (.cells cs t fr)=>K x (H.setIfInBounds a.block (.cells cs t (OP fr cs.size)))
  |_=>False
 |_=>False
def RZ (C:List Nat) (o:Op) (ty:TypeId) (H:ag) (K:Value→ag→Prop):Prop:=match o with
 | .store t x v=>match P.underlying t,P.info? t with
  |some _,some i=>bif fe P t then aH H i.size (ev ρ x) (ev ρ v) K else bif Nat.beq i.size 1 then aI H (ev ρ x) (ev ρ v) K else False
  |_,_=>False
 | .alloc e=>match j1 P e with
  |some z=>bD H e z K
  |none=>False
 | .box e v=>bD H e (ev ρ v) K
 | .makeMap _ none=>qC H K
 | .makeSlice t l c=>match P.underlying t with
  |some (.slice e)=>match P.info? e,j1 P e with
   |some i,some z=>bif Nat.beq (bX z).length i.size && Nat.ble 1 i.size then dB H e i.bytes (bX z) (ev ρ l) (ev ρ c) K else False
   |_,_=>False
  |_=>False
 | .buildSlice t len ps=>match P.underlying t with
  |some (.slice e)=>match P.info? e,j1 P e with
   |some i,some z=>bif Nat.ble (len*i.size) 16777216 && (Nat.beq (bX z).length i.size && Nat.ble 1 i.size) then aU H e len (fS (bX z) len) (pn i.size (FK ρ ps.toList)) K else False
   |_,_=>False
  |_=>False
 | .convert s d x=>match P.underlying s,P.underlying d with
  |some .string,some (.slice e)=>match P.underlying e with
   |some (.int .u8)=>IW H e (ev ρ x) K
   |_=>False
  |some (.slice e),some (.slice _)=>match P.underlying e with
   |some (.int .u8)=>bif Nat.beq s d then OQ H (ev ρ x) K else False
   |_=>False
  |_,_=>False
 | .mapUpdate t m k v=>match P.underlying t with
  |some (.map kt _)=>match P.underlying kt with
   |some (.int _)=>j0 H 0 (ev ρ m) (ev ρ k) (ev ρ v) K
   |some .string=>j0 H 1 (ev ρ m) (ev ρ k) (ev ρ v) K
   |_=>False
  |_=>False
 | .call c=>match c.callee with
  | .value f=>match f with
   | .func g=>bif lV g C then jb P g (OJ ρ c.args.toList).toArray H K else False
   |f=>ng P C (ev ρ f) (OJ ρ c.args.toList) H K
  | .builtin b=>FP P ρ b c.argTypes.toList c.args.toList H K
  |_=>False
 | .makeChan t n=>Ca H P (Instr.makeChan t (ev ρ n)) K
 | .range t x=>Ca H P (Instr.range t (ev ρ x)) K
 | .next it s=>Ca H P (Instr.next (ev ρ it) s ty) K
 | .entry it=>Ca H P (Instr.entry (ev ρ it)) K
 | .mapEntry t m k=>Ca H P (Instr.mapEntry t (ev ρ m) (ev ρ k)) K
 | .entryStore t m s v=>Ca H P (do Instr.entryStore t (ev ρ m) (ev ρ s) (ev ρ v);pure undef) (fun _=>K undef)
 |_=>False
def Si (C:List Nat) (o:Oper) (H:ag) (K:Value→ag→Prop):Prop:=match cls P o.op with
 |0=>opV P ρ o.op fun v=>K v H
 |1=>UO P ρ o.op H fun v=>K v H
 |_=>RZ P ρ C o.op o.type H K
end
inductive nG where
 |nil
 |op (i:Nat) (st:List Nat) (r:nG)
 |IX (c:Nat) (body:nG) (p:Nat) (r:nG)
 |fork (a b:nG)
def Sj:Nat→Nat→nG→nG
 |_,0,r=>r
 |i,n+1,r=> .op i [] (Sj (i+1) n r)
def rgL:Nat→Nat→List Nat→List Nat
 |_,0,r=>r
 |a,n+1,r=>a::rgL (a+1) n r
def bG (ops:List Oper):nG→List Nat
 | .nil=> []
 | .op i _ r=>match ops[i]? with
  |some o=>match o.dst with
   |some d=>d::bG ops r
   |none=>bG ops r
  |none=>bG ops r
 | .IX _ b p r=>bG ops b++ (match ops[p]? with
  |some o=>match o.dst with
   |some d=>d::bG ops r
   |none=>bG ops r
  |none=>bG ops r)
 | .fork a b=>bG ops a++bG ops b
def bE (x:Value) (body: (Value→ag→Prop)→Prop) (H:ag) (K:Value→ag→Prop):Prop:=match x with
 | .bool a=> ∃J:Value→ag→Prop,(∀v H',J v H' →K v H')∧(a=false→J (.bool false) H)∧(a=true→body J)
 |_=>False
def ej (x:Value) (body: (Value→ag→Prop)→Prop) (H:ag) (K:Value→ag→Prop):Prop:=match x with
 | .bool a=> ∃J:Value→ag→Prop,(∀v H',J v H' →K v H')∧(a=true→J (.bool true) H)∧(a=false→body J)
 |_=>False
section
variable (P:Program) (C:List Nat) (ops:List Oper)
def DU (ρ:Env) (H:ag) (j:Nat):Prop:=match ops[j]? with
 |some o=>match o.dst with
  |some d=>UO P ρ o.op H fun v=>v=ρ d
  |none=>False
 |none=>False
def Lb (ρ:Env) (H:ag) (X:Prop):List Nat→Prop
 | []=>X
 |j::r=>DU P ops ρ H j∧Lb ρ H X r
def CM:nG→Env→ag→(Env→ag→Prop)→Prop
 | .nil,ρ,H,K=>K ρ H
 | .op i st r,ρ,H,K=>match ops[i]? with
  |some o=>Si P ρ C o H fun v H' =>Lb P ops ρ H' (CM r (ρ.put o.dst v) H' K) st
  |none=>False
 | .IX _ body p r,ρ,H,K=>match ops[p]? with
  |some o=>match o.op with
   | .pick (.tmp t) (.tmp u) (.const (.bool false))=>
    bE (ρ t) (fun J=>CM body ρ H fun ρ' H' =>J (ρ' u) H') H fun v H' => ∀qB:Env,CM r ((ρ.mix qB (bG ops body)).put o.dst v) H' K
   | .pick (.tmp t) (.const (.bool true)) (.tmp u)=>
    ej (ρ t) (fun J=>CM body ρ H fun ρ' H' =>J (ρ' u) H') H fun v H' => ∀qB:Env,CM r ((ρ.mix qB (bG ops body)).put o.dst v) H' K
   |_=>False
  |none=>False
 | .fork a b,ρ,H,K=>CM a ρ H K∧CM b ρ H K
end
inductive ue where
 |leaf
 |WW (p:nG)
 |Zw (Bs:List Nat) (p:nG)
 |seq (a b:ue)
 |cut (jk wr:List Nat) (a b:ue)
 |cond (a b:ue)
 |block (a:ue)
 |loop (jk wr:List Nat) (a:ue)
 |inv (Bs:List Nat) (js:List (List Nat)) (fin:List Nat)
def aq (x:Value) (A B:Prop):Prop:=match x with
 | .bool b=> (b=true→A)∧(b=false→B)
 |_=>False
def Lc:List Nat→Type
 | []=>ag→Prop
 |_::s=>Value→Lc s
def nH: (s:List Nat)→Lc s→Env→ag→Prop
 | [],J,_,H=>J H
 |t::s,J,ρ,H=>nH s (J (ρ t)) ρ H
def IY:List Nat→Env→(Env→Prop)→Prop
 | [],ρ,K=>K ρ
 |t::s,ρ,K=> ∀v:Value,IY s (ρ.RY t v) K
def j2:List Oper→List Nat
 | []=> []
 |o::r=>match o.dst with
  |some d=>d::j2 r
  |none=>j2 r
def slotsOf (ops:List Oper):List Nat→List Nat
 | []=> []
 |j::r=>match ops[j]? with
  |some o=>match o.dst with
   |some d=>d::slotsOf ops r
   |none=>slotsOf ops r
  |none=>slotsOf ops r
def Mb (ops:List Oper) (V:Nat→Value→ag→Prop) (ρ:Env) (H:ag) (X:Prop):List Nat→Prop
 | []=>X
 |j::r=>match ops[j]? with
  |some o=>match o.dst with
   |some d=>V j (ρ d) H→Mb ops V ρ H X r
   |none=>False
  |none=>False
def Zx (P:Program) (C:List Nat) (ops:List Oper) (V:Nat→Value→ag→Prop) (ρ:Env) (H:ag) (X:Prop):Nat→List Oper→List (List Nat)→Prop
 |i,o::r,js::t=> (∀qB:Env,IY (slotsOf ops js) (ρ.mix qB (j2 ops)) fun ρ' => ∀H' :ag,Ext H H' →Mb ops V ρ' H' (Si P ρ' C o H' fun v OR =>Ext H' OR ∧V i v OR) js)∧Zx P C ops V ρ H X (i+1) r t
 |_,[],[]=>X
 |_,_,_=>False
def IZ:List Nat→Type
 | []=>ag→Nat
 |_::s=>Value→IZ s
def Ld: (s:List Nat)→IZ s→Env→ag→Nat
 | [],J,_,H=>J H
 |t::s,J,ρ,H=>Ld s (J (ρ t)) ρ H
inductive Ex where
 |normal
 |exit (id:Nat)
 |ret
def vc (P:Program) (C:List Nat):Code→ue→Env→ag→(Ex→Env→ag→Prop)→Prop
 | .skip,_,ρ,H,Q=>Q .normal ρ H
 | .ret,_,ρ,H,Q=>Q .ret ρ H
 | .exit id,_,ρ,H,Q=>Q (.exit id) ρ H
 | .label _,_,ρ,H,Q=>Q .normal ρ H
 | .scope x,a,ρ,H,Q=>vc P C x a ρ H Q
 | .region _ ops _,.WW p,ρ,H,Q=>CM P C ops.toList p ρ H (Q .normal)
 | .region _ ops _,.Zw _ p,ρ,H,Q=>CM P C ops.toList p ρ H (Q .normal)
 | .region _ ops _,.inv _ js fin,ρ,H,Q=> ∃V:Nat→Value→ag→Prop,(∀i v H1 H2,Ext H1 H2→V i v H1→V i v H2)∧
   Zx P C ops.toList V ρ H (∀qB:Env,IY (slotsOf ops.toList fin) (ρ.mix qB (j2 ops.toList)) fun ρ' => ∀H' :ag,Ext H H' →Mb ops.toList V ρ' H' (Q .normal ρ' H') fin) 0 ops.toList js
 | .seq x y,.seq a b,ρ,H,Q=>vc P C x a ρ H fun e ρ' H' =>match e with
  | .normal=>vc P C y b ρ' H' Q
  |e=>Q e ρ' H'
 | .seq x y,.cut jk wr a b,ρ,H,Q=> ∃J:Lc jk,
   (∀qB:Env,IY jk (ρ.mix qB wr) fun ρ' => ∀H' :ag,nH jk J ρ' H' →vc P C y b ρ' H' Q)∧
   vc P C x a ρ H fun e ρ' H' =>match e with
    | .normal=>nH jk J ρ' H'
    |e=>Q e ρ' H'
 | .cond c x y,.cond a b,ρ,H,Q=>aq (ev ρ c) (vc P C x a ρ H Q) (vc P C y b ρ H Q)
 | .block id x,.block a,ρ,H,Q=>vc P C x a ρ H fun e ρ' H' =>match e with
  | .exit k=>bif Nat.beq k id then Q .normal ρ' H' else Q (.exit k) ρ' H'
  |e=>Q e ρ' H'
 | .loop x,.loop jk wr a,ρ,H,Q=> ∃ (I:Lc jk) (μ:IZ jk),nH jk I ρ H∧
   ∀qB:Env,IY jk (ρ.mix qB wr) fun ρ0=> ∀H0:ag,nH jk I ρ0 H0→
    vc P C x a ρ0 H0 fun e ρ' H' =>match e with
     | .normal=>nH jk I ρ' H' ∧Ld jk μ ρ' H' <Ld jk μ ρ0 H0
     |e=>Q e ρ' H'
 |_,_,_,_,_=>False
def FQ (P:Program) (ρ:Env) (H:ag) (K:List Value→Prop):List ResultVar→Prop
 | []=>K []
 | .tmp t::r=>FQ P ρ H (fun l=>K (ρ t::l)) r
 | .cell a t::r=>match P.underlying t,P.info? t with
  |some _,some i=>bif fe P t then aF H i.size (ρ a) (fun v=>FQ P ρ H (fun l=>K (v::l)) r) else ao H (ρ a) (fun v=>FQ P ρ H (fun l=>K (v::l)) r)
  |_,_=>False
def FR:List Value→Value
 | [v]=>v
 |l=> .tuple l.toArray
def DV (args:List Value):Env:=fun t=>match args[t]? with
 |some v=>v
 |none=>undef
def OS (P:Program) (C:List Nat) (fn:Func) (a:ue) (args:List Value) (H:ag) (R:Value→ag→Prop):Prop:=match fn.body with
 |some c=>vc P C c a (DV args) H fun e ρ H' =>match e with
  | .exit _=>False
  |_=>FQ P ρ H' (fun l=>R (FR l) H') fn.results.toList
 |none=>False
end
section
section
variable {P:Program}
theorem bt {t:TypeId} {d:TypeDesc} (h:P.underlying t=some d) (w:World): (underlying t).run P w= .ok d w:=run_underlying h w
theorem mu {t:TypeId} {i:TypeInfo} (h:P.info? t=some i) (w:World): (typeInfo t).run P w= .ok i w:=by
 simp [typeInfo,h]
theorem dE {t:TypeId} {i:TypeInfo} (h:P.info? t=some i) (w:World): (Go.sizeOf t).run P w= .ok i.size w:=by
 simp [Go.sizeOf,mu h]
theorem j3 {t:TypeId} {i:TypeInfo} {z:Value} (h:P.info? t=some i) (hz:i.zero=some z) (w:World): (zeroValue t).run P w= .ok z w:=by
 simp [zeroValue,mu h,hz]
theorem rI {t:TypeId} {d:TypeDesc} (h:P.underlying t=some d) (w:World): (isAgg t).run P w= .ok (fe P t) w:=by
 simp only [isAgg,Sem.run_bind,bt h,Result.andThen_ok,fe,h]
 cases d<;>rfl
theorem gK {t:TypeId} {z:Value} (h:j1 P t=some z): ∃i,P.info? t=some i∧i.zero=some z:=by
 unfold j1 at h
 cases hi:P.info? t with
 |none=>simp [hi] at h
 |some i=>exact⟨i,rfl,by simpa [hi] using h⟩
theorem xi {op:BinOp} {t:TypeId} {x y:Operand} {a b:Value} {c:Bool} {k:Nat} (h:mq k a b=some c) (w:World): (eqGuard op t x y a b).run P w= .ok () w:=by
 unfold eqGuard
 cases a<;>cases b<;>simp [mq] at h<;>simp
theorem DW {op:BinOp} {t:TypeId} {x y:Operand} {a b:Value} (h:op≠ .eql∧op≠ .neq) (w:World): (eqGuard op t x y a b).run P w= .ok () w:=by
 unfold eqGuard
 cases op<;>simp_all
def gL (P:Program) (op:BinOp) (t:TypeId) (x y:Operand) (a b:Value) (K:Value→Prop):Prop:=
 ∃v,(∀w,(do eqGuard op t x y a b;binOp op t a b:Sem Value).run P w= .ok v w)∧K v
theorem gL.of {op:BinOp} {t:TypeId} {x y:Operand} {a b v:Value} {K:Value→Prop} (yU:op≠ .eql∧op≠ .neq) (h: ∀w,(binOp op t a b).run P w= .ok v w) (hv:K v):gL P op t x y a b K:=
 ⟨v,fun w=>by simp only [Sem.run_bind,DW yU,Result.andThen_ok,h],hv⟩
theorem I0 (a b:ByteArray): (⟨(im a++im b).toArray⟩:ByteArray)=a++b:=by
 cases a;cases b;simp [im,amj,ByteArray.data_append]
theorem fT (a:ByteArray): (im a).length=a.size:=by cases a;simp [im,ByteArray.size]
theorem I1 (s:ByteArray):s.toList=im s:=by
 have hl: ∀ (n i:Nat) (r:List UInt8),s.size - i=n→ByteArray.toList.loop s i r=r.reverse++ (im s).drop i:=by
  intro n
  induction n with
  |zero=>
   intro i r h;unfold ByteArray.toList.loop;rw [if_neg (by omega),akd (by rw [fT];omega),ajl]
  |succ n ih=>
   intro i r h;unfold ByteArray.toList.loop;rw [if_pos (by omega),ih (i+1) _ (by omega)];have hi:i< (im s).length:=by rw [fT];omega
   rw [ajJ hi,List.reverse_cons,ai0,List.singleton_append]
   congr 2
   cases s
   simp [im,ByteArray.get!] at hi ⊢
   simp [hi]
 have:=hl s.size 0 [] (by omega)
 simpa [ByteArray.toList] using this
theorem UP (a b:ByteArray): (a.toList==b.toList)=decide (im a=im b):=by
 have h: ∀s:ByteArray,s.toList=im s:=I1;rw [h,h]
 by_cases e:im a=im b<;>simp [e]
theorem Sk {a b:ByteArray}:im a=im b↔a=b:=by
 constructor
 ·intro h;cases a;cases b;simp [im] at h;simp [h]
 ·rintro rfl;rfl
theorem nI (a b:ByteArray): (a==b)=decide (im a=im b):=by
 have h: (a==b)= (a.data==b.data):=by cases a;cases b;rfl
 rw [h,ajV]
 simp [im]
variable {t:TypeId} {x y:Operand} {a b:Value} {K:Value→Prop}
theorem OT (h:aB a b K):gL P .add t x y a b K:=by
 cases a<;>cases b<;>simp only [aB] at h
 ·obtain⟨rfl,hk⟩:=h
  exact .of (by simp) (fun w=>by simp [binOp,Op.intArith]) hk
 ·obtain⟨hs,hk⟩:=h
  refine .of (by simp) (fun w=>?_) hk
  rename_i a b
  have hm:IntKind.i64.max=9223372036854775807:=by decide
  have: ¬ ((a.size+b.size:Nat):Int)>IntKind.i64.max:=by rw [hm];omega
  simp only [binOp,Op.stringOp,if_neg this,str,I0]
  rfl
theorem OU (h:bR a b K):gL P .sub t x y a b K:=by
 cases a<;>cases b<;>simp only [bR] at h
 obtain⟨rfl,hk⟩:=h;exact .of (by simp) (fun w=>by simp [binOp,Op.intArith]) hk
theorem OV (h:kB a b K):gL P .mul t x y a b K:=by
 cases a<;>cases b<;>simp only [kB] at h
 obtain⟨rfl,hk⟩:=h;exact .of (by simp) (fun w=>by simp [binOp,Op.intArith]) hk
theorem OW (h:k_ a b K):gL P .quo t x y a b K:=by
 cases a<;>cases b<;>simp only [k_] at h
 obtain⟨rfl,h0,hk⟩:=h;exact .of (by simp) (fun w=>by simp [binOp,Op.intDiv,h0]) hk
theorem OX (h:jU a b K):gL P .rem t x y a b K:=by
 cases a<;>cases b<;>simp only [jU] at h
 obtain⟨rfl,h0,hk⟩:=h;exact .of (by simp) (fun w=>by simp [binOp,Op.intDiv,h0]) hk
theorem rJ {op:BinOp} (yU:op= .and∨op= .or∨op= .xor∨op= .andNot) (h:cK op a b K):gL P op t x y a b K:=by
 cases a<;>cases b<;>simp only [cK] at h
 obtain⟨rfl,hk⟩:=h;rcases yU with rfl|rfl|rfl|rfl<;>exact .of (by simp) (fun w=>by simp [binOp,Op.intBits,bitsOf]) hk
theorem OY (h:kC a b K):gL P .shl t x y a b K:=by
 cases a<;>cases b<;>simp only [kC] at h
 obtain⟨h0,hk⟩:=h;exact .of (by simp) (fun w=>by simp only [binOp,Op.shift];rw [if_neg (by omega)];rfl) hk
theorem OZ (h:nU a b K):gL P .shr t x y a b K:=by
 cases a<;>cases b<;>simp only [nU] at h
 obtain⟨h0,hk⟩:=h;exact .of (by simp) (fun w=>by simp only [binOp,Op.shift];rw [if_neg (by omega)];rfl) hk
theorem Sm (h:b_ a b K):gL P .lss t x y a b K:=by
 cases a<;>cases b<;>simp only [b_] at h
 obtain⟨rfl,hk⟩:=h;exact .of (by simp) (fun w=>by simp [binOp,Op.intCmp]) hk
theorem Sn (h:oZ a b K):gL P .leq t x y a b K:=by
 cases a<;>cases b<;>simp only [oZ] at h
 obtain⟨rfl,hk⟩:=h;exact .of (by simp) (fun w=>by simp [binOp,Op.intCmp]) hk
theorem Sp (h:ef a b K):gL P .gtr t x y a b K:=by
 cases a<;>cases b<;>simp only [ef] at h
 obtain⟨rfl,hk⟩:=h;exact .of (by simp) (fun w=>by simp [binOp,Op.intCmp]) hk
theorem Sq (h:jz a b K):gL P .geq t x y a b K:=by
 cases a<;>cases b<;>simp only [jz] at h
 obtain⟨rfl,hk⟩:=h;exact .of (by simp) (fun w=>by simp [binOp,Op.intCmp]) hk
theorem Sr {c:Bool} (h:mq 0 a b=some c): ∃k m n,a= .int k m∧b= .int k n∧c=decide (m=n):=by
 cases a<;>simp only [mq,reduceCtorEq] at h
 cases b<;>simp only [mq,reduceCtorEq] at h
 split at h
 ·rename_i e;subst e;exact⟨_,_,_,rfl,rfl,by simpa using h.symm⟩
 ·simp at h
theorem Ss {c:Bool} (h:mq 1 a b=some c): ∃s t,a= .string s∧b= .string t∧c=decide (im s=im t):=by
 cases a<;>simp only [mq,reduceCtorEq] at h
 cases b<;>simp only [mq,reduceCtorEq] at h
 exact⟨_,_,rfl,rfl,by simpa using h.symm⟩
theorem XH {c:Bool} (h:mq 2 a b=some c): ∃s t,a= .bool s∧b= .bool t∧c=decide (s=t):=by
 cases a<;>simp only [mq,reduceCtorEq] at h
 cases b<;>simp only [mq,reduceCtorEq] at h
 exact⟨_,_,rfl,rfl,by simpa using h.symm⟩
theorem mv {d:TypeDesc} {n k:Nat} {c:Bool} (hu:P.underlying t=some d) (hd:mr d=some k) (h:mq k a b=some c) (w:World):
  (Op.equalIn (n+1) t a b).run P w= .ok c w:=by
 have hr:=bt hu
 cases d<;>simp only [mr,reduceCtorEq,ai8] at hd<;>subst hd
 case bool=>
  obtain⟨s,t,rfl,rfl,rfl⟩:=XH h
  simp [Op.equalIn,hr];cases s<;>cases t<;>rfl
 case int=>
  obtain⟨k,m,n,rfl,rfl,rfl⟩:=Sr h
  simp [Op.equalIn,hr]
  rw [ajV];simp
 case string=>
  obtain⟨s,t,rfl,rfl,rfl⟩:=Ss h
  simp [Op.equalIn,hr,nI]
 case pointer=>
  cases a<;> (try simp only [mq,reduceCtorEq] at h)
  rename_i p
  cases p<;>cases b<;> (try simp only [mq,reduceCtorEq] at h)
  ·simp [Op.equalIn,hr];simpa using h
  ·rename_i p q;cases q<;>simp [mq] at h
   subst h;simp [Op.equalIn,hr]
 case slice=>
  cases a<;> (try simp only [mq,reduceCtorEq] at h)
  rename_i p _ _
  cases p<;>cases b<;> (try simp only [mq,reduceCtorEq] at h)
  ·simp [Op.equalIn,hr];simpa using h
  ·rename_i q _ _;cases q<;>simp [mq] at h
   subst h;simp [Op.equalIn,hr]
 case map=>
  cases a<;> (try simp only [mq,reduceCtorEq] at h)
  rename_i p
  cases p<;>cases b<;> (try simp only [mq,reduceCtorEq] at h)
  ·simp [Op.equalIn,hr];simpa using h
  ·rename_i q;cases q<;>simp [mq] at h
   subst h;simp [Op.equalIn,hr]
theorem CN {d:TypeDesc} {k:Nat} {c:Bool} (hu:P.underlying t=some d) (hd:mr d=some k) (h:mq k a b=some c) (w:World):
  (binOp .eql t a b).run P w= .ok (.bool c) w∧(binOp .neq t a b).run P w= .ok (.bool !c) w:=by
 have he:=mv (n:=9999) hu hd h w
 cases d<;>simp only [mr,reduceCtorEq,ai8] at hd<;>subst hd
 case bool=>obtain⟨s,t,rfl,rfl,rfl⟩:=XH h;constructor<;>simp only [binOp,Op.equal,Op.maxDepth,Sem.run_bind,he,Result.andThen_ok]<;>rfl
 case int=>
  obtain⟨k,m,n,rfl,rfl,rfl⟩:=Sr h;have: (m==n)=decide (m=n):=by rw [ajV];simp
  constructor<;>simp [binOp,Op.intCmp,bne,this]
 case string=>
  obtain⟨s,t,rfl,rfl,rfl⟩:=Ss h
  constructor<;>simp [binOp,Op.stringOp,UP]
 case pointer=>
  cases a<;> (try simp only [mq,reduceCtorEq] at h)
  cases b<;> (try simp only [mq,reduceCtorEq] at h)
  constructor<;>simp only [binOp,Op.equal,Op.maxDepth,Sem.run_bind,he,Result.andThen_ok]<;>rfl
 case slice=>
  cases a<;> (try simp only [mq,reduceCtorEq] at h)
  cases b<;> (try simp only [mq,reduceCtorEq] at h)
  constructor<;>simp only [binOp,Op.equal,Op.maxDepth,Sem.run_bind,he,Result.andThen_ok]<;>rfl
 case map=>
  cases a<;> (try simp only [mq,reduceCtorEq] at h)
  cases b<;> (try simp only [mq,reduceCtorEq] at h)
  constructor<;>simp only [binOp,Op.equal,Op.maxDepth,Sem.run_bind,he,Result.andThen_ok]<;>rfl
theorem Su {d:TypeDesc} {k:Nat} (hu:P.underlying t=some d) (hd:mr d=some k) (h:cd k a b K):gL P .eql t x y a b K:=by
 unfold cd at h
 split at h
 ·rename_i c hc
  exact⟨_,fun w=>by simp only [Sem.run_bind,xi hc,Result.andThen_ok,(CN hu hd hc w).1],h⟩
 ·exact h.elim
theorem Sv {d:TypeDesc} {k:Nat} (hu:P.underlying t=some d) (hd:mr d=some k) (h:eW k a b K):gL P .neq t x y a b K:=by
 unfold eW at h
 split at h
 ·rename_i c hc
  exact⟨_,fun w=>by simp only [Sem.run_bind,xi hc,Result.andThen_ok,(CN hu hd hc w).2],h⟩
 ·exact h.elim
end
end
section
section
variable {P:Program} {K:Value→Prop}
theorem nW {t:TypeId} {d:TypeDesc} {cs:Array Value} {off:Nat} {v:Value} (hu:P.underlying t=some d) (ha:fe P t=false) (hv:cs[off]? =some v) (w:World):
  (part t cs off).run P w= .ok v w:=by
 simp [part,rI hu,ha,hv]
theorem vO {t:TypeId} {d:TypeDesc} {i:TypeInfo} {cs:Array Value} {off:Nat} (hu:P.underlying t=some d) (ha:fe P t=true) (hi:P.info? t=some i) (w:World):
  (part t cs off).run P w= .ok (.agg (cs.extract off (off+i.size))) w:=by
 simp [part,rI hu,ha,dE hi]
theorem xj {t:TypeId} {d:TypeDesc} {k:Nat} (hu:P.underlying t=some d) (hk:mr d=some k):fe P t=false:=by
 unfold fe;rw [hu];cases d<;>simp [mr] at hk<;>rfl
theorem DX {xs ys:Array Value} (n:Nat) (w:World): ∀ (fs:List Field) (off:Nat) (ks:List Nat) (c:Bool),zB P fs off=some ks→
  dG ks (xs.toList.drop off) (ys.toList.drop off)=some c→(Op.eqFields (n+1) xs ys fs).run P w= .ok c w:=by
 intro fs
 induction fs with
 |nil=>
  intro off ks c hf hc;simp only [zB,ai8] at hf;subst hf;generalize xs.toList.drop off=l at hc;generalize ys.toList.drop off=m at hc
  cases l<;>cases m<;>simp [dG] at hc
  subst hc;simp [Op.eqFields]
 |cons f r ih=>
  intro off ks c hf hc;simp only [zB] at hf
  cases h1: (Nat.beq f.offset off && f.name != "_") with
  |false=>simp [h1] at hf
  |true=>
   rw [h1] at hf;simp only [cond_true] at hf;simp only [aja,bne_iff_ne,ne_eq] at h1;obtain⟨h1,hn⟩:=h1;have h1:f.offset=off:=ajG h1
   cases hu:P.underlying f.type with
   |none=>simp [hu] at hf
   |some d=>
    cases hi:P.info? f.type with
    |none=>simp [hu,hi] at hf
    |some i=>
     rw [hu,hi] at hf;simp only at hf
     cases hk:mr d with
     |none=>simp [hk] at hf
     |some k=>
      rw [hk] at hf;simp only at hf
      cases hb: (Nat.ble k 2 && Nat.beq i.size 1) with
      |false=>simp [hb] at hf
      |true=>
       rw [hb] at hf;simp only [cond_true] at hf
       cases hr:zB P r (off+1) with
       |none=>simp [hr] at hf
       |some l=>
        rw [hr] at hf;simp only [ai8] at hf;subst hf
        cases hx:xs.toList.drop off with
        |nil=>simp [hx,dG] at hc
        |cons x xr=>
         cases hy:ys.toList.drop off with
         |nil=>simp [hx,hy,dG] at hc
         |cons y yr=>
          rw [hx,hy] at hc;simp only [dG] at hc
          cases he:mq k x y with
          |none=>simp [he] at hc
          |some b=>
           rw [he] at hc;simp only at hc
           cases Le:dG l xr yr with
           |none=>simp [Le] at hc
           |some c' =>
            rw [Le] at hc;simp only [ai8] at hc;subst hc;have gx:xs[off]? =some x:=by
             have:=congrArg (·[0]?) hx;simpa using this
            have gy:ys[off]? =some y:=by
             have:=congrArg (·[0]?) hy;simpa using this
            have dx:xs.toList.drop (off+1)=xr:=by rw [←ajK,hx];rfl
            have dy:ys.toList.drop (off+1)=yr:=by rw [←ajK,hy];rfl
            have DY:=ih (off+1) l c' hr (by rw [dx,dy];exact Le);have na:=xj hu hk;simp only [Op.eqFields,if_pos hn,Sem.run_bind,h1,nW hu na gx,nW hu na gy,Result.andThen_ok,mv hu hk he,Sem.run_ite,DY]
            cases b<;>simp
theorem xk: ∀ {ks l:List Nat} {xs ys:List Value} {c:Bool},dG (ks++l) xs ys=some c→∃a b,dG ks (xs.take ks.length) (ys.take ks.length)=some a∧dG l (xs.drop ks.length) (ys.drop ks.length)=some b∧c= (a && b)
 | [],l,xs,ys,c,h=> ⟨true,c,rfl,h,rfl⟩
 |k::ks,l,[],ys,c,h=>by simp [dG] at h
 |k::ks,l,_::_,[],c,h=>by simp [dG] at h
 |k::ks,l,x::xs,y::ys,c,h=>by
  simp only [ake,dG] at h
  cases he:mq k x y with
  |none=>simp [he] at h
  |some b=>
   rw [he] at h;simp only at h
   cases hr:dG (ks++l) xs ys with
   |none=>simp [hr] at h
   |some d=>
    rw [hr] at h;simp only [ai8] at h;obtain⟨a,e,h1,h2,h3⟩:=xk hr;refine⟨b && a,e,?_,h2,by rw [←h,h3,Bool.and_assoc]⟩;simp only [ai6,akj,dG,he,h1]
theorem sG {xs ys:Array Value} (n:Nat) (w:World): ∀ (fs:List Field) (off:Nat) (ks:List Nat) (c:Bool),uc P fs off=some ks→
  dG ks (xs.toList.drop off) (ys.toList.drop off)=some c→(Op.eqFields (n+2) xs ys fs).run P w= .ok c w:=by
 intro fs
 induction fs with
 |nil=>
  intro off ks c hf hc;simp only [uc,ai8] at hf;subst hf;generalize xs.toList.drop off=l at hc;generalize ys.toList.drop off=m at hc
  cases l<;>cases m<;>simp [dG] at hc
  subst hc;simp [Op.eqFields]
 |cons f r ih=>
  intro off ks c hf hc;rw [uc] at hf
  cases h1: (Nat.beq f.offset off && f.name != "_") with
  |false=>simp [h1] at hf
  |true=>
   rw [h1] at hf;simp only [cond_true] at hf;simp only [aja,bne_iff_ne,ne_eq] at h1;obtain⟨h1,hn⟩:=h1;have h1:f.offset=off:=ajG h1
   cases hu:P.underlying f.type with
   |none=>simp [hu] at hf
   |some d=>
    cases hi:P.info? f.type with
    |none=>cases d<;>simp [hu,hi] at hf
    |some i=>
     by_cases c_: ∃gs,d= .struct gs
     ·obtain⟨gs,rfl⟩:=c_
      rw [hu,hi] at hf;simp only at hf
      cases hh:P.stoodInHeld f.type with
      |true=>simp [hh] at hf
      |false=>
       rw [hh] at hf;simp only [cond_false] at hf
       cases hk:zB P gs.toList 0 with
       |none=>simp [hk] at hf
       |some k=>
        rw [hk] at hf;simp only at hf
        cases hb:Nat.beq k.length i.size with
        |false=>simp [hb] at hf
        |true=>
         rw [hb] at hf;simp only [cond_true] at hf;have qm:k.length=i.size:=ajG hb
         cases hr:uc P r (off+i.size) with
         |none=>simp [hr] at hf
         |some l=>
          rw [hr] at hf;simp only [ai8] at hf;subst hf;obtain⟨a,b,g1,g2,rfl⟩:=xk hc;rw [ajK,ajK,qm] at g2;have DY:=ih (off+i.size) l b hr g2;have na:fe P f.type=true:=by unfold fe;rw [hu]
          have hs:P.underlying f.type=some (.struct (P.fieldsOf f.type)):=by simp [Program.fieldsOf,hu]
          have Ow: (P.fieldsOf f.type).toList=gs.toList:=by simp [Program.fieldsOf,hu]
          have fH:=run_equalIn_struct (P:=P) w (n+1) f.type (xs.extract off (off+i.size)) (ys.extract off (off+i.size)) hs hh;have e0: ∀zs:Array Value,(zs.extract off (off+i.size)).toList.drop 0= (zs.toList.drop off).take k.length:=fun zs=>by
           rw [ajt,Array.toList_extract,List.extract_eq_take_drop,qm,aj7]
          rw [Ow,DX n w gs.toList 0 k a hk (by rw [e0,e0];exact g1)] at fH;simp only [Op.eqFields,if_pos hn,Sem.run_bind,h1,vO hu na hi,Result.andThen_ok,fH,Sem.run_ite,DY]
          cases a<;>simp
     ·have hf: (match mr d with
       |some k=>bif Nat.ble k 2 && Nat.beq i.size 1 then match uc P r (off+1) with
        |some l=>some (k::l)
        |none=>none
        else none
       |none=>none)=some ks:=by
       rw [hu,hi] at hf
       cases d<;>first|exact hf|exact absurd ⟨_,rfl⟩ c_
      cases hk:mr d with
      |none=>simp [hk] at hf
      |some k=>
       rw [hk] at hf;simp only at hf
       cases hb: (Nat.ble k 2 && Nat.beq i.size 1) with
       |false=>simp [hb] at hf
       |true=>
        rw [hb] at hf;simp only [cond_true] at hf
        cases hr:uc P r (off+1) with
        |none=>simp [hr] at hf
        |some l=>
         rw [hr] at hf;simp only [ai8] at hf;subst hf
         cases hx:xs.toList.drop off with
         |nil=>simp [hx,dG] at hc
         |cons x xr=>
          cases hy:ys.toList.drop off with
          |nil=>simp [hx,hy,dG] at hc
          |cons y yr=>
           rw [hx,hy] at hc;simp only [dG] at hc
           cases he:mq k x y with
           |none=>simp [he] at hc
           |some b=>
            rw [he] at hc;simp only at hc
            cases Le:dG l xr yr with
            |none=>simp [Le] at hc
            |some c' =>
             rw [Le] at hc;simp only [ai8] at hc;subst hc;have gx:xs[off]? =some x:=by
              have:=congrArg (·[0]?) hx;simpa using this
             have gy:ys[off]? =some y:=by
              have:=congrArg (·[0]?) hy;simpa using this
             have dx:xs.toList.drop (off+1)=xr:=by rw [←ajK,hx];rfl
             have dy:ys.toList.drop (off+1)=yr:=by rw [←ajK,hy];rfl
             have DY:=ih (off+1) l c' hr (by rw [dx,dy];exact Le);have na:=xj hu hk;simp only [Op.eqFields,if_pos hn,Sem.run_bind,h1,nW hu na gx,nW hu na gy,Result.andThen_ok,mv hu hk he,Sem.run_ite,DY]
             cases b<;>simp
theorem O0 {t:TypeId} {x y:Operand} {a b:Value} {ks:List Nat} (hf:CL P t=some ks) (h:Sh ks a b K):gL P .eql t x y a b K:=by
 cases a<;>simp only [Sh] at h
 cases b<;>simp only [Sh] at h
 rename_i xs ys
 unfold CL at hf
 cases hu:P.underlying t with
 |none=>simp [hu] at hf
 |some d=>
  rw [hu] at hf
  cases d<;>simp only [reduceCtorEq] at hf
  rename_i fs
  cases hb: (P.stoodInHeld t||P.eqGuardType P.depth t) with
  |true=>simp [hb] at hf
  |false=>
   rw [hb] at hf;simp only [cond_false] at hf;simp only [aks] at hb
   cases hc:dG ks xs.toList ys.toList with
   |none=>simp [hc] at h
   |some c=>
    rw [hc] at h;refine⟨_,fun w=>?_,h⟩;have hs:P.underlying t=some (.struct (P.fieldsOf t)):=by simp [Program.fieldsOf,hu]
    have Ow: (P.fieldsOf t).toList=fs.toList:=by simp [Program.fieldsOf,hu]
    have:=run_equalIn_struct (P:=P) w 9999 t xs ys hs hb.1;rw [Ow,sG 9997 w fs.toList 0 ks c hf (by simpa using hc)] at this;simp only [Sem.run_bind,run_eqGuard_agg w .eql t x y xs ys hb.2,Result.andThen_ok,run_eql_struct,this]
theorem O1 {t:TypeId} {x y:Operand} {a b:Value} {ks:List Nat} (hf:CL P t=some ks) (h:FL ks a b K):gL P .neq t x y a b K:=by
 cases a<;>simp only [FL] at h
 cases b<;>simp only [FL] at h
 rename_i xs ys
 unfold CL at hf
 cases hu:P.underlying t with
 |none=>simp [hu] at hf
 |some d=>
  rw [hu] at hf
  cases d<;>simp only [reduceCtorEq] at hf
  rename_i fs
  cases hb: (P.stoodInHeld t||P.eqGuardType P.depth t) with
  |true=>simp [hb] at hf
  |false=>
   rw [hb] at hf;simp only [cond_false] at hf;simp only [aks] at hb
   cases hc:dG ks xs.toList ys.toList with
   |none=>simp [hc] at h
   |some c=>
    rw [hc] at h;refine⟨_,fun w=>?_,h⟩;have hs:P.underlying t=some (.struct (P.fieldsOf t)):=by simp [Program.fieldsOf,hu]
    have Ow: (P.fieldsOf t).toList=fs.toList:=by simp [Program.fieldsOf,hu]
    have:=run_equalIn_struct (P:=P) w 9999 t xs ys hs hb.1;rw [Ow,sG 9997 w fs.toList 0 ks c hf (by simpa using hc)] at this;simp only [Sem.run_bind,run_eqGuard_agg w .neq t x y xs ys hb.2,Result.andThen_ok,run_neq_struct,this]
def lW (P:Program) (s:Sem Value) (K:Value→Prop):Prop:= ∃v,(∀w,s.run P w= .ok v w)∧K v
theorem zC {t:TypeId} {fs:Array Field} {f:Nat} {fd:Field} {i:TypeInfo} {x:Value} (hu:P.underlying t=some (.struct fs)) (hf:fs.toList[f]? =some fd)
  (hi:P.info? fd.type=some i) (h0:Nat.beq i.size 0=false) (h:aa fd.offset x K):lW P (Instr.fieldAt t x f) K:=by
 cases x<;>simp only [aa] at h
 rename_i a
 cases a<;>simp only [aa] at h
 refine⟨_,fun w=>?_,h⟩;have WX :fs[f]? =some fd:=by simpa using hf
 have cQ:i.size≠0:=by intro e;rw [e] at h0;exact absurd h0 (by decide)
 simp [Instr.fieldAt,bt hu,WX,Instr.sureAddr,fieldPlace,dE hi,cQ]
theorem FT {t:TypeId} {fs:Array Field} {f:Nat} {fd:Field} {d:TypeDesc} {x:Value} (hu:P.underlying t=some (.struct fs)) (hf:fs.toList[f]? =some fd)
  (hd:P.underlying fd.type=some d) (h0:fe P fd.type=false) (h:pg fd.offset x K):lW P (Instr.field t x f) K:=by
 cases x<;>simp only [pg] at h
 split at h
 ·rename_i cs v hv
  refine⟨v,fun w=>?_,h⟩;have WX :fs[f]? =some fd:=by simpa using hf
  simp [Instr.field,bt hu,WX,asAgg,nW hd h0 (v:=v) (by simpa using hv)]
 ·exact h.elim
theorem FU {t:TypeId} {fs:Array Field} {f:Nat} {fd:Field} {d:TypeDesc} {i:TypeInfo} {x:Value} (hu:P.underlying t=some (.struct fs)) (hf:fs.toList[f]? =some fd)
  (hd:P.underlying fd.type=some d) (hi:P.info? fd.type=some i) (h0:fe P fd.type=true) (h:DS fd.offset i.size x K):lW P (Instr.field t x f) K:=by
 cases x<;>simp only [DS] at h
 rename_i cs
 refine⟨_,fun w=>?_,h⟩;have WX :fs[f]? =some fd:=by simpa using hf
 simp only [Instr.field,Sem.run_bind,bt hu,Result.andThen_ok,WX,asAgg,Sem.run_pure,vO hd h0 hi]
 congr 2
 apply akM
 simp [amk,akN]
theorem DZ {x:Value} {i:Nat} (h:ar i x K):lW P (Instr.extract x i) K:=by
 cases x<;>simp only [ar] at h
 rename_i vs
 cases hv:vs.toList[i]? with
 |none=>simp [hv] at h
 |some v=>
  rw [hv] at h;refine⟨v,fun w=>?_,h⟩;have:vs[i]? =some v:=by simpa using hv
  simp [Instr.extract,this]
theorem FV {t e:TypeId} {n:Nat} {ti:TypeInfo} {x i:Value} (hu:P.underlying t=some (.array n e)) (hi:P.info? e=some ti) (h:eJ n ti.size x i K):lW P (Instr.indexAt t x i) K:=by
 cases x<;> (try simp only [eJ] at h)
 rename_i a
 cases a<;> (try simp only [eJ] at h)
 cases i<;>simp only [eJ] at h
 obtain⟨h0,h1,hk⟩:=h;exact⟨_,fun w=>by simp [Instr.indexAt,asIntOf,bt hu,Instr.sureAddr,h0,h1,dE hi],hk⟩
theorem I2 {t e:TypeId} {ti:TypeInfo} {x i:Value} (hu:P.underlying t=some (.slice e)) (hi:P.info? e=some ti) (h:aK ti.size x i K):lW P (Instr.indexAt t x i) K:=by
 cases x<;> (try simp only [aK] at h)
 rename_i a _ _
 cases a<;> (try simp only [aK] at h)
 cases i<;>simp only [aK] at h
 obtain⟨h0,h1,hk⟩:=h;exact⟨_,fun w=>by simp [Instr.indexAt,asIntOf,bt hu,h0,h1,dE hi],hk⟩
theorem FW {t:TypeId} {x i:Value} (hu:P.underlying t=some .string) (h:bN x i K):lW P (Instr.index t x i) K:=by
 cases x<;>simp only [bN] at h
 cases i<;>simp only [bN] at h
 obtain⟨h0,h1,hk⟩:=h
 rename_i s k j
 refine⟨_,fun w=>?_,hk⟩;have hl:j.toNat<s.size:=by rw [fT] at h1;omega
 have hg:s[j.toNat]? =some ((im s).getD j.toNat 0):=by
  rw [ai3]
  cases s with|mk d=>
  have B5 :j.toNat<d.size:=hl
  simp [im,getElem?_def,B5]
  exact⟨hl,rfl⟩
 simp [Instr.index,asIntOf,bt hu,h0,hg]
theorem FX {t e:TypeId} {n:Nat} {d:TypeDesc} {ti:TypeInfo} {x i:Value} (hu:P.underlying t=some (.array n e)) (hd:P.underlying e=some d) (hi:P.info? e=some ti) (h0:fe P e=false) (h1:Nat.beq ti.size 1=true)
  (h:pj n x i K):lW P (Instr.index t x i) K:=by
 cases x<;>simp only [pj] at h
 cases i<;>simp only [pj] at h
 obtain⟨g0,g1,hk⟩:=h
 rename_i cs _ j
 cases hv:cs.toList[j.toNat]? with
 |none=>simp [hv] at hk
 |some v=>
  rw [hv] at hk;refine⟨v,fun w=>?_,hk⟩;have hs:ti.size=1:=ajG h1
  simp [Instr.index,asIntOf,bt hu,g0,g1,dE hi,hs,nW hd h0 (v:=v) (cs:=cs) (off:=j.toNat) (by simpa using hv)]
theorem D0 {t e:TypeId} {n:Nat} {d:TypeDesc} {ti:TypeInfo} {x i:Value} (hu:P.underlying t=some (.array n e)) (hd:P.underlying e=some d) (hi:P.info? e=some ti) (h0:fe P e=true)
  (h:lf n ti.size x i K):lW P (Instr.index t x i) K:=by
 cases x<;>simp only [lf] at h
 cases i<;>simp only [lf] at h
 obtain⟨g0,g1,hk⟩:=h
 rename_i cs _ j
 refine⟨_,fun w=>?_,hk⟩;simp only [Instr.index,asIntOf,Sem.run_bind,Sem.run_pure,bt hu,Result.andThen_ok,dE hi];rw [if_pos ⟨g0,g1⟩,Sem.run_bind,dE hi,Result.andThen_ok,vO hd h0 hi]
 congr 2
 apply akM
 simp [amk,akN]
theorem sW {isSlice:Bool} {len cap:Nat} {lo hi:Option Value} {Kb:Nat→Nat→Prop} (h:gJ len cap lo hi Kb): ∃l g,(∀w,(Instr.sliceBounds isSlice len cap lo hi none).run P w= .ok (l,g,cap) w)∧Kb l g:=by
 cases lo with
 |none=>
  cases hi with
  |none=>exact⟨0,len,fun w=>by simp [Instr.sliceBounds],h⟩
  |some b=>
   cases b<;>simp only [gJ] at h
   obtain⟨h0,h1,hk⟩:=h;exact⟨_,_,fun w=>by simp [Instr.sliceBounds,Instr.sliceBound,asIntOf,h0,h1],hk⟩
 |some a=>
  cases a<;>cases hi with
  |none=>
   simp only [gJ] at h<;>
   (obtain⟨h0,h1,hk⟩:=h
    exact⟨_,_,fun w=>by simp [Instr.sliceBounds,Instr.sliceBound,asIntOf,h0,h1],hk⟩)
  |some b=>
   cases b<;>simp only [gJ] at h<;>
   (obtain⟨h0,h1,h2,h3,hk⟩:=h
    refine⟨_,_,fun w=>?_,hk⟩
    simp [Instr.sliceBounds,Instr.sliceBound,asIntOf,h0,h1]
    omega)
theorem I3 {t:TypeId} {x:Value} {lo hi:Option Value} (hu:P.underlying t=some .string) (h:bd x lo hi K):lW P (Instr.sliceAt t x lo hi none) K:=by
 cases x<;>simp only [bd] at h
 rename_i s
 obtain⟨l,g,hr,hk⟩:=sW (P:=P) (isSlice:=false) h;refine⟨_,fun w=>?_,hk⟩;rw [fT] at hr;have hs:s.extract l g= ⟨(((im s).drop l).take (g - l)).toArray⟩:=by
  cases s with|mk d=>
  simp [im,amj,aml]
  apply akM
  simp [amk]
 simp only [Instr.sliceAt,Instr.slice,Sem.run_bind,bt hu,Result.andThen_ok,hr,hs]
 simp [hr,hs]
theorem Mc {t e:TypeId} {ti:TypeInfo} {x:Value} {lo hi:Option Value} (hu:P.underlying t=some (.slice e)) (Cb :P.info? e=some ti) (h:gp ti.size x lo hi K):lW P (Instr.sliceAt t x lo hi none) K:=by
 cases x<;>simp only [gp] at h
 obtain⟨l,g,hr,hk⟩:=sW (P:=P) (isSlice:=true) h;refine⟨_,fun w=>?_,hk⟩;simp only [Instr.sliceAt,Instr.slice,Sem.run_bind,bt hu,Result.andThen_ok,hr,dE Cb,Sem.run_pure]
theorem I4 {t e:TypeId} {n:Nat} {ti:TypeInfo} {x:Value} {lo hi:Option Value} (hu:P.underlying t=some (.array n e)) (Cb :P.info? e=some ti) (h:sU n ti.size x lo hi K):lW P (Instr.sliceAt t x lo hi none) K:=by
 cases x<;>simp only [sU] at h
 rename_i a
 cases a<;>simp only [sU] at h
 obtain⟨l,g,hr,hk⟩:=sW (P:=P) (isSlice:=false) h;refine⟨_,fun w=>?_,hk⟩;simp only [Instr.sliceAt,Sem.run_bind,bt hu,Result.andThen_ok,hr,dE Cb,Sem.run_pure,Instr.sureAddr]
theorem Md (v:List Value): ∀ (cs:Array Value) (off k:Nat),(v.zipIdx k).foldl (fun cs (x:Value × Nat)=>cs.setIfInBounds (off+x.2) x.1) cs= (lg cs.toList (off+k) v).toArray:=by
 induction v with
 |nil=>intro cs off k;simp [lg]
 |cons x r ih=>
  intro cs off k;simp only [List.zipIdx_cons,ak1,lg];rw [ih]
  congr 1
  rw [Array.toList_setIfInBounds,akO]
theorem qE {places:Nat→Option (Nat × Nat)}: ∀ (ps:List (Nat × Nat × Value)) (parts:List (Nat × Value)) (cells:List Value),
  (∀k:Nat,(parts[k]?).map (fun p=> (places p.1,p.2))= (ps[k]?).map fun q=> (some (q.1,q.2.1),q.2.2))→
  aW cells ps K→∃cs,Instr.fill places cells.toArray parts=some cs∧K (.agg cs):=by
 intro ps
 induction ps with
 |nil=>
  intro parts cells hp h
  cases parts with
  |nil=>exact⟨_,rfl,h⟩
  |cons p r=>have:=hp 0;simp at this
 |cons q ps ih=>
  intro parts cells hp h
  cases parts with
  |nil=>have:=hp 0;simp at this
  |cons p r=>
   obtain⟨i,v⟩:=p;obtain⟨off,size,u⟩:=q;have h0:=hp 0;simp only [ajn,ak2,ai8,aj8] at h0;obtain⟨h0,rfl⟩:=h0;simp only [aW] at h;obtain⟨h1,h2,h3⟩:=h;obtain⟨cs,hc,hk⟩:=ih r _ (fun k=>by have:=hp (k+1);simpa using this) h3;refine⟨cs,?_,hk⟩;simp only [Instr.fill,h0];rw [if_neg (by simp [h1];omega)];rw [←hc]
   congr 1
   have:=Md v.cells.toList cells.toArray off 0;simp only [ajq] at this;rw [←this,←Array.toList_zipIdx,Array.foldl_toList]
theorem j4 (z:Value): (bX z).toArray=z.cells:=by cases z<;>simp [bX,Value.cells]
theorem FY {fs:List Field} (h: ∀f∈fs,∃i,P.info? f.type=some i) (w:World):
  (fs.mapM fun f=> (do pure (f.offset,←Go.sizeOf f.type):Sem (Nat × Nat))).run P w= .ok (nf P fs) w:=by
 induction fs with
 |nil=>simp [nf]
 |cons f r ih=>
  obtain⟨i,hi⟩:=h f (by simp);simp only [al0,Sem.run_bind,dE hi,Result.andThen_ok,Sem.run_pure,ih (fun g hg=>h g (by simp [hg])),nf,T4,hi]
theorem I5 {pl:List (Nat × Nat)}: ∀ (vs:List (Nat × Value)) (ps:List (Nat × Nat × Value)),sV pl vs=some ps→
  ∀k:Nat,(vs[k]?).map (fun p=> ((fun j=>pl[j]?) p.1,p.2))= (ps[k]?).map fun q=> (some (q.1,q.2.1),q.2.2):=by
 intro vs
 induction vs with
 |nil=>intro ps h k;simp only [sV,ai8] at h;subst h;simp
 |cons p r ih=>
  intro ps h k;obtain⟨i,v⟩:=p;simp only [sV] at h
  cases hp:pl[i]? with
  |none=>simp [hp] at h
  |some q=>
   obtain⟨o,s⟩:=q;rw [hp] at h;simp only at h
   cases hr:sV pl r with
   |none=>simp [hr] at h
   |some l=>
    rw [hr] at h;simp only [ai8] at h;subst h
    cases k with
    |zero=>simp [hp]
    |succ k=>have:=ih l hr k;simpa using this
theorem zD {size:Nat}: ∀ (vs:List (Nat × Value)) (k:Nat),(vs[k]?).map (fun p=> ((fun i=>some (i*size,size)) p.1,p.2))= ((pn size vs)[k]?).map fun q=> (some (q.1,q.2.1),q.2.2):=by
 intro vs
 induction vs with
 |nil=>intro k;simp [pn]
 |cons p r ih=>
  intro k;obtain⟨i,v⟩:=p
  cases k with
  |zero=>simp [pn]
  |succ k=>have:=ih k;simpa [pn] using this
theorem uf: ∀ {fs:List Field},ud P fs=true→∀f∈fs,∃i,P.info? f.type=some i
 | [],_,f,hf=>by simp at hf
 |g::r,h,f,hf=>by
  simp only [ud] at h
  cases hi:P.info? g.type with
  |none=>simp [hi] at h
  |some i=>
   rw [hi] at h;rcases ajd.1 hf with rfl|hf
   ·exact⟨i,hi⟩
   ·exact uf h f hf
theorem FZ {t:TypeId} {z:Value} {fs:Array Field} {vs:List (Nat × Value)} {ps:List (Nat × Nat × Value)} (hz:j1 P t=some z) (hu:P.underlying t=some (.struct fs))
  (hi: ∀f∈fs.toList,∃i,P.info? f.type=some i) (hp:sV (nf P fs.toList) vs=some ps) (h:aW (bX z) ps K):lW P (Instr.build t vs.toArray) K:=by
 obtain⟨cs,hc,hk⟩:=qE (places:=fun j=> (nf P fs.toList)[j]?) ps vs (bX z) (I5 vs ps hp) h;refine⟨_,fun w=>?_,hk⟩;obtain⟨i,Cb,vN⟩:=gK hz;have hm: (fs.mapM fun f=> (do pure (f.offset,←Go.sizeOf f.type):Sem (Nat × Nat))).run P w= .ok (nf P fs.toList).toArray w:=by
  rw [amM];simp only [Sem.run_map,FY hi,Result.andThen_ok]
 simp only [Instr.build,Sem.run_bind,j3 Cb vN,Result.andThen_ok,bt hu,hm,Sem.run_pure];rw [←j4]
 simp [hc]
theorem F0 {t e:TypeId} {n:Nat} {z:Value} {ti:TypeInfo} {vs:List (Nat × Value)} (hz:j1 P t=some z) (hu:P.underlying t=some (.array n e))
  (hi:P.info? e=some ti) (h:aW (bX z) (pn ti.size vs) K):lW P (Instr.build t vs.toArray) K:=by
 obtain⟨cs,hc,hk⟩:=qE (places:=fun i=>some (i*ti.size,ti.size)) _ vs (bX z) (zD vs) h;refine⟨_,fun w=>?_,hk⟩;obtain⟨i,Cb,vN⟩:=gK hz;simp only [Instr.build,Sem.run_bind,j3 Cb vN,Result.andThen_ok,bt hu,dE hi,Sem.run_pure];rw [←j4]
 simp [hc]
theorem D3 (ρ:Env): ∀ps:List (Nat × Operand),FK ρ ps=ps.map fun (i,x)=> (i,ev ρ x)
 | []=>rfl
 | (i,x)::r=>by simp [FK,D3 ρ r]
theorem I6 (ρ:Env): ∀xs:List Operand,OJ ρ xs=xs.map (ev ρ)
 | []=>rfl
 |x::r=>by simp [OJ,I6 ρ r]
theorem I7 (ρ:Env): ∀x:Option Operand,UL ρ x=x.map (ev ρ)
 |none=>rfl
 |some _=>rfl
theorem lW.exec {o:Oper} {ρ:Operand→Value} {s:Sem Value} (he:execOp ρ o= (do pure (.value (←s)))) (h:lW P s K): ∃v,(∀w,(execOp ρ o).run P w= .ok (.value v) w)∧K v:=by
 obtain⟨v,hr,hk⟩:=h;exact⟨v,fun w=>by rw [he];simp [hr],hk⟩
theorem Me {c a b:Value} (h:OK c a b K):lW P (do pure (if←asBool c then a else b)) K:=by
 cases c<;>simp only [OK] at h
 rename_i t
 cases t<;>exact⟨_,fun w=>by simp [asBool],h⟩
theorem vP {dst:Option Tmp} {op:Op} {ty:TypeId} {pos:String} {af:Array Edge} {g:Option (Nat × Bool)} {ρ:Env} (h:opV P ρ op K):
  ∃v,(∀w,(execOp (ev ρ) ⟨dst,op,ty,pos,af,g⟩).run P w= .ok (.value v) w)∧K v:=by
 cases op<;>simp only [opV] at h
 case move x=>exact⟨_,fun w=>rfl,h⟩
 case assign x=>exact⟨_,fun w=>rfl,h⟩
 case pick c a b=>exact(Me h).exec (by simp [execOp])
 case nilCheck x=>
  simp only [aG] at h
  split at h
  ·rename_i a hx
   exact⟨_,fun w=>by simp only [execOp,hx];rfl,h⟩
  ·rename_i f a b hx
   exact⟨_,fun w=>by simp only [execOp,hx];rfl,h⟩
  ·exact h.elim
 case binOp op t x y yt=>
  have key: ∀ {op:BinOp},gL P op t x y (ev ρ x) (ev ρ y) K→∃v,(∀w,(execOp (ev ρ) ⟨dst,.binOp op t x y yt,ty,pos,af,g⟩).run P w= .ok (.value v) w)∧K v:=
   fun h=>lW.exec (s:=do eqGuard _ t x y (ev ρ x) (ev ρ y);binOp _ t (ev ρ x) (ev ρ y)) rfl h
  cases op<;>simp only at h
  case add=>exact key (OT h)
  case sub=>exact key (OU h)
  case mul=>exact key (OV h)
  case quo=>exact key (OW h)
  case rem=>exact key (OX h)
  case and=>exact key (rJ (by simp) h)
  case or=>exact key (rJ (by simp) h)
  case xor=>exact key (rJ (by simp) h)
  case andNot=>exact key (rJ (by simp) h)
  case shl=>exact key (OY h)
  case shr=>exact key (OZ h)
  case lss=>exact key (Sm h)
  case leq=>exact key (Sn h)
  case gtr=>exact key (Sp h)
  case geq=>exact key (Sq h)
  case eql=>
   split at h
   ·split at h
    ·rename_i ks II;exact key (O0 II h)
    ·exact h.elim
   ·rename_i d _ hd
    split at h
    ·rename_i k hk;exact key (Su hd hk h)
    ·exact h.elim
   ·exact h.elim
  case neq=>
   split at h
   ·split at h
    ·rename_i ks II;exact key (O1 II h)
    ·exact h.elim
   ·rename_i d _ hd
    split at h
    ·rename_i k hk;exact key (Sv hd hk h)
    ·exact h.elim
   ·exact h.elim
 case unOp op t x=>
  cases op<;>simp only at h
  case not=>
   generalize hx:ev ρ x=vx at h
   cases vx<;>simp only [d_] at h
   exact⟨_,fun w=>by simp [execOp,hx,Op.unary],h⟩
  case neg=>
   generalize hx:ev ρ x=vx at h
   cases vx<;>simp only [XG] at h
   exact⟨_,fun w=>by simp only [execOp,hx,Op.unary,Op.intArith];rfl,h⟩
  case xor=>
   generalize hx:ev ρ x=vx at h
   cases vx<;>simp only [OL] at h
   exact⟨_,fun w=>by simp only [execOp,hx,Op.unary,Op.intBits,bitsOf];rfl,h⟩
 case convert s d x=>
  generalize hx:ev ρ x=vx at h
  split at h
  ·rename_i k hd hk
   cases vx<;>simp only [bf] at h
   exact⟨_,fun w=>by simp [execOp,hx,convert,bt hd,bt hk,Conv.intToInt],h⟩
  ·rename_i hd hk
   cases vx<;>simp only [OM] at h
   exact⟨_,fun w=>by simp [execOp,hx,convert,bt hd,bt hk],h⟩
  ·exact h.elim
 case fieldAddr t x f=>
  split at h
  ·rename_i fs hu
   split at h
   ·rename_i fd hf
    split at h
    ·rename_i i hi
     cases hb:Nat.beq i.size 0 with
     |true=>rw [hb] at h;exact h.elim
     |false=>rw [hb] at h;exact(zC hu hf hi hb h).exec rfl
    ·exact h.elim
   ·exact h.elim
  ·exact h.elim
 case field t x f=>
  split at h
  ·rename_i fs hu
   split at h
   ·rename_i fd hf
    split at h
    ·rename_i d i hd hi
     cases hb:fe P fd.type with
     |true=>rw [hb] at h;exact(FU hu hf hd hi hb h).exec rfl
     |false=>rw [hb] at h;exact(FT hu hf hd hb h).exec rfl
    ·exact h.elim
   ·exact h.elim
  ·exact h.elim
 case extract x i=>exact(DZ h).exec rfl
 case indexAddr t x i=>
  split at h
  ·rename_i n e hu
   split at h
   ·rename_i ti hi;exact(FV hu hi h).exec rfl
   ·exact h.elim
  ·rename_i e hu
   split at h
   ·rename_i ti hi;exact(I2 hu hi h).exec rfl
   ·exact h.elim
  ·exact h.elim
 case index t x i=>
  split at h
  ·rename_i hu;exact(FW hu h).exec rfl
  ·rename_i n e hu
   split at h
   ·rename_i d ti hd hi
    cases hb:fe P e with
    |true=>rw [hb] at h;exact(D0 hu hd hi hb h).exec rfl
    |false=>
     rw [hb] at h
     cases h1:Nat.beq ti.size 1 with
     |false=>rw [h1] at h;exact h.elim
     |true=>rw [h1] at h;exact(FX hu hd hi hb h1 h).exec rfl
   ·exact h.elim
  ·exact h.elim
 case slice t x lo hi mx=>
  cases mx with
  |some m=>exact h.elim
  |none=>
   simp only at h
   split at h
   ·rename_i hu;exact(I3 hu h).exec (by simp [execOp,I7])
   ·rename_i e hu
    split at h
    ·rename_i ti XI;exact(Mc hu XI h).exec (by simp [execOp,I7])
    ·exact h.elim
   ·rename_i n e hu
    split at h
    ·rename_i ti XI;exact(I4 hu XI h).exec (by simp [execOp,I7])
    ·exact h.elim
   ·exact h.elim
 case makeFunc fn first cap=>
  cases fn<;>first| (refine⟨_,fun w=>?_,h⟩) |exact h.elim
  have e: ∀a:Array Operand,(OJ ρ a.toList).toArray=a.map (ev ρ):=fun a=>by rw [I6];cases a;simp
  rw [e,e];rfl
 case build t ps=>
  have e:execOp (ev ρ) ⟨dst,.build t ps,ty,pos,af,g⟩= (do pure (.value (←Instr.build t (FK ρ ps.toList).toArray))):=by
   rw [D3,show ∀f:Nat × Operand→Nat × Value,(ps.toList.map f).toArray=ps.map f from fun f=>by cases ps;simp];rfl
  split at h
  ·rename_i z fs hz hu
   split at h
   ·rename_i parts hp
    cases hb:ud P fs.toList with
    |false=>rw [hb] at h;exact h.elim
    |true=>rw [hb] at h;exact(FZ hz hu (uf hb) hp h).exec e
   ·exact h.elim
  ·rename_i z n e' hz hu
   split at h
   ·rename_i ti XI;exact(F0 hz hu XI h).exec e
   ·exact h.elim
  ·exact h.elim
 case call c=>
  obtain⟨callee,args,FO⟩:=c
  cases callee<;>first|exact h.elim|skip
  rename_i b
  simp only at h;have ex: ∀ (l:List Operand) (s:Sem Value),args.toList=l→builtin b FO ty (args.map fun| .const _=>true|_=>false) (l.map (ev ρ)).toArray= (do pure (.value (←s)))→
    execOp (ev ρ) ⟨dst,.call ⟨.builtin b,args,FO⟩,ty,pos,af,g⟩= (do pure (.value (←s))):=by
   intro l s h1 h2;rw [←h2];subst h1;simp only [execOp,resolve,List.map_toArray,invoke,pure_bind,Array.toArray_toList];simp only [←Array.toList_map,Array.toArray_toList]
   rfl
  have UQ: ∀l,FO.toList=l→FO=l.toArray:=fun l e=>by subst e;simp
  unfold FN at h
  split at h
  ·rename_i t x hb ha
   have vQ :=UQ _ hb;subst vQ
   split at h
   ·rename_i hu
    generalize hx:ev ρ x=vx at h
    cases vx<;>simp only [aT] at h
    exact lW.exec (ex _ (Builtin.len_ #[t] ty #[ev ρ x]) ha (by simp [builtin])) ⟨_,fun w=>by simp [Builtin.len_,bt hu,hx,goInt,fT],h⟩
   ·rename_i e hu
    generalize hx:ev ρ x=vx at h
    cases vx<;>simp only [bK] at h
    exact lW.exec (ex _ (Builtin.len_ #[t] ty #[ev ρ x]) ha (by simp [builtin])) ⟨_,fun w=>by simp [Builtin.len_,bt hu,hx,goInt],h⟩
   ·exact h.elim
  ·rename_i t x hb ha
   have vQ :=UQ _ hb;subst vQ
   split at h
   ·rename_i e hu
    generalize hx:ev ρ x=vx at h
    cases vx<;>simp only [IV] at h
    exact lW.exec (ex _ (Builtin.cap_ #[t] ty #[ev ρ x]) ha (by simp [builtin])) ⟨_,fun w=>by simp [Builtin.cap_,bt hu,hx,goInt],h⟩
   ·exact h.elim
  ·rename_i x y ha
   generalize hx:ev ρ x=vx at h;generalize hy:ev ρ y=vy at h
   cases vx<;>simp only [jA] at h
   cases vy<;>simp only [jA] at h
   obtain⟨rfl,h⟩:=h;refine lW.exec (ex _ (Builtin.min_ FO ty #[ev ρ x,ev ρ y]) ha (by simp [builtin])) ⟨_,fun w=>?_,h⟩
   simp [Builtin.min_,Builtin.min2,hx,hy]
   omega
  ·rename_i x y ha
   generalize hx:ev ρ x=vx at h;generalize hy:ev ρ y=vy at h
   cases vx<;>simp only [IU] at h
   cases vy<;>simp only [IU] at h
   obtain⟨rfl,h⟩:=h;refine lW.exec (ex _ (Builtin.max_ FO ty #[ev ρ x,ev ρ y]) ha (by simp [builtin])) ⟨_,fun w=>?_,h⟩
   simp [Builtin.max_,Builtin.max2,hx,hy]
   omega
  ·rename_i x y z ha
   generalize hx:ev ρ x=vx at h;generalize hy:ev ρ y=vy at h;generalize hz:ev ρ z=vz at h
   cases vx<;>simp only [jA] at h
   cases vy<;>simp only [jA] at h
   obtain⟨rfl,h⟩:=h
   cases vz<;>simp only [jA] at h
   obtain⟨rfl,h⟩:=h;refine lW.exec (ex _ (Builtin.min_ FO ty #[ev ρ x,ev ρ y,ev ρ z]) ha (by simp [builtin])) ⟨_,fun w=>?_,h⟩
   simp [Builtin.min_,Builtin.min2,hx,hy,hz]
   omega
  ·exact h.elim
 all_goals exact h.elim
end
end
section
section
variable {P:Program}
theorem Lf (w:World) (a:Addr):w.cell? a=cellAt w.heap a:=rfl
theorem Mf (w:World) (a:Addr):w.frozen? a=frozenAt w.heap a:=rfl
theorem UR (w:World) (a:Addr) (v:Value): (w.setCell a v).heap=setAt w.heap a v:=rfl
theorem mw {H:ag} {a:Addr}: ∀ {n:Nat} {l:List Value},fc H a n=some l→l.length=n
 |0,l,h=>by simp only [fc,ai8] at h;subst h;rfl
 |n+1,l,h=>by
  simp only [fc] at h
  split at h
  ·rename_i m hm
   split at h
   ·simp only [ai8] at h;subst h;simp [mw hm]
   ·simp at h
  ·simp at h
theorem xl {H:ag} {a:Addr}: ∀ {n:Nat} {l:List Value},fc H a n=some l→∀j v,l[j]? =some v→cellAt H (a.add j)=some v
 |0,l,h,j,v,hv=>by simp only [fc,ai8] at h;subst h;simp at hv
 |n+1,l,h,j,v,hv=>by
  simp only [fc] at h
  split at h
  ·rename_i m hm
   split at h
   ·rename_i u hu
    simp only [ai8] at h;subst h;have hl:=mw hm
    by_cases hj:j<n
    ·rw [ajL (by omega)] at hv
     exact xl hm j v hv
    ·by_cases I8 :j=n
     ·subst I8
      rw [ajP (by omega),hl] at hv
      simp at hv
      rw [hu,hv]
     ·have: (m++ [u]).length≤j:=by simp;omega
      rw [ajm this] at hv;simp at hv
   ·simp at h
  ·simp at h
theorem iS {a:Addr} {n:Nat} {l:List Value} {w:World} (h:fc w.heap a n=some l): (loadCells a n).run P w= .ok l.toArray w:=by
 have hl:=mw h;subst hl;exact run_loadCells_list w a l (fun j v hv=>xl h j v hv)
theorem cells_one {v:Value} (h:aS v=true):v.cells= #[v]:=by cases v<;>simp [aS] at h<;>rfl
theorem vR (v:Value):aS v=v.oneCell' :=by cases v<;>rfl
theorem run_storeCells_at [Go.Vc.Mode] {a:Addr}: ∀ {vs:List Value} {i:Nat} {H' :ag} {w:World},fQ w.heap a i vs=some H' →
  ∃w',(storeCells a vs i).run P w= .ok () w' ∧cq w w' ∧w'.heap=H'
 | [],i,H',w,h=>by simp only [fQ,ai8] at h;exact⟨w,rfl,cq.refl w,h⟩
 |v::r,i,H',w,h=>by
  simp only [fQ] at h
  split at h
  ·rename_i u hu
   cases hf:frozenAt w.heap (a.add i) with
   |true=>rw [hf] at h;simp at h
   |false=>
    rw [hf] at h;simp only [cond_false] at h
    cases h1:aS v with
    |false=>rw [h1] at h;simp at h
    |true=>
     rw [h1] at h;simp only [cond_true] at h;obtain⟨w',hr,hw,hh⟩:=run_storeCells_at (w:=w.setCell (a.add i) v) (by rw [UR];exact h);refine⟨w',?_,cq.trans (show cq w (w.setCell (a.add i) v) from ⟨rfl,rfl,rfl,fun _=>by first|exact aiZ _|exact ajx _⟩) hw,hh⟩;have c_: (store (a.add i) v).run P w= .ok () (w.setCell (a.add i) v):=by
      rw [run_store P w _ v _ (by rw [←vR];exact h1),Lf,hu,Mf,hf]
      simp
     simp only [storeCells,Sem.run_bind,c_,Result.andThen_ok,hr]
  ·simp at h
def F1 (P:Program) (s:Sem Value) (H:ag) (K:Value→Prop):Prop:= ∃v,(∀w:World,w.heap=H→s.run P w= .ok v w)∧K v
theorem F1.exec {o:Oper} {ρ:Operand→Value} {s:Sem Value} {H:ag} {K:Value→Prop} (he:execOp ρ o= (do pure (.value (←s)))) (h:F1 P s H K):
  ∃v,(∀w:World,w.heap=H→(execOp ρ o).run P w= .ok (.value v) w)∧K v:=by
 obtain⟨v,hr,hk⟩:=h;exact⟨v,fun w hw=>by rw [he];simp [hr w hw],hk⟩
variable {H:ag} {K:Value→Prop}
theorem CO {t:TypeId} {d:TypeDesc} {x:Value} (hu:P.underlying t=some d) (ha:fe P t=false) (h:ao H x K):F1 P (Instr.loadAt t x) H K:=by
 cases x<;> (try simp only [ao] at h)
 rename_i a
 cases a<;> (try simp only [ao] at h)
 rename_i a
 split at h
 ·rename_i v hv
  refine⟨v,fun w hw=>?_,h⟩;subst hw;have:w.cell? a=some v:=hv
  simp [Instr.loadAt,Instr.sureAddr,loadVar,rI hu,ha,this]
 ·exact h.elim
theorem zE {t:TypeId} {d:TypeDesc} {i:TypeInfo} {x:Value} (hu:P.underlying t=some d) (hi:P.info? t=some i) (ha:fe P t=true) (h:aF H i.size x K):F1 P (Instr.loadAt t x) H K:=by
 cases x<;> (try simp only [aF] at h)
 rename_i a
 cases a<;> (try simp only [aF] at h)
 rename_i a
 split at h
 ·rename_i l hv
  refine⟨_,fun w hw=>?_,h⟩;subst hw;simp only [Instr.loadAt,Instr.sureAddr,loadVar,Sem.run_bind,Sem.run_pure,Result.andThen_ok,rI hu,ha,if_true,dE hi,iS hv]
 ·exact h.elim
theorem xm: ∀ {l:List Value} {b:List UInt8},bytesOf l=some b→∃ns:List Int,l=ns.map (Value.int .u8)∧b=ns.map fun n=>UInt8.ofNat n.toNat
 | [],b,h=>by simp only [bytesOf,ai8] at h;subst h;exact⟨[],rfl,rfl⟩
 |x::r,b,h=>by
  unfold bytesOf at h
  split at h
  ·rename_i heq;simp at heq
  ·rename_i n r' heq
   simp only [akt] at heq;obtain⟨rfl,rfl⟩:=heq
   split at h
   ·rename_i l hl
    simp only [ai8] at h;subst h;obtain⟨ns,rfl,rfl⟩:=xm hl;exact⟨n::ns,rfl,rfl⟩
   ·simp at h
  ·simp at h
theorem foldl_push: ∀ (ns:List Int) (s:ByteArray),ns.foldl (fun r n=>r.push (UInt8.ofNat n.toNat)) s= ⟨(im s++ns.map fun n=>UInt8.ofNat n.toNat).toArray⟩
 | [],s=>by cases s;simp [im]
 |n::r,s=>by
  simp only [ak1];rw [foldl_push r]
  cases s
  simp [im,ByteArray.push]
theorem I9 {s d e:TypeId} {x:Value} (hs:P.underlying s=some (.slice e)) (he:P.underlying e=some (.int .u8)) (hd:P.underlying d=some .string) (h:fR H x K):F1 P (convert s d x) H K:=by
 cases x<;> (try simp only [fR] at h)
 rename_i a n c
 cases a with
 |none=>
  simp only [fR] at h;refine⟨_,fun w hw=>?_,h⟩;rw [run_convert_bytes_string w s d e none n c hs he hd]
  rfl
 |some a=>
  simp only [fR] at h
  split at h
  ·rename_i l hl
   split at h
   ·rename_i b hb
    obtain⟨ns,rfl,rfl⟩:=xm hb;refine⟨_,fun w hw=>?_,h⟩;subst hw;rw [run_convert_bytes_string w s d e (some a) n c hs he hd,run_bytesToString w a n c ns (iS hl),foldl_push]
    simp [im,str]
   ·exact h.elim
  ·exact h.elim
theorem I_ {d:TypeDesc} {kind:Nat} {k:Value} (hd:d= .string∧kind=1∨(∃j,d= .int j)∧kind=0): ∀ (es:List MapEntry) (i:Nat) (r:Option (Nat × Value)),
  lP kind k es i=some r→Instr.findNow d k es i=some r:=by
 intro es
 induction es with
 |nil=>intro i r h;simpa [lP,Instr.findNow] using h
 |cons e es ih=>
  intro i r h;simp only [lP] at h;have hs: ∀c,mq kind k e.key=some c→Instr.sameNow d k e.key=some c:=by
   intro c hc;rcases hd with ⟨rfl,rfl⟩ | ⟨⟨j,rfl⟩,rfl⟩
   ·obtain⟨s,t,hs,ht,rfl⟩:=Ss hc
    rw [hs,ht];simp [Instr.sameNow,nI]
   ·obtain⟨j,m,n,hm,hn,rfl⟩:=Sr hc
    rw [hm,hn];simp [Instr.sameNow];rw [ajV];simp
  simp only [Instr.findNow]
  split at h
  ·rename_i hc;rw [hs _ hc];exact h
  ·rename_i hc;rw [hs _ hc];exact ih _ _ h
  ·simp at h
theorem rK {t:TypeId} {k:Value} {d:TypeDesc} (hu:P.underlying t=some d) (hd:d= .string∨∃j,d= .int j) (em:Bool) (n:Nat) (w:World): (Instr.checkKey em (n+1) t k).run P w= .ok () w:=by
 rcases hd with rfl| ⟨j,rfl⟩<;>simp [Instr.checkKey,bt hu]
theorem run_findKey {kt:TypeId} {d:TypeDesc} {kind:Nat} {k:Value} {es:List MapEntry} {r:Option (Nat × Value)} (hu:P.underlying kt=some d) (hd:d= .string∧kind=1∨(∃j,d= .int j)∧kind=0)
  (h:lP kind k es 0=some r) (w:World): (Instr.findKey kt k es).run P w= .ok r w:=by
 simp [Instr.findKey,bt hu,I_ hd es 0 r h]
theorem rL {d:TypeDesc} {kind:Nat} (hd:d= .string∧kind=1∨(∃j,d= .int j)∧kind=0):d= .string∨∃j,d= .int j:=hd.imp (·.1) (·.1)
theorem zF {t kt e:TypeId} {m k:Value} {ok:Bool} {es:List MapEntry} {w:World} {R:Result Value} (ht:P.underlying t=some (.map kt e)) (h:nV w.heap m=some es)
  (hr: (do
   Instr.checkKey es.isEmpty 10000 kt k
   let (v,o) ←match←Instr.findKey kt k es with
    |some (_,v)=>pure (v,true)
    |none=>pure (←zeroValue e,false)
   pure (if ok then .tuple #[v,.bool o] else v):Sem Value).run P w=R): (Instr.lookup t m k ok).run P w=R:=by
 subst hr
 cases m<;>simp only [nV,reduceCtorEq] at h
 rename_i r
 cases r with
 |none=>simp only [ai8] at h;subst h;simp [Instr.lookup,bt ht];rfl
 |some r=>
  simp only at h
  split at h
  ·rename_i es' c hr
   simp only [ai8] at h;subst h;have hg: (getObj r).run P w= .ok (.map es' c) w:=by simp [getObj,Sem.run,hr]
   simp only [Instr.lookup,Sem.run_bind,bt ht,Result.andThen_ok,hg,pure_bind]
   simp [Array.isEmpty_toList];rfl
  ·simp at h
theorem xn {t kt e:TypeId} {d:TypeDesc} {kind:Nat} {z m k:Value} {ok:Bool} (ht:P.underlying t=some (.map kt e)) (hu:P.underlying kt=some d)
  (hd:d= .string∧kind=1∨(∃j,d= .int j)∧kind=0) (hz:j1 P e=some z) (h:jw H kind z ok m k K):F1 P (Instr.lookup t m k ok) H K:=by
 unfold jw at h;obtain⟨i,hi,vN⟩:=gK hz
 split at h
 ·rename_i es hes
  split at h
  ·rename_i j v hf
   refine⟨_,fun w hw=>?_,h⟩;subst hw;refine zF ht hes ?_;simp only [Sem.run_bind,Result.andThen_ok,rK hu (rL hd),run_findKey hu hd hf,Sem.run_pure]
   cases ok<;>rfl
  ·rename_i hf
   refine⟨_,fun w hw=>?_,h⟩;subst hw;refine zF ht hes ?_;simp only [Sem.run_bind,Result.andThen_ok,rK hu (rL hd),run_findKey hu hd hf,Sem.run_pure,j3 hi vN]
   cases ok<;>rfl
  ·exact h.elim
 ·exact h.elim
theorem rM {dst:Option Tmp} {op:Op} {ty:TypeId} {pos:String} {af:Array Edge} {g:Option (Nat × Bool)} {ρ:Env} (h:UO P ρ op H K):
  ∃v,(∀w:World,w.heap=H→(execOp (ev ρ) ⟨dst,op,ty,pos,af,g⟩).run P w= .ok (.value v) w)∧K v:=by
 cases op<;>first|exact(h:False).elim|skip
 case load t x=>
  simp only [UO] at h
  split at h
  ·rename_i d i hd hi
   cases ha:fe P t with
   |true=>rw [ha] at h;exact(zE hd hi ha h).exec rfl
   |false=>rw [ha] at h;exact(CO hd ha h).exec rfl
  ·exact h.elim
 case convert s d x=>
  simp only [UO] at h
  split at h
  ·rename_i e hs hd
   split at h
   ·rename_i he;exact(I9 hs he hd h).exec rfl
   ·exact h.elim
  ·exact h.elim
 case lookup t m k ok=>
  simp only [UO] at h
  split at h
  ·rename_i kt e ht
   split at h
   ·rename_i j z hu hz;exact(xn ht hu (.inr ⟨⟨j,rfl⟩,rfl⟩) hz h).exec rfl
   ·rename_i z hu hz;exact(xn ht hu (.inl ⟨rfl,rfl⟩) hz h).exec rfl
   ·exact h.elim
  ·exact h.elim
 case call c=>
  obtain⟨callee,args,FO⟩:=c;simp only [UO] at h
  split at h
  ·rename_i t x hb ha
   split at h
   ·rename_i kt e hu
    generalize hx:ev ρ x=vx at h;have e1:args= #[x]:=by cases args;simp at ha;simp [ha]
    have e2:FO= #[t]:=by cases FO;simp at hb;simp [hb]
    subst e1;subst e2;refine F1.exec (s:=Builtin.len_ #[t] ty #[ev ρ x]) (by simp [execOp,resolve,invoke,builtin]) ?_
    cases vx<;>simp only [La] at h
    rename_i r
    cases r with
    |none=>exact⟨_,fun w hw=>by simp [Builtin.len_,bt hu,hx,goInt],h⟩
    |some r=>
     simp only at h
     split at h
     ·rename_i es c hr
      refine⟨_,fun w hw=>?_,h⟩;subst hw
      simp [Builtin.len_,bt hu,hx,goInt,getObj,Sem.run,hr]
     ·exact h.elim
   ·exact h.elim
  ·exact h.elim
end
end
section
def after [Go.Vc.Mode] (P:Program) (K:Value→ag→Prop) (w:World):Result Next→Prop
 | .ok (.value v) w' =>cq w w' ∧K v w'.heap
 | .ok .skip w' =>cq w w' ∧K undef w'.heap
 | .ok (.enter f args) w' =>cq w w' ∧jb P f args w'.heap K
 |_=>False
section
variable {P:Program} {H:ag} {K:Value→ag→Prop}
def si [Go.Vc.Mode] (P:Program) (s:Sem Value) (H:ag) (K:Value→ag→Prop):Prop:= ∀w:World,w.heap=H→∃v w',s.run P w= .ok v w' ∧cq w w' ∧K v w'.heap
def O2 [Go.Vc.Mode] (P:Program) (s:Sem Unit) (H:ag) (K:Value→ag→Prop):Prop:= ∀w:World,w.heap=H→∃w',s.run P w= .ok () w' ∧cq w w' ∧K undef w'.heap
theorem si.exec [Go.Vc.Mode] {o:Oper} {ρ:Operand→Value} {s:Sem Value} (he:execOp ρ o= (do pure (.value (←s)))) (h:si P s H K): ∀w:World,w.heap=H→after P K w ((execOp ρ o).run P w):=by
 intro w hw;obtain⟨v,w',hr,hk⟩:=h w hw;rw [he];simpa [hr,after] using hk
theorem O2.exec [Go.Vc.Mode] {o:Oper} {ρ:Operand→Value} {s:Sem Unit} (he:execOp ρ o= (do s;pure .skip)) (h:O2 P s H K): ∀w:World,w.heap=H→after P K w ((execOp ρ o).run P w):=by
 intro w hw;obtain⟨w',hr,hk⟩:=h w hw;rw [he];simpa [hr,after] using hk
theorem Ja [Go.Vc.Mode] {t:TypeId} {i:TypeInfo} {x v:Value} (hi:P.info? t=some i) (h1:Nat.beq i.size 1=true) (h:aI H x v K):O2 P (Instr.storeAt t x v) H K:=by
 cases x<;> (try simp only [aI] at h)
 rename_i a
 cases a<;> (try simp only [aI] at h)
 rename_i a
 split at h
 ·rename_i H' hs
  intro w hw;subst hw;obtain⟨w',hr,nP,hh⟩:=run_storeCells_at (P:=P) hs;have hv:aS v=true:=by
   simp only [fQ] at hs
   split at hs
   ·cases hf:frozenAt w.heap (a.add 0) with
    |true=>rw [hf] at hs;simp at hs
    |false=>
     rw [hf] at hs;simp only [cond_false] at hs
     cases h2:aS v with
     |true=>rfl
     |false=>rw [h2] at hs;simp at hs
   ·simp at hs
  refine⟨w',?_,nP,by rw [hh];exact h⟩;have ja:i.size=1:=ajG h1
  simp [Instr.storeAt,Instr.sureAddr,storeVar,dE hi,cells_one hv,ja,hr]
 ·exact h.elim
theorem F2 [Go.Vc.Mode] {t:TypeId} {i:TypeInfo} {x v:Value} (hi:P.info? t=some i) (h:aH H i.size x v K):O2 P (Instr.storeAt t x v) H K:=by
 cases x<;> (try simp only [aH] at h)
 rename_i a
 cases a<;> (try simp only [aH] at h)
 rename_i a
 obtain⟨hc,h⟩:=h
 split at h
 ·rename_i H' hs
  intro w hw;subst hw;obtain⟨w',hr,nP,hh⟩:=run_storeCells_at (P:=P) hs;refine⟨w',?_,nP,by rw [hh];exact h⟩
  simp [Instr.storeAt,Instr.sureAddr,storeVar,dE hi,hc,hr]
 ·exact h.elim
theorem O3 [Go.Vc.Mode] {e:TypeId} {v:Value} (h:bD H e v K):si P (Instr.box e v) H K:=by
 intro w hw;subst hw;exact⟨_,_,rfl,⟨rfl,rfl,rfl,fun _=>by first|exact aiZ _|exact ajx _⟩,h⟩
theorem Jb [Go.Vc.Mode] {e:TypeId} {z:Value} (hz:j1 P e=some z) (h:bD H e z K):si P (Instr.alloc e true (.tuple #[])) H K:=by
 intro w hw;subst hw;obtain⟨i,hi,vN⟩:=gK hz;refine⟨.pointer (some ⟨w.heap.size,0,none⟩),{w with heap:=w.heap.push (.cells z.cells e)},?_,⟨rfl,rfl,rfl,fun _=>by first|exact aiZ _|exact ajx _⟩,h⟩
 simp [Instr.alloc,j3 hi vN,newVar,newRow]
theorem zG (z:List Value) (hz:0<z.length): ∀n:Nat,((List.range (n*z.length)).map fun i=>z.getD (i%z.length) undef)=fS z n
 |0=>by simp [fS]
 |n+1=>by
  have h1: (n+1)*z.length=z.length+n*z.length:=by rw [ak3,akN]
  rw [h1,List.range_add,ajy,fS,←zG z hz n]
  congr 1
  ·apply akA (by simp)
   intro i h1 h2
   simp at h1
   simp [ajg h1,ai3,h1]
  ·simp [alg,Function.comp_def,Nat.add_mod_left]
theorem vS {z:Value} (hz:1≤(bX z).length) (n:Nat): (Array.range (n* (bX z).length)).map (fun i=>z.cells[i%z.cells.size]!)= (fS (bX z) n).toArray:=by
 rw [←zG _ hz n];apply akM;have hs:z.cells.size= (bX z).length:=by rw [←j4];simp
 simp only [Array.toList_map,Array.toList_range];apply akm;intro i _;rw [hs,←j4];have cL:i% (bX z).length< (bX z).length:=akn _ (by omega)
 simp [getElem!_def,ai3,cL]
theorem CP {n:Int} (h0:0≤n) (h1:n≤9223372036854775807):IntKind.i64.wrap n=n:=by
 simp [IntKind.wrap,IntKind.bits,IntKind.signed]
 omega
theorem F3 [Go.Vc.Mode] {t e:TypeId} {i:TypeInfo} {z l c:Value} (ht:P.underlying t=some (.slice e)) (hi:P.info? e=some i) (hz:j1 P e=some z)
  (hs: (bX z).length=i.size) (h1:1≤i.size) (h:dB H e i.bytes (bX z) l c K):si P (Instr.makeSlice t l c) H K:=by
 unfold dB at h
 split at h
 ·rename_i n m
  obtain⟨h0,Lg,hb,hm,hk⟩:=h;intro w hw;subst hw;obtain⟨i',Cb,vN⟩:=gK hz;obtain rfl:i' =i:=by rw [hi] at Cb;exact(ajz Cb).symm
  have wn:=CP h0 (by omega);have wm:=CP (n:=m) (by omega) hm;have R0 : ¬ ((i'.bytes:Int)*m>2 ^ 48):=by omega
  have sj: (decide (m<0) ||decide ((i'.bytes:Int)*m>2 ^ 48) ||decide (n<0) ||decide (n>m))=false:=by
   simp only [aks,decide_eq_false_iff_not];omega
  refine⟨_,{w with heap:=w.heap.push (.cells (fS (bX z) m.toNat).toArray e)},?_,⟨rfl,rfl,rfl,fun _=>by first|exact aiZ _|exact ajx _⟩,hk⟩;simp only [Instr.makeSlice,Sem.run_bind,bt ht,Result.andThen_ok,asInt,asIntOf,Sem.run_pure,mu hi,wn,wm,Sem.run_ite,run_askRoom,dE hi,j3 hi vN];rw [if_neg (by simp only [akf,decide_eq_true_eq];omega)]
  by_cases h0m:m.toNat*i'.size=0
  ·have:m.toNat=0:=by rcases Nat.mul_eq_zero.1 h0m with h|h;exact h;omega
   rw [if_pos h0m]
   simp [this,newRow,fS,Array.range_zero']
  ·rw [if_neg h0m]
   rw [←hs] at*;have:=vS (z:=z) (by omega) m.toNat
   simp [newRow,this]
 ·exact h.elim
theorem D4 [Go.Vc.Mode] {t e:TypeId} {i:TypeInfo} {z:Value} {len:Nat} {vs:List (Nat × Value)} (ht:P.underlying t=some (.slice e)) (hi:P.info? e=some i) (hz:j1 P e=some z)
  (hl:len*i.size≤16777216) (hs: (bX z).length=i.size) (h1:1≤i.size) (h:aU H e len (fS (bX z) len) (pn i.size vs) K):si P (Instr.buildSlice t len vs.toArray) H K:=by
 intro w hw;subst hw;obtain⟨i',Cb,vN⟩:=gK hz;obtain rfl:i' =i:=by rw [hi] at Cb;exact(ajz Cb).symm
 obtain⟨cs,hc,hk⟩:=qE (places:=fun j=>some (j*i'.size,i'.size)) _ vs (fS (bX z) len) (zD vs) h;refine⟨_,{w with heap:=w.heap.push (.cells cs e)},?_,⟨rfl,rfl,rfl,fun _=>by first|exact aiZ _|exact ajx _⟩,hk⟩;simp only [Instr.buildSlice,Sem.run_bind,bt ht,Result.andThen_ok,dE hi,Sem.run_ite];rw [if_neg (by omega)]
 by_cases h0:len*i'.size=0
 ·have:len=0:=by rcases Nat.mul_eq_zero.1 h0 with h|h;exact h;omega
  subst this;simp only [fS] at hc
  simp [newRow,Array.range_zero',hc]
 ·rw [if_neg h0]
  have hr:=vS (z:=z) (by omega) len;rw [hs] at hr;simp only [Sem.run_bind,j3 hi vN,Result.andThen_ok,Sem.run_pure,hr,hc]
  simp [newRow]
theorem Mg [Go.Vc.Mode] {s e:TypeId} {x:Value} (hs:P.underlying s=some (.slice e)) (he:P.underlying e=some (.int .u8)) (h:OQ H x K):si P (convert s s x) H K:=by
 cases x<;>simp only [OQ] at h
 rename_i a n c
 cases a with
 |none=>exact h.elim
 |some a=>
  simp only at h;intro w hw;subst hw
  cases hb:w.heap[a.block]? with
  |none=>rw [hb] at h;exact h.elim
  |some ob=>
   rw [hb] at h
   cases ob with
   |cells cs t fr=>
    refine⟨.slice (some a) n c,{w with heap:=w.heap.setIfInBounds a.block (.cells cs t (OP fr cs.size))},?_,⟨rfl,rfl,rfl,fun _=>by first|exact aiZ _|exact ajx _⟩,h⟩;simp only [convert,Sem.run_bind,bt hs,bt he,Result.andThen_ok,BEq.rfl,markStringish,run_shape,World.shape?,hb,run_freeze,Sem.run_pure]
    congr 1
    simp only [World.freeze];rw [if_neg (by omega)]
    congr 1
    apply akP;intro j;rw [ak4,alh]
    by_cases hj:a.block=j
    ·subst hj
     have cL:a.block<w.heap.size:=by
      rw [akQ] at hb;exact hb.1
     rw [if_pos rfl,if_pos rfl,if_pos cL,hb]
     rfl
    ·rw [if_neg hj,if_neg hj]
   |_=>exact h.elim
theorem Jc [Go.Vc.Mode] {s t e:TypeId} {x:Value} (hs:P.underlying s=some .string) (ht:P.underlying t=some (.slice e)) (he:P.underlying e=some (.int .u8)) (h:IW H e x K):si P (convert s t x) H K:=by
 cases x<;>simp only [IW] at h
 rename_i b
 intro w hw;subst hw
 let c:= (Question.appendCap b.size 0 e).cut (w.tape w.drawn (Question.appendCap b.size 0 e))
 have hc:b.size≤c:=ali _ _;have hk:=h c (by rw [fT];exact hc);rw [fT] at hk;have gY: ((im b).map bu++List.replicate (c - b.size) (Value.int .u8 0)).toArray= (b.data.map fun b=>Value.int .u8 b.toNat)++Array.replicate (c - b.size) (.int .u8 0):=by
  cases b
  apply akM
  simp [im]
 have qm: ((im b).map bu++List.replicate (c - b.size) (Value.int .u8 0)).length=c:=by
  simp [fT];omega
 refine⟨.slice (some ⟨w.heap.size,0,none⟩) b.size c,{w with drawn:=w.drawn+1,heap:=w.heap.push (.cells ((im b).map bu++List.replicate (c - b.size) (Value.int .u8 0)).toArray e (c,c+1))},?_,⟨rfl,rfl,rfl,fun _=>by first|exact aiZ _|exact ajx _⟩,hk⟩;have hf: ∀q:Question,q= .appendCap b.size 0 e→q.forced=false:=fun q hq=>by subst hq;rfl
 simp only [convert,Sem.run_bind,bt hs,bt ht,bt he,Result.andThen_ok,Conv.stringToBytes,run_choose,hf _ rfl,akg,if_false,newRow,run_newObj,Sem.run_pure,markStringish,run_shape];rw [←gY];simp only [World.shape?,Array.getElem?_push_size,ajA,qm,Sem.run_bind,run_freeze,Result.andThen_ok,Sem.run_pure];simp only [World.freeze];rw [if_neg (by omega)]
 congr 2
 apply akP;intro j;rw [ak4]
 by_cases hj:w.heap.size=j
 ·subst hj;simp
 ·rw [if_neg hj,amm,amm,if_neg (akk hj),if_neg (akk hj)]
theorem nX {x:Value} {m:Nat} (h:jc x=some m) (w:World): (Builtin.lenOf x).run P w= .ok m w:=by
 cases x<;>simp only [jc,reduceCtorEq,ai8] at h
 ·subst h;simp [Builtin.lenOf,fT]
 ·subst h;simp [Builtin.lenOf]
theorem j5 {x:Value} {m size:Nat} {new:List Value} {w:World} (hm:jc x=some m) (h:cellsOf w.heap size x=some new) (hs: (∃s,x= .string s)→size=1∨True):
  (Builtin.firstCells size m x).run P w= .ok new.toArray w:=by
 cases x<;>simp only [jc,reduceCtorEq,ai8] at hm
 ·rename_i s
  subst hm;simp only [cellsOf,ai8] at h;subst h;simp only [Builtin.firstCells,Sem.run_pure]
  congr 1
  rw [fT];have:s.extract 0 s.size=s:=by
   cases s with|mk d=>simp [amj,aml,ByteArray.size]
  rw [this]
  cases s;simp only [im];apply akM;simp
 ·rename_i a n c
  subst hm
  cases a with
  |none=>simp only [cellsOf,ai8] at h;subst h;simp [Builtin.firstCells]
  |some a=>simp only [cellsOf] at h;exact iS h
theorem CQ (newLen:Nat): ∀ (k c:Nat),256≤c→c≤2*newLen→Builtin.growBy newLen k c≤2*newLen
 |0,c,_,h=>h
 |k+1,c,h0,h=>by
  simp only [Builtin.growBy]
  split
  ·exact h
  ·exact CQ newLen k _ (by omega) (by omega)
theorem nextslicecap_le {newLen oldCap:Nat} (h:oldCap<newLen):Builtin.nextslicecap newLen oldCap≤2*newLen:=by
 unfold Builtin.nextslicecap
 split
 ·omega
 ·split
  ·omega
  ·exact CQ _ _ _ (by omega) (by omega)
theorem j6 {z:Value} (hz:1≤(bX z).length) (n:Nat):Builtin.zeroCells z.cells n= (fS (bX z) n).toArray:=by
 have hs:z.cells.size= (bX z).length:=by rw [←j4];simp
 rw [←vS hz n];simp only [Builtin.zeroCells,hs]
theorem xo [Go.Vc.Mode] {t u e:TypeId} {du:TypeDesc} {ty:TypeId} {i:TypeInfo} {z s x:Value} (ht:P.underlying t=some (.slice e)) (hu:P.underlying u=some du) (hdu: ∀k,du≠ .int k) (hi:P.info? e=some i) (hz:j1 P e=some z)
  (hb:1≤i.bytes) (h1:1≤(bX z).length) (h:a7 H e i.size i.bytes (bX z) s x K):si P (Builtin.append_ #[t,u] ty #[s,x]) H K:=by
 intro w hw;subst hw;obtain⟨i',Cb,vN⟩:=gK hz;obtain rfl:i' =i:=by rw [hi] at Cb;exact(ajz Cb).symm
 unfold a7 at h
 split at h
 ·rename_i base n cap m new hm F4
  obtain⟨ha,hg⟩:=h;have D5: ((du matches .int _):Bool)=false:=by cases du<;>first|rfl|exact absurd rfl (hdu _)
  by_cases hc:n+m≤cap
  ·have ha:=ha hc
   cases base with
   |none=>
    refine⟨_,w,?_,cq.refl w,ha⟩;simp only [Builtin.append_,ajC,ajn,aju,Sem.run_bind,bt ht,bt hu,Result.andThen_ok,dE hi,Sem.run_pure,D5,akg,if_false,nX hm,if_pos hc,
     aku,if_true,j5 hm F4 (fun _=> .inr trivial)]
   |some a=>
    simp only at ha
    split at ha
    ·rename_i H' hs
     obtain⟨w',hr,nP,hh⟩:=run_storeCells_at (P:=P) hs;refine⟨_,w',?_,nP,by rw [hh];exact ha⟩;simp only [Builtin.append_,ajC,ajn,aju,Sem.run_bind,bt ht,bt hu,Result.andThen_ok,dE hi,Sem.run_pure,D5,akg,if_false,nX hm,if_pos hc,
      aku,if_true,j5 hm F4 (fun _=> .inr trivial),hr]
    ·exact ha.elim
  ·obtain⟨ub,hg⟩:=hg (by omega)
   split at hg
   ·rename_i WV hold
    let c:= (Question.appendCap (n+m) cap e).cut (w.tape w.drawn (Question.appendCap (n+m) cap e))
    have hcm:n+m≤c:=ali _ _;have hk:=hg c hcm;have jd: (WV++new++fS (bX z) (c - (n+m))).toArray=WV.toArray++new.toArray++Builtin.zeroCells z.cells (c - (n+m)):=by
     rw [j6 h1];simp
    refine⟨_,{w with drawn:=w.drawn+1,heap:=w.heap.push (.cells (WV++new++fS (bX z) (c - (n+m))).toArray e)},?_,⟨rfl,rfl,rfl,fun _=>by first|exact aiZ _|exact ajx _⟩,hk⟩;have eU: ¬ (Builtin.nextslicecap (n+m) cap*i'.bytes>2 ^ 48):=by
     have:=nextslicecap_le (newLen:=n+m) (oldCap:=cap) (by omega);have:=akl i'.bytes this;omega
    have hq: (Question.appendCap (n+m) cap e).forced=false:=rfl;have R1: ¬ (((n+m:Nat):Int)>IntKind.i64.max∧((false:Bool)=true∨i'.bytes=0)):=by rintro⟨_,h|h⟩;cases h;omega
    have O4 : (Builtin.firstCells i'.size n (.slice base n cap)).run P {w with drawn:=w.drawn+1}= .ok WV.toArray {w with drawn:=w.drawn+1}:=j5 (w:= {w with drawn:=w.drawn+1}) rfl hold (fun _=> .inr trivial);have XJ : (Builtin.firstCells i'.size m x).run P {w with drawn:=w.drawn+1}= .ok new.toArray {w with drawn:=w.drawn+1}:=j5 (w:= {w with drawn:=w.drawn+1}) hm F4 (fun _=> .inr trivial);simp only [Builtin.append_,ajC,ajn,aju,Sem.run_bind,bt ht,bt hu,Result.andThen_ok,dE hi,Sem.run_pure,D5,akg,if_false,nX hm,if_neg hc,
     aku,if_true,mu hi,Sem.run_ite]
    rw [if_neg (by simpa using R1),if_neg eU];simp only [Sem.run_bind,run_choose,hq,akg,if_false,Result.andThen_ok,mu hi,run_askRoom,O4,XJ,j3 hi vN,newRow,run_newObj,Sem.run_pure];rw [jd]
   ·exact hg.elim
 ·exact h.elim
theorem D6 [Go.Vc.Mode] {t u e:TypeId} {kd:IntKind} {ty:TypeId} {i:TypeInfo} {z s x:Value} (ht:P.underlying t=some (.slice e)) (hu:P.underlying u=some (.int kd)) (hi:P.info? e=some i) (hz:j1 P e=some z)
  (hb:1≤i.bytes) (h1:1≤(bX z).length) (h2:1≤i.size) (h:qD H e i.bytes (bX z) s x K):si P (Builtin.append_ #[t,u] ty #[s,x]) H K:=by
 intro w hw;subst hw;obtain⟨i',Cb,vN⟩:=gK hz;obtain rfl:i' =i:=by rw [hi] at Cb;exact(ajz Cb).symm
 unfold qD at h
 split at h
 ·rename_i n
  obtain⟨⟨h0,hB⟩,hg⟩:=h;obtain⟨m,rfl⟩: ∃m:Nat,n=m:= ⟨n.toNat,by omega⟩;rw [aiY] at hB hg;have FF:0<m:=by omega
  have hmb:2*m≤281474976710656:=ajv (amn _ hb) hB;have hwr:IntKind.i64.wrap (m:Int)=m:=by simp [IntKind.wrap,IntKind.bits,IntKind.signed];omega
  let c:= (Question.appendCap m 0 e).cut (w.tape w.drawn (Question.appendCap m 0 e))
  have hcm:m≤c:=ali _ _;have hk:=hg c hcm;have jd: (fS (bX z) m++fS (bX z) (c - m)).toArray= #[]++Builtin.zeroCells z.cells m++Builtin.zeroCells z.cells (c - (0+m)):=by
   rw [j6 h1,j6 h1];simp
  refine⟨_,{w with drawn:=w.drawn+1,heap:=w.heap.push (.cells (fS (bX z) m++fS (bX z) (c - m)).toArray e)},?_,⟨rfl,rfl,rfl,fun _=>by first|exact aiZ _|exact ajx _⟩,hk⟩;have eU: ¬ (Builtin.nextslicecap (0+m) 0*i'.bytes>2 ^ 48):=by
   have:=nextslicecap_le (newLen:=0+m) (oldCap:=0) (by omega);have:=akl i'.bytes this;rw [ajb] at this ⊢;omega
  have hq: (Question.appendCap (0+m) 0 e).forced=false:=rfl;have Jd: ¬ ((m:Int)<0):=by omega
  have XK: ¬ ((m:Int)* (i'.bytes:Int)>2 ^ 48):=by
   have e1: (m:Int)* (i'.bytes:Int)= ((m*i'.bytes:Nat):Int):=by simp
   have e2:2*m*i'.bytes=2* (m*i'.bytes):=ak5 _ _ _;rw [e1];omega
  have R1: ¬ (((0+m:Nat):Int)>IntKind.i64.max∧((true:Bool)=true∨i'.bytes=0)):=by rintro⟨h,_⟩;simp [IntKind.max,IntKind.bits,IntKind.signed] at h;omega
  have XL: ¬ (0+m≤0):=by omega
  have hms: ¬ (m*i'.size=0):=by have:=akR FF h2;omega
  have aal: (asInt (.int .i64 (m:Int))).run P w= .ok (m:Int) w:=rfl;have O4 : (Builtin.firstCells i'.size 0 (.slice none 0 0)).run P {w with drawn:=w.drawn+1}= .ok #[] {w with drawn:=w.drawn+1}:=by simp [Builtin.firstCells]
  have D5: ((TypeDesc.int kd matches .int _):Bool)=true:=rfl;simp only [Builtin.append_,ajC,ajn,aju,Sem.run_bind,bt ht,bt hu,Result.andThen_ok,dE hi,Sem.run_pure,D5,aal,hwr,if_neg Jd,if_true,mu hi,if_neg XK,aiY,if_neg XL,Sem.run_ite];rw [if_neg (by simpa using R1),if_neg eU];simp only [Sem.run_bind,run_choose,hq,aj0,akg,if_false,Result.andThen_ok,mu hi,run_askRoom,O4,if_neg hms,j3 hi vN,newRow,run_newObj,Sem.run_pure];rw [jd,ajb]
 ·exact h.elim
theorem my {r:Nat} {es:Array MapEntry} {c:Nat} {w:World} (h:w.heap[r]? =some (.map es c)): (getObj r).run P w= .ok (.map es c) w:=by simp [getObj,Sem.run,h]
theorem mz {r:Nat} {es:Array MapEntry} {c:Nat} {o:Obj} {w:World} (h:w.heap[r]? =some (.map es c)): (setObj r o).run P w= .ok () {w with heap:=w.heap.setIfInBounds r o}:=by simp [setObj,Sem.run,h]
theorem zH {kind:Nat} {k:Value}: ∀ {es:List MapEntry} {i j:Nat} {v:Value},lP kind k es i=some (some (j,v))→∃e,es[j - i]? =some e∧i≤j∧mq kind k e.key=some true∧e.val=v
 | [],i,j,v,h=>by simp [lP] at h
 |e::es,i,j,v,h=>by
  simp only [lP] at h
  split at h
  ·rename_i hc
   simp only [ai8,aj8] at h;obtain⟨rfl,rfl⟩:=h;exact⟨e,by simp,aiZ _,hc,rfl⟩
  ·obtain⟨e',he,hl,hk,hv⟩:=zH h
   refine⟨e',?_,by omega,hk,hv⟩;rw [show j - i= (j - (i+1))+1 by omega]
   simpa using he
  ·simp at h
theorem O5 {kind:Nat} {k k' :Value} (hd:kind=0∨kind=1) (h:mq kind k k' =some true) (w:World): (Instr.keyThatStays k' k).run P w= .ok k w:=by
 rcases hd with rfl|rfl
 ·obtain⟨j,m,n,rfl,rfl,hc⟩:=Sr h
  have:m=n:=by simpa using hc.symm
  subst this
  simp [Instr.keyThatStays,Instr.sameBits]
 ·obtain⟨s,t,rfl,rfl,hc⟩:=Ss h
  have:im s=im t:=by simpa using hc.symm
  rw [Sk] at this;subst this;have: (s==s)=true:=by rw [nI];simp
  simp [Instr.keyThatStays,Instr.sameBits,this]
theorem Sw {d:TypeDesc} {kind:Nat} (hd:d= .string∧kind=1∨(∃j,d= .int j)∧kind=0):kind=0∨kind=1:=by rcases hd with ⟨_,h⟩ | ⟨_,h⟩<;>simp [h]
theorem xp [Go.Vc.Mode] {t kt e:TypeId} {d:TypeDesc} {kind:Nat} {m k v:Value} (ht:P.underlying t=some (.map kt e)) (hu:P.underlying kt=some d)
  (hd:d= .string∧kind=1∨(∃j,d= .int j)∧kind=0) (h:j0 H kind m k v K):O2 P (Instr.mapUpdate t m k v) H K:=by
 intro w hw;subst hw
 cases m<;> (try simp only [j0] at h)
 rename_i r
 cases r<;> (try simp only [j0] at h)
 rename_i r
 split at h
 ·rename_i es clock hr
  split at h
  ·rename_i j u hf
   obtain⟨en,he,_,hk,_⟩:=zH hf;refine⟨{w with heap:=w.heap.setIfInBounds r _},?_,⟨rfl,rfl,rfl,fun _=>by first|exact aiZ _|exact ajx _⟩,h⟩;have CR: ((es[j]?).map (·.key)).getD k=en.key:=by simp at he;simp [he]
   simp only [Instr.mapUpdate,Sem.run_bind,bt ht,Result.andThen_ok,my hr,rK hu (rL hd),run_findKey hu hd hf,CR,O5 (Sw hd) hk,mz hr]
  ·rename_i hf
   refine⟨{w with heap:=w.heap.setIfInBounds r _},?_,⟨rfl,rfl,rfl,fun _=>by first|exact aiZ _|exact ajx _⟩,h⟩;simp only [Instr.mapUpdate,Sem.run_bind,bt ht,Result.andThen_ok,my hr,rK hu (rL hd),run_findKey hu hd hf,mz hr]
  ·exact h.elim
 ·exact h.elim
theorem xq [Go.Vc.Mode] {t u kt e ty:TypeId} {d:TypeDesc} {kind:Nat} {m k:Value} (ht:P.underlying t=some (.map kt e)) (hu:P.underlying kt=some d)
  (hd:d= .string∧kind=1∨(∃j,d= .int j)∧kind=0) (h:nd H kind m k K):si P (Builtin.delete_ #[t,u] ty #[m,k]) H K:=by
 intro w hw;subst hw
 cases m<;> (try simp only [nd] at h)
 rename_i r
 cases r<;> (try simp only [nd] at h)
 rename_i r
 split at h
 ·rename_i es clock hr
  split at h
  ·rename_i j u hf
   refine⟨_,{w with heap:=w.heap.setIfInBounds r _},?_,⟨rfl,rfl,rfl,fun _=>by first|exact aiZ _|exact ajx _⟩,h⟩
   simp [Builtin.delete_,bt ht,my hr,rK hu (rL hd),run_findKey hu hd hf,mz hr]
  ·rename_i hf
   refine⟨_,w,?_,cq.refl w,h⟩;have:w.heap.setIfInBounds r (.map es clock)=w.heap:=by
    apply akP;intro j;rw [alh]
    by_cases hj:r=j
    ·subst hj
     have hl:r<w.heap.size:=by
      rcases ajM r w.heap.size with h|h
      ·exact h
      ·simp [akB h] at hr
     simp [hl] at hr ⊢
     exact hr.symm
    ·simp [hj]
   simp [Builtin.delete_,bt ht,my hr,rK hu (rL hd),run_findKey hu hd hf,mz hr,this]
  ·exact h.elim
 ·exact h.elim
theorem F5 [Go.Vc.Mode] {t kt e ty:TypeId} {m:Value} (ht:P.underlying t=some (.map kt e)) (h:rH H m K):si P (Builtin.clear_ #[t] ty #[m]) H K:=by
 intro w hw;subst hw
 cases m<;> (try simp only [rH] at h)
 rename_i r
 cases r<;> (try simp only [rH] at h)
 ·exact⟨_,w,by simp [Builtin.clear_,bt ht],cq.refl w,h⟩
 ·rename_i r
  split at h
  ·rename_i es clock hr
   refine⟨_,{w with heap:=w.heap.setIfInBounds r _},?_,⟨rfl,rfl,rfl,fun _=>by first|exact aiZ _|exact ajx _⟩,h⟩
   simp [Builtin.clear_,bt ht,my hr,mz hr]
  ·exact h.elim
theorem Mh [Go.Vc.Mode] {t e ty:TypeId} {d:ChanDir} {x:Value} (ht:P.underlying t=some (.chan d e)) (h:OO H x K):si P (Builtin.len_ #[t] ty #[x]) H K:=by
 intro w hw;subst hw
 cases x<;>simp only [OO] at h
 rename_i r
 cases r with
 |none=>exact⟨_,w,by simp [Builtin.len_,bt ht,goInt],⟨rfl,rfl,rfl,fun _=>by first|exact aiZ _|exact ajx _⟩,h⟩
 |some r=>
  simp only at h
  split at h
  ·rename_i cap buf cl s r2 tm hr
   exact⟨_,w,by simp [Builtin.len_,bt ht,goInt,getObj,Sem.run,hr],⟨rfl,rfl,rfl,fun _=>by first|exact aiZ _|exact ajx _⟩,h⟩
  ·exact h.elim
theorem nY [Go.Vc.Mode] {s:Sem Value} (h:Ca H P s K):si P s H K:=by
 intro w hw;have:=h w hw
 split at this
 ·rename_i v w' hr;exact⟨v,w',hr,this⟩
 ·exact this.elim
theorem O6 {s:Value} {m n:Nat} {new:List Value} {size:Nat} {w:World} (hm:jc s=some m)
  (h:cellsOf w.heap size (FM (min m n) s)=some new):
  (Builtin.firstCells size (Nat.min m n) s).run P w= .ok new.toArray w:=by
 have e:Nat.min m n=min m n:=rfl;rw [e]
 cases s<;>simp only [jc,reduceCtorEq,ai8] at hm
 ·rename_i b
  simp only [FM,cellsOf,ai8,bB] at h;subst h;simp only [Builtin.firstCells,Sem.run_pure]
  congr 1
  apply akM
  simp [im,aml,al1]
 ·rename_i a l c
  cases a with
  |none=>simp only [FM,cellsOf,ai8] at h;subst h;simp [Builtin.firstCells]
  |some a=>simp only [FM,cellsOf] at h;exact iS h
theorem Mi [Go.Vc.Mode] {t u e ty:TypeId} {i:TypeInfo} {d s:Value} (ht:P.underlying t=some (.slice e)) (hi:P.info? e=some i) (h:ON H i.size d s K):si P (Builtin.copy_ #[t,u] ty #[d,s]) H K:=by
 intro w hw;subst hw;unfold ON at h
 split at h
 ·rename_i base n c m hm
  split at h
  ·rename_i new F4
   have hl:=O6 (P:=P) hm F4
   cases base with
   |none=>
    refine⟨_,w,?_,cq.refl w,h⟩;simp only [Builtin.copy_,ajC,ajn,aju,Sem.run_bind,bt ht,Result.andThen_ok,nX hm,dE hi,hl,Sem.run_pure,goInt]
   |some a=>
    simp only at h
    split at h
    ·rename_i H' hs
     obtain⟨w',hr,nP,hh⟩:=run_storeCells_at (P:=P) hs;refine⟨_,w',?_,nP,by rw [hh];exact h⟩;simp only [Builtin.copy_,ajC,ajn,aju,Sem.run_bind,bt ht,Result.andThen_ok,nX hm,dE hi,hl,Sem.run_pure,goInt,hr]
    ·exact h.elim
  ·exact h.elim
 ·exact h.elim
theorem F6 [Go.Vc.Mode] {t e ty:TypeId} {z x:Value} (ht:P.underlying t=some (.slice e)) (hz:j1 P e=some z) (h1:1≤(bX z).length) (h:DT H (bX z) x K):si P (Builtin.clear_ #[t] ty #[x]) H K:=by
 intro w hw;subst hw;obtain⟨i',Cb,vN⟩:=gK hz;unfold DT at h
 split at h
 ·exact⟨_,w,by simp [Builtin.clear_,bt ht],cq.refl w,h⟩
 ·rename_i a n c
  split at h
  ·rename_i H' hs
   obtain⟨w',hr,nP,hh⟩:=run_storeCells_at (P:=P) hs
   by_cases h0:n=0
   ·subst h0
    simp only [fS,fQ,ai8] at hs;subst hs;exact⟨_,w,by simp [Builtin.clear_,bt ht],cq.refl w,h⟩
   ·refine⟨_,w',?_,nP,by rw [hh];exact h⟩
    obtain⟨m,rfl⟩: ∃m,n=m+1:= ⟨n - 1,by omega⟩
    simp [Builtin.clear_,bt ht,j3 Cb vN,j6 h1,hr]
  ·exact h.elim
 ·exact h.elim
theorem Lh {α:Type} {a:Array α} {x:α} (h:a.toList= [x]):a= #[x]:=by cases a;simp at h;simp [h]
theorem CS {α:Type} {a:Array α} {x y:α} (h:a.toList= [x,y]):a= #[x,y]:=by cases a;simp at h;simp [h]
theorem toA {ρ:Env} (a:Array Operand): (OJ ρ a.toList).toArray=a.map (ev ρ):=by rw [I6];cases a;simp
def iI (P:Program) (C:List Nat):Prop:= ∀f,lV f C=true→∀ (args:Array Value) (w:World),(callFunc f args).run P w= .ok (.enter f args) w
theorem vT [Go.Vc.Mode] {C:List Nat} (hC:iI P C) {dst:Option Tmp} {op:Op} {ty:TypeId} {pos:String} {af:Array Edge} {g:Option (Nat × Bool)} {ρ:Env} (h:RZ P ρ C op ty H K):
  ∀w:World,w.heap=H→after P K w ((execOp (ev ρ) ⟨dst,op,ty,pos,af,g⟩).run P w):=by
 cases op<;>first|exact(h:False).elim|skip
 case alloc e=>
  simp only [RZ] at h
  split at h
  ·rename_i z hz;exact(Jb hz h).exec rfl
  ·exact h.elim
 case box e v=>exact(O3 h).exec rfl
 case buildSlice t len ps=>
  simp only [RZ] at h
  split at h
  ·rename_i e ht
   split at h
   ·rename_i i z hi hz
    cases hb: (Nat.ble (len*i.size) 16777216 && (Nat.beq (bX z).length i.size && Nat.ble 1 i.size)) with
    |false=>rw [hb] at h;exact h.elim
    |true=>
     rw [hb] at h;simp only [aja] at hb;obtain⟨h1,h2,h3⟩:=hb;have e1:execOp (ev ρ) ⟨dst,.buildSlice t len ps,ty,pos,af,g⟩= (do pure (.value (←Instr.buildSlice t len (FK ρ ps.toList).toArray))):=by
      rw [D3,show ∀f:Nat × Operand→Nat × Value,(ps.toList.map f).toArray=ps.map f from fun f=>by cases ps;simp];rfl
     exact(D4 ht hi hz (ai7 h1) (ajG h2) (ai7 h3) h).exec e1
   ·exact h.elim
  ·exact h.elim
 case store t x v=>
  simp only [RZ] at h
  split at h
  ·rename_i d i hd hi
   cases ha:fe P t with
   |true=>rw [ha] at h;exact(F2 hi h).exec rfl
   |false=>
    rw [ha] at h;simp only [cond_false] at h
    cases h1:Nat.beq i.size 1 with
    |false=>rw [h1] at h;exact h.elim
    |true=>rw [h1] at h;exact(Ja hi h1 h).exec rfl
  ·exact h.elim
 case convert s d x=>
  simp only [RZ] at h
  split at h
  ·rename_i e hs hd
   split at h
   ·rename_i he;exact(Jc hs hd he h).exec rfl
   ·exact h.elim
  ·rename_i e e2 hs hd
   split at h
   ·rename_i he
    cases hb:Nat.beq s d with
    |false=>rw [hb] at h;exact h.elim
    |true=>
     rw [hb] at h;obtain rfl:=ajG hb;exact(Mg hs he h).exec rfl
   ·exact h.elim
  ·exact h.elim
 case makeMap t r=>
  cases r with
  |some r=>exact(h:False).elim
  |none=>
   intro w hw;subst hw;exact⟨⟨rfl,rfl,rfl,fun _=>by first|exact aiZ _|exact ajx _⟩,h⟩
 case makeSlice t l c=>
  simp only [RZ] at h
  split at h
  ·rename_i e ht
   split at h
   ·rename_i i z hi hz
    cases hb: (Nat.beq (bX z).length i.size && Nat.ble 1 i.size) with
    |false=>rw [hb] at h;exact h.elim
    |true=>
     rw [hb] at h;simp only [aja] at hb;exact(F3 ht hi hz (ajG hb.1) (ai7 hb.2) h).exec rfl
   ·exact h.elim
  ·exact h.elim
 case mapUpdate t m k v=>
  simp only [RZ] at h
  split at h
  ·rename_i kt e ht
   split at h
   ·rename_i j hu;exact(xp ht hu (.inr ⟨⟨j,rfl⟩,rfl⟩) h).exec rfl
   ·rename_i hu;exact(xp ht hu (.inl ⟨rfl,rfl⟩) h).exec rfl
   ·exact h.elim
  ·exact h.elim
 case mapEntry t m k=>exact(nY h).exec rfl
 case entryStore t m k v=>
  have hr:=nY h;intro w hw;obtain⟨v',w',hr,hk⟩:=hr w hw;have: (Instr.entryStore t (ev ρ m) (ev ρ k) (ev ρ v)).run P w= .ok () w' :=by
   simp only [Sem.run_bind] at hr
   cases hx: (Instr.entryStore t (ev ρ m) (ev ρ k) (ev ρ v)).run P w with
   |ok u w2=>rw [hx] at hr;simp at hr;rw [hr.2]
   |halt h w2=>rw [hx] at hr;simp at hr
  have e:execOp (ev ρ) ⟨dst,.entryStore t m k v,ty,pos,af,g⟩= (do Instr.entryStore t (ev ρ m) (ev ρ k) (ev ρ v);pure .skip):=rfl;rw [e];simpa [this,after] using hk
 case makeChan t n=>exact(nY h).exec rfl
 case range t x=>exact(nY h).exec rfl
 case next it s=>exact(nY h).exec rfl
 case entry it=>exact(nY h).exec rfl
 case call c=>
  obtain⟨callee,args,FO⟩:=c
  cases callee with
  |invoke r m=>exact(h:False).elim
  |value f=>
   have main: ∀ (fv:Value),ev ρ f=fv→ng P C fv (OJ ρ args.toList) H K→∀w:World,w.heap=H→after P K w ((execOp (ev ρ) ⟨dst,.call ⟨.value f,args,FO⟩,ty,pos,af,g⟩).run P w):=by
    intro fv hf h w hw;subst hw;unfold ng at h
    split at h
    ·rename_i gg first cap
     cases hm:lV gg C with
     |false=>rw [hm] at h;exact h.elim
     |true=>
      rw [hm] at h;simp only [cond_true] at h;have e: (first.toList++OJ ρ args.toList++cap.toList).toArray=first++args.map (ev ρ)++cap:=by
       rw [←toA (ρ:=ρ) args];apply akM;simp
      rw [e] at h;have: (execOp (ev ρ) ⟨dst,.call ⟨.value f,args,FO⟩,ty,pos,af,g⟩).run P w= .ok (.enter gg (first++args.map (ev ρ)++cap)) w:=by
       simp only [execOp,resolve,hf,Deferred.ofValue,pure_bind,invoke];exact hC gg hm _ w
      rw [this];exact⟨cq.refl w,h⟩
    ·exact h.elim
   simp only [RZ] at h
   cases f with
   |func gg=>
    refine main _ rfl ?_
    simpa [ng,ev] using h
   |tmp t=>exact main _ rfl h
   |const v=>exact main _ rfl h
   |global gg=>exact main _ rfl h
  |builtin b=>
   simp only [RZ] at h;unfold FP at h
   split at h
   ·rename_i s x t u ha ht
    rw [CS ha,CS ht];have ex:execOp (ev ρ) ⟨dst,.call ⟨.builtin .append,#[s,x],#[t,u]⟩,ty,pos,af,g⟩= (do pure (.value (←Builtin.append_ #[t,u] ty #[ev ρ s,ev ρ x]))):=by
     simp [execOp,resolve,invoke,builtin]
    split at h
    ·rename_i e e2 US UT
     split at h
     ·rename_i i z hi hz
      cases hb: (Nat.ble 1 i.bytes && Nat.ble 1 (bX z).length) with
      |false=>rw [hb] at h;exact h.elim
      |true=>
       rw [hb] at h;simp only [aja] at hb;exact(xo US UT (fun k=>by simp) hi hz (ai7 hb.1) (ai7 hb.2) h).exec ex
     ·exact h.elim
    ·rename_i e US UT
     split at h
     ·rename_i i z hi hz
      cases hb: (Nat.ble 1 i.bytes && Nat.ble 1 (bX z).length) with
      |false=>rw [hb] at h;exact h.elim
      |true=>
       rw [hb] at h;simp only [aja] at hb;exact(xo US UT (fun k=>by simp) hi hz (ai7 hb.1) (ai7 hb.2) h).exec ex
     ·exact h.elim
    ·rename_i e kd US UT
     split at h
     ·rename_i i z hi hz
      cases hb: (Nat.ble 1 i.bytes && (Nat.ble 1 (bX z).length && Nat.ble 1 i.size)) with
      |false=>rw [hb] at h;exact h.elim
      |true=>
       rw [hb] at h;simp only [aja] at hb;exact(D6 US UT hi hz (ai7 hb.1) (ai7 hb.2.1) (ai7 hb.2.2) h).exec ex
     ·exact h.elim
    ·exact h.elim
   ·rename_i d s t u ha ht
    rw [CS ha,CS ht]
    split at h
    ·rename_i e hu
     split at h
     ·rename_i i hi;exact(Mi (u:=u) (ty:=ty) hu hi h).exec (by simp [execOp,resolve,invoke,builtin])
     ·exact h.elim
    ·exact h.elim
   ·rename_i m k t u ha ht
    rw [CS ha,CS ht]
    split at h
    ·rename_i kt e hu
     split at h
     ·rename_i j hk;exact(xq (u:=u) (ty:=ty) hu hk (.inr ⟨⟨j,rfl⟩,rfl⟩) h).exec (by simp [execOp,resolve,invoke,builtin])
     ·rename_i hk;exact(xq (u:=u) (ty:=ty) hu hk (.inl ⟨rfl,rfl⟩) h).exec (by simp [execOp,resolve,invoke,builtin])
     ·exact h.elim
    ·exact h.elim
   ·rename_i m t ha ht
    rw [Lh ha,Lh ht]
    split at h
    ·rename_i kt e hu;exact(F5 (ty:=ty) hu h).exec (by simp [execOp,resolve,invoke,builtin])
    ·rename_i e hu
     split at h
     ·rename_i z hz
      cases hb:Nat.ble 1 (bX z).length with
      |false=>rw [hb] at h;exact h.elim
      |true=>rw [hb] at h;exact(F6 (ty:=ty) hu hz (ai7 hb) h).exec (by simp [execOp,resolve,invoke,builtin])
     ·exact h.elim
    ·exact h.elim
   ·rename_i x t ha ht
    rw [Lh ha,Lh ht]
    split at h
    ·rename_i d e hu;exact(Mh (ty:=ty) hu h).exec (by simp [execOp,resolve,invoke,builtin])
    ·exact h.elim
   ·exact h.elim
end
end
section
def bC (a:Act):Env:=fun t=>a.tmps.getD t undef
theorem lX (a:Act):a.eval=ev (bC a):=by funext x;cases x<;>rfl
theorem jI {a:Act} {dst:Option Tmp} {v:Value} (h: ∀d,dst=some d→d<a.tmps.size):bC (a.put dst v)= (bC a).put dst v:=by
 cases dst with
 |none=>rfl
 |some d=>
  funext s
  have hd:=h d rfl;simp only [bC,Act.put,Env.put,Env.RY]
  by_cases hs:s=d
  ·subst hs;simp [hd]
  ·have:Nat.beq s d=false:=by cases h:Nat.beq s d with|false=>rfl|true=>exact absurd (ajG h) hs
   simp [this,amN (akk hs)]
def QN (N:Act→World→Prop):Exit→Act→World→Prop
 | .normal,a,w=>N a w
 |_,_,_=>False
theorem Sx {N:Act→World→Prop}: ¬LetsOut (QN N):=fun ⟨_,_,h⟩=>h
section
variable {P:Program} {ops:Array Oper} {N:Act→World→Prop}
def cX (P:Program) (ops:Array Oper) (o:Oper) (v:Value) (a:Act) (w:World):Prop:=
 (Region.wanted o (yielded ops a.tmps)=true∧(execOp a.eval o).run P w= .ok (.value v) w)∨(Region.wanted o (yielded ops a.tmps)=false∧v=undef)
theorem cX.of_same {o:Oper} {v:Value} {a a' :Act} {w:World} (hy:cX P ops o v a w) (he:execOp a'.eval o=execOp a.eval o)
  (hw:Region.wanted o (yielded ops a'.tmps)=Region.wanted o (yielded ops a.tmps)):cX P ops o v a' w:=by
 unfold cX at*;rw [he,hw];exact hy
theorem cX.wpOp {i:Nat} {o:Oper} {v:Value} {a:Act} {w:World} {Q:Exit→Act→World→Prop} (hi:ops[i]? =some o) (hy:cX P ops o v a w)
  {K:Act→World→Prop} (h:K (a.put o.dst v) w):wpOp P ops Q i K a w:=by
 unfold Go.wpOp;simp only [hi];rcases hy with ⟨hw,hv⟩ | ⟨hw,rfl⟩
 ·simp only [hw,if_true,Oper.wp,hv,Oper.upon];exact .inl h
 ·simp only [hw,akg,if_false];exact h
def Obl (P:Program) (ops:Array Oper) (b:Nat→Nat→Bool) (D:List Nat) (j:Nat) (a:Act) (w w' :World):Prop:=
 ∀i∈D,b i j=false→∀o,ops[i]? =some o→∀d,o.dst=some d→cX P ops o (bC a d) a w→cX P ops o (bC a d) a w'
def UU (P:Program) (ops:Array Oper) (N:Act→World→Prop) (b:Nat→Nat→Bool):Nat→Array Bool→List Nat→Act→World→Prop
 |0,listed,_,a,w=>Region.ready .any ops listed= []∧N a w
 |fuel+1,listed,D,a,w=>
  (Region.ready .any ops listed= []→N a w)∧
  ∀j∈Region.ready .any ops listed,wpOp P ops (QN N) j (fun a' w' =>Obl P ops b D j a w w' ∧UU P ops N b fuel (listed.setIfInBounds j true) D a' w') a w
theorem zI {b:Nat→Nat→Bool} {D:List Nat}: ∀ (fuel:Nat) (listed:Array Bool) (a:Act) (w:World),UU P ops N b fuel listed D a w→wpAny P .any ops (QN N) fuel listed a w
 |0,_,_,_,h=>h
 |fuel+1,_,_,_,h=> ⟨h.1,fun i hi=>wpOp_mono (fun a' w' h' =>zI fuel _ a' w' h'.2) (h.2 i hi)⟩
theorem Je {j:Nat} {oi oj:Oper} {v:Value} (hj:ops[j]? =some oj) (UW:oi.apart ops oj=true)
  (hsj: ∀cs b,oj.op≠ .select cs b) {K:Act→World→Prop} {a:Act} {w:World}
  (h:wpOp P ops (QN N) j K (a.put oi.dst v) w):
  wpOp P ops (QN N) j (fun a' w' => (∃u,a'.tmps= (a.put oj.dst u).tmps)∧K (a'.put oi.dst v) w') a w:=by
 obtain⟨h1,h2,h3⟩:=Oper.apart_spec UW;unfold wpOp at*;simp only [hj] at*;rw [wanted_put oj a oi.dst v h1] at h
 split
 ·rename_i hw
  simp only [hw,if_true] at h;rcases h with h| ⟨_,XM⟩
  case inr=>exact(Sx XM).elim
  refine .inl ?_;unfold Oper.wp at*;rw [execOp_put oj hsj a oi.dst v h1] at h;generalize hr: (execOp a.eval oj).run P w=r at*
  cases r with
  |ok n w' =>
   cases n<;>simp only [Oper.upon] at h ⊢
   case value u=>exact⟨⟨u,rfl⟩,by rw [←Act.put_comm a v u h2];exact h⟩
   case skip=>exact⟨⟨_,rfl⟩,by rw [←Act.put_comm a v undef h2];exact h⟩
   case defer d=>
    refine⟨⟨undef,by cases oj.dst<;>rfl⟩,?_⟩;rw [←Act.put_comm _ v undef h2,←Act.put_defers];exact h
   case enter f args=>
    refine Calls.mono h fun e Cc he=>?_
    cases e with
    |returned u=>exact⟨⟨u,rfl⟩,by rw [←Act.put_comm a v u h2];exact he⟩
    |panicked c=>exact he
    |outgrown=>exact he
   case row row args=>exact Rows.mono h fun u Cc he=> ⟨⟨u,rfl⟩,by rw [←Act.put_comm a v u h2];exact he⟩
  |halt x w' =>
   cases x<;>simp only [Oper.upon] at h ⊢
   case panic u=>exact h
 ·rename_i hw
  simp only [hw] at h;exact⟨⟨_,rfl⟩,by rw [←Act.put_comm a v undef h2];exact h⟩
theorem cX.Li {o:Oper} {v:Value} {a a' :Act} {w:World} (hy:cX P ops o v a w) (h:a'.tmps=a.tmps):cX P ops o v a' w:=by
 have he:a'.eval=a.eval:=by funext x;cases x<;>simp [Act.eval,h]
 exact hy.of_same (by rw [he]) (by rw [h])
theorem cX.put {o:Oper} {v u:Value} {a:Act} {w:World} {dst:Option Tmp} (hs: ∀cs b,o.op≠ .select cs b) (hd: ∀d,dst=some d→d∉o.looksAt ops):cX P ops o v (a.put dst u) w↔cX P ops o v a w:=by
 constructor
 ·intro h
  exact h.of_same (execOp_put o hs a dst u hd).symm (wanted_put o a dst u hd).symm
 ·intro h
  exact h.of_same (execOp_put o hs a dst u hd) (wanted_put o a dst u hd)
def pq [Go.Vc.Mode] (ops:Array Oper) (listed:Array Bool):Prop:= ∀ (k:Nat) (o:Oper),ops[k]? =some o→listed.getD k false=true→∀e∈o.after,Region.binds .any e=true→listed.getD e.on false=true
theorem pq.add [Go.Vc.Mode] {listed:Array Bool} {j:Nat} (h:pq ops listed) (hj:j∈Region.ready .any ops listed):pq ops (listed.setIfInBounds j true):=by
 obtain⟨_,oj,UX,iT⟩:=mem_ready.1 hj;intro k o ho hk e he hb
 by_cases Sy:j=k
 ·subst Sy
  rw [UX] at ho;obtain rfl:=ajz ho;exact getD_set_true (iT e he hb)
 ·rw [getD_set_ne false Sy] at hk
  exact getD_set_true (h k o ho hk e he hb)
def okB [Go.Vc.Mode] (ops:List Oper) (Bs:List Nat):Bool:=Bs.zipIdx.all fun (x,j)=>match ops[j]? with
 |some o=>Nat.beq (x|||o.after.toList.foldl (fun s e=>bif Region.binds .any e && Nat.blt e.on j then s|||2 ^ e.on|||Bs.getD e.on 0 else s) 0) (o.after.toList.foldl (fun s e=>bif Region.binds .any e && Nat.blt e.on j then s|||2 ^ e.on|||Bs.getD e.on 0 else s) 0)
 |none=>Nat.beq x 0
def UY (Bs:List Nat) (i j:Nat):Bool:= (Bs.getD j 0).testBit i
theorem CT {Bs:List Nat} {i j:Nat}: ∀ (l:List Edge) (s:Nat),(l.foldl (fun s e=>bif Region.binds .any e && Nat.blt e.on j then s|||2 ^ e.on|||Bs.getD e.on 0 else s) s).testBit i=true→
  s.testBit i=true∨∃e∈l,Region.binds .any e=true∧e.on<j∧(e.on=i∨UY Bs i e.on=true)
 | [],s,h=> .inl h
 |e::l,s,h=>by
  simp only [ak1] at h;rcases CT l _ h with h| ⟨e',WY,h⟩
  ·cases hb: (Region.binds .any e && Nat.blt e.on j) with
   |false=>rw [hb] at h;exact .inl h
   |true=>
    rw [hb] at h;simp only [cond_true,Nat.testBit_or,akf] at h;simp only [aja] at hb;have cL:e.on<j:=by have:=hb.2;rwa [alj] at this
    rcases h with (h|h) |h
    ·exact .inl h
    ·rw [Nat.testBit_two_pow] at h
     exact .inr ⟨e,by simp,hb.1,cL,.inl (by simpa using h)⟩
    ·exact .inr ⟨e,by simp,hb.1,cL,.inr h⟩
  ·exact .inr ⟨e',aiW _ WY,h⟩
theorem zJ [Go.Vc.Mode] {Bs:List Nat} (hB:okB ops.toList Bs=true) {listed:Array Bool} (hc:pq ops listed): ∀ (n j i:Nat),j<n→UY Bs i j=true→(∀o,ops[j]? =some o→∀e∈o.after,Region.binds .any e=true→listed.getD e.on false=true)→listed.getD i false=true:=by
 intro n
 induction n with
 |zero=>intro j i h;omega
 |succ n ih=>
  intro j i hj hb iT;unfold okB at hB;rw [akv] at hB;unfold UY at hb
  cases hx:Bs[j]? with
  |none=>simp [ai3,hx] at hb
  |some x=>
   rw [ai3,hx] at hb;simp only [aj9] at hb;have hm:=hB (x,j) (by rw [List.mem_zipIdx_iff_getElem?];exact hx);simp only at hm
   cases ho:ops.toList[j]? with
   |none=>
    rw [ho] at hm;have:=ajG hm;subst this
    simp at hb
   |some o=>
    rw [ho] at hm;have heq:=ajG hm;have Sz: (x|||o.after.toList.foldl (fun s e=>bif Region.binds .any e && Nat.blt e.on j then s|||2 ^ e.on|||Bs.getD e.on 0 else s) 0).testBit i=true:=by
     rw [Nat.testBit_or,hb];rfl
    rw [heq] at Sz;have Jf :ops[j]? =some o:=by simpa using ho
    rcases CT _ _ Sz with h| ⟨e,he,Mj,cL,h⟩
    ·simp at h
    ·have hl:=iT o Jf e (by simpa using he) Mj
     rcases h with h|h
     ·rw [←h];exact hl
     ·exact ih e.on i (by omega) h (fun o2 O7 e2 O8 ub=>hc e.on o2 O7 hl e2 O8 ub)
theorem zK {b:Nat→Nat→Bool} {D D' :List Nat} (hD: ∀k∈D,k∈D'): ∀ (fuel:Nat) (listed:Array Bool) (a:Act) (w:World),UU P ops N b fuel listed D' a w→UU P ops N b fuel listed D a w
 |0,_,_,_,h=>h
 |fuel+1,_,_,_,h=> ⟨h.1,fun i hi=>wpOp_mono (fun a' w' h' => ⟨fun k hk=>h'.1 k (hD k hk),zK hD fuel _ a' w' h'.2⟩) (h.2 i hi)⟩
def ug (ops:Array Oper) (x y:Oper):Bool:=match x.dst with
 |some d=> !(y.looksAt ops).contains d && y.dst !=some d
 |none=>true
theorem Cd {x y:Oper} (h:ug ops x y=true): (∀d,x.dst=some d→d∉y.looksAt ops)∧(∀d,x.dst=some d→y.dst≠some d):=by
 constructor<;>intro d hd<;>simp [ug,hd] at h
 ·exact h.1
 ·exact h.2
theorem Mk [Go.Vc.Mode] {b:Nat→Nat→Bool} {i:Nat} {oi:Oper} {v:Value} {D D' :List Nat} (hi:ops[i]? =some oi) (Jg: ∀ (j:Nat) (o:Oper) cs b,ops[j]? =some o→o.op≠ .select cs b)
  (CU: ∀d,oi.dst=some d→d∉oi.looksAt ops) (hD: ∀k∈D,∀ok,ops[k]? =some ok→ug ops oi ok=true)
  (yV: ∀listed:Array Bool,pq ops listed→∀j∈Region.ready .any ops listed,b i j=true→listed.getD i false=true):
  ∀ (fuel:Nat) (listed:Array Bool) (a:Act) (w:World),(∀d,oi.dst=some d→d<a.tmps.size)→pq ops listed→
   (∀j oj,ops[j]? =some oj→j≠i→listed.getD j true=false→(∀e∈oj.after,Region.binds .any e=true→e.on≠i)→oi.apart ops oj=true)→
   i∈Region.ready .any ops listed→((D' =i::D∧oi.dst≠none∧cX P ops oi v a w)∨(D' =D∧∀w',cX P ops oi v a w'))→
   UU P ops N b fuel (listed.setIfInBounds i true) D' (a.put oi.dst v) w→UU P ops N b (fuel+1) listed D a w:=by
 intro fuel
 induction fuel with
 |zero=>
  intro listed a w _ _ _ hr hy H;refine⟨fun h=> (by rw [h] at hr;cases hr),fun j hj=>?_⟩
  by_cases Ox:j=i
  ·subst Ox
   have hy' :cX P ops oi v a w:=by rcases hy with ⟨_,_,h⟩ | ⟨_,h⟩;exact h;exact h w
   exact hy'.wpOp hi ⟨fun _ _ _ _ _ _ _ h=>h,H⟩
  ·have:=ready_mono hj Ox
   rw [H.1] at this
   cases this
 |succ fuel ih=>
  intro listed a w qm dM T5 hr hy H;refine⟨fun h=> (by rw [h] at hr;cases hr),fun j hj=>?_⟩;have hy' :cX P ops oi v a w:=by rcases hy with ⟨_,_,h⟩ | ⟨_,h⟩;exact h;exact h w
  have R2 : ∀k∈D,k∈D' :=by rcases hy with ⟨rfl,_⟩ | ⟨rfl,_⟩;exact fun k hk=>aiW _ hk;exact fun k hk=>hk
  by_cases Ox:j=i
  ·subst Ox
   refine hy'.wpOp hi ⟨fun _ _ _ _ _ _ _ h=>h,?_⟩;exact zK R2 _ _ _ _ H
  ·have h1:=H.2 j (ready_mono hj Ox)
   obtain⟨XN,oj,UX,iT⟩:=mem_ready.1 hj;have Jh:listed.getD i false=false:=by
    have:= (mem_ready.1 hr).1;rcases ajM i listed.size with h' |h'
    ·simpa [h'] using this
    ·simp [akB h'] at this
   have aan: ∀e∈oj.after,Region.binds .any e=true→e.on≠i:=fun e he hb heq=>by
    have h1:=iT e he hb;rw [heq,Jh] at h1
    cases h1
   have UW:=T5 j oj UX Ox XN aan;obtain⟨g1,g2,g3⟩:=Oper.apart_spec UW;have h2:=Je UX UW (fun cs b=>Jg j oj cs b UX) h1;have aao:b i j=false:=by
    cases hb:b i j with
    |false=>rfl
    |true=>rw [yV listed dM j hj hb] at Jh;cases Jh
   have UZ : ∀k ok,ops[k]? =some ok→k≠i→(listed.setIfInBounds j true).getD k true=false→
     (∀e∈ok.after,Region.binds .any e=true→e.on≠i)→oi.apart ops ok=true:=fun k ok hk XO Jh sj=>by
    refine T5 k ok hk XO ?_ sj
    by_cases WZ:j=k
    ·subst WZ;exact XN
    ·rw [getD_set_ne true WZ] at Jh;exact Jh
   refine wpOp_mono (fun a' w' h3=>?_) h2;obtain⟨⟨u,hu⟩,U0,h3⟩:=h3;refine⟨?_,ih (listed.setIfInBounds j true) a' w' ?_ (dM.add hj) UZ (ready_mono hr (akk Ox)) ?_ ?_⟩
   ·intro k hk XP o ho d hd hyk
    have hko:=hD k hk o ho;obtain⟨k1,k2⟩:=Cd hko;have jZ:bC (a.put oi.dst v) d=bC a d:=by
     cases CV:oi.dst with
     |none=>rfl
     |some di=>
      have cQ:di≠d:=fun e=>k2 di CV (by rw [hd,e])
      simp [bC,Act.put,amN cQ]
    have:=U0 k (R2 k hk) XP o ho d hd;rw [jZ,cX.put (Jg k o · · ho) k1,cX.put (Jg k o · · ho) k1] at this;exact this hyk
   ·intro d hd
    rw [hu];have:=qm d hd
    cases oj.dst<;>simpa [Act.put] using this
   ·rcases hy with ⟨W0,cQ,hy⟩ | ⟨W0,hy⟩
    ·refine .inl ⟨W0,cQ,?_⟩
     obtain⟨d,hd⟩:=Option.ne_none_iff_exists'.1 cQ;have jZ:bC (a.put oi.dst v) d=v:=by
      have:=qm d hd
      simp [bC,Act.put,hd,this]
     have:=U0 i (by rw [W0];simp) aao oi hi d hd;rw [jZ,cX.put (Jg i oi · · hi) CU,cX.put (Jg i oi · · hi) CU] at this;have h4:= (cX.put (u:=u) (dst:=oj.dst) (Jg i oi · · hi) (fun d hd=>g3 d hd)).2 (this hy);exact h4.Li hu
    ·refine .inr ⟨W0,fun w2=>?_⟩
     have h4:= (cX.put (u:=u) (dst:=oj.dst) (Jg i oi · · hi) (fun d hd=>g3 d hd)).2 (hy w2);exact h4.Li hu
   ·rw [Array.setIfInBounds_comm _ _ Ox]
    exact h3
end
end
section
structure Ok (n:Nat) (a:Act):Prop where
 size:a.tmps.size=n
 defers:a.defers= []
theorem Ok.put {n:Nat} {a:Act} (h:Ok n a) (dst:Option Tmp) (v:Value):Ok n (a.put dst v):=by
 cases dst with
 |none=>exact h
 |some d=>exact⟨by simpa [Act.put] using h.size,h.defers⟩
structure U1 where
 n:Nat
 O9:List Nat→Nat→Bool
 XQ:List Nat→List Nat→Bool
 O_:List Nat→Nat→List Nat→Bool
section
variable (P:Program) (ops:Array Oper)
def Quiet (i:Nat) (v:Value) (a:Act) (w:World):Prop:= ∃o,ops[i]? =some o∧
 ((Region.wanted o (yielded ops a.tmps)=true∧((cls P o.op=0∧∀w',(execOp a.eval o).run P w' = .ok (.value v) w')∨(cls P o.op=1∧∀w',w'.heap=w.heap→(execOp a.eval o).run P w' = .ok (.value v) w')))∨
  (Region.wanted o (yielded ops a.tmps)=false∧v=undef))
def Pa (st:List Nat) (a:Act) (w' :World):Prop:= ∀k∈st,∀o,ops[k]? =some o→∀d,o.dst=some d→(execOp a.eval o).run P w' = .ok (.value (bC a d)) w'
def Pb [Go.Vc.Mode] (X:List Nat→Act→World→Prop) (done:List Nat) (i:Nat) (st:List Nat) (a:Act) (w:World):Prop:= ∃o,ops[i]? =some o∧Region.wanted o (yielded ops a.tmps)=true∧
 o.wp P a w (fun a' w' => (∃v,a' =a.put o.dst v)∧cq w w' ∧Pa P ops st a w' ∧X (i::done) a' w') (QN fun _ _=>False)
structure Runner [Go.Vc.Mode] (ck:U1) where
 X:List Nat→Act→World→Prop
 quiet: ∀done i a w,Ok ck.n a→ck.O9 done i=true→(∃v o,ops[i]? =some o∧Quiet P ops i v a w∧(∀d,o.dst=some d→d<ck.n)∧X (i::done) (a.put o.dst v) w)→X done a w
 effect: ∀done (hs:List (Nat × List Nat)) a w,Ok ck.n a→ck.XQ done (hs.map (·.1))=true→(∀h∈hs,ck.O_ done h.1 h.2=true∧Pb P ops X done h.1 h.2 a w)→X done a w
end
def xt:nG→List (Nat × List Nat)
 | .op i st _=> [(i,st)]
 | .fork a b=>xt a++xt b
 |_=> []
def zL (cur:Option (Nat × Bool × Nat)) (o:Oper):Bool:=match cur,o.guard with
 |none,none=>true
 |some (c,w,t),some (c',w')=>Nat.beq c c' && (w==w') && (match o.dst with|some d=> !Nat.beq d t|none=>true)
 |_,_=>false
def Lj (n:Nat) (o:Oper):Bool:=match o.dst with
 |some d=>Nat.blt d n
 |none=>true
def uh (ops:List Oper) (c:Nat) (want:Bool):nG→List Nat→Bool
 | .nil,_=>true
 | .op i _ r,sk=>match ops[i]? with
  |some o=>match o.guard with
   |some (g,b)=> (Nat.beq g c && (b==want) ||lV g sk) && uh ops c want r (i::sk)
   |none=>false
  |none=>false
 | .IX _ body p r,sk=>uh ops c want body sk && (match ops[p]? with
  |some o=>match o.guard with
   |some (g,b)=> (Nat.beq g c && (b==want) ||lV g sk)
   |none=>false
  |none=>false) && uh ops c want r sk
 | .fork _ _,_=>false
def D7 (cur:Option (Nat × Bool × Nat)) (l:List Nat):Bool:=match cur with
 |some (_,_,t0)=> !lV t0 l
 |none=>true
def zM (o:Op):Option (Nat × Nat × Bool):=match o with
 | .pick (.tmp t) (.tmp u) (.const (.bool false))=>some (t,u,true)
 | .pick (.tmp t) (.const (.bool true)) (.tmp u)=>some (t,u,false)
 |_=>none
section
variable {P:Program} {ops:Array Oper} {ck:U1}
def lh (P:Program) (ops:Array Oper) (ck:U1):nG→Bool→Option (Nat × Bool × Nat)→List Nat→(List Nat→Bool)→Bool
 | .nil,fl,_,done,k=> !fl && k done
 | .op i st r,fl,cur,done,k=>match ops.toList[i]? with
  |some o=>zL cur o && Lj ck.n o && (match cls P o.op with
    |0|1=> !fl && st.isEmpty && ck.O9 done i
    |_=> (fl||ck.XQ done [i]) && ck.O_ done i st && (cur.isNone||ck.O9 done i)) && lh P ops ck r false cur (i::done) k
  |none=>false
 | .IX c body p r,fl,cur,done,k=>match ops.toList[p]?,ops.toList[c]? with
  |some o,some oc=>match zM o.op with
   |some (t,_,want)=> !fl && zL cur o && Lj ck.n o && (match oc.dst with|some t' =>Nat.beq t t' |none=>false) && !lV t (bG ops.toList body) &&
     D7 cur (bG ops.toList body) && uh ops.toList c want body [] &&
     lh P ops ck body false (some (c,want,t)) done fun d=>ck.O9 d p && lh P ops ck r false cur (p::d) k
   |none=>false
  |_,_=>false
 | .fork a b,fl,cur,done,k=>cur.isNone && (fl||ck.XQ done ((xt a++xt b).map (·.1))) && lh P ops ck a true none done k && lh P ops ck b true none done k
theorem xu {a:Act} {c t:Nat} {b:Bool} {oc:Oper} (hc:ops[c]? =some oc) (hd:oc.dst=some t) (h:bC a t= .bool b):yielded ops a.tmps c=some b:=by
 have:a.tmps[t]? =some (.bool b):=by
  unfold bC at h;rw [akS] at h
  cases hx:a.tmps[t]? with
  |none=>rw [hx] at h;simp [undef] at h
  |some v=>rw [hx] at h;simp at h;rw [h]
 simp [yielded,hc,hd,this]
theorem ui {a:Act} {c:Nat} {oc:Oper} (hc:ops[c]? =some oc) (h: ∀t,oc.dst=some t→bC a t=undef):yielded ops a.tmps c=none:=by
 unfold yielded
 cases hd:oc.dst with
 |none=>simp [hc,hd]
 |some t=>
  have h:=h t hd
  cases hx:a.tmps[t]? with
  |none=>simp [hc,hd,hx]
  |some v=>
   unfold bC at h;rw [akS,hx] at h
   simp at h
   simp [hc,hd,hx,h,undef]
def qF (ops:Array Oper) (cur:Option (Nat × Bool × Nat)) (a:Act):Prop:=match cur with
 |none=>True
 |some (c,want,t)=> (∃oc,ops[c]? =some oc∧oc.dst=some t)∧bC a t= .bool want
theorem lY {cur:Option (Nat × Bool × Nat)} {o:Oper} {a:Act} (hk:zL cur o=true) (hc:qF ops cur a):Region.wanted o (yielded ops a.tmps)=true:=by
 unfold zL at hk;unfold Region.wanted
 split at hk
 ·rename_i h;rw [h]
 ·rename_i c w t c' w' h
  rw [h];simp only [aja,beq_iff_eq] at hk;obtain⟨⟨h1,h2⟩,_⟩:=hk;have h1:=ajG h1;subst h1;subst h2;obtain⟨⟨oc,h1,h2⟩,h3⟩:=hc
  simp [xu h1 h2 h3]
 ·cases hk
theorem gM {n:Nat} {a:Act} {dst:Option Tmp} {v:Value} {s:Nat} (ha:Ok n a) (hd: ∀d,dst=some d→d<n) (hs: ∀d,dst=some d→d≠s):bC (a.put dst v) s=bC a s:=by
 rw [jI (fun d h=>by rw [ha.size];exact hd d h)]
 cases dst with
 |none=>rfl
 |some d=>
  have:Nat.beq s d=false:=by cases h:Nat.beq s d with|false=>rfl|true=>exact absurd (ajG h).symm (hs d rfl)
  simp [Env.put,Env.RY,this]
theorem qF.put {n:Nat} {cur:Option (Nat × Bool × Nat)} {o:Oper} {a:Act} {v:Value} (h:qF ops cur a) (hk:zL cur o=true) (ha:Ok n a) (hd: ∀d,o.dst=some d→d<n):qF ops cur (a.put o.dst v):=by
 cases cur with
 |none=>trivial
 |some c=>
  obtain⟨c,w,t⟩:=c;refine⟨h.1,?_⟩;have h2:=h.2;rw [gM ha hd ?_]
  ·exact h2
  ·intro d Ml he
   subst he;unfold zL at hk
   split at hk
   ·rename_i h0 _;cases h0
   ·rename_i h0 _
    simp only [ai8,aj8] at h0;obtain⟨rfl,rfl,rfl⟩:=h0;rw [Ml] at hk
    simp at hk
   ·cases hk
theorem mA {n:Nat} {o:Oper} (h:Lj n o=true): ∀d,o.dst=some d→d<n:=by
 intro d hd;unfold Lj at h;rw [hd] at h
 rwa [alj] at h
theorem nZ {n:Nat}: ∀ {l:List Nat},lV n l=true↔n∈l
 | []=>by simp [lV]
 |m::r=>by
  simp only [lV,ajd]
  cases h:Nat.beq n m with
  |true=>simp [ajG h]
  |false=>
   have:n≠m:=fun e=>by subst e;simp at h
   simp [this,nZ]
theorem pr {n:Nat} {l:List Nat}:lV n l=false↔n∉l:=by
 rw [←nZ];simp
def fm (l:List Nat) (a a' :Act):Prop:= ∀t,t∉l→bC a' t=bC a t
theorem fm.refl (l:List Nat) (a:Act):fm l a a:=fun _ _=>rfl
theorem fm.trans {l l' :List Nat} {a b c:Act} (h:fm l a b) (k:fm l' b c):fm (l++l') a c:=fun t ht=>by
 rw [ajo,not_or] at ht;rw [k t ht.2,h t ht.1]
theorem fm.mono {l l' :List Nat} {a b:Act} (h:fm l a b) (hl: ∀t∈l,t∈l'):fm l' a b:=fun t ht=>h t (fun hm=>ht (hl t hm))
theorem fm.put {n:Nat} {a:Act} {dst:Option Tmp} {v:Value} {l:List Nat} (ha:Ok n a) (hd: ∀d,dst=some d→d<n) (hl: ∀d,dst=some d→d∈l):fm l a (a.put dst v):=fun t ht=>
 gM ha hd (fun d hd e=>ht (by rw [←e];exact hl d hd))
theorem vU {i:Nat} {o:Oper} (h:ops.toList[i]? =some o):ops[i]? =some o:=by simpa using h
theorem Ji [Go.Vc.Mode] {R:Runner P ops ck} {c t:Nat} {want:Bool} {oc:Oper} (hc:ops[c]? =some oc) (hoc:oc.dst=some t):
  ∀ (p:nG) (sk:List Nat) (cur:Option (Nat × Bool × Nat)) (done:List Nat) (k:List Nat→Bool) (a:Act) (w:World),uh ops.toList c want p sk=true→lh P ops ck p false cur done k=true→cur≠none→t∉bG ops.toList p→
   Ok ck.n a→bC a t= .bool (!want)→(∀g∈sk,∃og,ops[g]? =some og∧∀d,og.dst=some d→bC a d=undef)→
   (∀eH a',k eH =true→Ok ck.n a' →fm (bG ops.toList p) a a' →(∀g∈sk,∃og,ops[g]? =some og∧∀d,og.dst=some d→bC a' d=undef)→R.X eH a' w)→R.X done a w:=by
 have unw: ∀ (o:Oper) (sk:List Nat) (a:Act),(match o.guard with
   |some (g,b)=> (Nat.beq g c && (b==want) ||lV g sk)
   |none=>false)=true→bC a t= .bool (!want)→(∀g∈sk,∃og,ops[g]? =some og∧∀d,og.dst=some d→bC a d=undef)→Region.wanted o (yielded ops a.tmps)=false:=by
  intro o sk a h ha F7;unfold Region.wanted
  split at h
  ·rename_i g b hg
   rw [hg];simp only [akf,aja,beq_iff_eq] at h;rcases h with ⟨h1,h2⟩ |h
   ·have h1:=ajG h1
    subst h1;subst h2;simp only [xu hc hoc ha]
    cases b<;>rfl
   ·obtain⟨og,h1,h2⟩:=F7 g (nZ.1 h)
    simp only [ui h1 h2]
    rfl
  ·cases h
 intro p
 induction p with
 |nil=>
  intro sk cur done k a w hs hk n3 ht ha jZ F7 hX;simp only [lh,aku,Bool.true_and] at hk;exact hX done a hk ha (fm.refl _ _) F7
 |op i st r ih=>
  intro sk cur done k a w hs hk n3 ht ha jZ F7 hX;simp only [uh] at hs;simp only [lh] at hk
  cases ho:ops.toList[i]? with
  |none=>rw [ho] at hs;cases hs
  |some o=>
   rw [ho] at hs hk;simp only [aja] at hk;obtain⟨⟨⟨zN,cL⟩,dM⟩,SA⟩:=hk;have cL:=mA cL;have hq:ck.O9 done i=true:=by
    split at dM
    ·simp only [aja] at dM;exact dM.2
    ·simp only [aja] at dM;exact dM.2
    ·simp only [aja,akf] at dM
     rcases dM.2 with h|h
     ·cases cur with
      |none=>exact absurd rfl n3
      |some _=>simp at h
     ·exact h
   have hg: (match o.guard with
     |some (g,b)=> (Nat.beq g c && (b==want) ||lV g sk)
     |none=>false)=true∧uh ops.toList c want r (i::sk)=true:=by
    simp only at hs
    cases W7:o.guard with
    |none=>rw [W7] at hs;cases hs
    |some gb=>
     rw [W7] at hs;simp only [aja] at hs;exact hs
   have sX: ∀d,o.dst=some d→d∈bG ops.toList (.op i st r):=by
    intro d hd;simp [bG,ho,hd]
   have Ce: ∀d∈bG ops.toList r,d∈bG ops.toList (.op i st r):=by
    intro d hd;simp only [bG,ho]
    cases o.dst<;>simp [hd]
   have XR : ∀d,o.dst=some d→d≠t:=fun d hd e=>ht (by rw [←e];exact sX d hd);refine R.quiet done i a w ha hq ⟨undef,o,vU ho,⟨o,vU ho,.inr ⟨unw o sk a hg.1 jZ F7,rfl⟩⟩,cL,?_⟩;have aap : ∀g∈i::sk,∃og,ops[g]? =some og∧∀d,og.dst=some d→bC (a.put o.dst undef) d=undef:=by
    intro g U2;have key: ∀d,bC a d=undef→bC (a.put o.dst undef) d=undef:=by
     intro d hd
     by_cases Ml:o.dst=some d
     ·rw [jI (fun d h=>by rw [ha.size];exact cL d h),Ml]
      simp [Env.put,Env.RY]
     ·rw [gM ha cL (fun d' h e=>Ml (by rw [h,e]))];exact hd
    rcases ajd.1 U2 with rfl|U2
    ·refine⟨o,vU ho,fun d hd=>?_⟩
     rw [jI (fun d h=>by rw [ha.size];exact cL d h),hd]
     simp [Env.put,Env.RY]
    ·obtain⟨og,h1,h2⟩:=F7 g U2
     exact⟨og,h1,fun d hd=>key d (h2 d hd)⟩
   refine ih (i::sk) cur (i::done) k _ w hg.2 SA n3 (fun h=>ht (Ce t h)) (ha.put _ _) (by rw [gM ha cL XR];exact jZ) aap ?_;intro eH a' Lk vQ uj XS;refine hX eH a' Lk vQ ?_ (fun g U2=>XS g (aiW _ U2));exact((fm.put ha cL sX).trans (uj.mono Ce)).mono (by simp)
 |IX c' body p r XT XU=>
  intro sk cur done k a w hs hk n3 ht ha jZ F7 hX;simp only [uh,aja] at hs;obtain⟨⟨hsb,zO⟩,Zy⟩:=hs;simp only [lh] at hk
  cases yU:ops.toList[p]? with
  |none=>rw [yU] at hk;cases hk
  |some op=>
   cases Jj :ops.toList[c']? with
   |none=>rw [yU,Jj] at hk;cases hk
   |some oc' =>
    rw [yU,Jj] at hk;simp only at hk
    cases D8:zM op.op with
    |none=>rw [D8] at hk;cases hk
    |some q=>
     obtain⟨t',u',XV⟩:=q;rw [D8] at hk;simp only [aja] at hk;obtain⟨⟨⟨⟨⟨⟨⟨_,zN⟩,cL⟩,SB⟩,Jk⟩,T7⟩,XW⟩,Zz⟩:=hk;have cL:=mA cL;rw [yU] at zO;have F8: ∀d∈bG ops.toList body,d∈bG ops.toList (.IX c' body p r):=fun d hd=>by simp [bG,hd]
     have Ll: ∀d∈bG ops.toList r,d∈bG ops.toList (.IX c' body p r):=fun d hd=>by
      simp only [bG,yU];cases op.dst<;>simp [hd]
     have sX: ∀d,op.dst=some d→d∈bG ops.toList (.IX c' body p r):=fun d hd=>by simp [bG,yU,hd]
     have XR : ∀d,op.dst=some d→d≠t:=fun d hd e=>ht (by rw [←e];exact sX d hd);refine XT sk (some (c',XV,t')) done _ a w hsb Zz (by simp) (fun h=>ht (F8 t h)) ha jZ F7 ?_;intro gq a1 mB nQ ja XX;simp only [aja] at mB;have Mm:bC a1 t= .bool (!want):=by rw [ja t (fun h=>ht (F8 t h))];exact jZ
     refine R.quiet gq p a1 w nQ mB.1 ⟨undef,op,vU yU,⟨op,vU yU,.inr ⟨unw op sk a1 zO Mm XX,rfl⟩⟩,cL,?_⟩;have aar: ∀g∈sk,∃og,ops[g]? =some og∧∀d,og.dst=some d→bC (a1.put op.dst undef) d=undef:=by
      intro g U2;obtain⟨og,h1,h2⟩:=XX g U2;refine⟨og,h1,fun d hd=>?_⟩
      by_cases Ml:op.dst=some d
      ·rw [jI (fun d h=>by rw [nQ.size];exact cL d h),Ml]
       simp [Env.put,Env.RY]
      ·rw [gM nQ cL (fun d' h e=>Ml (by rw [h,e]))];exact h2 d hd
     refine XU sk cur (p::gq) k _ w Zy mB.2 n3 (fun h=>ht (Ll t h)) (nQ.put _ _) (by rw [gM nQ cL XR];exact Mm) aar ?_;intro eH a' Lk vQ uj aas;refine hX eH a' Lk vQ ?_ aas;exact((ja.mono F8).trans ((fm.put nQ cL sX).trans (uj.mono Ll))).mono (by simp)
 |fork a b _ _=>
  intro sk cur done k a w hs
  simp [uh] at hs
theorem F9 [Go.Vc.Mode] {K:Value→ag→Prop} {o:Oper} {a:Act} {w:World} {F:Act→World→Prop} (h:after P K w ((execOp a.eval o).run P w)) (hF: ∀v w',cq w w' →K v w'.heap→F (a.put o.dst v) w'):
  o.wp P a w F (QN fun _ _=>False):=by
 unfold Oper.wp;generalize (execOp a.eval o).run P w=r at h
 cases r with
 |ok n w' =>
  cases n<;>simp only [after] at h
  case value v=>exact hF v w' h.1 h.2
  case skip=>exact hF undef w' h.1 h.2
  case enter f args=>
   refine(h.2 w' rfl).mono fun e Cc he=>?_;obtain⟨v,rfl,hr,hk⟩:=he;exact hF v Cc (h.1.trans hr) hk
 |halt x w' =>simp only [after] at h
theorem zP {ρ:Env} {H:ag} {X:Prop}: ∀ {st:List Nat},Lb P ops.toList ρ H X st→(∀k∈st,DU P ops.toList ρ H k)∧X
 | [],h=> ⟨by simp,h⟩
 |k::r,h=>by
  obtain⟨h1,h2⟩:=h;obtain⟨h3,h4⟩:=zP h2;exact⟨fun j hj=>by rcases ajd.1 hj with rfl|hj;exact h1;exact h3 j hj,h4⟩
theorem Mn {a:Act} {w' :World} {st:List Nat} (h: ∀k∈st,DU P ops.toList (bC a) w'.heap k):Pa P ops st a w' :=by
 intro k hk o ho d hd;have hr:=h k hk;unfold DU at hr;rw [show ops.toList[k]? =some o by simpa using ho] at hr;simp only [hd] at hr;obtain⟨dst,op,ty,pos,af,g⟩:=o;obtain⟨v,eB,rfl⟩:=rM (dst:=dst) (ty:=ty) (pos:=pos) (af:=af) (g:=g) hr;rw [lX];exact eB w' rfl
variable {C:List Nat}
def zQ [Go.Vc.Mode] (P:Program) (ops:Array Oper) (C:List Nat) (ck:U1) (R:Runner P ops ck) (p:nG):Prop:=
 ∀ (cur:Option (Nat × Bool × Nat)) (done:List Nat) (k:List Nat→Bool) (K:Env→ag→Prop) (a:Act) (w:World),lh P ops ck p false cur done k=true→Ok ck.n a→qF ops cur a→
  CM P C ops.toList p (bC a) w.heap K→(∀eH a' w',k eH =true→Ok ck.n a' →fm (bG ops.toList p) a a' →cq w w' →qF ops cur a' →K (bC a') w'.heap→R.X eH a' w')→R.X done a w
def T8 [Go.Vc.Mode] (P:Program) (ops:Array Oper) (C:List Nat) (ck:U1) (R:Runner P ops ck) (p:nG):Prop:=
 ∀ (done:List Nat) (k:List Nat→Bool) (K:Env→ag→Prop) (a:Act) (w:World),lh P ops ck p true none done k=true→Ok ck.n a→
  CM P C ops.toList p (bC a) w.heap K→(∀eH a' w',k eH =true→Ok ck.n a' →fm (bG ops.toList p) a a' →cq w w' →K (bC a') w'.heap→R.X eH a' w')→
  ∀h∈xt p,ck.O_ done h.1 h.2=true∧Pb P ops R.X done h.1 h.2 a w
theorem zR [Go.Vc.Mode] (hC:iI P C) {R:Runner P ops ck} {i:Nat} {st:List Nat} {r:nG} (ih:zQ P ops C ck R r) {o:Oper} (ho:ops.toList[i]? =some o) (SC:cls P o.op≠0∧cls P o.op≠1)
  {cur:Option (Nat × Bool × Nat)} {done:List Nat} {k:List Nat→Bool} {K:Env→ag→Prop} {a:Act} {w:World} (zN:zL cur o=true) (cL: ∀d,o.dst=some d→d<ck.n) (SA:lh P ops ck r false cur (i::done) k=true) (ha:Ok ck.n a) (n3:qF ops cur a)
  (hv:CM P C ops.toList (.op i st r) (bC a) w.heap K) (hX: ∀eH a' w',k eH =true→Ok ck.n a' →fm (bG ops.toList (.op i st r)) a a' →cq w w' →qF ops cur a' →K (bC a') w'.heap→R.X eH a' w'):
  Pb P ops R.X done i st a w:=by
 simp only [CM,ho] at hv;have hE: ∀w1:World,w1.heap=w.heap→after P (fun v H' =>Lb P ops.toList (bC a) H' (CM P C ops.toList r ((bC a).put o.dst v) H' K) st) w1 ((execOp (ev (bC a)) o).run P w1):=by
  unfold Si at hv;obtain⟨dst,op,ty,pos,af,g⟩:=o
  split at hv
  ·rename_i h0;exact absurd h0 SC.1
  ·rename_i h1;exact absurd h1 SC.2
  ·exact vT hC hv
 refine⟨o,vU ho,lY zN n3,F9 (by rw [lX];exact hE w rfl) fun v w' hr hk=>?_⟩;obtain⟨h1,h2⟩:=zP hk;refine⟨⟨v,rfl⟩,hr,Mn h1,?_⟩;have sX: ∀d,o.dst=some d→d∈bG ops.toList (.op i st r):=by intro d hd;simp [bG,ho,hd]
 have Ce: ∀d∈bG ops.toList r,d∈bG ops.toList (.op i st r):=by
  intro d hd;simp only [bG,ho];cases o.dst<;>simp [hd]
 refine ih cur (i::done) k K _ w' SA (ha.put _ _) (n3.put zN ha cL) (by rw [jI (fun d h=>by rw [ha.size];exact cL d h)];exact h2) ?_;intro eH a' Cc Lk vQ uj SD XY hK;exact hX eH a' Cc Lk vQ (((fm.put ha cL sX).trans (uj.mono Ce)).mono (by simp)) (hr.trans SD) XY hK
theorem SE [Go.Vc.Mode] (hC:iI P C) {R:Runner P ops ck} {i:Nat} {st:List Nat} {r:nG} (ih:zQ P ops C ck R r):zQ P ops C ck R (.op i st r):=by
 intro cur done k K a w hk ha n3 hv hX;simp only [lh] at hk
 cases ho:ops.toList[i]? with
 |none=>rw [ho] at hk;cases hk
 |some o=>
  rw [ho] at hk;simp only [aja] at hk;obtain⟨⟨⟨zN,cL⟩,dM⟩,SA⟩:=hk;have cL:=mA cL;have sX: ∀d,o.dst=some d→d∈bG ops.toList (.op i st r):=by intro d hd;simp [bG,ho,hd]
  have Ce: ∀d∈bG ops.toList r,d∈bG ops.toList (.op i st r):=by
   intro d hd;simp only [bG,ho];cases o.dst<;>simp [hd]
  have quiet: ∀v,st= []→ck.O9 done i=true→Quiet P ops i v a w→CM P C ops.toList r ((bC a).put o.dst v) w.heap K→R.X done a w:=by
   intro v _ hq XZ hvr;refine R.quiet done i a w ha hq ⟨v,o,vU ho,XZ,cL,?_⟩;refine ih cur (i::done) k K _ w SA (ha.put _ _) (n3.put zN ha cL) (by rw [jI (fun d h=>by rw [ha.size];exact cL d h)];exact hvr) ?_;intro eH a' Cc Lk vQ uj SD XY hK;exact hX eH a' Cc Lk vQ (((fm.put ha cL sX).trans (uj.mono Ce)).mono (by simp)) SD XY hK
  have lQ :=hv;simp only [CM,ho,Si] at hv
  by_cases h0:cls P o.op=0
  ·rw [h0] at dM hv
   simp only [aja] at dM;have c_:st= []:=by simpa using dM.1.2
   subst c_;obtain⟨dst,op,ty,pos,af,g⟩:=o;obtain⟨v,eB,CR⟩:=vP (dst:=dst) (ty:=ty) (pos:=pos) (af:=af) (g:=g) hv;exact quiet v rfl dM.2 ⟨_,vU ho,.inl ⟨lY zN n3,.inl ⟨h0,by rw [lX];exact eB⟩⟩⟩ CR
  ·by_cases h1:cls P o.op=1
   ·rw [h1] at dM hv
    simp only [aja] at dM;have c_:st= []:=by simpa using dM.1.2
    subst c_;obtain⟨dst,op,ty,pos,af,g⟩:=o;obtain⟨v,eB,CR⟩:=rM (dst:=dst) (ty:=ty) (pos:=pos) (af:=af) (g:=g) hv;exact quiet v rfl dM.2 ⟨_,vU ho,.inl ⟨lY zN n3,.inr ⟨h1,by rw [lX];exact eB⟩⟩⟩ CR
   ·split at dM
    ·rename_i h;exact absurd h h0
    ·rename_i h;exact absurd h h1
    ·simp only [aja,alk] at dM
     refine R.effect done [(i,st)] a w ha (by simpa using dM.1.1) ?_;intro h hm;simp only [ajE] at hm;subst hm;exact⟨dM.1.2,zR hC ih ho ⟨h0,h1⟩ zN cL SA ha n3 lQ hX⟩
theorem zS {o:Op} {t u:Nat} {want:Bool} (h:zM o=some (t,u,want)): (o= .pick (.tmp t) (.tmp u) (.const (.bool false))∧want=true)∨(o= .pick (.tmp t) (.const (.bool true)) (.tmp u)∧want=false):=by
 unfold zM at h
 split at h
 ·simp only [ai8,aj8] at h
  obtain⟨rfl,rfl,rfl⟩:=h;exact .inl ⟨rfl,rfl⟩
 ·simp only [ai8,aj8] at h
  obtain⟨rfl,rfl,rfl⟩:=h;exact .inr ⟨rfl,rfl⟩
 ·cases h
theorem qG {l:List Nat} {a a' :Act} (h:fm l a a'): (bC a).mix (bC a') l=bC a' :=by
 funext s
 simp only [Env.mix]
 cases hm:lV s l with
 |true=>rfl
 |false=>exact(h s (pr.1 hm)).symm
theorem qF.same {cur:Option (Nat × Bool × Nat)} {l:List Nat} {a a' :Act} (h:qF ops cur a) (hs:fm l a a') (hc:D7 cur l=true):qF ops cur a' :=by
 cases cur with
 |none=>trivial
 |some c=>
  obtain⟨c,w,t⟩:=c;refine⟨h.1,?_⟩;simp only [D7,akC] at hc;rw [hs t (pr.1 hc)];exact h.2
theorem Pc [Go.Vc.Mode] {R:Runner P ops ck} {c p:Nat} {body r:nG} (XT:zQ P ops C ck R body) (XU:zQ P ops C ck R r):zQ P ops C ck R (.IX c body p r):=by
 intro cur done k K a w hk ha n3 hv hX;simp only [lh] at hk
 cases yU:ops.toList[p]? with
 |none=>rw [yU] at hk;cases hk
 |some op=>
  cases Jj :ops.toList[c]? with
  |none=>rw [yU,Jj] at hk;cases hk
  |some oc=>
   rw [yU,Jj] at hk;simp only at hk
   cases D8:zM op.op with
   |none=>rw [D8] at hk;cases hk
   |some q=>
    obtain⟨t,u,want⟩:=q;rw [D8] at hk;simp only [aja] at hk;obtain⟨⟨⟨⟨⟨⟨⟨_,zN⟩,cL⟩,SB⟩,Jk⟩,T7⟩,XW⟩,Zz⟩:=hk;have cL:=mA cL;have X0:oc.dst=some t:=by
     split at SB
     ·rename_i t' h;rw [h,ajG SB]
     ·cases SB
    have Jk:t∉bG ops.toList body:=pr.1 (by simpa using Jk);have F8: ∀d∈bG ops.toList body,d∈bG ops.toList (.IX c body p r):=fun d hd=>by simp [bG,hd]
    have Ll: ∀d∈bG ops.toList r,d∈bG ops.toList (.IX c body p r):=fun d hd=>by
     simp only [bG,yU];cases op.dst<;>simp [hd]
    have sX: ∀d,op.dst=some d→d∈bG ops.toList (.IX c body p r):=fun d hd=>by simp [bG,yU,hd]
    have rest: ∀ (v:Value) (gq:List Nat) (a1:Act) (w1:World),(ck.O9 gq p && lh P ops ck r false cur (p::gq) k)=true→Ok ck.n a1→fm (bG ops.toList body) a a1→cq w w1→
      (∀w',(execOp a1.eval op).run P w' = .ok (.value v) w')→(∀qB:Env,CM P C ops.toList r (((bC a).mix qB (bG ops.toList body)).put op.dst v) w1.heap K)→R.X gq a1 w1:=by
     intro v gq a1 w1 mB nQ ja yj eB hvr;simp only [aja] at mB;have T9:=n3.same ja T7;have SC:cls P op.op=0:=by rcases zS D8 with ⟨h,_⟩ | ⟨h,_⟩<;>rw [h]<;>rfl
     refine R.quiet gq p a1 w1 nQ mB.1 ⟨v,op,vU yU,⟨op,vU yU,.inl ⟨lY zN T9,.inl ⟨SC,eB⟩⟩⟩,cL,?_⟩;have X1:=hvr (bC a1);rw [qG ja] at X1;refine XU cur (p::gq) k K _ w1 mB.2 (nQ.put _ _) (T9.put zN nQ cL) (by rw [jI (fun d h=>by rw [nQ.size];exact cL d h)];exact X1) ?_;intro eH a' Cc Lk vQ uj SD XY hK;exact hX eH a' Cc Lk vQ (((ja.mono F8).trans ((fm.put nQ cL sX).trans (uj.mono Ll))).mono (by simp)) (yj.trans SD) XY hK
    have Lm:bC a t= .bool (!want)→(∀gq a1,(ck.O9 gq p && lh P ops ck r false cur (p::gq) k)=true→Ok ck.n a1→fm (bG ops.toList body) a a1→R.X gq a1 w)→R.X done a w:=by
     intro jZ h;exact Ji (vU Jj) X0 body [] (some (c,want,t)) done _ a w XW Zz (by simp) Jk ha jZ (by simp) (fun eH a' h1 h2 h3 _=>h eH a' h1 h2 h3)
    have T_: ∀ (J:Value→ag→Prop),bC a t= .bool want→CM P C ops.toList body (bC a) w.heap (fun ρ' H' =>J (ρ' u) H')→
      (∀gq a1 w1,(ck.O9 gq p && lh P ops ck r false cur (p::gq) k)=true→Ok ck.n a1→fm (bG ops.toList body) a a1→cq w w1→bC a1 t= .bool want→J (bC a1 u) w1.heap→R.X gq a1 w1)→R.X done a w:=by
     intro J jZ hb h;exact XT (some (c,want,t)) done _ _ a w Zz ha ⟨⟨oc,vU Jj,X0⟩,jZ⟩ hb (fun gq a1 w1 h1 h2 h3 h4 h5 h6=>h gq a1 w1 h1 h2 h3 h4 h5.2 h6)
    simp only [CM,yU] at hv;rcases zS D8 with ⟨zT,rfl⟩ | ⟨zT,rfl⟩
    ·rw [zT] at hv
     simp only at hv
     cases jZ:bC a t<;>rw [jZ] at hv<;>simp only [bE] at hv
     rename_i b
     obtain⟨J,hJ,h0,h1⟩:=hv;have runs: ∀ (a1:Act) (bb:Bool),bC a1 t= .bool bb→∀w',(execOp a1.eval op).run P w' = .ok (.value (if bb then bC a1 u else .bool false)) w' :=by
      intro a1 bb hbb w';obtain⟨dst,o,ty,pos,af,g⟩:=op;simp only at zT;subst zT;rw [lX];have:ev (bC a1) (.tmp t)= .bool bb:=hbb
      cases bb<;>simp [execOp,this,asBool]<;>rfl
     cases b with
     |false=>
      refine Lm jZ fun gq a1 mB nQ ja=>?_;refine rest (.bool false) gq a1 w mB nQ ja (cq.refl w) ?_ (hJ _ _ (h0 rfl));have:=runs a1 false (by rw [ja t Jk];exact jZ)
      simpa using this
     |true=>
      refine T_ J jZ (h1 rfl) fun gq a1 w1 mB nQ ja yj Mm hj=>?_;refine rest (bC a1 u) gq a1 w1 mB nQ ja yj ?_ (hJ _ _ hj);have:=runs a1 true Mm
      simpa using this
    ·rw [zT] at hv
     simp only at hv
     cases jZ:bC a t<;>rw [jZ] at hv<;>simp only [ej] at hv
     rename_i b
     obtain⟨J,hJ,h0,h1⟩:=hv;have runs: ∀ (a1:Act) (bb:Bool),bC a1 t= .bool bb→∀w',(execOp a1.eval op).run P w' = .ok (.value (if bb then .bool true else bC a1 u)) w' :=by
      intro a1 bb hbb w';obtain⟨dst,o,ty,pos,af,g⟩:=op;simp only at zT;subst zT;rw [lX];have:ev (bC a1) (.tmp t)= .bool bb:=hbb
      cases bb<;>simp [execOp,this,asBool]<;>rfl
     cases b with
     |true=>
      refine Lm jZ fun gq a1 mB nQ ja=>?_;refine rest (.bool true) gq a1 w mB nQ ja (cq.refl w) ?_ (hJ _ _ (h0 rfl));have:=runs a1 true (by rw [ja t Jk];exact jZ)
      simpa using this
     |false=>
      refine T_ J jZ (h1 rfl) fun gq a1 w1 mB nQ ja yj Mm hj=>?_;refine rest (bC a1 u) gq a1 w1 mB nQ ja yj ?_ (hJ _ _ hj);have:=runs a1 false Mm
      simpa using this
theorem F_ [Go.Vc.Mode] (hC:iI P C) {R:Runner P ops ck}: ∀p,zQ P ops C ck R p∧T8 P ops C ck R p:=by
 intro p
 induction p with
 |nil=>
  refine⟨?_,?_⟩
  ·intro cur done k K a w hk ha n3 hv hX
   simp only [lh,aku,Bool.true_and] at hk;exact hX done a w hk ha (fm.refl _ _) (cq.refl w) n3 hv
  ·intro done k K a w hk
   simp [lh] at hk
 |op i st r ih=>
  refine⟨SE hC ih.1,?_⟩;intro done k K a w hk ha hv hX h hm;simp only [xt,ajE] at hm;subst hm;simp only [lh] at hk
  cases ho:ops.toList[i]? with
  |none=>rw [ho] at hk;cases hk
  |some o=>
   rw [ho] at hk;simp only [aja] at hk;obtain⟨⟨⟨zN,cL⟩,dM⟩,SA⟩:=hk
   split at dM
   ·simp at dM
   ·simp at dM
   ·rename_i h0 h1
    simp only [aja] at dM;exact⟨dM.1.2,zR hC ih.1 ho ⟨h0,h1⟩ zN (mA cL) SA ha trivial hv (fun eH a' w' g1 g2 g0 g3 _ g4=>hX eH a' w' g1 g2 g0 g3 g4)⟩
 |IX c body p r XT XU=>
  refine⟨Pc XT.1 XU.1,?_⟩;intro done k K a w hk;simp only [lh] at hk
  split at hk
  ·split at hk
   ·simp at hk
   ·cases hk
  ·cases hk
 |fork p q ihp ihq=>
  have hB:T8 P ops C ck R (.fork p q):=by
   intro done k K a w hk ha hv hX h hm;simp only [lh,aja] at hk;obtain⟨⟨_,ZA⟩,hkq⟩:=hk;simp only [CM] at hv;rcases ajo.1 hm with hm|hm
   ·exact ihp.2 done k K a w ZA ha hv.1 (fun eH a' w' g1 g2 g0=>hX eH a' w' g1 g2 (g0.mono (by intro t ht;simp [bG,ht]))) h hm
   ·exact ihq.2 done k K a w hkq ha hv.2 (fun eH a' w' g1 g2 g0=>hX eH a' w' g1 g2 (g0.mono (by intro t ht;simp [bG,ht]))) h hm
  refine⟨?_,hB⟩;intro cur done k K a w hk ha n3 hv hX;simp only [lh,aja,alk] at hk;obtain⟨⟨⟨hn,he⟩,ZA⟩,hkq⟩:=hk;have hn:cur=none:=by cases cur with|none=>rfl|some _=>simp at hn
  subst hn;refine R.effect done (xt p++xt q) a w ha he ?_;intro h hm;exact hB done k K a w (by simp [lh,ZA,hkq]) ha hv (fun eH a' w' g1 g2 g0 g3 g4=>hX eH a' w' g1 g2 g0 g3 trivial g4) h hm
end
end
section
section
variable {P:Program} {ops:Array Oper} {N:Act→World→Prop}
theorem Pe {o:Oper} {a:Act} {w:World} {F:Act→World→Prop} {N0 N1:Act→World→Prop} (h:o.wp P a w F (QN N0)):o.wp P a w F (QN N1):=by
 unfold Oper.wp at*;generalize (execOp a.eval o).run P w=r at*
 cases r with
 |ok n w' =>
  cases n<;>simp only [Oper.upon] at h ⊢ <;>first|exact h|skip
 |halt x w' =>cases x<;>simp only [Oper.upon] at h ⊢ <;>exact h
theorem Quiet.Pf {i:Nat} {v:Value} {a:Act} {w:World} {o:Oper} (ho:ops[i]? =some o) (h:Quiet P ops i v a w):cX P ops o v a w:=by
 obtain⟨o',Jf,h⟩:=h;rw [ho] at Jf;obtain rfl:=ajz Jf;rcases h with ⟨hw,⟨_,h⟩ | ⟨_,h⟩⟩ |h
 ·exact .inl ⟨hw,h w⟩
 ·exact .inl ⟨hw,h w rfl⟩
 ·exact .inr h
def yW (sz n:Nat):U1 where
 n:=n
 O9 done i:=Nat.beq i done.length
 XQ done hs:=match hs with| [i]=>Nat.beq i done.length|_=>false
 O_ _ _ _:=true
theorem zU {n i:Nat} (h:i<n): (List.range n).drop i=i:: (List.range n).drop (i+1):=by
 rw [ajJ (by simpa using h)]
 simp
def Ln [Go.Vc.Mode] (P:Program) (ops:Array Oper) (N:Act→World→Prop) (n:Nat):Runner P ops (yW ops.size n) where
 X done a w:=wpOps P ops (QN N) ((List.range ops.size).drop done.length) a w
 quiet done i a w ha hq h:=by
  obtain⟨v,o,ho,XZ,hd,hx⟩:=h;have hi:i=done.length:=ajG hq;subst hi;have cL:done.length<ops.size:= (akQ.1 ho).1;rw [zU cL,wpOps_cons];exact(XZ.Pf ho).wpOp ho hx
 effect done hs a w ha he h:=by
  cases hs with
  |nil=>simp [yW] at he
  |cons x r=>
   cases r with
   |cons y r=>simp [yW] at he
   |nil=>
    obtain⟨i,st⟩:=x;have hi:i=done.length:=ajG he;subst hi;obtain⟨o,ho,hw,hwp⟩:= (h (done.length,st) (by simp)).2;have cL:done.length<ops.size:= (akQ.1 ho).1;rw [zU cL,wpOps_cons];unfold wpOp;simp only [ho,hw,if_true];exact .inl (Oper.wp_mono (fun a' w' h=>h.2.2.2) (Pe hwp))
def cJ (sz:Nat) (done:List Nat):Array Bool:=done.foldr (fun i l=>l.setIfInBounds i true) (Array.replicate sz false)
def kU (P:Program) (ops:Array Oper) (done:List Nat):List Nat:=done.filter fun i=>match ops[i]? with|some o=>Nat.beq (cls P o.op) 1|none=>false
def CW (ops:Array Oper) (o:Oper):Bool:=match o.dst with|some d=> !(o.looksAt ops).contains d|none=>true
def uk (P:Program) (ops:Array Oper) (Bs:List Nat) (n:Nat):U1 where
 n:=n
 O9 done i:=Nat.blt done.length ops.size && (Region.ready .any ops (cJ ops.size done)).contains i && Region.free .any ops (cJ ops.size done) i && (match ops[i]? with
  |some o=>CW ops o && (o.dst.isSome|| !Nat.beq (cls P o.op) 1) && (kU P ops done).all fun k=>match ops[k]? with|some ok=>ug ops o ok|none=>true
  |none=>false)
 XQ done hs:=Nat.blt done.length ops.size && !hs.isEmpty && (Region.ready .any ops (cJ ops.size done)==hs)
 O_ done j st:= (kU P ops done).all fun k=>UY Bs k j||lV k st
def SF [Go.Vc.Mode] (P:Program) (ops:Array Oper) (N:Act→World→Prop) (Bs:List Nat) (n:Nat) (hB:okB ops.toList Bs=true) (hS:Region.noSelect ops=true):Runner P ops (uk P ops Bs n) where
 X done a w:=pq ops (cJ ops.size done)→UU P ops N (UY Bs) (ops.size - done.length) (cJ ops.size done) (kU P ops done) a w
 quiet done i a w ha hq h:=by
  intro dM;obtain⟨v,o,ho,XZ,hd,hx⟩:=h;simp only [uk,ho,aja] at hq;obtain⟨⟨⟨cL,hr⟩,hf⟩,⟨CU,sX⟩,UW⟩:=hq;have hr:i∈Region.ready .any ops (cJ ops.size done):=by simpa using hr
  rw [alj] at cL;rw [show ops.size - done.length= (ops.size - (i::done).length)+1 by simp;omega];have U3 :=dM.add hr;have hx:=hx U3;refine Mk (D' :=kU P ops (i::done)) ho (Region.noSelect_spec hS) ?_ ?_ ?_ _ _ a w (fun d h=>by rw [ha.size];exact hd d h) dM (Region.free_spec ho hf) hr ?_ hx
  ·intro d h
   unfold CW at CU;rw [h] at CU
   simpa using CU
  ·intro k hk ok kp
   rw [akv] at UW;have:=UW k hk;rw [kp] at this;exact this
  ·intro listed aax j hj hb
   obtain⟨_,oj,UX,iT⟩:=mem_ready.1 hj;refine zJ hB aax (j+1) j i (by omega) hb (fun o2 O7 e he Mj=>?_);rw [UX] at O7;obtain rfl:=ajz O7;exact iT e he Mj
  ·have SG:kU P ops (i::done)=if Nat.beq (cls P o.op) 1=true then i::kU P ops done else kU P ops done:=by
    simp only [kU,alG,ho]
   obtain⟨o',Jf,hqq⟩:=XZ;rw [ho] at Jf;obtain rfl:=ajz Jf
   cases rN:Nat.beq (cls P o.op) 1 with
   |true=>
    rw [rN] at SG sX;refine .inl ⟨by simpa using SG,?_,Quiet.Pf ho ⟨o,ho,hqq⟩⟩;intro hn;rw [hn] at sX
    simp at sX
   |false=>
    rw [rN] at SG;refine .inr ⟨by simpa using SG,fun w' =>?_⟩;rcases hqq with ⟨hw,⟨_,h⟩ | ⟨h1,_⟩⟩ |h
    ·exact .inl ⟨hw,h w'⟩
    ·rw [h1] at rN;simp at rN
    ·exact .inr h
 effect done hs a w ha he h:=by
  intro dM;simp only [uk,aja,beq_iff_eq] at he;obtain⟨⟨cL,cQ⟩,R3⟩:=he;rw [alj] at cL;rw [show ops.size - done.length= (ops.size - (done.length+1))+1 by omega];refine⟨fun h0=>?_,fun j hj=>?_⟩
  ·rw [R3] at h0
   rw [h0] at cQ
   simp at cQ
  ·have I8 :=hj
   rw [R3] at I8;obtain⟨⟨j',st⟩,hm,Oy⟩:=ajw.1 I8;simp only at Oy;subst Oy;obtain⟨c_,o,ho,hw,hwp⟩:=h _ hm;unfold wpOp;simp only [ho,hw,if_true];refine .inl (Oper.wp_mono (fun a' w' h=> ⟨?_,?_⟩) (Pe hwp))
   ·intro k hk hb ok kp d hd hy
    simp only [uk,akv,akf] at c_;rcases c_ k hk with h1|h1
    ·rw [hb] at h1;cases h1
    ·rcases hy with ⟨Lo,_⟩ |hy
     ·exact .inl ⟨Lo,h.2.2.1 k (nZ.1 h1) ok kp d hd⟩
     ·exact .inr hy
   ·have hx:=h.2.2.2 (dM.add hj)
    simp only [ai6] at hx;refine zK (D' :=kU P ops (j' ::done)) ?_ _ _ _ _ hx;intro k hk;rw [kU,List.mem_filter] at hk ⊢;exact⟨aiW _ hk.1,hk.2⟩
theorem n5 {d:Nat}: ∀ {l:List Oper} {i:Nat} {o:Oper},l[i]? =some o→o.dst=some d→d∈j2 l
 | [],i,o,h,_=>by simp at h
 |x::r,0,o,h,hd=>by
  simp only [ajn,ai8] at h;subst h
  simp [j2,hd]
 |x::r,i+1,o,h,hd=>by
  have:=n5 (l:=r) (i:=i) (by simpa using h) hd;simp only [j2]
  cases x.dst<;>simp [this]
theorem fU {l:List Oper} {d:Nat}: ∀ {p:nG},d∈bG l p→d∈j2 l
 | .nil,h=>by simp [bG] at h
 | .op i st r,h=>by
  simp only [bG] at h
  cases ho:l[i]? with
  |none=>rw [ho] at h;exact fU h
  |some o=>
   rw [ho] at h;simp only at h
   cases hd:o.dst with
   |none=>rw [hd] at h;exact fU h
   |some d' =>
    rw [hd] at h;rcases ajd.1 h with rfl|h
    ·exact n5 ho hd
    ·exact fU h
 | .IX c b p r,h=>by
  simp only [bG,ajo] at h;rcases h with h|h
  ·exact fU h
  ·cases ho:l[p]? with
   |none=>rw [ho] at h;exact fU h
   |some o=>
    rw [ho] at h;simp only at h
    cases hd:o.dst with
    |none=>rw [hd] at h;exact fU h
    |some d' =>
     rw [hd] at h;rcases ajd.1 h with rfl|h
     ·exact n5 ho hd
     ·exact fU h
 | .fork a b,h=>by
  simp only [bG,ajo] at h;rcases h with h|h<;>exact fU h
def xv:Code→List Nat
 | .region _ ops _=>j2 ops.toList
 | .seq a b=>xv a++xv b
 | .cond _ a b=>xv a++xv b
 | .block _ a=>xv a
 | .loop a=>xv a
 | .scope a=>xv a
 |_=> []
def Pg:List Nat→List Nat→Bool
 | [],_=>true
 |x::r,l=>lV x l && Pg r l
theorem vV: ∀ {l m:List Nat},Pg l m=true→∀t∈l,t∈m
 | [],_,_,t,ht=>by simp at ht
 |x::r,m,h,t,ht=>by
  simp only [Pg,aja] at h;rcases ajd.1 ht with rfl|ht
  ·exact nZ.1 h.1
  ·exact vV h.2 t ht
theorem n7: ∀ {jk:List Nat} {ρ:Env} {K:Env→Prop},IY jk ρ K→K ρ
 | [],_,_,h=>h
 |t::s,ρ,K,h=>by
  have h:=h (ρ t);have:ρ.RY t (ρ t)=ρ:=by
   funext s
   simp only [Env.RY]
   cases hb:Nat.beq s t with
   |true=>simp [ajG hb]
   |false=>rfl
  rw [this] at h;exact n7 h
def nodupB:List Nat→Bool
 | []=>true
 |x::r=> !lV x r && nodupB r
def U4 [Go.Vc.Mode] (n:Nat) (ops:Array Oper) (Bs:List Nat) (js:List (List Nat)):Bool:=
 nodupB (j2 ops.toList) && ops.toList.zipIdx.all fun (o,i)=>o.guard.isNone && (match o.dst with
  |some d=>Nat.blt d n
  |none=>false) && (o.after.all fun e=> !Region.binds .any e||Nat.blt e.on i) && (match js[i]? with
  |some l=>l.all fun j=>UY Bs j i
  |none=>false)
theorem Ga: ∀ (n:Nat) (l:List Nat),l.Nodup→(∀i∈l,i<n)→l.length≤n
 |0,l,_,h=>by
  cases l with
  |nil=>exact aiZ _
  |cons x r=>exact absurd (h x (by simp)) (by omega)
 |n+1,l,hn,h=>by
  have h1:=Ga n (l.erase n) (hn.erase n) (fun i hi=>by
   have h2:=List.mem_of_mem_erase hi;have h3:=h i h2;have h4:i≠n:=fun e=>by subst e;exact(hn.mem_erase_iff.1 hi).1 rfl
   omega)
  have h2:l.length≤(l.erase n).length+1:=by
   have:=List.length_erase (a:=n) (l:=l)
   split at this<;>omega
  omega
theorem zV: ∀ {l:List Oper} {i j:Nat} {o o' :Oper} {d:Nat},nodupB (j2 l)=true→l[i]? =some o→l[j]? =some o' →o.dst=some d→o'.dst=some d→i=j
 | [],i,j,o,o',d,_,h,_,_,_=>by simp at h
 |x::r,i,j,o,o',d,hn,hi,hj,hd,IJ =>by
  have hr:nodupB (j2 r)=true:=by
   simp only [j2] at hn
   cases hx:x.dst with
   |none=>rw [hx] at hn;exact hn
   |some e=>rw [hx] at hn;simp only [nodupB,aja] at hn;exact hn.2
  have hx: ∀ {k:Nat} {p:Oper},r[k]? =some p→p.dst=some d→x.dst=some d→False:=by
   intro k p hk hp hxd;simp only [j2,hxd,nodupB,aja,akC] at hn;exact(pr.1 hn.1) (n5 hk hp)
  match i,j with
  |0,0=>rfl
  |0,j+1=>
   simp only [ajn,ai8] at hi;subst hi;exact(hx (by simpa using hj) IJ hd).elim
  |i+1,0=>
   simp only [ajn,ai8] at hj;subst hj;exact(hx (by simpa using hi) hd IJ).elim
  |i+1,j+1=>
   have:=zV (i:=i) (j:=j) (d:=d) hr (by simpa using hi) (by simpa using hj) hd IJ;omega
theorem kD {sz:Nat}: ∀ {done:List Nat} {k:Nat},k<sz→((cJ sz done).getD k false=true↔k∈done)
 | [],k,hk=>by
  simp [cJ,hk]
 |i::r,k,hk=>by
  have ih:=kD (sz:=sz) (done:=r) hk;have hz: ∀l:List Nat,(cJ sz l).size=sz:=by
   intro l
   induction l with
   |nil=>simp [cJ]
   |cons x l ih=>simp only [cJ,List.foldr_cons,al2] at ih ⊢;exact ih
  show ((cJ sz r).setIfInBounds i true).getD k false=true↔_
  by_cases hik:i=k
  ·subst hik
   simp [hz,hk]
  ·rw [getD_set_ne false hik,ih]
   simp [akk hik]
theorem Mo [Go.Vc.Mode] {C:List Nat} (hC:iI P C) {o:Oper} {ρ:Env} {H:ag} {K:Value→ag→Prop} (h:Si P ρ C o H K): ∀w:World,w.heap=H→after P K w ((execOp (ev ρ) o).run P w):=by
 intro w hw;obtain⟨dst,op,ty,pos,af,g⟩:=o;unfold Si at h
 split at h
 ·obtain⟨v,hr,hk⟩:=vP (dst:=dst) (ty:=ty) (pos:=pos) (af:=af) (g:=g) h
  rw [hr w];exact⟨cq.refl w,by rw [hw];exact hk⟩
 ·obtain⟨v,hr,hk⟩:=rM (dst:=dst) (ty:=ty) (pos:=pos) (af:=af) (g:=g) h
  rw [hr w hw];exact⟨cq.refl w,by rw [hw];exact hk⟩
 ·exact vT hC h w hw
theorem vW {l:List Oper} {V:Nat→Value→ag→Prop} {ρ:Env} {H:ag} {X:Prop}: ∀ {js:List Nat},Mb l V ρ H X js→(∀j∈js,∀o d,l[j]? =some o→o.dst=some d→V j (ρ d) H)→X
 | [],h,_=>h
 |j::r,h,hv=>by
  simp only [Mb] at h
  split at h
  ·rename_i o ho
   split at h
   ·rename_i d hd
    exact vW (h (hv j (by simp) o d ho hd)) fun k hk=>hv k (by simp [hk])
   ·exact h.elim
  ·exact h.elim
theorem zW [Go.Vc.Mode] {C:List Nat} {l:List Oper} {V:Nat→Value→ag→Prop} {ρ:Env} {H:ag} {X:Prop}: ∀ {i:Nat} {r:List Oper} {js:List (List Nat)},Zx P C l V ρ H X i r js→X∧∀ (k:Nat) (o:Oper),r[k]? =some o→∃d,js[k]? =some d∧
  ∀qB:Env,IY (slotsOf l d) (ρ.mix qB (j2 l)) fun ρ' => ∀H' :ag,Ext H H' →Mb l V ρ' H' (Si P ρ' C o H' fun v OR =>Ext H' OR ∧V (i+k) v OR) d
 |i,o::r,j::t,h=>by
  obtain⟨h1,h2⟩:=h;obtain⟨h3,h4⟩:=zW h2;refine⟨h3,fun k p hk=>?_⟩
  match k with
  |0=>
   simp only [ajn,ai8] at hk;subst hk;exact⟨j,rfl,h1⟩
  |k+1=>
   obtain⟨d,hd,h5⟩:=h4 k p (by simpa using hk);refine⟨d,by simpa using hd,?_⟩;rw [show i+ (k+1)=i+1+k by omega];exact h5
 |_,[],[],h=> ⟨h,by simp⟩
 |_,[],_::_,h=>h.elim
 |_,_::_,[],h=>h.elim
theorem SH [Go.Vc.Mode] {C:List Nat} (hC:iI P C) {ops:Array Oper} {N:Act→World→Prop} {Bs:List Nat} {js:List (List Nat)} {n:Nat} (hB:okB ops.toList Bs=true) (hk:U4 n ops Bs js=true) {V:Nat→Value→ag→Prop}
  (c_: ∀i v H1 H2,Ext H1 H2→V i v H1→V i v H2) {X:Prop} {a0:Act} {w0:World} (hv:Zx P C ops.toList V (bC a0) w0.heap X 0 ops.toList js)
  (hN: ∀a w,Ok n a→cq w0 w→fm (j2 ops.toList) a0 a→Ext w0.heap w.heap→(∀j o d,ops.toList[j]? =some o→o.dst=some d→V j (bC a d) w.heap)→N a w):
  ∀ (fuel:Nat) (done:List Nat) (a:Act) (w:World),done.Nodup→(∀i∈done,i<ops.size)→ops.size≤done.length+fuel→pq ops (cJ ops.size done)→Ok n a→cq w0 w→fm (j2 ops.toList) a0 a→Ext w0.heap w.heap→
   (∀j∈done,∀o d,ops.toList[j]? =some o→o.dst=some d→V j (bC a d) w.heap)→wpAny P .any ops (QN N) fuel (cJ ops.size done) a w:=by
 simp only [U4,aja,akv] at hk;obtain⟨U5,hk⟩:=hk;have yU: ∀i o,ops[i]? =some o→o.guard=none∧(∃d,o.dst=some d∧d<n)∧(∀e∈o.after,Region.binds .any e=true→e.on<i)∧∃l,js[i]? =some l∧∀j∈l,UY Bs j i=true:=by
  intro i o ho;have hm: (o,i)∈ops.toList.zipIdx:=by
   rw [List.mk_mem_zipIdx_iff_getElem?]
   simpa using ho
  have:=hk _ hm;simp only [aja,Option.isNone_iff_eq_none] at this;obtain⟨⟨⟨h1,h2⟩,h3⟩,h4⟩:=this;refine⟨h1,?_,fun e he hb=>?_,?_⟩
  ·cases hd:o.dst with
   |none=>rw [hd] at h2;cases h2
   |some d=>rw [hd] at h2;exact⟨d,rfl,by rwa [alj] at h2⟩
  ·have:=Array.all_eq_true_iff_forall_mem.1 h3 e he
   rw [hb] at this
   simpa [alj] using this
  ·cases hj:js[i]? with
   |none=>rw [hj] at h4;cases h4
   |some l=>rw [hj] at h4;exact⟨l,rfl,akv.1 h4⟩
 have cL: ∀ {i:Nat} {o:Oper},ops.toList[i]? =some o→i<ops.size:=fun {i o} h=>by
  have:= (ajD.1 h).1
  simpa using this
 have qH: ∀ (done:List Nat) (a:Act) (w:World),(∀i,i<ops.size→i∈done)→Ok n a→cq w0 w→fm (j2 ops.toList) a0 a→Ext w0.heap w.heap→(∀j∈done,∀o d,ops.toList[j]? =some o→o.dst=some d→V j (bC a d) w.heap)→N a w:=
  fun done a w iT h1 h2 h3 h4 h5=>hN a w h1 h2 h3 h4 fun j o d ho hd=>h5 j (iT j (cL ho)) o d ho hd
 intro fuel
 induction fuel with
 |zero=>
  intro done a w hn hb hf dM ha hr hs hx hV;have iT: ∀i,i<ops.size→i∈done:=by
   intro i hi;apply amo;intro U6;have:=Ga ops.size (i::done) (List.nodup_cons.2 ⟨U6,hn⟩) (fun k hk=>by rcases ajd.1 hk with rfl|hk;exact hi;exact hb k hk);simp only [ai6] at this;omega
  refine⟨List.eq_nil_iff_forall_not_mem.2 fun j hj=>?_,qH done a w iT ha hr hs hx hV⟩;obtain⟨h1,o,ho,_⟩:=mem_ready.1 hj;have rO:j<ops.size:=by have:= (akQ.1 ho).1;exact this
  have h2:= (kD rO).2 (iT j rO);simp only [akS] at h1 h2
  cases hq: (cJ ops.size done)[j]? with
  |none=>rw [hq] at h2;cases h2
  |some b=>rw [hq] at h1 h2;simp only [aj9] at h1 h2;rw [h1] at h2;cases h2
 |succ fuel ih=>
  intro done a w hn hb hf dM ha hr hs hx hV;refine⟨fun h0=>?_,fun i hi=>?_⟩
  ·refine qH done a w (fun i hi=>?_) ha hr hs hx hV
   have key: ∀m i,i<m→i<ops.size→i∈done:=by
    intro m
    induction m with
    |zero=>intro i h;omega
    |succ m ihm=>
     intro i him hi;apply amo;intro U6;have ho:ops[i]? =some ops[i]:=alH hi;have R3:i∈Region.ready .any ops (cJ ops.size done):=by
      refine mem_ready.2 ⟨?_,_,ho,fun e he Mj=>?_⟩
      ·have h2: ¬ (cJ ops.size done).getD i false=true:=fun h=>U6 ((kD hi).1 h)
       have hz: ∀l:List Nat,(cJ ops.size l).size=ops.size:=by
        intro l
        induction l with
        |nil=>simp [cJ]
        |cons x l ih=>simp only [cJ,List.foldr_cons,al2] at ih ⊢;exact ih
       have hq:i< (cJ ops.size done).size:=by rw [hz];exact hi
       simp only [akS,alH hq,aj9] at h2 ⊢
       simpa using h2
      ·have hon:= (yU i _ ho).2.2.1 e he Mj
       exact(kD (by omega)).2 (ihm e.on (by omega) (by omega))
     rw [h0] at R3
     cases R3
   exact key (i+1) i (by omega) hi
  ·obtain⟨h1,o,ho,iT⟩:=mem_ready.1 hi
   have Mp:ops.toList[i]? =some o:=by simpa using ho
   have vZ:=cL Mp;obtain⟨hg,⟨d,hd,zX⟩,_,l,hl,yk⟩:=yU i o ho;obtain⟨l',B5,hc⟩:= (zW hv).2 i o Mp;rw [hl] at B5;obtain rfl:=ajz B5;have U6:i∉done:=fun h=>by
    have h2:= (kD vZ).2 h;simp only [akS] at h1 h2
    cases hq: (cJ ops.size done)[i]? with
    |none=>rw [hq] at h2;cases h2
    |some b=>rw [hq] at h1 h2;simp only [aj9] at h1 h2;rw [h1] at h2;cases h2
   have hc:=hc (bC a);rw [qG hs] at hc;have hc:=vW (n7 hc w.heap hx) (fun j hj o' d' Jf IJ =>by
    have R4: (cJ ops.size done).getD j false=true:=zJ hB dM (i+1) i j (by omega) (yk j hj) fun o2 O7 e he Mj=>by
     rw [ho] at O7;obtain rfl:=ajz O7;exact iT e he Mj
    exact hV j ((kD (cL Jf)).1 R4) o' d' Jf IJ)
   rw [ajb] at hc;unfold wpOp;have hw:Region.wanted o (yielded ops a.tmps)=true:=by unfold Region.wanted;rw [hg]
   simp only [ho,hw,if_true];refine .inl (Pe (F9 (by rw [lX];exact Mo hC hc w rfl) fun v w' SD iU =>?_));have iJ:fm (j2 ops.toList) a (a.put o.dst v):=by
    rw [hd];exact fm.put ha (fun d' h=>by cases h;exact zX) (fun d' h=>by cases h;exact n5 Mp hd)
   have U3 :=dM.add hi;refine ih (i::done) (a.put o.dst v) w' (List.nodup_cons.2 ⟨U6,hn⟩) (fun k hk=>by rcases ajd.1 hk with rfl|hk;exact vZ;exact hb k hk) (by simp only [ai6];omega) U3 (ha.put _ _) (hr.trans SD) ((hs.trans iJ).mono (by simp)) (hx.trans iU.1) ?_;intro j hj o' d' Jf IJ
   by_cases Ox:j=i
   ·subst Ox
    rw [Mp] at Jf;obtain rfl:=ajz Jf;rw [hd] at IJ;obtain rfl:=ajz IJ;have e:bC (a.put o.dst v) d=v:=by
     rw [jI (fun d' h=>by rw [ha.size];rw [hd] at h;cases h;exact zX),hd]
     simp [Env.put,Env.RY]
    rw [e];exact iU.2
   ·have hjd:j∈done:=by rcases ajd.1 hj with h|h;exact absurd h Ox;exact h
    have cQ: ∀d2,o.dst=some d2→d2≠d' :=fun d2 h2 e=>by
     subst e;exact Ox (zV U5 Jf Mp IJ h2)
    rw [gM ha (fun d2 h2=>by rw [hd] at h2;cases h2;exact zX) cQ];exact c_ _ _ _ _ iU.1 (hV j hjd o' d' Jf IJ)
def lj [Go.Vc.Mode] (P:Program) (n:Nat):Code→ue→Bool
 | .skip,_| .ret,_| .exit _,_| .label _,_=>true
 | .scope x,a=>lj P n x a
 | .region _ ops draw,.WW p=> !draw && lh P ops (yW ops.size n) p false none [] fun d=>Nat.beq d.length ops.size
 | .region _ ops draw,.Zw Bs p=>draw && Region.noSelect ops && okB ops.toList Bs && lh P ops (uk P ops Bs n) p false none [] fun d=>Nat.beq d.length ops.size && (Region.ready .any ops (cJ ops.size d)).isEmpty
 | .region _ ops draw,.inv Bs js _=>draw && okB ops.toList Bs && U4 n ops Bs js
 | .seq x y,.seq a b=>lj P n x a && lj P n y b
 | .seq x y,.cut _ wr a b=>Pg (xv x) wr && lj P n x a && lj P n y b
 | .cond _ x y,.cond a b=>lj P n x a && lj P n y b
 | .block _ x,.block a=>lj P n x a
 | .loop x,.loop _ wr a=>Pg (xv x) wr && lj P n x a
 |_,_=>false
def QX (Q:Ex→Env→ag→Prop):Exit→Act→World→Prop
 | .normal,a,w=>Q .normal (bC a) w.heap
 | .exit id,a,w=>Q (.exit id) (bC a) w.heap
 | .ret,a,w=>Q .ret (bC a) w.heap
 |_,_,_=>False
def QC [Go.Vc.Mode] (n:Nat) (l:List Nat) (a0:Act) (w0:World) (Q:Ex→Env→ag→Prop) (e:Exit) (a:Act) (w:World):Prop:=Ok n a∧cq w0 w∧fm l a0 a∧QX Q e a w
theorem QC.le [Go.Vc.Mode] {n:Nat} {l l' :List Nat} {a0 a1:Act} {w0 w1:World} {Q Q' :Ex→Env→ag→Prop} {e:Exit} {a:Act} {w:World} (h:QC n l' a1 w1 Q' e a w) (hs:fm l a0 a1) (hl: ∀t∈l',t∈l) (hr:cq w0 w1) (hq:QX Q' e a w→QX Q e a w):QC n l a0 w0 Q e a w:=
 ⟨h.1,hr.trans h.2.1,((hs.trans (h.2.2.1.mono hl)).mono (by simp)),hq h.2.2.2⟩
variable {C:List Nat}
theorem Pj [Go.Vc.Mode] (hC:iI P C) (hm:P.follows .mixedOrders=true) {n:Nat}: ∀ (c:Code) (an:ue) (a:Act) (w:World) (Q:Ex→Env→ag→Prop),lj P n c an=true→Ok n a→vc P C c an (bC a) w.heap Q→
  c.wp P (QC n (xv c) a w Q) a w:=by
 intro c
 induction c with
 |skip=>
  intro an a w Q hk ha hv;simp only [vc] at hv;exact wp_skip ⟨ha,cq.refl w,fm.refl _ _,hv⟩
 |ret=>
  intro an a w Q hk ha hv;simp only [vc] at hv;exact wp_ret ⟨ha,cq.refl w,fm.refl _ _,hv⟩
 |exit id=>
  intro an a w Q hk ha hv;simp only [vc] at hv;exact wp_exit ⟨ha,cq.refl w,fm.refl _ _,hv⟩
 |label l=>
  intro an a w Q hk ha hv;simp only [vc] at hv;exact wp_label ⟨ha,cq.refl w,fm.refl _ _,hv⟩
 |scope x ih=>
  intro an a w Q hk ha hv;simp only [lj] at hk;simp only [vc] at hv;refine wp_scope_straight (wp_mono (ih an a w Q hk ha hv) fun e a' w' he=>?_)
  cases e with
  |goto l=>exact he.2.2.2.elim
  |_=>exact he
 |region id ops draw=>
  intro an a w Q hk ha hv
  cases an with
  |WW p=>
   simp only [lj,aja,akC] at hk;obtain⟨hd,hk⟩:=hk;subst hd;simp only [vc] at hv
   let N:Act→World→Prop:=fun a' w' =>QC n (xv (.region id ops false)) a w Q .normal a' w'
   have h:= (F_ hC (R:=Ln P ops N n) p).1 none [] _ _ a w hk ha trivial hv (fun eH a' w' h1 h2 h3 h4 _ h6=>by
    have hl:eH.length=ops.size:=ajG h1;show wpOps P ops (QN N) ((List.range ops.size).drop eH.length) a' w';rw [hl,akd (by simp)];exact⟨h2,h4,h3.mono (fun t ht=>fU ht),h6⟩)
   refine wp_mono (Q:=QN N) (wp_region (by simpa [Ln] using h)) fun e a' w' he=>?_
   cases e<;>first|exact he|exact he.elim
  |Zw Bs p=>
   simp only [lj,aja] at hk;obtain⟨⟨⟨hd,hS⟩,hB⟩,hk⟩:=hk;subst hd;simp only [vc] at hv
   let N:Act→World→Prop:=fun a' w' =>QC n (xv (.region id ops true)) a w Q .normal a' w'
   have aaz:pq ops (cJ ops.size []):=by
    intro k o ho hk;have: (Array.replicate ops.size false)[k]?.getD false=false:=by
     by_cases h:k<ops.size<;>simp [h]
    simp only [cJ,List.foldr_nil,akS] at hk;rw [this] at hk
    cases hk
   have h:= (F_ hC (R:=SF P ops N Bs n hB hS) p).1 none [] _ _ a {w with drawn:=w.drawn+1} hk ha trivial hv (fun eH a' w' h1 h2 h3 h4 _ h6=>by
    intro _;simp only [aja] at h1;have hl:eH.length=ops.size:=ajG h1.1;rw [hl,akp];exact⟨by simpa using h1.2,h2,cq.trans (show cq w {w with drawn:=w.drawn+1} from ⟨rfl,rfl,rfl,fun _=>by first|exact aiZ _|exact ajx _⟩) h4,h3.mono (fun t ht=>fU ht),h6⟩)
   have h:=h aaz;refine wp_mono (Q:=QN N) (wp_region_any hm (zI _ _ _ _ h)) fun e a' w' he=>?_
   cases e<;>first|exact he|exact he.elim
  |inv Bs js fin=>
   simp only [lj,aja] at hk;obtain⟨⟨hd,hB⟩,hk⟩:=hk;subst hd;simp only [vc] at hv;obtain⟨V,c_,hv⟩:=hv
   let N:Act→World→Prop:=fun a' w' =>QC n (xv (.region id ops true)) a w Q .normal a' w'
   have hX:= (zW hv).1;have h:=SH (N:=N) hC hB hk (w0:= {w with drawn:=w.drawn+1}) c_ hv (fun a' w' h1 h2 h3 h4 h5=>by
    have hq:=hX (bC a');rw [qG h3] at hq;have hq:=vW (n7 hq w'.heap h4) (fun j _ o d ho hd=>h5 j o d ho hd);exact⟨h1,cq.trans (show cq w {w with drawn:=w.drawn+1} from ⟨rfl,rfl,rfl,fun _=>by first|exact aiZ _|exact ajx _⟩) h2,h3,hq⟩)
    ops.size [] a {w with drawn:=w.drawn+1} alI (by simp) (by simp) (by
     intro k o ho hk;have: (Array.replicate ops.size false)[k]?.getD false=false:=by
      by_cases h:k<ops.size<;>simp [h]
     simp only [cJ,List.foldr_nil,akS] at hk;rw [this] at hk
     cases hk) ha (cq.refl _) (fm.refl _ _) (Ext.refl _) (by simp)
   refine wp_mono (Q:=QN N) (wp_region_any hm h) fun e a' w' he=>?_
   cases e<;>first|exact he|exact he.elim
  |_=>simp [lj] at hk
 |seq x y ZB ZC=>
  intro an a w Q hk ha hv
  cases an with
  |seq p q=>
   simp only [lj,aja] at hk;simp only [vc] at hv;refine wp_seq (wp_mono (ZB p a w _ hk.1 ha hv) fun e a' w' he=>?_)
   cases e with
   |normal=>
    obtain⟨h1,h2,h3,h4⟩:=he;refine wp_mono (ZC q a' w' Q hk.2 h1 h4) fun e2 a2 w2 O8=>O8.le (h3.mono (by intro t ht;simp [xv,ht])) (by intro t ht;simp [xv,ht]) h2 (fun h=>h)
   |exit id=>exact QC.le he (fm.refl _ _) (by intro t ht;simp [xv,ht]) (cq.refl w) (fun h=>h)
   |ret=>exact QC.le he (fm.refl _ _) (by intro t ht;simp [xv,ht]) (cq.refl w) (fun h=>h)
   |goto l=>exact he.2.2.2.elim
   |panic ch=>exact he.2.2.2.elim
   |outgrown=>exact he.2.2.2.elim
  |cut jk wr p q=>
   simp only [lj,aja] at hk;simp only [vc] at hv;obtain⟨J,hJ,hv⟩:=hv;refine wp_seq (wp_mono (ZB p a w _ hk.1.2 ha hv) fun e a' w' he=>?_)
   cases e with
   |normal=>
    obtain⟨h1,h2,h3,h4⟩:=he;have h5:=hJ (bC a');rw [qG (h3.mono (vV hk.1.1))] at h5;refine wp_mono (ZC q a' w' Q hk.2 h1 (n7 h5 w'.heap h4)) fun e2 a2 w2 O8=>O8.le (h3.mono (by intro t ht;simp [xv,ht])) (by intro t ht;simp [xv,ht]) h2 (fun h=>h)
   |exit id=>exact QC.le he (fm.refl _ _) (by intro t ht;simp [xv,ht]) (cq.refl w) (fun h=>h)
   |ret=>exact QC.le he (fm.refl _ _) (by intro t ht;simp [xv,ht]) (cq.refl w) (fun h=>h)
   |goto l=>exact he.2.2.2.elim
   |panic ch=>exact he.2.2.2.elim
   |outgrown=>exact he.2.2.2.elim
  |_=>simp [lj] at hk
 |cond c x y ZB ZC=>
  intro an a w Q hk ha hv
  cases an with
  |cond p q=>
   simp only [lj,aja] at hk;simp only [vc] at hv;rw [←lX] at hv
   cases hc:a.eval c<;>rw [hc] at hv<;>simp only [aq] at hv
   refine wp_cond_split hc (fun ht=>?_) (fun hf=>?_)
   ·exact wp_mono (ZB p a w Q hk.1 ha (hv.1 ht)) fun e a' w' he=>he.le (fm.refl _ _) (by intro t ht;simp [xv,ht]) (cq.refl w) (fun h=>h)
   ·exact wp_mono (ZC q a w Q hk.2 ha (hv.2 hf)) fun e a' w' he=>he.le (fm.refl _ _) (by intro t ht;simp [xv,ht]) (cq.refl w) (fun h=>h)
  |_=>simp [lj] at hk
 |block id x ih=>
  intro an a w Q hk ha hv
  cases an with
  |block p=>
   simp only [lj] at hk;simp only [vc] at hv;refine wp_block (wp_mono (ih p a w _ hk ha hv) fun e a' w' he=>?_)
   cases e with
   |exit k=>
    simp only [Exit.inBlock];obtain⟨h1,h2,h3,h4⟩:=he;simp only [QX] at h4
    by_cases XO:k=id
    ·subst XO
     rw [if_pos rfl];simp only [Nat.beq_eq_true_eq,Nat.beq_refl,cond_true] at h4;exact⟨h1,h2,h3,h4⟩
    ·rw [if_neg XO]
     have:Nat.beq k id=false:=by cases hb:Nat.beq k id with|false=>rfl|true=>exact absurd (ajG hb) XO
     rw [this] at h4;exact⟨h1,h2,h3,h4⟩
   |normal=>exact he
   |ret=>exact he
   |goto l=>exact he
   |panic ch=>exact he
   |outgrown=>exact he
  |_=>simp [lj] at hk
 |loop x ih=>
  intro an a w Q hk ha hv
  cases an with
  |loop jk wr p=>
   simp only [lj,aja] at hk;simp only [vc] at hv;obtain⟨I,μ,h0,U7⟩:=hv;refine wp_loop (fun a' w' =>Ok n a' ∧cq w w' ∧fm (xv x) a a' ∧nH jk I (bC a') w'.heap) (fun a' w' =>Ld jk μ (bC a') w'.heap) ⟨ha,cq.refl w,fm.refl _ _,h0⟩ ?_;intro a1 w1 ⟨g1,g2,g3,g4⟩;have h5:=U7 (bC a1);rw [qG (g3.mono (vV hk.1))] at h5;refine wp_mono (ih p a1 w1 _ hk.2 g1 (n7 h5 w1.heap g4)) fun e a' w' he=>?_
   cases e with
   |normal=>
    obtain⟨h1,h2,h3,h4⟩:=he;exact⟨⟨h1,g2.trans h2,(g3.trans h3).mono (by simp),h4.1⟩,h4.2⟩
   |exit id=>exact QC.le he g3 (by simp [xv]) g2 (fun h=>h)
   |ret=>exact QC.le he g3 (by simp [xv]) g2 (fun h=>h)
   |goto l=>exact he.2.2.2.elim
   |panic ch=>exact he.2.2.2.elim
   |outgrown=>exact he.2.2.2.elim
  |_=>simp [lj] at hk
 |_=>intro an a w Q hk;simp [lj] at hk
def zY (tmps:Array Value):ResultVar→Sem Value
 | .tmp t=>pure (tmps.getD t undef)
 | .cell b t=>do loadVar t (←asAddr (tmps.getD b undef))
theorem Jl (fn:Func) (tmps:Array Value):results fn tmps= (do let vs←fn.results.mapM (zY tmps);pure (if h:vs.size=1 then vs[0] else .tuple vs)):=rfl
theorem kV {a:Act} {w:World}: ∀ {rs:List ResultVar} {K:List Value→Prop},FQ P (bC a) w.heap K rs→
  ∃l,(rs.mapM (zY a.tmps)).run P w=Result.ok l w∧K l
 | [],K,h=> ⟨[],rfl,h⟩
 | .tmp t::r,K,h=>by
  simp only [FQ] at h;obtain⟨l,hl,hk⟩:=kV h;refine⟨bC a t::l,?_,hk⟩;simp only [al0,zY,Sem.run_bind,Sem.run_pure,Result.andThen_ok,hl]
  rfl
 | .cell b t::r,K,h=>by
  simp only [FQ] at h
  split at h
  ·rename_i d i hd hi
   have key: ∀ {K' :Value→Prop},F1 P (Instr.loadAt t (bC a b)) w.heap K' →∃v,(zY a.tmps (.cell b t)).run P w= .ok v w∧K' v:=by
    intro K' ⟨v,hv,hk⟩;refine⟨v,?_,hk⟩;have hv:=hv w rfl;have he:a.tmps.getD b undef=bC a b:=rfl;simp only [zY];rw [he]
    cases hb:bC a b<;>rw [hb] at hv<;> (try simp only [Instr.loadAt,Instr.sureAddr,Sem.run_bind,run_stuck,Result.andThen_halt,reduceCtorEq] at hv)
    rename_i p
    cases p with
    |none=>simp [Instr.loadAt,Instr.sureAddr] at hv
    |some p=>simpa [asAddr,Instr.loadAt,Instr.sureAddr] using hv
   cases ha:fe P t with
   |true=>
    rw [ha] at h;simp only [cond_true] at h;obtain⟨v,hv,hk⟩:=key (zE hd hi ha h);obtain⟨l,hl,hk⟩:=kV hk;refine⟨v::l,?_,hk⟩;simp only [al0,Sem.run_bind,hv,Result.andThen_ok,hl,Sem.run_pure]
   |false=>
    rw [ha] at h;simp only [cond_false] at h;obtain⟨v,hv,hk⟩:=key (CO hd ha h);obtain⟨l,hl,hk⟩:=kV hk;refine⟨v::l,?_,hk⟩;simp only [al0,Sem.run_bind,hv,Result.andThen_ok,hl,Sem.run_pure]
  ·exact h.elim
def Gb [Go.Vc.Mode] (P:Program) (fn:Func) (an:ue) (X2:Nat):Bool:=Nat.ble X2 fn.ntmps && match fn.body with
 |some c=>lj P fn.ntmps c an
 |none=>false
theorem Jm [Go.Vc.Mode] {P:Program} {C:List Nat} (hC:iI P C) (hm:P.follows .mixedOrders=true) {f:FuncId} {fn:Func} {an:ue} {args:List Value} {H:ag} {R:Value→ag→Prop}
  (hf:P.funcs[f]? =some fn) (hk:Gb P fn an args.length=true) (h:OS P C fn an args H R):jb P f args.toArray H R:=by
 intro w hw;subst hw;unfold Gb at hk;unfold OS at h;simp only [aja] at hk;obtain⟨hle,hk⟩:=hk;have hle:=ai7 hle
 cases hb:fn.body with
 |none=>rw [hb] at h;exact h.elim
 |some c=>
  rw [hb] at h hk;simp only at h hk;refine calls_of_wp hf hb ?_;generalize ha: ({tmps:=args.toArray++Array.replicate (fn.ntmps - args.toArray.size) undef,defers:= []}:Act)=a;have kp:Ok fn.ntmps a:=by subst ha;exact⟨by simp;omega,rfl⟩
  have jZ:bC a=DV args:=by
   subst ha
   funext t
   simp only [bC,DV,akS]
   by_cases ht:t<args.length
   ·rw [Array.getElem?_append_left (by simpa using ht)]
    simp [ht]
   ·rw [Array.getElem?_append_right (by simp;omega)]
    simp only [ajA,Array.getElem?_replicate];rw [ajm (by omega)]
    split<;>rfl
  rw [←jZ] at h;refine wp_mono (Pj hC hm c an a w _ hk kp h) fun e a' w' he=>?_;obtain⟨h1,h2,h3,h4⟩:=he;have fin:FQ P (bC a') w'.heap (fun l=>R (FR l) w'.heap) fn.results.toList→a'.defers= []∧∃v,(results fn a'.tmps).run P w' = .ok v w' ∧∃v',Ending.returned v=Ending.returned v' ∧cq w w' ∧R v' w'.heap:=by
   intro hr;obtain⟨l,hl,hk⟩:=kV hr;refine⟨h1.defers,FR l,?_,FR l,rfl,h2,hk⟩;rw [Jl,amM];simp only [Sem.run_bind,Sem.run_map,hl,Result.andThen_ok,Sem.run_pure]
   cases l with
   |nil=>rfl
   |cons x r=>cases r<;>simp [FR]
  cases e with
  |normal=>exact fin h4
  |ret=>exact fin h4
  |exit id=>exact h4.elim
  |goto l=>exact h4.elim
  |panic ch=>exact h4.elim
  |outgrown=>exact h4.elim
end
theorem SI [Go.Vc.Mode] {P:Program} {C:List Nat} (hC:iI P C) (hm:P.follows .mixedOrders=true) {f:FuncId} {fn:Func} (an:ue) {args:List Value} {H:ag} {R:Value→ag→Prop} {r:Prop}
  (hf:P.funcs[f]? =some fn) (hk:Gb P fn an args.length=true) (e:OS P C fn an args H R=r) (h:r):jb P f args.toArray H R:=Jm hC hm hf hk (e.mpr h)
end
end Go.Vc
