/- Part 2 of the proof of RowTopArchives: what it is built on, in the order of its needs. -/
import Derived.Test.YtpcgccdmmoggmaaGreatDoorPkA
import Derived.Below
import Derived.ChangeAlike
import Derived.ProofKit
import Derived.OpenShut
import Derived.ShutString
import Derived.Deep.Slices
import Derived.Deep.Fields
import Derived.ChangeSame
import Derived.MapKept
import Derived.Laws.IdiomRangeMap
import Derived.Test.YtpcgccdmmoggmaaGreatDoorProg
import Derived.KernelRfl
import Derived.Shelf.Strings.Builder1
import Derived.Shelf.Strings.OnBuilder
import Derived.Shelf.Strings.Search1
import Derived.Shelf.Strings.Search2
import Derived.Shelf.Strings.Search3
import Derived.Shelf.GgClosure.StringsIndexFuncTop
import Derived.Shelf.Strings.Repeat
import Derived.Shelf.SlSortCmp.Whole1
import Derived.Shelf.Unicode.ValidAny
set_option linter.unusedSimpArgs false
set_option linter.unusedVariables false
set_option maxRecDepth 100000
namespace Go.Vc
open Go
section
section
variable {K:Value→Prop} {x x' y y' z z' :Value}
variable {H H' :ag}
variable {KE:Value→ag→Prop}
theorem bs {b: (Value→ag→Prop)→Prop} (h:b KE):bE (.bool true) b H KE:= ⟨KE,fun _ _ h=>h,(fun h=>by cases h),fun _=>h⟩
theorem dO {b: (Value→ag→Prop)→Prop}:bE (.bool false) b H KE=KE (.bool false) H:=by
 apply propext;constructor
 ·rintro⟨J,h1,h2,_⟩;exact h1 _ _ (h2 rfl)
 ·intro h;exact⟨KE,fun _ _ h=>h,fun _=>h,(fun h=>by cases h)⟩
theorem Gc {b: (Value→ag→Prop)→Prop}:ej (.bool true) b H KE=KE (.bool true) H:=by
 apply propext;constructor
 ·rintro⟨J,h1,h2,_⟩;exact h1 _ _ (h2 rfl)
 ·intro h;exact⟨KE,fun _ _ h=>h,fun _=>h,(fun h=>by cases h)⟩
theorem aM {b: (Value→ag→Prop)→Prop} (h:b KE):ej (.bool false) b H KE:= ⟨KE,fun _ _ h=>h,(fun h=>by cases h),fun _=>h⟩
theorem fF {a d:Bool}:bE (.bool a) (fun J=>J (.bool d) H) H KE=KE (.bool (a && d)) H:=by
 apply propext;cases a
 ·rw [dO];rfl
 ·constructor
  ·rintro⟨J,h1,_,h2⟩;exact h1 _ _ (h2 rfl)
  ·intro h;exact bs h
theorem gr {a d:Bool}:ej (.bool a) (fun J=>J (.bool d) H) H KE=KE (.bool (a||d)) H:=by
 apply propext;cases a
 ·constructor
  ·rintro⟨J,h1,_,h2⟩;exact h1 _ _ (h2 rfl)
  ·intro h;exact aM h
 ·rw [Gc];rfl
theorem dC {a d:Bool} {b: (Value→ag→Prop)→Prop} (hb:a=true→b (fun v H' =>v= .bool d∧H' =H)) (h:KE (.bool (a && d)) H):bE (.bool a) b H KE:=by
 refine⟨fun v H' =>v= .bool (a && d)∧H' =H,fun v H' h' =>by rw [h'.1,h'.2];exact h,fun ha=>by rw [ha];exact⟨rfl,rfl⟩,fun ha=>?_⟩;have:=hb ha;subst ha;exact this
theorem gu {a d:Bool} {b: (Value→ag→Prop)→Prop} (hb:a=false→b (fun v H' =>v= .bool d∧H' =H)) (h:KE (.bool (a||d)) H):ej (.bool a) b H KE:=by
 refine⟨fun v H' =>v= .bool (a||d)∧H' =H,fun v H' h' =>by rw [h'.1,h'.2];exact h,fun ha=>by rw [ha];exact⟨rfl,rfl⟩,fun ha=>?_⟩;have:=hb ha;subst ha;exact this
theorem Jn {a:Bool} {b: (Value→ag→Prop)→Prop} (h0:a=false→KE (.bool false) H) (h1:a=true→b KE):bE (.bool a) b H KE:= ⟨KE,fun _ _ h=>h,h0,h1⟩
theorem zZ {b:Bool} {A B:Prop}:aq (.bool b) A B= ((b=true→A)∧(b=false→B)):=rfl
theorem aL {A B:Prop}:aq (.bool true) A B=A:=by simp [zZ]
theorem ak {A B:Prop}:aq (.bool false) A B=B:=by simp [zZ]
end
theorem ax (b o n:Nat): (⟨b,o,none⟩:Addr).add n= ⟨b,o+n,none⟩:=by
 unfold Addr.add;split
 ·rename_i h;subst h;rfl
 ·rfl
theorem dP {H:ag} {b o:Nat} {cs:Array Value} {t:TypeId} {fr:Nat × Nat} (h:H[b]? =some (.cells cs t fr)):cellAt H ⟨b,o,none⟩=cs[o]? :=by
 simp [cellAt,h]
theorem Mq {H:ag} {b o:Nat} {cs:Array Value} {t:TypeId} {fr:Nat × Nat} {v:Value} {K:Value→Prop} (h:H[b]? =some (.cells cs t fr)) (hv:cs[o]? =some v) (hk:K v):ao H (.pointer (some ⟨b,o,none⟩)) K:=by
 simp only [ao,dP h,hv];exact hk
theorem gn {H:ag} {b o:Nat} {l:List Value} {t:TypeId} {fr:Nat × Nat} {v:Value} {K:Value→Prop} (h:H[b]? =some (.cells l.toArray t fr)) (hv:l[o]? =some v) (hk:K v):ao H (.pointer (some ⟨b,o,none⟩)) K:=
 Mq h (by rw [ajC];exact hv) hk
theorem mC {H:ag} {b o:Nat} {l:List Value} {t:TypeId} {fr:Nat × Nat} {K:Value→Prop} (h:H[b]? =some (.cells l.toArray t fr)):ao H (.pointer (some ⟨b,o,none⟩)) K=match l[o]? with
  |some v=>K v
  |none=>False:=by
 simp only [ao,dP h,ajC]
 cases l[o]? <;>rfl
theorem bo {H:ag} {a:Addr} {v:Value} {K:Value→Prop} (h:cellAt H a=some v):ao H (.pointer (some a)) K=K v:=by
 simp only [ao,h]
theorem v7 {H:ag} {b o:Nat} {cs:Array Value} {t:TypeId} {fr:Nat × Nat} {v:Value} (h:H[b]? =some (.cells cs t fr)):setAt H ⟨b,o,none⟩ v=H.setIfInBounds b (.cells (cs.setIfInBounds o v) t fr):=by
 unfold setAt;apply akP;intro j;rw [ak4,alh]
 by_cases hj:b=j
 ·subst hj
  have hl:b<H.size:=by
   rcases ajM b H.size with h' |h'
   ·exact h'
   ·simp [akB h'] at h
  simp [hl] at h ⊢
  simp [h]
 ·simp [hj]
theorem z8 {H:ag} {b o:Nat} {cs:Array Value} {t:TypeId} {v:Value} {K:Value→ag→Prop} (h:H[b]? =some (.cells cs t (0,0))) (ho:o<cs.size) (hv:aS v=true):
  aI H (.pointer (some ⟨b,o,none⟩)) v K=K undef (H.setIfInBounds b (.cells (cs.setIfInBounds o v) t (0,0))):=by
 have hc:cellAt H ⟨b,o,none⟩=some cs[o]:=by rw [dP h];simp [ho]
 have hf:frozenAt H ⟨b,o,none⟩=false:=by simp [frozenAt,h]
 simp only [aI,fQ,ax,ajq,hc,hf,cond_false,hv,cond_true,v7 h]
theorem bz {H:ag} {b:Nat} {o:Obj} (h:H[b]? =some o):b<H.size:= (akQ.1 h).1
theorem bU {H:ag} {b:Nat} {o:Obj} (h:b<H.size): (H.setIfInBounds b o)[b]? =some o:=by simp [h]
theorem c9 {H:ag} {b c:Nat} {o:Obj} (h:b≠c): (H.setIfInBounds b o)[c]? =H[c]? :=by simp [alh,h]
theorem bO {H:ag} {o:Obj}: (H.push o)[H.size]? =some o:=by simp
theorem iK {H:ag} {b:Nat} {o:Obj} (h:b<H.size): (H.push o)[b]? =H[b]? :=by rw [amm,if_neg (by omega)]
theorem ff {n:Int} (h0: -9223372036854775808≤n) (h1:n≤9223372036854775807):IntKind.i64.wrap n=n:=by
 simp [IntKind.wrap,IntKind.bits,IntKind.signed];omega
theorem wu8 {n:Int} (h0:0≤n) (h1:n≤255):IntKind.u8.wrap n=n:=by
 simp [IntKind.wrap,IntKind.bits,IntKind.signed];omega
theorem Gd {n:Int} (h0:0≤n) (h1:n≤4294967295):IntKind.u32.wrap n=n:=by
 simp [IntKind.wrap,IntKind.bits,IntKind.signed];omega
theorem cF {n:Int} (h0:0≤n) (h1:n≤18446744073709551615):IntKind.u64.wrap n=n:=by
 simp [IntKind.wrap,IntKind.bits,IntKind.signed];omega
theorem D9 (n:Int):IntKind.u8.wrap n=n%256:=by simp [IntKind.wrap,IntKind.bits,IntKind.signed]
theorem qI (l:List UInt8): (ByteArray.mk l.toArray).size=l.length:=by simp [ByteArray.size]
end
section
theorem j7 {p q:Prop} [Decidable p] [Decidable q]: (decide p && decide q)=decide (p∧q):=by simp
theorem kE {p q:Prop} [Decidable p] [Decidable q]: (decide p||decide q)=decide (p∨q):=by simp
theorem jl {n:Nat}: (n≤n)=True:=by simp
theorem List.bY {α:Type} {l:List α}:l.toArray.toList=l:=rfl
theorem av {p:Prop} [Decidable p] {A B:Prop} (h1:p→A) (h2: ¬p→B):aq (.bool (decide p)) A B:= ⟨fun h=>h1 (by simpa using h),fun h=>h2 (by simpa using h)⟩
theorem cN {b:Bool} {A B:Prop} (h1:b=true→A) (h2:b=false→B):aq (.bool b) A B:= ⟨h1,h2⟩
end
section
theorem set_set {H:ag} {b:Nat} {o o' :Obj}: (H.setIfInBounds b o).setIfInBounds b o' =H.setIfInBounds b o' :=by simp
theorem qJ {H:ag} {b o:Nat} {cs:Array Value} {t:TypeId} {fr:Nat × Nat} (h:H[b]? =some (.cells cs t fr)): ∀n,o+n≤cs.size→fc H ⟨b,o,none⟩ n=some ((cs.toList.drop o).take n)
 |0,_=>by simp [fc]
 |n+1,hn=>by
  have cL:o+n<cs.size:=by omega
  have ih:=qJ (o:=o) (cs:=cs) (t:=t) (fr:=fr) h n (by omega);simp only [fc,ih,ax,dP h,alH cL];rw [ajr,ajW]
  simp [cL]
theorem dm {H:ag} {b n:Nat} {cs:Array Value} {t:TypeId} {fr:Nat × Nat} {K:Value→Prop} (h:H[b]? =some (.cells cs t fr)) (hn:cs.size=n):aF H n (.pointer (some ⟨b,0,none⟩)) K=K (.agg cs):=by
 subst hn;simp only [aF,qJ (o:=0) (cs:=cs) (t:=t) (fr:=fr) h cs.size (by omega)]
 congr 2
 rw [ajt,←Array.length_toList,ajc]
end
section
theorem Ext.push {A H:ag} {o:Obj} (h:Ext A H):Ext A (H.push o):= ⟨by have:=h.size;simp;omega,fun i hi=>by
 have:=h.size;rw [amm,if_neg (by omega)];exact h.get i hi⟩
theorem Ext.set {A H:ag} {b:Nat} {o:Obj} (h:Ext A H) (hb:A.size≤b):Ext A (H.setIfInBounds b o):= ⟨by have:=h.size;simpa using this,fun i hi=>by
 rw [c9 (by omega)];exact h.get i hi⟩
theorem Ext.lk {A H:ag} {b:Nat} {o:Obj} (h:Ext A H) (hb:A[b]? =some o):H[b]? =some o:=by rw [h.get b (bz hb)];exact hb
theorem Ge {H:ag} {b:Nat} {o:Obj} (hb:H[b]? =some o):H.setIfInBounds b o=H:=by
 apply akP;intro j;rw [alh]
 by_cases hj:b=j
 ·subst hj;simp [bz hb];exact(akQ.1 hb).2.symm
 ·simp [hj]
theorem nh {n:Int} {k:Nat} {m:Int} (hk:k≤62) (hm:m=2 ^ k - 1):bitsOf .and .i64 n m=n%2 ^ k:=by
 subst hm;have hp: (2:Nat) ^ k≤2 ^ 62:=ajk (by omega) hk;have h1: ((BitVec.ofInt 64 n) &&& (BitVec.ofInt 64 ((2:Int) ^ k - 1))).toNat= ((n%18446744073709551616).toNat) %2 ^ k:=by
  rw [amp,BitVec.toNat_ofInt,BitVec.toNat_ofInt];have e: ((((2:Int) ^ k - 1) % ((2 ^ 64:Nat):Int)).toNat)=2 ^ k - 1:=by
   have h0: (0:Int)≤(2:Int) ^ k - 1:=by
    have: (1:Int)≤2 ^ k:=by exact_mod_cast amq
    omega
   have h2: (2:Int) ^ k - 1< ((2 ^ 64:Nat):Int):=by
    have: ((2:Int) ^ k)= ((2 ^ k:Nat):Int):=by norm_cast
    rw [this];omega
   rw [Int.emod_eq_of_lt h0 h2];have: ((2:Int) ^ k)= ((2 ^ k:Nat):Int):=by norm_cast
   rw [this];omega
  rw [e,amO]
  rfl
 have h3: ((n%18446744073709551616).toNat) %2 ^ k= (n%2 ^ k).toNat:=by
  have hd: ((2:Int) ^ k) ∣18446744073709551616:=by
   have: (18446744073709551616:Int)=2 ^ k*2 ^ (64 - k):=by rw [←Int.pow_add];rw [show k+ (64 - k)=64 by omega];rfl
   rw [this];exact Int.dvd_mul_right _ _
  have h4: (n%18446744073709551616) %2 ^ k=n%2 ^ k:=Int.emod_emod_of_dvd _ hd;have h5:0≤n%18446744073709551616:=akT _ (by decide);have Jo: (0:Int)≤n%2 ^ k:=akT _ (Int.ne_of_gt (alm (by decide)));apply Int.ofNat.inj;show (((n%18446744073709551616).toNat%2 ^ k:Nat):Int)= (((n%2 ^ k).toNat:Nat):Int);rw [Int.natCast_emod,ajX h5,ajX Jo,←h4,ak6]
  rfl
 show IntKind.i64.wrap ((((BitVec.ofInt 64 n) &&& (BitVec.ofInt 64 ((2:Int) ^ k - 1))).toNat:Nat):Int)=n%2 ^ k;rw [h1,h3];have Jo: (0:Int)≤n%2 ^ k:=akT _ (Int.ne_of_gt (alm (by decide)));have cL:n% (2:Int) ^ k<2 ^ k:=aln _ (alm (by decide));have um: ((2:Int) ^ k)≤4611686018427387904:=by
  have: ((2:Int) ^ k)= ((2 ^ k:Nat):Int):=by norm_cast
  rw [this];omega
 rw [ajX Jo];exact ff (by omega) (by omega)
section
variable {K:Value→Prop} {KE:Value→ag→Prop} {H:ag} {k k' :IntKind} {a b:Int} {s t:ByteArray} {p q:Bool} {x y:Value}
theorem aD {ad:Addr}:aG (.pointer (some ad)) K=K (.pointer (some ad)):=rfl
theorem ay:aB (.int k a) (.int k b) K=K (.int k (k.wrap (a+b))):=propext ⟨fun h=>h.2,fun h=> ⟨rfl,h⟩⟩
theorem bq:bR (.int k a) (.int k b) K=K (.int k (k.wrap (a - b))):=propext ⟨fun h=>h.2,fun h=> ⟨rfl,h⟩⟩
theorem gw:kB (.int k a) (.int k b) K=K (.int k (k.wrap (a*b))):=propext ⟨fun h=>h.2,fun h=> ⟨rfl,h⟩⟩
theorem z_:aB (.string s) (.string t) K= (s.size+t.size≤9223372036854775807∧K (str (im s++im t))):=rfl
theorem iL:k_ (.int k a) (.int k b) K= (b≠0∧K (.int k (k.wrap (a.tdiv b)))):=propext ⟨fun h=>h.2,fun h=> ⟨rfl,h⟩⟩
theorem gz:jU (.int k a) (.int k b) K= (b≠0∧K (.int k (a.tmod b))):=propext ⟨fun h=>h.2,fun h=> ⟨rfl,h⟩⟩
theorem cu {o:BinOp}:cK o (.int k a) (.int k b) K=K (.int k (bitsOf o k a b)):=propext ⟨fun h=>h.2,fun h=> ⟨rfl,h⟩⟩
theorem fB:kC (.int k a) (.int k' b) K= (0≤b∧K (.int k (k.wrap (a*2 ^ (min b.toNat k.bits))))):=rfl
theorem lI:nU (.int k a) (.int k' b) K= (0≤b∧K (.int k (a.fdiv (2 ^ (min b.toNat k.bits))))):=rfl
theorem aO:b_ (.int k a) (.int k b) K=K (.bool (decide (a<b))):=propext ⟨fun h=>h.2,fun h=> ⟨rfl,h⟩⟩
theorem gZ:oZ (.int k a) (.int k b) K=K (.bool (decide (a≤b))):=propext ⟨fun h=>h.2,fun h=> ⟨rfl,h⟩⟩
theorem bc:ef (.int k a) (.int k b) K=K (.bool (decide (b<a))):=propext ⟨fun h=>h.2,fun h=> ⟨rfl,h⟩⟩
theorem dH:jz (.int k a) (.int k b) K=K (.bool (decide (b≤a))):=propext ⟨fun h=>h.2,fun h=> ⟨rfl,h⟩⟩
theorem aZ:cd 0 (.int k a) (.int k b) K=K (.bool (decide (a=b))):=by simp [cd,mq]
theorem fx:eW 0 (.int k a) (.int k b) K=K (.bool (decide (a≠b))):=by simp [eW,mq]
theorem X3:cd 1 (.string s) (.string t) K=K (.bool (decide (im s=im t))):=rfl
theorem Ua:eW 1 (.string s) (.string t) K=K (.bool (decide (im s≠im t))):=by simp [eW,mq]
theorem X4:eW 2 (.bool p) (.bool q) K=K (.bool (decide (p≠q))):=by simp [eW,mq]
theorem fC {ad}:cd 3 (.pointer (some ad)) (.pointer none) K=K (.bool false):=rfl
theorem v8 {ad}:eW 3 (.pointer (some ad)) (.pointer none) K=K (.bool true):=rfl
theorem U8 {n c m d}:cd 4 (.slice none n c) (.slice none m d) K=K (.bool true):=rfl
theorem U9 {ad n c m d}:cd 4 (.slice (some ad) n c) (.slice none m d) K=K (.bool false):=rfl
theorem dq:d_ (.bool p) K=K (.bool !p):=rfl
theorem Pm:OL (.int k a) K=K (.int k (bitsOf .xor k (if k.signed then -1 else k.max) a)):=rfl
theorem cP:bf k (.int k' a) K=K (.int k (k.wrap a)):=rfl
theorem kF:jA (.int k a) (.int k b) K=K (.int k (min a b)):=propext ⟨fun h=>h.2,fun h=> ⟨rfl,h⟩⟩
theorem Jp:IU (.int k a) (.int k b) K=K (.int k (max a b)):=propext ⟨fun h=>h.2,fun h=> ⟨rfl,h⟩⟩
theorem ae {o:Nat} {ad:Addr}:aa o (.pointer (some ad)) K=K (.pointer (some (ad.add o))):=rfl
theorem Mr {o:Nat} {l:List Value}:pg o (.agg l.toArray) K=match l[o]? with|some v=>K v|none=>False:=rfl
theorem jB {o:Nat} {l:List Value}:ar o (.tuple l.toArray) K=match l[o]? with|some v=>K v|none=>False:=rfl
theorem iq {n m:Nat} {ad:Addr}:eJ n m (.pointer (some ad)) (.int k a) K= (0≤a∧a< (n:Int)∧K (.pointer (some (ad.add (a.toNat*m))))):=rfl
theorem mE {n c m:Nat} {ad:Addr}:aK m (.slice (some ad) n c) (.int k a) K= (0≤a∧a< (n:Int)∧K (.pointer (some (ad.add (a.toNat*m))))):=rfl
theorem cc:bN (.string s) (.int k a) K= (0≤a∧a< ((im s).length:Int)∧K (.int .u8 (((im s).getD a.toNat 0).toNat:Int))):=rfl
theorem Aa {n c:Nat} {Kb:Nat→Nat→Prop}:gJ n c none none Kb=Kb 0 n:=rfl
theorem mF {n c:Nat} {Kb:Nat→Nat→Prop}:gJ n c (some (.int k a)) none Kb= (0≤a∧a≤(n:Int)∧Kb a.toNat n):=rfl
theorem eD {n c:Nat} {Kb:Nat→Nat→Prop}:gJ n c none (some (.int k b)) Kb= (0≤b∧b≤(c:Int)∧Kb 0 b.toNat):=rfl
theorem pw {n c:Nat} {Kb:Nat→Nat→Prop}:gJ n c (some (.int k a)) (some (.int k' b)) Kb= (0≤b∧b≤(c:Int)∧0≤a∧a≤b∧Kb a.toNat b.toNat):=rfl
theorem n8 {lo hi:Option Value}:bd (.string s) lo hi K=gJ (im s).length (im s).length lo hi fun l h=>K (str (((im s).drop l).take (h - l))):=rfl
theorem kW {m n c:Nat} {ad:Option Addr} {lo hi:Option Value}:gp m (.slice ad n c) lo hi K=gJ n c lo hi fun l h=>K (.slice (if c=l then ad else ad.map (·.add (l*m))) (h - l) (c - l)):=rfl
theorem Gf {m n:Nat} {ad:Addr} {lo hi:Option Value}:sU n m (.pointer (some ad)) lo hi K=gJ n n lo hi fun l h=>K (.slice (some (if n=l then ad else ad.add (l*m))) (h - l) (n - l)):=rfl
theorem ni:aT (.string s) K=K (.int .i64 ((im s).length:Int)):=rfl
theorem qK {ad:Option Addr} {n c:Nat}:bK (.slice ad n c) K=K (.int .i64 (n:Int)):=rfl
theorem D_ {ad:Option Addr} {n c:Nat}:IV (.slice ad n c) K=K (.int .i64 (c:Int)):=rfl
theorem br {l:List Value}:aW l [] K=K (.agg l.toArray):=rfl
theorem da {l:List Value} {o m:Nat} {v:Value} {r:List (Nat × Nat × Value)}:aW l ((o,m,v)::r) K= (v.cells.size=m∧o+m≤l.length∧aW (lg l o v.cells.toList) r K):=rfl
theorem dZ:Value.cells (.int k a)= #[(.int k a)]:=rfl
theorem CX:Value.cells (.string s)= #[(.string s)]:=rfl
theorem fG {u}:Value.cells (.agg u)=u:=rfl
end
theorem b7 (cs:List Value) (o:Nat) (v:Value) (r:List Value):lg cs o (v::r)=lg (cs.set o v) (o+1) r:=rfl
theorem cR (cs:List Value) (o:Nat):lg cs o []=cs:=rfl
theorem Gg (l:List Value): ∀ (cs:List Value) (o:Nat),(lg cs o l).length=cs.length:=by
 induction l with
 |nil=>intros;rfl
 |cons v r ih=>intro cs o;rw [b7,ih,aj1]
theorem uo (l:List Value): ∀ (a c:List Value),c.length=l.length→lg (a++c) a.length l=a++l:=by
 induction l with
 |nil=>
  intro a c h;have:c= []:=by simpa using h
  subst this;rfl
 |cons v r ih=>
  intro a c h
  match c,h with
  |x::c,h=>
   rw [b7,show (a++x::c).set a.length v= (a++ [v])++c by simp,show a.length+1= (a++ [v]).length by simp,ih (a++ [v]) c (by simpa using h)]
   simp
theorem sY {b o:Nat} {t:TypeId}: ∀ (l:List Value) (H:ag) (cs:Array Value) (i:Nat),H[b]? =some (.cells cs t (0,0))→l.all aS=true→o+i+l.length≤cs.size→
  fQ H ⟨b,o,none⟩ i l=some (H.setIfInBounds b (.cells (lg cs.toList (o+i) l).toArray t (0,0)))
 | [],H,cs,i,h,_,_=>by simp only [fQ,cR];rw [Ge h]
 |v::r,H,cs,i,h,hv,hs=>by
  have qL:aS v=true:=by simp only [al3,aja] at hv;exact hv.1
  have B6:r.all aS=true:=by simp only [al3,aja] at hv;exact hv.2
  have hs' :o+i+ (r.length+1)≤cs.size:=by simpa using hs
  have hc:cellAt H ⟨b,o+i,none⟩=some cs[o+i]:=by rw [dP h];simp
  have hf:frozenAt H ⟨b,o+i,none⟩=false:=by simp [frozenAt,h]
  simp only [fQ,ax,hc,hf,cond_false,qL,cond_true,v7 h];rw [sY r _ (cs.setIfInBounds (o+i) v) (i+1) (bU (bz h)) B6 (by simp;omega),set_set,b7]
  simp [akO]
theorem Gh {H:ag} {b n:Nat} {cs vs:Array Value} {t:TypeId} {K:Value→ag→Prop} (h:H[b]? =some (.cells cs t (0,0))) (hn:cs.size=n) (hv:vs.size=n) (ha:vs.toList.all aS=true):
  aH H n (.pointer (some ⟨b,0,none⟩)) (.agg vs) K=K undef (H.setIfInBounds b (.cells vs t (0,0))):=by
 have e:=uo vs.toList [] cs.toList (by simp [hn,hv]);simp only [aje,ai_] at e;simp only [aH,fG,hv,sY (o:=0) vs.toList H cs 0 h ha (by simp;omega),e,true_and]
def Ub (H:ag) (v:Value) (H' :ag):Prop:=v= .bool true∧Ext H H'
end
section
structure FG (b:Nat) (o:Obj) (H H' :ag):Prop where
 size:H.size≤H'.size
 at_:H'[b]? =some o
 ne: ∀i,i<H.size→i≠b→H'[i]? =H[i]?
theorem FG.ym {b c:Nat} {o o' :Obj} {H H' :ag} (h:FG b o H H') (hc:H[c]? =some o') (hn:c≠b):H'[c]? =some o' := (h.ne c (bz hc) hn).trans hc
theorem FG.ext {A H H' :ag} {b:Nat} {o:Obj} (h:FG b o H H') (hE:Ext A H) (hb:A.size≤b):Ext A H' :=
 ⟨ajv hE.size h.size,fun i hi=> (h.ne i (ajN hi hE.size) (by omega)).trans (hE.get i hi)⟩
theorem FG.set {H:ag} {b:Nat} {o:Obj} (hb:b<H.size):FG b o H (H.setIfInBounds b o):= ⟨by simp,bU hb,fun i _ hn=>c9 (akk hn)⟩
theorem FG.trans {A B C:ag} {b:Nat} {o o' :Obj} (h:FG b o A B) (k:FG b o' B C):FG b o' A C:=
 ⟨ajv h.size k.size,k.at_,fun i hi hn=> (k.ne i (ajN hi h.size) hn).trans (h.ne i hi hn)⟩
theorem FG.refl {A:ag} {b:Nat} {o:Obj} (h:A[b]? =some o):FG b o A A:= ⟨aiZ _,h,fun _ _ _=>rfl⟩
section
variable {KE:Value→ag→Prop} {H:ag} {b o n:Nat} {cs vs:Array Value} {t:TypeId} {v:Value}
theorem iM (h:H[b]? =some (.cells cs t (0,0))) (ho:o<cs.size) (hv:aS v=true) (hk: ∀H',H'.size=H.size→FG b (.cells (cs.setIfInBounds o v) t (0,0)) H H' →KE undef H'):aI H (.pointer (some ⟨b,o,none⟩)) v KE:=by
 rw [z8 h ho hv];exact hk _ (by simp) (FG.set (bz h))
theorem dt (h:H[b]? =some (.cells cs t (0,0))) (hn:cs.size=n) (hv:vs.size=n) (ha:vs.toList.all aS=true) (hk: ∀H',H'.size=H.size→FG b (.cells vs t (0,0)) H H' →KE undef H'):aH H n (.pointer (some ⟨b,0,none⟩)) (.agg vs) KE:=by
 rw [Gh h hn hv ha];exact hk _ (by simp) (FG.set (bz h))
theorem fI {e:TypeId} (hk: ∀H',H'.size=H.size+1→Ext H H' →H'[H.size]? =some (.cells v.cells e (0,0))→KE (.pointer (some ⟨H.size,0,none⟩)) H'):bD H e v KE:=
 hk _ (by simp) (Ext.refl _).push bO
end
end
section
section
variable {H:ag} {KE:Value→ag→Prop} {a d:Bool}
theorem Ab:bE (.bool a) (fun J=> ∀_:Env,J (.bool d) H) H KE=KE (.bool (a && d)) H:=by
 refine Eq.trans ?_ (fF (H:=H) (KE:=KE) (a:=a) (d:=d));unfold bE;simp only [forall_const]
theorem Ea {R:Value→ag→Prop} {b:Bool} (e:a=b) (h:R (.bool b) H):R (.bool a) H:=by rw [e];exact h
end
end
section
theorem Eb {a c:Int} {k:Nat} (ha:0≤a) (Oz:a<2 ^ k) (hc:0≤c) (hb:c*2 ^ k+a≤9223372036854775807):bitsOf .or .i64 a (c*2 ^ k)=c*2 ^ k+a:=by
 obtain⟨a',rfl⟩:=Int.eq_ofNat_of_zero_le ha;obtain⟨c',rfl⟩:=Int.eq_ofNat_of_zero_le hc;have Uc:a' <2 ^ k:=by exact_mod_cast Oz
 have hp: (c' :Int)*2 ^ k= ((c' *2 ^ k:Nat):Int):=by rw [Int.natCast_mul,ak6];rfl
 rw [hp] at hb ⊢;have ub:c' *2 ^ k+a' ≤9223372036854775807:=by
  generalize c' *2 ^ k=z at hb;omega
 have e: ((BitVec.ofInt 64 (a' :Int)) ||| (BitVec.ofInt 64 ((c' *2 ^ k:Nat):Int))).toNat=c' *2 ^ k+a' :=by
  rw [amr,ajT,ajT,ajH,ajH,ajg (by omega),ajg (by omega),alo,ajQ c',ams Uc]
 show IntKind.i64.wrap ((((BitVec.ofInt 64 (a' :Int)) ||| (BitVec.ofInt 64 ((c' *2 ^ k:Nat):Int))).toNat:Nat):Int)=_;rw [e,ff (by omega) (by omega)]
 rfl
end
end Go.Vc
namespace Go.Vc
open Go Go.RowKit
section
theorem Pn [Go.Vc.Mode] {P:Program} {f:FuncId} {args:Array Value} {w:World} (h:jb P f args w.heap (Ub w.heap)):Calls P f args w fun e w' =>e= .returned (.bool true)∧∃Cc :World,w'.Alike Cc ∧Below w.heap.size w Cc :=
 (h w rfl).mono fun e w' ⟨v,he,hr,hv,hx⟩=> ⟨by rw [he,hv],{w' with tape:=w.tape},⟨rfl,rfl,rfl⟩,⟨hr.os,rfl,hr.output,hx.size,fun k hk=>hx.get k hk⟩⟩
def Ec (k:IntKind) (H:ag) (a:Option Addr) (len cap:Nat) (zs:List Int):Prop:=
 (a=none∧len=0∧cap=0∧zs= [])∨
 ∃x,a=some x∧len≤cap∧cap≤maxLen∧zs.length=cap∧(∀i,i<zs.length→cellAt H (x.add i)=some (.int k (zs.getD i 0)))∧∀n∈zs,(Lit.int k n).wf=true
theorem X5 {n:Int} (h: (Lit.int .i64 n).wf=true): -9223372036854775808≤n∧n≤9223372036854775807:=by
 simpa [Lit.wf,IntKind.min,IntKind.max,IntKind.signed,IntKind.bits] using h
theorem Ac {H H' :ag} {a:Addr} {v:Value} (h:Ext H H') (hc:cellAt H a=some v):cellAt H' a=some v:=by
 unfold cellAt at hc ⊢;have hl:a.block<H.size:=by
  rcases ajM a.block H.size with h' |h'
  ·exact h'
  ·rw [akB h'] at hc;cases hc
 rw [h.get _ hl];exact hc
theorem Ec.read {k:IntKind} {H H' :ag} {a:Option Addr} {len cap:Nat} {zs:List Int} (hr:Ec k H a len cap zs) (hx:Ext H H') {i:Int} (h0:0≤i) (h1:i< (len:Int)) {K:Value→Prop}:
  (K (.int k (zs.getD i.toNat 0)))→aK 1 (.slice a len cap) (.int .i64 i) fun x=>ao H' x K:=by
 intro hk;rcases hr with ⟨_,rfl,_⟩ | ⟨x,rfl,hl,_,hz,hc,_⟩
 ·omega
 ·rw [mE]
  refine⟨h0,h1,?_⟩;rw [ai5,bo (Ac hx (hc i.toNat (by omega)))];exact hk
theorem Ec.wf {k:IntKind} {H:ag} {a:Option Addr} {len cap:Nat} {zs:List Int} (hr:Ec k H a len cap zs) {i:Nat} (h1:i<len): (Lit.int k (zs.getD i 0)).wf=true:=by
 rcases hr with ⟨_,rfl,_⟩ | ⟨x,rfl,hl,_,hz,hc,hw⟩
 ·omega
 ·rw [ai3,ai1 (by omega)]
  exact hw _ (ai9 _)
end
end Go.Vc
namespace Go.Vc
open Go Go.ChangeShapes Go.WideShapes Go.Deep Go.RowKit
section
def U_:TypeDesc→Value→Prop
 | .int k,v=> ∃n,v= .int k n∧(Lit.int k n).wf=true
 | .bool,v=> ∃b,v= .bool b
 | .string,v=> ∃l,v=str l∧l.length≤maxLen
 |_,_=>True
def mG (ds:List TypeDesc) (c:Nat→Option Value):Prop:= ∀ (j:Nat) (d:TypeDesc),ds[j]? =some d→∃v,c j=some v∧U_ d v
def ma (ds:List TypeDesc) (H:ag) (a:Option Addr) (len cap:Nat):Prop:=
 (a=none∧len=0∧cap=0)∨
 ∃x,a=some x∧len≤cap∧cap≤maxLen∧∀i,i<len→mG ds fun j=>cellAt H (x.add (i*ds.length+j))
def CY (P:Program) (fs:List Field):List TypeDesc:=fs.map fun f=> (P.underlying f.type).getD .bool
section
variable {H:Type} {enc:TypeId × Value→H} {P:Program} {w:World} {base:Nat} {spare:Nat→Bool} {held:Bool}
theorem Po {t:TypeId} {d:TypeDesc} {v:Value} {n:Nat} {y:DataW H × List MemPlace} (hu:P.underlying t=some d) (h:DataW.trod enc P w base spare held n t [v]=some y):U_ d v:=by
 unfold U_
 split
 ·obtain⟨m,he,_,hw⟩:=DataW.trod_int hu h
  simp only [akt,and_true] at he;exact⟨m,he,hw⟩
 ·obtain⟨b,he,_⟩:=DataW.trod_bool hu h
  simp only [akt,and_true] at he;exact⟨b,he⟩
 ·obtain⟨s,he,_,hl⟩:=DataW.trod_string hu h
  simp only [akt,and_true] at he;refine⟨im s,by rw [he,Sg],?_⟩;have e: (im s).length=s.size:=rfl;rw [e];exact hl
 ·trivial
theorem take_one {cs:List Value} {j:Nat} (h:j<cs.length): (cs.drop j).take 1= [cs[j]'h]:=by
 rw [ajJ h];rfl
theorem SJ {t:TypeId} {fs:Array Field} {cs:List Value} {fuel:Nat} {x:DataW H × List MemPlace} (ht:P.underlying t=some (.struct fs)) (kG:oneCellFields P fs=true) (hC:P.cellsOf t=fs.size)
  (iT:fs.toList.all (fun f=> (P.underlying f.type).isSome)=true) (h:DataW.trod enc P w base spare held fuel t cs=some x):cs.length=fs.size∧mG (CY P fs.toList) fun j=>cs[j]? :=by
 obtain⟨ys,n',X6,hy,hlen,Cf,hf⟩:=DataW.trod_struct ht h;refine⟨hlen.trans hC,fun j d hj=>?_⟩;unfold CY at hj;rw [aji,Array.getElem?_toList] at hj
 cases W8:fs[j]? with
 |none=>rw [W8] at hj;cases hj
 |some f=>
  rw [W8] at hj;simp only [ak2,ai8] at hj;have rO:j<fs.size:= (akQ.1 W8).1;obtain⟨ho,hk⟩:=hone_of kG j f W8;have h1:=hf j f W8;have hl:j<cs.length:=by omega
  rw [ho,hk,take_one hl,ai1 (show j<ys.length by omega)] at h1;have hs: (P.underlying f.type).isSome=true:=akv.1 iT f (by
   have:= (akQ.1 W8);obtain⟨h1,h2⟩:=this;rw [←h2];simp)
  obtain⟨d',IJ⟩:=Option.isSome_iff_exists.1 hs;rw [IJ] at hj;simp only [aj9] at hj;subst hj;exact⟨cs[j],ai1 hl,Po IJ h1⟩
theorem Ed {t e:TypeId} {fs:Array Field} {fuel:Nat} {a:Option Addr} {len cap:Nat} {x:DataW H × List MemPlace} (ht:P.underlying t=some (.slice e)) (he:P.underlying e=some (.struct fs)) (kG:oneCellFields P fs=true) (hC:P.cellsOf e=fs.size)
  (iT:fs.toList.all (fun f=> (P.underlying f.type).isSome)=true) {ds:List TypeDesc} (Va:CY P fs.toList=ds) (h:DataW.trod enc P w base spare held fuel t [.slice a len cap]=some x):ma ds w.heap a len cap:=by
 subst Va;rcases open_slice ht h with ⟨h0,_⟩ | ⟨a',aeP,Vb,m,n,D,Pl,Le,hb,hl,hm,Vd,hx,hi⟩
 ·simp only [akt,Value.slice.injEq,and_true] at h0
  exact .inl h0
 ·simp only [akt,Value.slice.injEq,and_true] at Le
  obtain⟨rfl,rfl,rfl⟩:=Le;refine .inr ⟨a',rfl,hl,hm,fun i vZ=>?_⟩;have him:i<m:=by rw [Vd];split<;>omega
  obtain⟨Gi,hc,XR⟩:=hi i him;have hF:=SJ he kG hC iT XR;obtain⟨_,dM,ft⟩:=World.cells?_some hc;intro j d hj;obtain⟨v,hv,hk⟩:=hF.2 j d hj;have rO:j<Gi.length:= (ajD.1 hv).1;refine⟨v,?_,hk⟩;have ft:=ft j (by omega);have hv:Gi[j]? =some v:=hv;show cellAt w.heap (a'.add (i* (CY P fs.toList).length+j))=some v;rw [←hv,←ft,Go.Deep.add_add,hC];have: (CY P fs.toList).length=fs.size:=by simp [CY]
  rw [this]
  rfl
theorem Jq {t e:TypeId} {d:TypeDesc} {k:Nat} {v:Value} {dd:DataW H} {p:List MemPlace} {r:Reach} {b0:Nat} (ht:P.underlying t=some (.array k e)) (he:P.underlying e=some d) (hC:P.cellsOf e=1) (hCt:P.cellsOf t=k)
  (hv:Value.okWide P w r b0 t v) (h:DataW.Trod enc P w base spare held t v dd p): ∃l:List Value,v= .agg l.toArray∧l.length=k∧mG (List.replicate k d) fun j=>l[j]? :=by
 have lQ : ∃cs,v= .agg cs∧cs.size=P.cellsOf t:=by
  simp only [Value.okWide,ht] at hv;obtain⟨cs,h1,h2,_⟩:=hv;exact⟨cs,h1,h2⟩
 obtain⟨cs,rfl,qm⟩:=lQ;obtain⟨l⟩:=cs;obtain⟨fuel,hf⟩:=h;obtain⟨ys,m,_,_,hlen,Cf,hg⟩:=DataW.trod_array ht hf;have hl:l.length=k:=by rw [←hCt];exact qm
 refine⟨l,rfl,hl,fun j d' hj=>?_⟩;have WZ:j<k:=by have:= (ajD.1 hj).1;simpa using this
 have hd:d' =d:=by
  rw [akU,if_pos WZ] at hj
  simpa using hj.symm
 subst hd;have h1:=hg j WZ;rw [hC,ai5] at h1;have cL:j< (Value.agg l.toArray).cells.toList.length:=by show j<l.length;omega
 rw [take_one cL,ai1 (show j<ys.length by omega)] at h1;exact⟨l[j],ai1 (by omega),Po he h1⟩
end
end
end Go.Vc
namespace Go.Vc
open Go
section
theorem uq (a:Addr) (m n:Nat): (a.add m).add n=a.add (m+n):=by
 unfold Addr.add
 by_cases hm:m=0
 ·subst hm;simp
 ·by_cases hn:n=0
  ·subst hn;simp [hm]
  ·have:m+n≠0:=by omega
   simp [hm,hn,this,akO]
def Reads (H:ag) (a:Addr) (l:List Value):Prop:= ∀ (i:Nat) (v:Value),l[i]? =some v→cellAt H (a.add i)=some v
theorem Reads.cells {H:ag} {a:Addr} {l:List Value} (h:Reads H a l): ∀n,n≤l.length→fc H a n=some (l.take n)
 |0,_=>by simp [fc]
 |n+1,hn=>by
  have cL:n<l.length:=by omega
  simp only [fc,h.cells n (by omega),h n l[n] (ai1 cL)];rw [ajr,ai1 cL]
  rfl
theorem Reads.all {H:ag} {a:Addr} {l:List Value} (h:Reads H a l):fc H a l.length=some l:=by rw [h.cells _ (aiZ _),ajc]
theorem Reads.ext {H H' :ag} {a:Addr} {l:List Value} (h:Reads H a l) (hx:Ext H H'):Reads H' a l:=fun i v hv=>Ac hx (h i v hv)
theorem Reads.part {H:ag} {a:Addr} {l:List Value} (h:Reads H a l) (o n:Nat):Reads H (a.add o) ((l.drop o).take n):=fun i v hv=>by
 rw [uq];rw [akw] at hv
 split at hv
 ·rw [ajW] at hv;exact h _ _ hv
 ·cases hv
def Sl (H:ag) (v:Value) (sz:Nat) (l:List Value):Prop:=
 (v= .slice none 0 0∧l= [])∨∃a n cap,v= .slice (some a) n cap∧l.length=n*sz∧n≤cap∧Reads H a l
theorem Sl.ext {H H' :ag} {v:Value} {sz:Nat} {l:List Value} (h:Sl H v sz l) (hx:Ext H H'):Sl H' v sz l:=by
 rcases h with h| ⟨a,n,cap,h1,h2,h3,h4⟩
 ·exact .inl h
 ·exact .inr ⟨a,n,cap,h1,h2,h3,h4.ext hx⟩
theorem Sl.len {H:ag} {v:Value} {sz:Nat} {l:List Value} {K:Value→Prop} (h:Sl H v sz l) {n:Nat} (hn:l.length=n*sz) (hz:0<sz) (hk:K (.int .i64 (n:Int))):bK v K:=by
 rcases h with ⟨rfl,rfl⟩ | ⟨a,m,cap,rfl,h2,h3,h4⟩
 ·rw [qK]
  have:n=0:=by
   rcases akV n with h|h
   ·exact h
   ·have:=akR h hz
    simp only [ai_] at hn;omega
  subst this;exact hk
 ·rw [qK]
  rw [h2] at hn;rw [akW hz hn];exact hk
theorem Sl.jc {H:ag} {v:Value} {sz:Nat} {l:List Value} (h:Sl H v sz l) {n:Nat} (hn:l.length=n*sz) (hz:0<sz):Go.Vc.jc v=some n:=by
 rcases h with ⟨rfl,rfl⟩ | ⟨a,m,cap,rfl,h2,h3,h4⟩
 ·have:n=0:=by
   rcases akV n with h|h
   ·exact h
   ·have:=akR h hz
    simp only [ai_] at hn;omega
  subst this;rfl
 ·rw [h2] at hn
  rw [akW hz hn];rfl
theorem Sl.cellsOf {H:ag} {v:Value} {sz:Nat} {l:List Value} (h:Sl H v sz l):Go.Vc.cellsOf H sz v=some l:=by
 rcases h with ⟨rfl,rfl⟩ | ⟨a,m,cap,rfl,h2,h3,h4⟩
 ·rfl
 ·show fc H a (m*sz)=some l
  rw [←h2];exact h4.all
theorem Sl.idx {H:ag} {v:Value} {sz:Nat} {l:List Value} {K:Value→Prop} (h:Sl H v sz l) {n:Nat} (hn:l.length=n*sz) (hz:0<sz) {i:Int} (h0:0≤i) (h1:i< (n:Int))
  (hk: ∀a:Addr,Reads H a ((l.drop (i.toNat*sz)).take sz)→K (.pointer (some a))):aK sz v (.int .i64 i) K:=by
 rcases h with ⟨rfl,rfl⟩ | ⟨a,m,cap,rfl,h2,h3,h4⟩
 ·have:=akR (show 0<n by omega) hz
  simp only [ai_] at hn;omega
 ·rw [h2] at hn
  have hmn:=akW hz hn;rw [mE];exact⟨h0,by omega,hk _ (h4.part _ _)⟩
theorem Reads.load {H:ag} {a:Addr} {l:List Value} {v:Value} {K:Value→Prop} (h:Reads H a l) (hv:l[0]? =some v) (hk:K v):ao H (.pointer (some a)) K:=by
 have:=h 0 v hv;have e:a.add 0=a:=by simp [Addr.add]
 rw [e] at this;rw [bo this];exact hk
theorem Reads.loadAt {H:ag} {a:Addr} {l:List Value} {v:Value} {o:Nat} {K:Value→Prop} (h:Reads H a l) (hv:l[o]? =some v) (hk:K v):ao H (.pointer (some (a.add o))) K:=by
 rw [bo (h o v hv)];exact hk
theorem Reads.fZ {H:ag} {a:Addr} {l:List Value} {n:Nat} {K:Value→Prop} (h:Reads H a l) (hn:l.length=n) (hk:K (.agg l.toArray)):aF H n (.pointer (some a)) K:=by
 subst hn;simp only [aF,h.all];exact hk
def Ee (fr:Nat × Nat) (n:Nat):Prop:=fr= (0,0)∨n≤fr.1
structure aaC (H:ag) (b:Nat) (sz n cap:Nat) (l sp:List Value):Prop where
 lk: ∃t fr,H[b]? =some (.cells (l++sp).toArray t fr)∧Ee fr (cap*sz)
 len:l.length=n*sz
 cap_: (l++sp).length=cap*sz
def jJ (H:ag) (v:Value) (sz:Nat) (l:List Value):Prop:=
 (v= .slice none 0 0∧l= [])∨∃b n cap sp,v= .slice (some ⟨b,0,none⟩) n cap∧aaC H b sz n cap l sp
def aY:Value→Option Nat
 | .slice (some a) _ _=>some a.block
 |_=>none
theorem jJ.sl {H:ag} {v:Value} {sz:Nat} {l:List Value} (hz:0<sz) (h:jJ H v sz l):Sl H v sz l:=by
 rcases h with h| ⟨b,n,cap,sp,rfl,⟨t,fr,hb,_⟩,hl,hc⟩
 ·exact .inl h
 ·refine .inr ⟨_,n,cap,rfl,hl,?_,fun i v hv=>?_⟩
  ·rw [aiV] at hc
   exact Nat.le_of_mul_le_mul_right (by omega) hz
  ·rw [ax,ajb,dP hb,ajC,ajL (ajD.1 hv).1]
   exact hv
theorem jJ.ext {H H' :ag} {v:Value} {sz:Nat} {l:List Value} (h:jJ H v sz l) (hx:Ext H H'):jJ H' v sz l:=by
 rcases h with h| ⟨b,n,cap,sp,rfl,⟨t,fr,hb,hf⟩,hl,hc⟩
 ·exact .inl h
 ·exact .inr ⟨b,n,cap,sp,rfl,⟨⟨t,fr,hx.lk hb,hf⟩,hl,hc⟩⟩
theorem jJ.other {H H' :ag} {v:Value} {sz:Nat} {l:List Value} {b' :Option Nat} (h:jJ H v sz l) (hx: ∀i,i<H.size→b' ≠some i→H'[i]? =H[i]?) (hb:aY v≠b' ∨aY v=none):jJ H' v sz l:=by
 rcases h with h| ⟨b,n,cap,sp,rfl,⟨t,fr,R0,hf⟩,hl,hc⟩
 ·exact .inl h
 ·refine .inr ⟨b,n,cap,sp,rfl,⟨⟨t,fr,?_,hf⟩,hl,hc⟩⟩
  rw [hx b (bz R0) (by
   rcases hb with hb|hb
   ·exact fun e=>hb (by simp [aY,e])
   ·simp [aY] at hb)]
  exact R0
theorem jJ.lt {H:ag} {v:Value} {sz:Nat} {l:List Value} (h:jJ H v sz l) {b:Nat} (hb:aY v=some b):b<H.size:=by
 rcases h with ⟨rfl,_⟩ | ⟨b',n,cap,sp,rfl,⟨t,fr,R0,hf⟩,hl,hc⟩
 ·simp [aY] at hb
 ·simp only [aY,ai8] at hb
  subst hb;exact bz R0
theorem jK {b:Nat} {t:TypeId} {fr:Nat × Nat} {N:Nat} (hf:Ee fr N): ∀ (l:List Value) (H:ag) (o i:Nat) (cs:List Value),H[b]? =some (.cells cs.toArray t fr)→l.all aS=true→o+i+l.length≤cs.length→cs.length=N→
  fQ H ⟨b,o,none⟩ i l=some (H.setIfInBounds b (.cells (lg cs (o+i) l).toArray t fr))
 | [],H,o,i,cs,h,_,_,_=>by simp only [fQ,cR];rw [Ge h]
 |v::r,H,o,i,cs,h,hv,hs,hN=>by
  have qL:aS v=true:=by simp only [al3,aja] at hv;exact hv.1
  have B6:r.all aS=true:=by simp only [al3,aja] at hv;exact hv.2
  have hs' :o+i+ (r.length+1)≤cs.length:=by simpa using hs
  have hc:cellAt H ⟨b,o+i,none⟩=some (cs[o+i]'(by omega)):=by rw [dP h,ajC,ai1]
  have Pp:frozenAt H ⟨b,o+i,none⟩=false:=by
   obtain⟨lo,hi⟩:=fr;simp only [frozenAt,h];rcases hf with hf|hf
   ·simp only [aj8] at hf
    obtain⟨rfl,rfl⟩:=hf
    simp
   ·have: ¬lo≤o+i:=by simp only at hf;omega
    simp [this]
  simp only [fQ,ax,hc,Pp,cond_false,qL,cond_true,v7 h];rw [show (Array.setIfInBounds cs.toArray (o+i) v)= (cs.set (o+i) v).toArray by simp];rw [jK hf r _ o (i+1) (cs.set (o+i) v) (bU (bz h)) B6 (by simp;omega) (by simpa using hN),set_set,b7]
  simp [akO]
theorem n9 (l:List Value): ∀ (a c:List Value),l.length≤c.length→lg (a++c) a.length l=a++l++c.drop l.length:=by
 induction l with
 |nil=>intro a c _;simp [cR]
 |cons v r ih=>
  intro a c h
  match c,h with
  |x::c,h=>
   rw [b7,show (a++x::c).set a.length v= (a++ [v])++c by simp,show a.length+1= (a++ [v]).length by simp,ih (a++ [v]) c (by simpa using h)]
   simp
theorem g_ (z:List Value): ∀n,(fS z n).length=n*z.length
 |0=>by simp [fS]
 |n+1=>by rw [fS,aiV,g_ z n,ak3,akN]
theorem jJ.append {H:ag} {v x:Value} {sz bytes m n:Nat} {e:TypeId} {zero l new:List Value} {K:Value→ag→Prop} (h:jJ H v sz l) (hz:0<sz) (hzero:zero.length=sz) (hlen:jc x=some m) (jd:cellsOf H sz x=some new)
  (hl:l.length=n*sz) (hm:new.length=m*sz) (kG:new.all aS=true) (jL:2* (n+m)*bytes≤281474976710656)
  (hk: ∀v' H',jJ H' v' sz (l++new)→(∀i,i<H.size→aY v≠some i→H'[i]? =H[i]?)→H.size≤H'.size→(aY v' =aY v∨aY v' =some H.size)→K v' H'):a7 H e sz bytes zero v x K:=by
 rcases h with ⟨rfl,rfl⟩ | ⟨b,n',cap,sp,rfl,⟨t,fr,hb,hf⟩,B5,hc⟩
 ·have Ad:n=0:=by
   rcases akV n with h|h
   ·exact h
   ·have:=akR h hz
    simp only [ai_] at hl;omega
  subst Ad;simp only [a7,hlen,jd];refine⟨fun hle=>?_,fun cL=>?_⟩
  ·have FF:m=0:=by omega
   subst FF;have:new= []:=by simpa using hm
   subst this;exact hk _ H (.inl ⟨rfl,rfl⟩) (fun _ _ _=>rfl) (aiZ _) (.inl rfl)
  ·refine⟨by simpa using jL,?_⟩
   simp only [cellsOf,aje];intro c hc;refine hk _ _ (.inr ⟨H.size,0+m,c,fS zero (c - (0+m)),rfl,⟨⟨e,(0,0),bO,.inl rfl⟩,by simpa using hm,?_⟩⟩) (fun i hi _=>iK hi) (by simp) (.inr rfl);simp only [aje];rw [aiV,g_,hm,hzero,←aj2]
   congr 1;omega
 ·have Ve:n' =n:=akW hz (B5.symm.trans hl)
  subst Ve;simp only [a7,hlen,jd];refine⟨fun hle=>?_,fun cL=>?_⟩
  ·have zO:new.length≤sp.length:=by
    rw [aiV] at hc;have:=akl sz hle;rw [aj2] at this;omega
   simp only [ax,ajb];rw [jK hf new H (n' *sz) 0 (l++sp) hb kG (by rw [aiV];omega) hc];simp only [ajq];rw [←B5,n9 new l sp zO];refine hk _ _ (.inr ⟨b,n' +m,cap,sp.drop new.length,rfl,⟨⟨t,fr,bU (bz hb),hf⟩,?_,?_⟩⟩) (fun i hi cQ=>?_) (by simp) (.inl rfl)
   ·rw [aiV,B5,hm,aj2]
   ·rw [aiV,aiV,ai4]
    rw [aiV] at hc;omega
   ·exact c9 (by intro e;subst e;simp [aY] at cQ)
  ·refine⟨jL,?_⟩
   have hr:cellsOf H sz (.slice (some ⟨b,0,none⟩) n' cap)=some l:=by
    have:= (jJ.sl hz (.inr ⟨b,n',cap,sp,rfl,⟨⟨t,fr,hb,hf⟩,B5,hc⟩⟩:jJ H (.slice (some ⟨b,0,none⟩) n' cap) sz l)).cellsOf;exact this
   rw [hr];intro c gE;refine hk _ _ (.inr ⟨H.size,n' +m,c,fS zero (c - (n' +m)),rfl,⟨⟨e,(0,0),bO,.inl rfl⟩,?_,?_⟩⟩) (fun i hi _=>iK hi) (by simp) (.inr rfl)
   ·rw [aiV,B5,hm,aj2]
   ·rw [aiV,aiV,g_,B5,hm,hzero,←aj2,←aj2]
    congr 1;omega
theorem jJ.Ef {H:ag} {v x:Value} {sz bytes n:Nat} {e:TypeId} {zero l:List Value} {K:Value→ag→Prop} (h:jJ H v sz l) (hz:0<sz) (hzero:zero.length=sz) (hx:x.cells.size=sz) (kG:x.cells.toList.all aS=true)
  (hl:l.length=n*sz) (jL:2* (n+1)*bytes≤281474976710656)
  (hk: ∀v' H',jJ H' v' sz (l++x.cells.toList)→(∀i,i<H.size→aY v≠some i→H'[i]? =H[i]?)→H.size≤H'.size→(∀k,aY v' =some k→aY v=some k∨H.size≤k)→K v' H'):
  aU H e 1 zero [(0,sz,x)] fun y H1=>a7 H1 e sz bytes zero v y K:=by
 have hp:lg zero 0 x.cells.toList=x.cells.toList:=by
  have:=uo x.cells.toList [] zero (by simp [hzero,hx])
  simpa using this
 simp only [aU,da,br,hp,fG];refine⟨hx,by omega,?_⟩;have e1:Ext H (H.push (.cells x.cells.toList.toArray e)):= (Ext.refl H).push;have hr:Reads (H.push (.cells x.cells.toList.toArray e)) ⟨H.size,0,none⟩ x.cells.toList:=fun i w hw=>by
  rw [ax,ajb,dP bO,ajC];exact hw
 have hc:Go.Vc.cellsOf (H.push (.cells x.cells.toList.toArray e)) sz (.slice (some ⟨H.size,0,none⟩) 1 1)=some x.cells.toList:=by
  have:=hr.all;rw [show x.cells.toList.length=1*sz by simp [hx]] at this;exact this
 refine jJ.append (h.ext e1) hz hzero (m:=1) rfl hc hl (by simp [hx]) kG jL fun v' H' ho hi hs hb=>?_;refine hk v' H' ho (fun i vZ cQ=>?_) (by rw [amt] at hs;omega) (fun k iU =>?_)
 ·rw [hi i (by rw [amt];omega) cQ];exact iK vZ
 ·rcases hb with hb|hb
  ·left;rw [←hb];exact iU
  ·right;rw [hb,ai8,amt] at iU;omega
theorem pA {A H H' :ag} {v:Value} (hx:Ext A H) (hv: ∀k,aY v=some k→A.size≤k) (hi: ∀i,i<H.size→aY v≠some i→H'[i]? =H[i]?) (hs:H.size≤H'.size):Ext A H' :=
 ⟨ajv hx.size hs,fun i vZ=>by
  have:=hx.size;rw [hi i (by omega) (fun e=>by have:=hv i e;omega)];exact hx.get i vZ⟩
theorem sH: ∀l:List UInt8,bytesOf (l.map bu)=some l
 | []=>rfl
 |b::r=>by
  simp only [aj3,bytesOf,sH r]
  congr 2
  simp
theorem Sl.str {H:ag} {v:Value} {l:List UInt8} {K:Value→Prop} (h:Sl H v 1 (l.map bu)) (hk:K (str l)):fR H v K:=by
 rcases h with ⟨rfl,hl⟩ | ⟨a,n,cap,rfl,h2,h3,h4⟩
 ·have:l= []:=by simpa using hl
  subst this;exact hk
 ·simp only [ajh,ai5] at h2
  simp only [fR];have:=h4.all;rw [ajh,h2] at this;rw [this];simp only [sH];exact hk
theorem Sl.cut {H:ag} {v:Value} {sz:Nat} {l:List Value} {K:Value→Prop} (h:Sl H v sz l) (hz:0<sz) {n lo hi:Nat} (hn:l.length=n*sz) (h1:lo≤hi) (h2:hi≤n) (hk: ∀v',Sl H v' sz ((l.drop (lo*sz)).take ((hi - lo)*sz))→K v') {x y:Option Value}
  (hx:x=some (.int .i64 (lo:Int))∨(x=none∧lo=0)) (hy:y=some (.int .i64 (hi:Int))∨(y=none∧hi=n)):gp sz v x y K:=by
 have hc: ∀ (c:Nat) (Kb:Nat→Nat→Prop),n≤c→Kb lo hi→gJ n c x y Kb:=by
  intro c Kb hnc hk;rcases hx with rfl| ⟨rfl,rfl⟩<;>rcases hy with rfl| ⟨rfl,rfl⟩
  ·rw [pw];exact⟨by omega,by omega,by omega,by omega,by simpa using hk⟩
  ·rw [mF];exact⟨by omega,by omega,by simpa using hk⟩
  ·rw [eD];exact⟨by omega,by omega,by simpa using hk⟩
  ·rw [Aa];exact hk
 rcases h with ⟨rfl,rfl⟩ | ⟨a,m,cap,rfl,hm,Ae,hr⟩
 ·have Ad:n=0:=by
   rcases akV n with h|h
   ·exact h
   ·have:=akR h hz
    simp only [ai_] at hn;omega
  subst Ad;have:hi=0:=by omega
  subst this;have:lo=0:=by omega
  subst this;rw [kW];refine hc 0 _ (aiZ _) ?_;exact hk _ (.inl ⟨by simp,by simp⟩)
 ·have hmn:=akW hz (hm.symm.trans hn)
  subst hmn;rw [kW];refine hc cap _ Ae ?_;refine hk _ (.inr ⟨if cap=lo then a else a.add (lo*sz),hi - lo,cap - lo,by split<;>rfl,?_,by omega,?_⟩)
  ·rw [ai2,ai4,hm]
   have: (hi - lo)*sz≤m*sz - lo*sz:=by
    rw [←Nat.sub_mul];exact akl sz (by omega)
   omega
  ·split
   ·rename_i he
    subst he;have:hi - cap=0:=by omega
    rw [this,ak7,akD];intro i w hw;simp at hw
   ·exact hr.part _ _
theorem jJ.store {H:ag} {v x:Value} {l:List Value} {K:Value→ag→Prop} (h:jJ H v 1 l) (hx:aS x=true) {i:Int} (h0:0≤i) (h1:i< (l.length:Int))
  (hk: ∀H',jJ H' v 1 (l.set i.toNat x)→(∀j,j<H.size→aY v≠some j→H'[j]? =H[j]?)→H'.size=H.size→K undef H'):aK 1 v (.int .i64 i) fun p=>aI H p x K:=by
 rcases h with ⟨rfl,rfl⟩ | ⟨b,n,cap,sp,rfl,⟨t,fr,hb,hf⟩,hl,hc⟩
 ·simp only [ai_] at h1;omega
 ·rw [mE]
  refine⟨h0,by omega,?_⟩;rw [ai5,ax,ajb];have cL:i.toNat< (l++sp).length:=by rw [aiV];omega
  have hs:=jK hf [x] H i.toNat 0 (l++sp) hb (by simp [hx]) (by simp only [ai6,ai_];omega) hc;simp only [aI,hs,ajq,b7,cR];refine hk _ (.inr ⟨b,n,cap,sp,rfl,⟨⟨t,fr,?_,hf⟩,by simpa using hl,by simpa using hc⟩⟩) (fun j hj cQ=>c9 (by intro e;subst e;simp [aY] at cQ)) (by simp);rw [bU (bz hb),al4 _ _ (by omega)]
theorem Pq {H:ag} {e:TypeId} {bytes:Nat} {z:Value} {n:Int} {K:Value→ag→Prop} (h0:0≤n) (hb: (bytes:Int)*n≤281474976710656) (hn:n≤9223372036854775807)
  (hk: ∀v H',jJ H' v 1 (List.replicate n.toNat z)→Ext H H' →H'.size=H.size+1→aY v=some H.size→K v H'):dB H e bytes [z] (.int .i64 n) (.int .i64 n) K:=by
 have hr: ∀k,fS [z] k=List.replicate k z:=by
  intro k
  induction k with
  |zero=>rfl
  |succ k ih=>rw [fS,ih];rfl
 simp only [dB];refine⟨h0,alp _,hb,hn,?_⟩;rw [hr];exact hk _ _ (.inr ⟨H.size,n.toNat,n.toNat,[],rfl,⟨⟨e,(0,0),by rw [ajl];exact bO,.inl rfl⟩,by simp,by simp⟩⟩) (Ext.refl H).push (by simp) rfl
theorem Af {H:ag} {e:TypeId} {sz:Nat} {zero:List Value} {x:Value} {K:Value→ag→Prop} (hzero:zero.length=sz) (hx:x.cells.size=sz)
  (hk: ∀y H',Sl H' y sz x.cells.toList→Ext H H' →aY y=some H.size→K y H'):aU H e 1 zero [(0,sz,x)] K:=by
 have hp:lg zero 0 x.cells.toList=x.cells.toList:=by
  have:=uo x.cells.toList [] zero (by simp [hzero,hx])
  simpa using this
 simp only [aU,da,br,hp,fG];refine⟨hx,by omega,?_⟩;refine hk _ _ (.inr ⟨_,1,1,rfl,by simp [hx],aiZ _,fun i w hw=>?_⟩) (Ext.refl H).push ?_
 ·rw [ax,ajb,dP bO,ajC];exact hw
 ·rfl
theorem Sl.other {H H' :ag} {v:Value} {sz:Nat} {l:List Value} {b' :Option Nat} (h:Sl H v sz l) (hx: ∀i,i<H.size→b' ≠some i→H'[i]? =H[i]?) (hb:aY v≠b' ∨aY v=none):Sl H' v sz l:=by
 rcases h with h| ⟨a,n,cap,rfl,h1,h2,h3⟩
 ·exact .inl h
 ·refine .inr ⟨a,n,cap,rfl,h1,h2,fun i w hw=>?_⟩
  have hc:=h3 i w hw;have yV: (a.add i).block=a.block:=by unfold Addr.add;split<;>rfl
  unfold cellAt at hc ⊢;rw [yV] at hc ⊢;have hl:a.block<H.size:=by
   rcases ajM a.block H.size with h' |h'
   ·exact h'
   ·rw [akB h'] at hc;cases hc
  rw [hx a.block hl (by
   rcases hb with hb|hb
   ·exact fun e=>hb (by rw [e];rfl)
   ·simp [aY] at hb)]
  exact hc
structure yn (sz:Nat) (H0 H:ag) (a b:Value) (la lb:List Value):Prop where
 oa:jJ H a sz la
 ob:jJ H b sz lb
 ext:Ext H0 H
 fa: ∀k,aY a=some k→H0.size≤k
 fb: ∀k,aY b=some k→H0.size≤k
 sep: ∀k,aY a=some k→aY b≠some k
theorem yn.symm {sz:Nat} {H0 H:ag} {a b:Value} {la lb:List Value} (h:yn sz H0 H a b la lb):yn sz H0 H b a lb la:=
 ⟨h.ob,h.oa,h.ext,h.fb,h.fa,fun k hk iU =>h.sep k iU hk⟩
theorem yn.more {sz:Nat} {H0 H H' :ag} {a b:Value} {la lb:List Value} (h:yn sz H0 H a b la lb) (hx:Ext H H'):yn sz H0 H' a b la lb:=
 ⟨h.oa.ext hx,h.ob.ext hx,h.ext.trans hx,h.fa,h.fb,h.sep⟩
theorem yn.step {sz:Nat} {H0 H H' :ag} {a b a' :Value} {la lb la' :List Value} (h:yn sz H0 H a b la lb) (o:jJ H' a' sz la') (hi: ∀i,i<H.size→aY a≠some i→H'[i]? =H[i]?) (hs:H.size≤H'.size) (hk:aY a' =aY a∨aY a' =some H.size):yn sz H0 H' a' b la' lb:=by
 refine⟨o,h.ob.other hi ?_,pA h.ext h.fa hi hs,fun k e=>?_,h.fb,fun k e e' =>?_⟩
 ·cases hb:aY b with
  |none=>exact .inr rfl
  |some k=>exact .inl fun e=>h.sep k e.symm hb
 ·rcases hk with hk|hk
  ·exact h.fa k (hk ▸ e)
  ·rw [hk,ai8] at e;have:=h.ext.size;omega
 ·rcases hk with hk|hk
  ·exact h.sep k (hk ▸ e) e'
  ·rw [hk,ai8] at e;have:=h.ob.lt e';omega
theorem yn.append {sz bytes n:Nat} {H0 H:ag} {a b y:Value} {la lb new zero:List Value} {e:TypeId} {K:Value→ag→Prop} (h:yn sz H0 H a b la lb) (hz:0<sz) (hzero:zero.length=sz) (hy:Sl H y sz new) (hn:new.length=1*sz) (kG:new.all aS=true)
  (hl:la.length=n*sz) (jL:2* (n+1)*bytes≤281474976710656) (hk: ∀a' H',yn sz H0 H' a' b (la++new) lb→(∀i,i<H.size→aY a≠some i→H'[i]? =H[i]?)→K a' H'):a7 H e sz bytes zero a y K:=
 jJ.append h.oa hz hzero (hy.jc hn hz) hy.cellsOf hl hn kG jL fun a' H' o i s k=>hk a' H' (h.step o i s k) i
end
section
theorem n_ {n:Nat}: ∀ (L:List (List Value)),(∀r∈L,r.length=n)→L.flatten.length=L.length*n
 | [],_=>by simp
 |u::L,hl=>by
  have hu:=hl u (by simp);rw [aj_,aiV,n_ L (fun r hr=>hl r (by simp [hr])),hu,ai6,ak3];omega
theorem Gj {n:Nat} (hn:0<n): ∀ (L:List (List Value)) (k:Nat) (v:Value),(∀r∈L,r.length=n)→L.flatten[k]? =some v→∃r,L[k/n]? =some r∧r[k%n]? =some v
 | [],k,v,_,h=>by simp at h
 |u::L,k,v,hl,h=>by
  have hu:=hl u (by simp);rw [aj_] at h
  by_cases hk:k<n
  ·rw [ajL (by omega)] at h
   exact⟨u,by rw [Nat.div_eq_of_lt hk];rfl,by rw [ajg hk];exact h⟩
  ·rw [ajP (by omega),hu] at h
   obtain⟨r,h1,h2⟩:=Gj hn L (k - n) v (fun r hr=>hl r (by simp [hr])) h;refine⟨r,?_,?_⟩
   ·rw [Nat.div_eq_sub_div hn (by omega)];exact h1
   ·rw [Nat.mod_eq_sub_mod (by omega)];exact h2
theorem Pr {n:Nat} {ds:List TypeDesc} (Va:ds.length=n) {c:Nat→Option Value} (h:mG ds c): ∃r:List Value,r.length=n∧mG ds (fun j=>r[j]?)∧∀j,j<n→r[j]? =c j:=by
 refine⟨(List.range n).map fun j=> (c j).getD undef,by simp,?_,?_⟩
 ·intro j d hj
  have cL:j<n:=by rw [←Va];exact(ajD.1 hj).1
  obtain⟨v,hv,hk⟩:=h j d hj;exact⟨v,by simp [aji,aka cL,hv],hk⟩
 ·intro j hj
  obtain⟨v,hv,_⟩:=h j _ (ai1 (by omega))
  simp [aji,aka hj,hv]
theorem ma.rows {ds:List TypeDesc} {H:ag} {a:Option Addr} {len cap:Nat} (h:ma ds H a len cap) (hn:0<ds.length):
  ∃L:List (List Value),L.length=len∧len≤maxLen∧(∀r∈L,r.length=ds.length)∧(∀r∈L,mG ds fun j=>r[j]?)∧Sl H (.slice a len cap) ds.length L.flatten:=by
 rcases h with ⟨rfl,rfl,rfl⟩ | ⟨x,rfl,hl,hm,hf⟩
 ·exact⟨[],rfl,ajj _,by simp,by simp,.inl ⟨rfl,rfl⟩⟩
 ·have key: ∀m,m≤len→∃L:List (List Value),L.length=m∧(∀r∈L,r.length=ds.length)∧(∀r∈L,mG ds fun j=>r[j]?)∧∀i r,L[i]? =some r→∀j,j<ds.length→r[j]? =cellAt H (x.add (i*ds.length+j)):=by
   intro m
   induction m with
   |zero=>intro _;exact⟨[],rfl,by simp,by simp,by simp⟩
   |succ m ih=>
    intro hm;obtain⟨L,h1,h2,h3,h4⟩:=ih (by omega);obtain⟨r,yj,o_,Gk⟩:=Pr rfl (hf m (by omega));refine⟨L++ [r],by simp [h1],?_,?_,?_⟩
    ·intro s hs;rcases ajo.1 hs with hs|hs
     ·exact h2 s hs
     ·simp only [ajE] at hs;subst hs;exact yj
    ·intro s hs;rcases ajo.1 hs with hs|hs
     ·exact h3 s hs
     ·simp only [ajE] at hs;subst hs;exact o_
    ·intro i s hs j hj
     by_cases hi:i<m
     ·rw [ajL (by omega)] at hs
      exact h4 i s hs j hj
     ·rw [ajP (by omega)] at hs
      have Lp:i=m:=by
       rcases ajM m i with h' |h'
       ·rw [ajm (by simp;omega)] at hs;cases hs
       ·omega
      subst Lp;rw [h1,akp,ajn,ai8] at hs;subst hs;exact Gk j hj
  obtain⟨L,h1,h2,h3,h4⟩:=key len (aiZ _);refine⟨L,h1,by omega,h2,h3,.inr ⟨x,len,cap,rfl,by rw [n_ L h2,h1],hl,fun k v hv=>?_⟩⟩;obtain⟨r,yj,o_⟩:=Gj hn L k v h2 hv;have:=h4 _ r yj (k%ds.length) (akn _ hn);rw [o_] at this;rw [this]
  congr 2
  rw [ajQ];exact(Nat.div_add_mod k ds.length).symm
end
section
structure Keys (α:Type) (kind:Nat) where
 κ:α→Value
 dec:DecidableEq α
 eq: ∀a b:α,mq kind (κ a) (κ b)=some (@decide (a=b) (dec a b))
def rP (k:IntKind):Keys Int 0:= ⟨.int k,inferInstance,fun a b=>by simp [mq]⟩
def strKeys:Keys (List UInt8) 1:= ⟨fun l=>str l,inferInstance,fun a b=>by simp [mq]⟩
theorem Keys.inj {α:Type} {kind:Nat} (κ:Keys α kind) {a b:α} (h:κ.κ a=κ.κ b):a=b:=by
 have h1:=κ.eq a b;rw [h,κ.eq b b,@decide_eq_true (b=b) (κ.dec b b) rfl] at h1;simp only [ai8] at h1;exact @of_decide_eq_true (a=b) (κ.dec a b) h1.symm
def eh {α:Type} {kind:Nat} (κ:Keys α kind) (H:ag) (r:Nat) (m:α→Option Value):Prop:=
 ∃ (es:Array MapEntry) (clock:Nat) (ks:List α),H[r]? =some (.map es clock)∧MapKept.Stamped es clock∧es.toList.map (·.key)=ks.map κ.κ∧ks.Nodup∧
  (∀ (j:Nat) (e:MapEntry) (k:α),es.toList[j]? =some e→ks[j]? =some k→m k=some e.val)∧∀k,k∉ks→m k=none
section
variable {α:Type} {kind:Nat} {κ:Keys α kind}
theorem ur {k:α}: ∀ (l:List MapEntry) (ks:List α) (i:Nat),l.map (·.key)=ks.map κ.κ→k∉ks→lP kind (κ.κ k) l i=some none
 | [],ks,i,_,_=>rfl
 |e::l,[],i,h,_=>by simp at h
 |e::l,a::ks,i,h,hk=>by
  simp only [aj3,akt] at h;have cQ:k≠a:=fun e=>hk (by simp [e]);have hd: @decide (k=a) (κ.dec k a)=false:=by
   cases SK:κ.dec k a with
   |isTrue ht=>exact absurd ht cQ
   |isFalse hf=>rfl
  simp only [lP,h.1,κ.eq,hd];exact ur l ks (i+1) h.2 (fun h' =>hk (by simp [h']))
theorem rQ {k:α}: ∀ (l:List MapEntry) (ks:List α) (i:Nat),l.map (·.key)=ks.map κ.κ→k∈ks→∃ (j:Nat) (e:MapEntry),l[j]? =some e∧ks[j]? =some k∧lP kind (κ.κ k) l i=some (some (i+j,e.val))
 | [],[],i,_,hk=>by simp at hk
 | [],a::ks,i,h,_=>by simp at h
 |e::l,[],i,h,_=>by simp at h
 |e::l,a::ks,i,h,hk=>by
  simp only [aj3,akt] at h
  by_cases he:k=a
  ·subst he
   have hd: @decide (k=k) (κ.dec k k)=true:=by
    cases SK:κ.dec k k with
    |isTrue ht=>rfl
    |isFalse hf=>exact absurd rfl hf
   refine⟨0,e,rfl,rfl,?_⟩;show (match mq kind (κ.κ k) e.key with|some true=>some (some (i,e.val)) |some false=>lP kind (κ.κ k) l (i+1) |none=>none)=_;rw [h.1,κ.eq,hd]
   rfl
  ·have hd: @decide (k=a) (κ.dec k a)=false:=by
    cases SK:κ.dec k a with
    |isTrue ht=>exact absurd ht he
    |isFalse hf=>rfl
   obtain⟨j,e',h1,h2,h3⟩:=rQ l ks (i+1) h.2 (by
    rcases ajd.1 hk with h' |h'
    ·exact absurd h' he
    ·exact h')
   refine⟨j+1,e',h1,h2,?_⟩;simp only [lP,h.1,κ.eq,hd];rw [h3,show i+1+j=i+ (j+1) by omega]
variable {H:ag} {r:Nat} {m:α→Option Value}
theorem eh.ext {H' :ag} (h:eh κ H r m) (hx:Ext H H'):eh κ H' r m:=by
 obtain⟨es,c,ks,h1,h2⟩:=h;exact⟨es,c,ks,hx.lk h1,h2⟩
theorem eh.ym {H' :ag} (h:eh κ H r m) (hx:H'[r]? =H[r]?):eh κ H' r m:=by
 obtain⟨es,c,ks,h1,h2⟩:=h;exact⟨es,c,ks,hx.trans h1,h2⟩
theorem eh.lt (h:eh κ H r m):r<H.size:=by
 obtain⟨es,c,ks,h1,h2⟩:=h;exact bz h1
theorem eh.lookup (h:eh κ H r m) {k:α} {zero:Value} {ok:Bool} {K:Value→Prop} (hk:K (bif ok then .tuple #[(m k).getD zero,.bool (m k).isSome] else (m k).getD zero)):jw H kind zero ok (.map (some r)) (κ.κ k) K:=by
 obtain⟨es,c,ks,h1,c_,h2,h3,h4,h5⟩:=h
 by_cases hm:k∈ks
 ·obtain⟨j,e,g1,g2,g3⟩:=rQ (κ:=κ) es.toList ks 0 h2 hm
  simp only [jw,nV,h1,g3];rw [h4 j e k g1 g2] at hk;exact hk
 ·simp only [jw,nV,h1,ur (κ:=κ) es.toList ks 0 h2 hm]
  rw [h5 k hm] at hk;exact hk
def uu (κ:Keys α kind) (m:α→Option Value) (k:α) (v:Option Value):α→Option Value:=fun x=>if @decide (x=k) (κ.dec x k)=true then v else m x
theorem od (k:α) (v:Option Value):uu κ m k v k=v:=by
 unfold uu;rw [if_pos]
 cases SK:κ.dec k k with
 |isTrue ht=>rfl
 |isFalse hf=>exact absurd rfl hf
theorem lZ {k x:α} (v:Option Value) (h:x≠k):uu κ m k v x=m x:=by
 unfold uu;rw [if_neg]
 cases SK:κ.dec x k with
 |isTrue ht=>exact absurd ht h
 |isFalse hf=>exact Bool.false_ne_true
theorem rR {ks:List α} (h:ks.Nodup) {i j:Nat} {k:α} (hi:ks[i]? =some k) (hj:ks[j]? =some k):i=j:=by
 exact(List.getElem?_inj (ajD.1 hi).1 h).1 (hi.trans hj.symm)
theorem CZ {β γ:Type} (f:β→γ) (l:List β) (j:Nat): (l.eraseIdx j).map f= (l.map f).eraseIdx j:=by
 apply aj4;intro i;simp only [aji,alJ]
 split<;>rfl
theorem eh.set (h:eh κ H r m) {k:α} {v:Value} {KE:Value→ag→Prop} (hk: ∀H',eh κ H' r (uu κ m k (some v))→H'.size=H.size→(∀i,i≠r→H'[i]? =H[i]?)→KE undef H'):j0 H kind (.map (some r)) (κ.κ k) v KE:=by
 have hr:=h.lt;obtain⟨es,c,ks,h1,c_,h2,h3,h4,h5⟩:=h
 by_cases hm:k∈ks
 ·obtain⟨j,e,g1,g2,g3⟩:=rQ (κ:=κ) es.toList ks 0 h2 hm
  rw [ajb] at g3;simp only [j0,h1,g3];refine hk _ ⟨_,c,ks,bU hr,?_,?_,h3,?_,?_⟩ (by simp) (fun i hi=>c9 (akk hi))
  ·refine MapKept.stamped_modify c_ j _ (fun _ _=>rfl) (fun e' _ WY =>?_)
   have h1' :es[j]? =some e:=by rw [←Array.getElem?_toList];exact g1
   rw [h1',ai8] at WY;subst WY;have: (ks.map κ.κ)[j]? =some (κ.κ k):=by simp [g2]
   rw [←h2,aji,g1] at this;simp only [ak2,ai8] at this;exact this.symm
  ·rw [←h2]
   apply aj4;intro i;simp only [Array.toList_modify,aji,List.getElem?_modify]
   by_cases Lq:j=i
   ·subst Lq
    rw [g1];have: (ks.map κ.κ)[j]? =some (κ.κ k):=by simp [g2]
    rw [←h2,aji,g1] at this;simp only [ak2,ai8] at this
    simp [this]
   ·simp only [if_neg Lq];cases es.toList[i]? <;>rfl
  ·intro i e' k' he iU
   rw [Array.toList_modify,List.getElem?_modify] at he
   by_cases Lq:j=i
   ·subst Lq
    rw [g2,ai8] at iU;subst iU;rw [od];rw [g1] at he
    simp at he
    rw [←he]
   ·have cQ:k' ≠k:=fun e=>Lq (rR h3 g2 (e ▸ iU))
    rw [lZ _ cQ];have:es.toList[i]? =some e' :=by
     simp only [if_neg Lq] at he
     cases hh:es.toList[i]? with
     |none=>rw [hh] at he;cases he
     |some x=>rw [hh] at he;simpa using he
    exact h4 i e' k' this iU
  ·intro x hx
   rw [lZ _ (show x≠k from fun e=>hx (by rw [e];exact hm))];exact h5 x hx
 ·simp only [j0,h1,ur (κ:=κ) es.toList ks 0 h2 hm]
  refine hk _ ⟨_,c+1,ks++ [k],bU hr,MapKept.stamped_push c_ (fun x hx e=>hm (by
   have h' :x.key∈es.toList.map (fun y=>y.key):=ajw.2 ⟨x,hx,rfl⟩;rw [h2,e] at h';obtain⟨a,ha,hae⟩:=ajw.1 h';rw [←κ.inj hae];exact ha)),by simp [h2],?_,?_,?_⟩ (by simp) (fun i hi=>c9 (akk hi))
  ·rw [List.nodup_append]
   exact⟨h3,by simp,fun a ha b hb=>by simp only [ajE] at hb;subst hb;intro e;exact hm (e ▸ ha)⟩
  ·have hlen:es.toList.length=ks.length:=by have:=congrArg List.length h2;simpa using this
   intro i e' k' he iU;rw [Array.toList_push] at he
   by_cases hi:i<ks.length
   ·rw [ajL (by omega)] at he iU
    have cQ:k' ≠k:=fun e=>hm (e ▸ aj5 iU);rw [lZ _ cQ];exact h4 i e' k' he iU
   ·rw [ajP (by omega)] at he iU
    have Lp:i=ks.length:=by
     rcases ajM ks.length i with h' |h'
     ·rw [ajm (by simp;omega)] at iU;cases iU
     ·omega
    subst Lp;rw [akp,ajn,ai8] at iU;rw [hlen,akp,ajn,ai8] at he;subst iU;rw [od,←he]
  ·intro x hx
   have:x≠k:=fun e=>hx (by simp [e]);rw [lZ _ this];exact h5 x (fun h' =>hx (by simp [h']))
theorem eh.delete (h:eh κ H r m) {k:α} {KE:Value→ag→Prop} (hk: ∀H',eh κ H' r (uu κ m k none)→H'.size=H.size→(∀i,i≠r→H'[i]? =H[i]?)→KE (.tuple #[]) H'):nd H kind (.map (some r)) (κ.κ k) KE:=by
 have hr:=h.lt;obtain⟨es,c,ks,h1,c_,h2,h3,h4,h5⟩:=h
 by_cases hm:k∈ks
 ·obtain⟨j,e,g1,g2,g3⟩:=rQ (κ:=κ) es.toList ks 0 h2 hm
  rw [ajb] at g3;have hj:j<es.size:=by have:= (ajD.1 g1).1;simpa using this
  simp only [nd,h1,g3];have he: (es.eraseIdxIfInBounds j).toList=es.toList.eraseIdx j:=by
   rw [Array.eraseIdxIfInBounds,dif_pos hj]
   simp
  refine hk _ ⟨_,c,ks.eraseIdx j,bU hr,MapKept.stamped_erase c_ j,?_,h3.eraseIdx j,?_,?_⟩ (by simp) (fun i hi=>c9 (akk hi))
  ·rw [he,CZ,h2,←CZ]
  ·intro i e' k' hi iU
   rw [he,alJ] at hi;rw [alJ] at iU;have Eg: ∃i',i' ≠j∧es.toList[i']? =some e' ∧ks[i']? =some k' :=by
    by_cases Lq:i<j
    ·rw [if_pos Lq] at hi iU;exact⟨i,by omega,hi,iU⟩
    ·rw [if_neg Lq] at hi iU;exact⟨i+1,by omega,hi,iU⟩
   obtain⟨i',aaD,q1,q2⟩:=Eg;have cQ:k' ≠k:=fun e=>aaD (rR h3 (e ▸ q2) g2);rw [lZ _ cQ];exact h4 i' e' k' q1 q2
  ·intro x hx
   by_cases R5:x=k
   ·subst R5;exact od _ _
   ·rw [lZ _ R5]
    refine h5 x (fun fH=>hx ?_);obtain⟨i,hi⟩:=alq fH;have Lq:i≠j:=fun e=>by subst e;rw [g2,ai8] at hi;exact R5 hi.symm
    rw [List.mem_iff_getElem?]
    by_cases cL:i<j
    ·exact⟨i,by rw [alJ,if_pos cL];exact hi⟩
    ·exact⟨i - 1,by rw [alJ,if_neg (by omega),show i - 1+1=i by omega];exact hi⟩
 ·simp only [nd,h1,ur (κ:=κ) es.toList ks 0 h2 hm]
  refine hk H ⟨es,c,ks,h1,c_,h2,h3,fun j e k' he iU =>?_,fun x hx=>?_⟩ rfl (fun _ _=>rfl)
  ·rw [lZ _ (show k' ≠k from fun e=>hm (by rw [←e];exact aj5 iU))];exact h4 j e k' he iU
  ·by_cases R5:x=k
   ·subst R5;exact od _ _
   ·rw [lZ _ R5];exact h5 x hx
theorem eh.clear (h:eh κ H r m) {KE:Value→ag→Prop} (hk: ∀H',eh κ H' r (fun _=>none)→H'.size=H.size→(∀i,i≠r→H'[i]? =H[i]?)→KE (.tuple #[]) H'):rH H (.map (some r)) KE:=by
 have hr:=h.lt;obtain⟨es,c,ks,h1,c_,h2,h3,h4,h5⟩:=h;simp only [rH,h1];exact hk _ ⟨#[],c,[],bU hr,MapKept.stamped_empty _,rfl,alI,by simp,fun _ _=>rfl⟩ (by simp) (fun i hi=>c9 (akk hi))
theorem qM (κ:Keys α kind) {KE:Value→ag→Prop} (hk: ∀H',eh κ H' H.size (fun _=>none)→Ext H H' →H'.size=H.size+1→KE (.map (some H.size)) H'):qC H KE:=
 hk _ ⟨#[],0,[],bO,MapKept.stamped_empty _,rfl,alI,by simp,fun _ _=>rfl⟩ (Ext.refl H).push (by simp)
theorem eh.len (h:eh κ H r m) {K:Value→Prop} (hk: ∀ks:List α,ks.Nodup→(∀k,k∈ks↔(m k).isSome=true)→K (.int .i64 (ks.length:Int))):La H (.map (some r)) K:=by
 obtain⟨es,c,ks,h1,c_,h2,h3,h4,h5⟩:=h;have hl:es.size=ks.length:=by have:=congrArg List.length h2;simpa using this
 simp only [La,h1,hl];refine hk ks h3 fun k=> ⟨fun hm=>?_,fun hm=>?_⟩
 ·obtain⟨j,hj⟩:=alq hm
  have rO:= (ajD.1 hj).1;have he:es.toList[j]? =some (es.toList[j]'(by simp;omega)):=ai1 _;rw [h4 j _ k he hj];rfl
 ·rcases Classical.em (k∈ks) with h' |h'
  ·exact h'
  ·rw [h5 k h'] at hm;cases hm
def Iter {α:Type} {kind:Nat} (κ:Keys α kind) (H:ag) (it r:Nat) (m:α→Option Value) (done:List α):Prop:=
 ∃ (es:Array MapEntry) (clock:Nat) (ks:List α) (seen:Array Nat) (c0:Nat),H[it]? =some (.mapIter (some r) clock seen c0)∧clock≤c0∧H[r]? =some (.map es clock)∧MapKept.Stamped es clock∧
  es.toList.map (·.key)=ks.map κ.κ∧ks.Nodup∧
  (∀ (j:Nat) (e:MapEntry) (k:α),es.toList[j]? =some e→ks[j]? =some k→m k=some e.val)∧(∀k,k∉ks→m k=none)∧done.Nodup∧
  (∀ (j:Nat) (e:MapEntry) (k:α),es.toList[j]? =some e→ks[j]? =some k→(seen.contains e.born=true↔k∈done))∧(∀k,k∈done→k∈ks)∧
  ∀k,done.getLast? =some k→c0=clock∧∃ (j:Nat) (e:MapEntry),es.toList[j]? =some e∧ks[j]? =some k∧seen.back? =some e.born
def Ag (H:ag) (it:Nat):Nat:=match H[it]? with
 |some (.mapIter (some r) _ seen _)=> (match H[r]? with
  |some (.map es _)=> (leftOf es seen).size
  |_=>0)
 |_=>0
theorem Iter.map {it:Nat} {done:List α} (h:Iter κ H it r m done):eh κ H r m:=by
 obtain⟨es,clock,ks,seen,c0,g1,g2,g3,g4,g5,g6,g7,g8,g9,g10,g11⟩:=h;exact⟨es,clock,ks,g3,g4,g5,g6,g7,g8⟩
theorem Iter.lt {it:Nat} {done:List α} (h:Iter κ H it r m done):it<H.size:=by
 obtain⟨es,clock,ks,seen,c0,g1,_⟩:=h;exact bz g1
theorem Iter.ym {it:Nat} {done:List α} {H' :ag} (h:Iter κ H it r m done) (h1:H'[it]? =H[it]?) (h2:H'[r]? =H[r]?):Iter κ H' it r m done:=by
 obtain⟨es,clock,ks,seen,c0,g1,g2,g3,g4⟩:=h;exact⟨es,clock,ks,seen,c0,h1.trans g1,g2,h2.trans g3,g4⟩
def Ps (P:Program) (t:TypeId):Bool:=match P.underlying t with
 |some (.map _ _)=>true
 |_=>false
theorem eh.range [Go.Vc.Mode] {P:Program} (h:eh κ H r m) {t:TypeId} (ht:Ps P t=true) {K:Value→ag→Prop} (hk: ∀H',Ext H H' →H'.size=H.size+1→Iter κ H' H.size r m []→K (.pointer (some ⟨H.size,0,none⟩)) H'):Ca H P (Instr.range t (.map (some r))) K:=by
 obtain⟨es,c,ks,h1,c_,h2,h3,h4,h5⟩:=h;intro w hw;subst hw;obtain⟨k,e,ht⟩: ∃k e,P.underlying t=some (.map k e):=by
  unfold Ps at ht
  split at ht
  ·exact⟨_,_,by assumption⟩
  ·cases ht
 rw [run_range_map w t k e r es c ht h1];have hx:Ext w.heap (w.heap.push (.mapIter (some r) c #[] c)):= (Ext.refl _).push;refine⟨⟨rfl,rfl,rfl,fun _=>by first|exact aiZ _|exact ajx _⟩,hk _ hx (by simp) ⟨es,c,ks,#[],c,bO,aiZ _,hx.lk h1,c_,h2,h3,h4,h5,alI,?_,by simp,by simp⟩⟩;intro j e k _ _
 simp
theorem filter_none {α:Type} {p:α→Bool} {L:Array α} (h: (L.filter p).size=0): ∀x∈L.toList,p x=false:=by
 intro x hx;have h2:L.filter p= #[]:=amP h;rw [amQ] at h2;have:=h2 x (Array.mem_toList_iff.1 hx)
 simpa using this
theorem Iter.next [Go.Vc.Mode] {P:Program} {it:Nat} {done:List α} (h:Iter κ H it r m done) {ty:TypeId} {K:Value→ag→Prop} (X7: (∀k,(m k).isSome=true→k∈done)→K (.tuple #[.bool false]) H)
  (hk: ∀k v H',k∉done→m k=some v→Iter κ H' it r m (done++ [k])→(∀i,i≠it→H'[i]? =H[i]?)→H'.size=H.size→Ag H' it<Ag H it→K (.tuple #[.bool true,κ.κ k,v]) H'):Ca H P (Instr.next (.pointer (some ⟨it,0,none⟩)) false ty) K:=by
 have cL:=h.lt;obtain⟨es,clock,ks,seen,c0,g1,g2,g3,g4,g5,g6,g7,g8,g9,g10,g11,g12⟩:=h;have hlen:es.size=ks.length:=by have:=congrArg List.length g5;simpa using this
 intro w hw;subst hw;have hold:=g4.1;simp only [Instr.next,getObj,Sem.run_bind,Sem.run,g1,g3,Result.andThen,next_test_false seen es clock c0 hold g2,akg,if_false];have X8:Array.filter (fun e=> !seen.contains e.born) es=leftOf es seen:=rfl;rw [X8];have uv: ∀x∈(leftOf es seen).toList,x.born<clock:=fun x hx=>hold x (mem_left hx).1;have e1: (leftOf es seen).filter (fun x=>decide (x.born<clock))=leftOf es seen:=Array.filter_eq_self.2 (fun x hx=>by simpa using uv x (by simpa using hx));have e2: (leftOf es seen).filter (fun x=>decide (x.born≥clock))= #[]:=by
  rw [amQ];intro x hx;have:=uv x (by simpa using hx)
  simp
  omega
 simp only [e1,e2,Array.append_empty]
 by_cases h0: (leftOf es seen).size=0
 ·have hL:leftOf es seen= #[]:=amP h0
  rw [hL]
  simp [choose,Sem.run,Question.forced]
  refine⟨⟨rfl,rfl,rfl,fun _=>by first|exact aiZ _|exact ajx _⟩,X7 fun k hk=>?_⟩;rcases Classical.em (k∈ks) with hm|hm
  ·obtain⟨j,hj⟩:=alq hm
   have rO:= (ajD.1 hj).1;have he:es.toList[j]? =some (es.toList[j]'(by simp;omega)):=ai1 _;have B7:=filter_none h0 (es.toList[j]'(by simp;omega)) (ai9 _);simp only [Bool.not_eq_false'] at B7;exact(g10 j _ k he hj).1 B7
  ·rw [g8 k hm] at hk;cases hk
 ·have cQ: (leftOf es seen).isEmpty=false:=by simp [Array.isEmpty,h0]
  simp only [cQ,akg,if_false,Array.empty_append,Array.size_map];have X9: ∃ (j:Nat) (w1:World),j< (leftOf es seen).size∧(w1.Alike w∧w1.tape=w.tape∧w.drawn≤w1.drawn)∧(choose (Question.mapNext (leftOf es seen).size)).run P w= .ok j w1:=by
   by_cases hf: (leftOf es seen).size≤1
   ·exact⟨0,w,by omega,⟨⟨rfl,rfl,rfl⟩,rfl,aiZ _⟩,by simp [choose,Sem.run,Question.forced,hf]⟩
   ·exact⟨_,w.drew,akn _ (by omega),⟨⟨rfl,rfl,rfl⟩,rfl,ajx _⟩,by
     simp only [choose,Sem.run,Question.forced,decide_eq_true_eq,hf,if_false,Question.cut]
     rfl⟩
  obtain⟨j,w1,hj,⟨rS,htp,hdr⟩,eB⟩:=X9;have Vf: (setObj it (.mapIter (some r) clock (seen.push (leftOf es seen)[j].born) clock)).run P w1= .ok () {w1 with heap:=w1.heap.setIfInBounds it (.mapIter (some r) clock (seen.push (leftOf es seen)[j].born) clock)}:=by
   simp only [setObj,Sem.run];rw [rS.1,g1]
  simp only [eB,Array.getElem?_map,alH hj,ak2,Sem.run_bind,Vf,Result.andThen];have fH: (leftOf es seen)[j]∈(leftOf es seen).toList:=by simp
  have Vg:=mem_left fH;obtain⟨j',I8⟩:=alq Vg.1;have aaF:j' <ks.length:=by have:= (ajD.1 I8).1;simp at this;omega
  have Sy:ks[j']? =some ks[j']:=ai1 aaF;have Vh: (leftOf es seen)[j].key=κ.κ ks[j']:=by
   have h' : (es.toList.map (·.key))[j']? =some (leftOf es seen)[j].key:=by rw [aji,I8];rfl
   rw [g5,aji,Sy] at h'
   simpa using h'.symm
  have U5:ks[j'] ∉done:=fun hd=>by
   have:= (g10 j' _ _ I8 Sy).2 hd;rw [Vg.2] at this;cases this
  refine⟨⟨by rw [rS.2.1],by rw [rS.2.2],by rw [htp],fun _=>hdr⟩,?_⟩;show K (.tuple #[.bool true,(leftOf es seen)[j].key,(leftOf es seen)[j].val]) (w1.heap.setIfInBounds it _);rw [Vh,rS.1];have X_:it≠r:=fun e=>by subst e;rw [g1] at g3;cases g3
  refine hk ks[j'] _ _ U5 (g7 j' _ _ I8 Sy) ⟨es,clock,ks,_,clock,bU cL,aiZ _,(c9 X_).trans g3,g4,g5,g6,g7,g8,?_,?_,?_,?_⟩ (fun i hi=>c9 (akk hi)) (by simp) ?_
  ·rw [List.nodup_append]
   exact⟨g9,by simp,fun a ha b hb=>by simp only [ajE] at hb;subst hb;intro e;exact U5 (e ▸ ha)⟩
  ·intro i e k he iU
   rw [contains_push,akf,g10 i e k he iU,ajo,ajE,beq_iff_eq]
   constructor
   ·rintro(h' |h')
    ·exact .inl h'
    ·right
     have:=born_inj g4.2.1 (aj5 he) Vg.1 h';subst this;have hii:i=j' :=by
      have hn:es.toList.Nodup:=by
       have:=g4.2.1;exact List.Pairwise.of_map (f:=fun x:MapEntry=>x.born) (fun a b hab e=>hab (by rw [e])) this
      exact rR hn he I8
     subst hii;rw [Sy,ai8] at iU;exact iU.symm
   ·rintro(h' |h')
    ·exact .inl h'
    ·right
     rw [h'] at iU;have hii:=rR g6 iU Sy;subst hii;rw [he,ai8] at I8;rw [I8]
  ·intro k iU
   rcases ajo.1 iU with h' |h'
   ·exact g11 k h'
   ·simp only [ajE] at h';rw [h'];exact ai9 _
  ·intro k iU
   rw [List.getLast?_concat,ai8] at iU;subst iU;exact⟨rfl,j',_,I8,Sy,by simp⟩
  ·simp only [Ag,bU cL,c9 X_,g3,g1]
   exact left_shrinks es seen _ fH
theorem Iter.entry [Go.Vc.Mode] {P:Program} {it:Nat} {done:List α} {k:α} {v:Value} (h:Iter κ H it r m (done++ [k])) (hv:m k=some v) {K:Value→ag→Prop} (hk:K (.tuple #[κ.κ k,v]) H):Ca H P (Instr.entry (.pointer (some ⟨it,0,none⟩))) K:=by
 obtain⟨es,clock,ks,seen,c0,g1,g2,g3,g4,g5,g6,g7,g8,g9,g10,g11,g12⟩:=h;obtain⟨rfl,j,e,h1,h2,h3⟩:=g12 k (by simp);intro w hw;subst hw;have hf:es.find? (·.born==e.born)=some e:=by rw [←Array.find?_toList];exact find_born e es.toList g4.2.1 (aj5 h1)
 simp only [Instr.entry,getObj,Sem.run_bind,Sem.run,g1,g3,Result.andThen,h3,bne_self_eq_false,akg,if_false,hf];have Vh:e.key=κ.κ k:=by
  have h' : (es.toList.map (·.key))[j]? =some e.key:=by rw [aji,h1];rfl
  rw [g5,aji,h2] at h'
  simpa using h'.symm
 have Gl:e.val=v:=by
  have:=g7 j e k h1 h2;rw [hv,ai8] at this;exact this.symm
 refine⟨⟨rfl,rfl,rfl,fun _=>by first|exact aiZ _|exact ajx _⟩,?_⟩;rw [Vh,Gl];exact hk
end
end
section
theorem yX {l m:List Value} (h:l.toArray=m.toArray):l=m:=by simpa using congrArg Array.toList h
def lJ (H:ag) (b o:Nat) (cs:List Value):Prop:= ∃ (pre post:List Value) (t:TypeId),pre.length=o∧H[b]? =some (.cells (pre++cs++post).toArray t (0,0))
structure kH (b o n:Nat) (F F' :Nat→Prop) (H H' :ag):Prop where
 size:H.size≤H'.size
 ne: ∀i,i<H.size→i≠b→¬F i→H'[i]? =H[i]?
 lk: ∀ (cs:List Value) (t:TypeId) (fr:Nat × Nat),H[b]? =some (.cells cs.toArray t fr)→∃Gi :List Value,H'[b]? =some (.cells Gi.toArray t fr)∧Gi.length=cs.length∧∀j,(j<o∨o+n≤j)→Gi[j]? =cs[j]?
 new: ∀k,F' k→F k∨H.size≤k
abbrev none_:Nat→Prop:=fun _=>False
abbrev mX (v:Value):Nat→Prop:=fun k=>aY v=some k
theorem kH.refl {b o n:Nat} {F:Nat→Prop} {H:ag}:kH b o n F F H H:= ⟨aiZ _,fun _ _ _ _=>rfl,fun cs t fr h=> ⟨cs,h,rfl,fun _ _=>rfl⟩,fun k h=> .inl h⟩
theorem kH.trans {b o n:Nat} {F F' F'' :Nat→Prop} {H H' OR :ag} (h:kH b o n F F' H H') (k:kH b o n F' F'' H' OR):kH b o n F F'' H OR :=
 ⟨ajv h.size k.size,fun i hi hb hF=> (k.ne i (ajN hi h.size) hb (fun e=>by
   rcases h.new i e with h' |h'
   ·exact hF h'
   ·omega)).trans (h.ne i hi hb hF),fun cs t fr hc=>by
  obtain⟨c1,h1,h2,h3⟩:=h.lk cs t fr hc;obtain⟨c2,g1,g2,g3⟩:=k.lk c1 t fr h1;exact⟨c2,g1,g2.trans h2,fun j hj=> (g3 j hj).trans (h3 j hj)⟩,fun i hi=>by
  rcases k.new i hi with h' |h'
  ·exact h.new i h'
  ·right;have:=h.size;omega⟩
theorem kH.UN {b o n:Nat} {F F' G G' :Nat→Prop} {H H' :ag} (h:kH b o n F F' H H') (h1: ∀k,F k→G k) (h2: ∀k,G' k→F' k∨G k∨H.size≤k):kH b o n G G' H H' :=
 ⟨h.size,fun i hi hb hG=>h.ne i hi hb (fun e=>hG (h1 i e)),h.lk,fun k hk=>by
  rcases h2 k hk with h' |h' |h'
  ·rcases h.new k h' with Vi |Vi
   ·exact .inl (h1 k Vi)
   ·exact .inr Vi
  ·exact .inl h'
  ·exact .inr h'⟩
theorem kH.any {b o n:Nat} {G:Nat→Prop} {H H' :ag} (h:kH b o n none_ none_ H H'):kH b o n G G H H' :=h.UN (fun _ h=>h.elim) (fun _ h=> .inr (.inl h))
theorem kH.wide {b o n o' n' :Nat} {F F' :Nat→Prop} {H H' :ag} (h:kH b o n F F' H H') (h1:o' ≤o) (h2:o+n≤o' +n'):kH b o' n' F F' H H' :=
 ⟨h.size,h.ne,fun cs t fr hc=>by
  obtain⟨c1,g1,g2,g3⟩:=h.lk cs t fr hc;exact⟨c1,g1,g2,fun j hj=>g3 j (by omega)⟩,h.new⟩
theorem kH.ext {A H H' :ag} {b o n:Nat} {F F' :Nat→Prop} (h:kH b o n F F' H H') (hx:Ext A H) (hb:A.size≤b) (hF: ∀k,F k→A.size≤k):Ext A H' ∧∀k,F' k→A.size≤k:=
 ⟨⟨ajv hx.size h.size,fun i hi=> (h.ne i (ajN hi hx.size) (by omega) (fun e=>by have:=hF i e;omega)).trans (hx.get i hi)⟩,fun k hk=>by
  rcases h.new k hk with h' |h'
  ·exact hF k h'
  ·have:=hx.size;omega⟩
theorem kH.ym {b o n c:Nat} {F F' :Nat→Prop} {H H' :ag} {ob:Obj} (h:kH b o n F F' H H') (hc:H[c]? =some ob) (h1:c≠b) (h2: ¬F c):H'[c]? =some ob:= (h.ne c (bz hc) h1 h2).trans hc
theorem kH.sl {b o n sz:Nat} {F F' :Nat→Prop} {H H' :ag} {v:Value} {l:List Value} (h:kH b o n F F' H H') (hs:Sl H v sz l) (h1:aY v≠some b) (h2: ∀k,aY v=some k→¬F k):Sl H' v sz l:=by
 rcases hs with hs| ⟨a,m,cap,rfl,h3,h4,h5⟩
 ·exact .inl hs
 ·refine .inr ⟨a,m,cap,rfl,h3,h4,fun i w hw=>?_⟩
  have hc:=h5 i w hw;have yV: (a.add i).block=a.block:=by unfold Addr.add;split<;>rfl
  unfold cellAt at hc ⊢;rw [yV] at hc ⊢;have hl:a.block<H.size:=by
   rcases ajM a.block H.size with h' |h'
   ·exact h'
   ·rw [akB h'] at hc;cases hc
  rw [h.ne a.block hl (fun e=>h1 (by rw [←e];rfl)) (h2 a.block rfl)];exact hc
theorem kH.own {b o n sz:Nat} {F F' :Nat→Prop} {H H' :ag} {v:Value} {l:List Value} (h:kH b o n F F' H H') (hs:jJ H v sz l) (h1:aY v≠some b) (h2: ∀k,aY v=some k→¬F k):jJ H' v sz l:=by
 rcases hs with hs| ⟨c,m,cap,sp,rfl,⟨t,fr,hc,hf⟩,h3,h4⟩
 ·exact .inl hs
 ·exact .inr ⟨c,m,cap,sp,rfl,⟨⟨t,fr,h.ym hc (fun e=>h1 (by rw [←e];rfl)) (h2 c rfl),hf⟩,h3,h4⟩⟩
theorem lJ.lt {H:ag} {b o:Nat} {cs:List Value} (h:lJ H b o cs):b<H.size:=by obtain⟨_,_,_,_,h⟩:=h;exact bz h
theorem lJ.ext {H H' :ag} {b o:Nat} {cs:List Value} (h:lJ H b o cs) (hx:Ext H H'):lJ H' b o cs:=by
 obtain⟨p,q,t,h1,h2⟩:=h;exact⟨p,q,t,h1,hx.lk h2⟩
theorem lJ.same {H H' :ag} {b o:Nat} {cs:List Value} (h:lJ H b o cs) (hx:H'[b]? =H[b]?):lJ H' b o cs:=by
 obtain⟨p,q,t,h1,h2⟩:=h;exact⟨p,q,t,h1,hx.trans h2⟩
theorem lJ.cell {H:ag} {b o k:Nat} {cs:List Value} {v:Value} (h:lJ H b o cs) (hk:cs[k]? =some v):cellAt H ⟨b,o+k,none⟩=some v:=by
 obtain⟨p,q,t,h1,h2⟩:=h;subst h1;have hl:= (ajD.1 hk).1;rw [dP h2,ajC,ai0,ajP (by omega),ajL (by omega),show p.length+k - p.length=k by omega,hk]
theorem lJ.cell0 {H:ag} {b o:Nat} {cs:List Value} {v:Value} (h:lJ H b o cs) (hk:cs[0]? =some v):cellAt H ⟨b,o,none⟩=some v:=h.cell (k:=0) hk
theorem lJ.part {H:ag} {b o:Nat} {x y z:List Value} (h:lJ H b o (x++y++z)):lJ H b (o+x.length) y:=by
 obtain⟨p,q,t,h1,h2⟩:=h;exact⟨p++x,z++q,t,by simp [h1],by rw [h2];simp [ai0]⟩
theorem lJ.whole {H H' :ag} {b o:Nat} {x y y' z:List Value} {F F' :Nat→Prop} (h:lJ H b o (x++y++z)) (hc:kH b (o+x.length) y.length F F' H H') (hy:lJ H' b (o+x.length) y') (hl:y'.length=y.length):lJ H' b o (x++y' ++z):=by
 obtain⟨p,q,t,h1,h2⟩:=h;obtain⟨c,g1,g2,g3⟩:=hc.lk _ _ _ h2;obtain⟨p',q',t',k1,k2⟩:=hy;rw [g1] at k2;simp only [ai8,Obj.cells.injEq] at k2;obtain⟨k2,k3,-⟩:=k2;have k2:=yX k2;subst k3;refine⟨p,q,t,h1,?_⟩;rw [g1]
 congr 2
 subst h1;rw [k2] at g2 g3 ⊢;have e1:p' =p++x:=by
  apply aj4;intro j
  by_cases hj:j<p'.length
  ·have:=g3 j (.inl (by omega))
   rw [ai0 p',ajL hj] at this;rw [this,show p++ (x++y++z)++q= (p++x)++ (y++z++q) by simp [ai0],ajL (by simp;omega)]
  ·rw [ajm (by omega),ajm (by simp;omega)]
 have e2:q' =z++q:=by
  apply aj4;intro j;have:=g3 (p.length+x.length+y.length+j) (.inr (by omega));rw [ajP (by simp;omega),show p.length+x.length+y.length+j - (p' ++y').length=j by simp;omega] at this;rw [this,show p++ (x++y++z)++q= (p++x++y)++ (z++q) by simp [ai0],ajP (by simp;omega)]
  congr 1
  simp;omega
 rw [e1,e2]
 simp [ai0]
theorem lJ.all {H:ag} {b:Nat} {cs:List Value} {t:TypeId} (h:H[b]? =some (.cells cs.toArray t (0,0))):lJ H b 0 cs:= ⟨[],[],t,rfl,by simpa using h⟩
theorem lJ.Vj {H H' :ag} {b n:Nat} {cs Gi :List Value} {t:TypeId} {F F' :Nat→Prop} (h:H[b]? =some (.cells cs.toArray t (0,0))) (hc:kH b 0 n F F' H H') (hy:lJ H' b 0 Gi) (hl:Gi.length=cs.length):H'[b]? =some (.cells Gi.toArray t (0,0)):=by
 obtain⟨c,g1,g2,g3⟩:=hc.lk _ _ _ h;obtain⟨p',q',t',k1,k2⟩:=hy;have:p' = []:=by simpa using k1
 subst this;rw [g1] at k2;simp only [ai8,Obj.cells.injEq,aje] at k2;obtain⟨k2,k3,-⟩:=k2;have k2:=yX k2;subst k3;have hq:q' = []:=by
  have:=congrArg List.length k2;rw [aiV] at this;apply amu;omega
 subst hq;rw [g1,k2,ajl]
section
variable {H:ag} {KE:Value→ag→Prop} {b o k:Nat} {cs:List Value} {v:Value}
theorem Lr {p q:List Value} {v:Value} (hk:k<cs.length): (p++cs++q).set (p.length+k) v=p++cs.set k v++q:=by
 rw [ai0,alK _ _ (by omega),show p.length+k - p.length=k by omega,al4 _ _ hk,ai0]
theorem gN {n:Nat} {F:Nat→Prop} (h:lJ H b o cs) (hn:n=cs.length) (hk:k<cs.length) (hv:aS v=true) (hK: ∀H',H'.size=H.size→lJ H' b o (cs.set k v)→kH b o n F F H H' →KE undef H'):aI H (.pointer (some ⟨b,o+k,none⟩)) v KE:=by
 obtain⟨p,q,t,h1,h2⟩:=h;subst h1;rw [z8 h2 (by simp;omega) hv];have hb:=bz h2;have e: ((p++cs++q).toArray.setIfInBounds (p.length+k) v)= (p++cs.set k v++q).toArray:=by rw [alr,Lr hk]
 rw [e];refine hK _ (by simp) ⟨p,q,t,rfl,bU hb⟩ ⟨by simp,fun i hi cQ _=>c9 (akk cQ),fun c t' fr hc=>?_,fun k h=> .inl h⟩;rw [h2] at hc;simp only [ai8,Obj.cells.injEq] at hc;obtain⟨hc,rfl,rfl⟩:=hc;have hc:=yX hc;subst hc;refine⟨_,bU hb,by simp,fun j hj=>?_⟩;rw [←Lr hk,als (by omega)]
theorem jM {n:Nat} {F:Nat→Prop} (h:lJ H b o cs) (hn:n=cs.length) (hk:0<cs.length) (hv:aS v=true) (hK: ∀H',H'.size=H.size→lJ H' b o (cs.set 0 v)→kH b o n F F H H' →KE undef H'):aI H (.pointer (some ⟨b,o,none⟩)) v KE:=
 gN (k:=0) h hn hk hv hK
end
theorem jJ.aaI {H:ag} {v:Value} {l:List Value} {K:Value→Prop} (h:jJ H v 1 l) (hk: ∀v',jJ H v' 1 []→aY v' =aY v→K v'):gp 1 v none (some (.int .i64 0)) K:=by
 rcases h with ⟨rfl,rfl⟩ | ⟨b,n,cap,sp,rfl,⟨t,fr,hb,hf⟩,hl,hc⟩
 ·rw [kW,eD]
  exact⟨by decide,by decide,hk _ (.inl ⟨by simp,rfl⟩) rfl⟩
 ·rw [kW,eD]
  refine⟨by decide,by omega,?_⟩;have e: (if cap=0 then (some ⟨b,0,none⟩:Option Addr) else Option.map (fun x:Addr=>x.add (0*1)) (some (⟨b,0,none⟩:Addr)))=some ⟨b,0,none⟩:=by
   split
   ·rfl
   ·simp [Addr.add]
  rw [e];exact hk _ (.inr ⟨b,0,cap,l++sp,rfl,⟨⟨t,fr,by rw [aje];exact hb,hf⟩,by simp,by rw [aje];exact hc⟩⟩) rfl
theorem aQ {a b:List UInt8} {K:Value→Prop} (h:a.length+b.length≤9223372036854775807) (hk:K (str (a++b))):aB (str a) (str b) K:=by
 rw [z_,bB,bB,qI,qI];exact⟨h,hk⟩
section
variable {K:Value→Prop} {b o n:Nat} {k k' :IntKind} {a c:Int} {l:List UInt8} {p:Bool}
theorem aj (h:K (.pointer (some ⟨b,o+n,none⟩))):aa n (.pointer (some ⟨b,o,none⟩)) K:=by rw [ae,ax];exact h
theorem a8 (h:K (.int k (k.wrap a))):bf k (.int k' a) K:=h
theorem aC (h:K (.int .i64 (l.length:Int))):aT (str l) K:=by rw [ni,bB];exact h
theorem aN {ad:Addr} (h:K (.pointer (some ad))):aG (.pointer (some ad)) K:=h
theorem dj (h:K (.bool !p)):d_ (.bool p) K:=h
theorem fJ {m:List UInt8} (h:K (.bool (decide (l≠m)))):eW 1 (str l) (str m) K:=by rw [Ua,bB,bB];exact h
theorem eO {m:List UInt8} (h:K (.bool (decide (l=m)))):cd 1 (str l) (str m) K:=by rw [X3,bB,bB];exact h
theorem ai {vs:List Value} {v:Value} {i:Nat} (hv:vs[i]? =some v) (h:K v):ar i (.tuple vs.toArray) K:=by rw [jB,hv];exact h
theorem ba {x y:Option Value} {lo hi:Nat} (hx:x=some (.int .i64 (lo:Int))∨(x=none∧lo=0)) (hy:y=some (.int .i64 (hi:Int))∨(y=none∧hi=l.length)) (h1:lo≤hi) (h2:hi≤l.length) (h:K (str ((l.drop lo).take (hi - lo)))):bd (str l) x y K:=by
 rw [n8,bB];rcases hx with rfl| ⟨rfl,rfl⟩<;>rcases hy with rfl| ⟨rfl,rfl⟩
 ·rw [pw];exact⟨by omega,by omega,by omega,by omega,by simpa using h⟩
 ·rw [mF];exact⟨by omega,by omega,by simpa using h⟩
 ·rw [eD];exact⟨by omega,by omega,by simpa using h⟩
 ·rw [Aa];exact h
theorem Ms {H:ag} {t:TypeId} {fr:Nat × Nat} {cs:Array Value} (h:H[b]? =some (.cells cs t fr)) (hn:cs.size=n) (hk:K (.agg cs)):aF H n (.pointer (some ⟨b,0,none⟩)) K:=by rw [dm h hn];exact hk
end
end
section
structure eX where
 dF:Nat→Prop
 holds:ag→Prop
 frame: ∀ {H H' :ag},holds H→(∀k,dF k→H'[k]? =H[k]?)→holds H'
 lt: ∀ {H:ag} {k:Nat},holds H→dF k→k<H.size
inductive It where
 |sl (v:Value) (sz:Nat) (l:List Value)
 |box (b:Nat) (cs:List Value) (t:TypeId)
 |aE (T:eX)
def It.dF:It→Nat→Prop
 | .sl v _ _=>fun k=>aY v=some k
 | .box b _ _=>fun k=>b=k
 | .aE T=>T.dF
def It.holds (H:ag):It→Prop
 | .sl v sz l=>0<sz∧jJ H v sz l
 | .box b cs t=>H[b]? =some (.cells cs.toArray t (0,0))
 | .aE T=>T.holds H
theorem It.frame {H H' :ag} {i:It} (h:i.holds H) (hf: ∀k,i.dF k→H'[k]? =H[k]?):i.holds H' :=by
 cases i with
 |sl v sz l=>
  refine⟨h.1,?_⟩;rcases h.2 with h| ⟨b,n,cap,sp,rfl,⟨t,fr,hb,hfr⟩,hl,hc⟩
  ·exact .inl h
  ·exact .inr ⟨b,n,cap,sp,rfl,⟨⟨t,fr,(hf b rfl).trans hb,hfr⟩,hl,hc⟩⟩
 |box b cs t=>exact(hf b rfl).trans h
 |aE T=>exact T.frame h hf
theorem It.lt {H:ag} {i:It} {k:Nat} (h:i.holds H) (hf:i.dF k):k<H.size:=by
 cases i with
 |sl v sz l=>exact h.2.lt hf
 |box b cs t=>cases hf;exact bz h
 |aE T=>exact T.lt h hf
structure au (H0 H:ag) (L:List It):Prop where
 ext:Ext H0 H
 ok: ∀i∈L,i.holds H
 new: ∀i∈L,∀k,i.dF k→H0.size≤k
 FH:L.Pairwise fun i j=> ∀k,i.dF k→¬j.dF k
variable {H0 H H' :ag} {L L' M:List It} {i i' :It}
theorem au.start:au H H []:= ⟨Ext.refl H,by simp,by simp,List.Pairwise.nil⟩
theorem au.more (o:au H0 H L) (hx:Ext H H'):au H0 H' L:=
 ⟨o.ext.trans hx,fun i hi=>It.frame (o.ok i hi) fun k hk=>hx.get k (It.lt (o.ok i hi) hk),o.new,o.FH⟩
theorem au.add (o:au H0 H L) (hx:Ext H H') (hi:i.holds H') (hf: ∀k,i.dF k→H.size≤k):au H0 H' (i::L):=by
 have o' :=o.more hx;refine⟨o'.ext,?_,?_,ajs.2 ⟨fun j hj k hk iU =>?_,o.FH⟩⟩
 ·intro j hj;rcases ajd.1 hj with rfl|hj
  ·exact hi
  ·exact o'.ok j hj
 ·intro j hj;rcases ajd.1 hj with rfl|hj
  ·intro k hk;have:=hf k hk;have:=o.ext.size;omega
  ·exact o.new j hj
 ·have:=hf k hk;have:=It.lt (o.ok j hj) iU;omega
inductive cx (i i' :It):List It→List It→Prop
 |here {L:List It}:cx i i' (i::L) (i' ::L)
 |there {j:It} {L L' :List It}:cx i i' L L' →cx i i' (j::L) (j::L')
theorem cx.mem: ∀ {L L' :List It},cx i i' L L' →i∈L
 |_,_,.here=>aiX
 |_,_,.there h=>aiW _ h.mem
theorem cx.Vk : ∀ {L L' :List It},cx i i' L L' →∀j∈L',j=i' ∨j∈L
 |_,_,.here,j,hj=>by
  rcases ajd.1 hj with h|h
  ·exact .inl h
  ·exact .inr (aiW _ h)
 |_,_,.there h,j,hj=>by
  rcases ajd.1 hj with h' |h'
  ·subst h';exact .inr aiX
  ·rcases h.Vk j h' with Vi |Vi
   ·exact .inl Vi
   ·exact .inr (aiW _ Vi)
theorem cx.FH {n:Nat} (hf: ∀k,i'.dF k→i.dF k∨n≤k): ∀ {L L' :List It},cx i i' L L' →(∀j∈L,∀k,j.dF k→k<n)→L.Pairwise (fun i j=> ∀k,i.dF k→¬j.dF k)→L'.Pairwise (fun i j=> ∀k,i.dF k→¬j.dF k)
 |_,_,.here,hn,hd=>by
  rw [ajs] at hd ⊢;refine⟨fun j hj k hk iU =>?_,hd.2⟩;rcases hf k hk with h|h
  ·exact hd.1 j hj k h iU
  ·have:=hn j (aiW _ hj) k iU;omega
 |_,_,.there (j:=j) h,hn,hd=>by
  rw [ajs] at hd ⊢;refine⟨fun x hx k hk iU =>?_,h.FH hf (fun x hx=>hn x (aiW _ hx)) hd.2⟩;rcases h.Vk x hx with rfl|hx
  ·rcases hf k iU with h' |h'
   ·exact hd.1 i h.mem k hk h'
   ·have:=hn j aiX k hk;omega
  ·exact hd.1 x hx k hk iU
theorem cx.rest {P:It→Prop} (hp:P i'): ∀ {L L' :List It},cx i i' L L' →(∀j∈L,(∀k,i.dF k→¬j.dF k)→P j)→L.Pairwise (fun i j=> ∀k,i.dF k→¬j.dF k)→∀j∈L',P j
 |_,_,.here,hn,hd,j,hj=>by
  rw [ajs] at hd;rcases ajd.1 hj with rfl|hj
  ·exact hp
  ·exact hn j (aiW _ hj) (hd.1 j hj)
 |_,_,.there (j:=j') h,hn,hd,j,hj=>by
  rw [ajs] at hd;rcases ajd.1 hj with rfl|hj
  ·exact hn j aiX (fun k hk iU =>hd.1 i h.mem k iU hk)
  ·exact h.rest hp (fun x hx=>hn x (aiW _ hx)) hd.2 j hj
theorem au.jC (o:au H0 H L) (r:cx i i' L L') (hs:H.size≤H'.size) (cQ: ∀k,k<H.size→¬i.dF k→H'[k]? =H[k]?) (hi:i'.holds H') (hf: ∀k,i'.dF k→i.dF k∨H.size≤k):au H0 H' L' :=by
 have uv:=r.mem;refine⟨⟨ajv o.ext.size hs,fun k hk=>?_⟩,?_,?_,r.FH (n:=H.size) hf (fun j hj k hk=>It.lt (o.ok j hj) hk) o.FH⟩
 ·rw [cQ k (ajN hk o.ext.size) (fun h=>by have:=o.new i uv k h;omega)]
  exact o.ext.get k hk
 ·refine r.rest hi (fun j hj hd=>It.frame (o.ok j hj) fun k hk=>cQ k (It.lt (o.ok j hj) hk) fun h=>hd k h hk) o.FH
 ·intro j hj k hk
  rcases r.Vk j hj with rfl|hj
  ·rcases hf k hk with h|h
   ·exact o.new i uv k h
   ·have:=o.ext.size;omega
  ·exact o.new j hj k hk
inductive dD (i:It):List It→List It→Prop
 |here {L:List It}:dD i (i::L) L
 |there {j:It} {L M:List It}:dD i L M→dD i (j::L) (j::M)
theorem dD.perm: ∀ {L M:List It},dD i L M→(i::M).Perm L
 |_,_,.here=>alL _
 |_,_,.there h=> (List.Perm.swap ..).trans (h.perm.cons _)
theorem au.perm (o:au H0 H L) (hs:L'.Perm L):au H0 H L' :=
 ⟨o.ext,fun i hi=>o.ok i (hs.mem_iff.1 hi),fun i hi=>o.new i (hs.mem_iff.1 hi),by
  refine(hs.symm.pairwise_iff ?_).1 o.FH;intro a b hab k hk iU;exact hab k iU hk⟩
theorem au.front (o:au H0 H L) (s:dD i L M):au H0 H (i::M):=o.perm s.perm
inductive qN:List It→List It→Prop
 |nil {L:List It}:qN [] L
 |cons {i:It} {L L' M:List It}:dD i L M→qN L' M→qN (i::L') L
theorem qN.perm: ∀ {L' L:List It},qN L' L→∃M,(L' ++M).Perm L
 |_,L,.nil=> ⟨L,alL _⟩
 |_,_,.cons s h=>by
  obtain⟨M,hM⟩:=h.perm;exact⟨M,(hM.cons _).trans s.perm⟩
theorem au.arr (o:au H0 H L) (s:qN L' L):au H0 H L' :=by
 obtain⟨M,hM⟩:=s.perm;have o' :=o.perm hM;exact⟨o'.ext,fun i hi=>o'.ok i (akq _ hi),fun i hi=>o'.new i (akq _ hi),(al5.1 o'.FH).1⟩
inductive fK:List It→List It→Prop
 |refl {L:List It}:fK L L
 |cons {i:It} {L' M L:List It}:dD i L M→fK L' M→fK (i::L') L
theorem fK.perm: ∀ {L' L:List It},fK L' L→L'.Perm L
 |_,_,.refl=>alL _
 |_,_,.cons s t=> (t.perm.cons _).trans s.perm
theorem au.Ah (o:au H0 H L) (s:fK L' L):au H0 H L' :=o.perm s.perm
theorem au.sl {v:Value} {sz:Nat} {l:List Value} (o:au H0 H L) (h:It.sl v sz l∈L):Sl H v sz l:= (o.ok _ h).2.sl (o.ok _ h).1
theorem au.Vl {v:Value} {sz:Nat} {l:List Value} (o:au H0 H L) (h:It.sl v sz l∈L) {k:Nat} (hk:aY v=some k):H0.size≤k:=o.new _ h k hk
theorem au.own {v:Value} {sz:Nat} {l:List Value} (o:au H0 H L) (h:It.sl v sz l∈L):jJ H v sz l:= (o.ok _ h).2
theorem au.lk {b:Nat} {cs:List Value} {t:TypeId} (o:au H0 H L) (h:It.box b cs t∈L):H[b]? =some (.cells cs.toArray t (0,0)):=o.ok _ h
theorem au.aE {T:eX} (o:au H0 H L) (h:It.aE T∈L):T.holds H:=o.ok _ h
theorem au.pick (o:au H0 H L) (hs:L'.Sublist L):au H0 H L' :=
 ⟨o.ext,fun i hi=>o.ok i (hs.subset hi),fun i hi=>o.new i (hs.subset hi),o.FH.sublist hs⟩
theorem au.call {L2:List It} (o:au H0 H L) (c:au H H' L2):au H0 H' (L2++L):=by
 have o' :=o.more c.ext;refine⟨o'.ext,?_,?_,al5.2 ⟨c.FH,o.FH,fun a ha b hb k hk iU =>?_⟩⟩
 ·intro i hi;rcases ajo.1 hi with h|h
  ·exact c.ok i h
  ·exact o'.ok i h
 ·intro i hi;rcases ajo.1 hi with h|h
  ·intro k hk;have:=c.new i h k hk;have:=o.ext.size;omega
  ·exact o.new i h
 ·have:=c.new a ha k hk;have:=It.lt (o.ok b hb) iU;omega
theorem Sl.frame {v:Value} {sz:Nat} {l:List Value} (h:Sl H v sz l) (hf: ∀k,aY v=some k→H'[k]? =H[k]?):Sl H' v sz l:=by
 rcases h with h| ⟨a,n,cap,rfl,h1,h2,h3⟩
 ·exact .inl h
 ·refine .inr ⟨a,n,cap,rfl,h1,h2,fun i w hw=>?_⟩
  have hc:=h3 i w hw;have yV: (a.add i).block=a.block:=by unfold Addr.add;split<;>rfl
  unfold cellAt at hc ⊢;rw [yV] at hc ⊢;rw [hf a.block rfl];exact hc
theorem Sl.lt {v:Value} {sz:Nat} {l:List Value} {k:Nat} (h:Sl H v sz l) (hl:l≠ []) (hk:aY v=some k):k<H.size:=by
 rcases h with ⟨rfl,h⟩ | ⟨a,n,cap,rfl,h1,h2,h3⟩
 ·exact absurd h hl
 ·cases l with
  |nil=>exact absurd rfl hl
  |cons x l=>
   have hc:=h3 0 x rfl;have yV: (a.add 0).block=a.block:=by unfold Addr.add;split<;>rfl
   simp only [aY,ai8] at hk;subst hk;unfold cellAt at hc;rw [yV] at hc;rcases ajM a.block H.size with h' |h'
   ·exact h'
   ·rw [akB h'] at hc;cases hc
section
variable {K:Value→ag→Prop} {KV:Value→Prop} {e:TypeId} {sz:Nat}
theorem au.Vm (o:au H0 H L) (sz:Nat) (hz:0<sz) (hk: ∀y H',au H0 H' (.sl y sz []::L)→K y H'):aU H e 0 [] [] K:=by
 simp only [aU,br,fG];exact hk _ _ (o.add (Ext.refl H).push ⟨hz,.inr ⟨H.size,0,0,[],rfl,⟨⟨e,(0,0),bO,.inl rfl⟩,by simp,by simp⟩⟩⟩ (fun j hj=>by simp only [It.dF,aY,ai8] at hj;omega))
theorem au.build (o:au H0 H L) {n:Nat} {zero vs:List Value} {parts:List (Nat × Nat × Value)} (sz:Nat) (hz:0<sz) (Gl: ∀K' :Value→Prop,K' (.agg vs.toArray)→aW zero parts K') (hn:vs.length=n*sz)
  (hk: ∀y H',au H0 H' (.sl y sz vs::L)→K y H'):aU H e n zero parts K:=by
 refine Gl _ ?_;simp only [fG];exact hk _ _ (o.add (Ext.refl H).push ⟨hz,.inr ⟨H.size,n,n,[],rfl,⟨⟨e,(0,0),by rw [ajl];exact bO,.inl rfl⟩,hn,by simpa using hn⟩⟩⟩ (fun j hj=>by simp only [It.dF,aY,ai8] at hj;omega))
theorem au.cy (o:au H0 H L) {zero:List Value} {x:Value} (hz:0<sz) (hzero:zero.length=sz) (hx:x.cells.size=sz) (hk: ∀y H',au H0 H' (.sl y sz x.cells.toList::L)→K y H'):aU H e 1 zero [(0,sz,x)] K:=by
 refine o.build sz hz (vs:=x.cells.toList) (fun K' hK=>?_) (by simp [hx]) hk;have hp:lg zero 0 x.cells.toList=x.cells.toList:=by
  have:=uo x.cells.toList [] zero (by simp [hzero,hx])
  simpa using this
 rw [da,br,hp];exact⟨hx,by omega,hK⟩
theorem Gm (z:List Value): ∀n,fS z n= (List.replicate n z).flatten
 |0=>rfl
 |n+1=>by rw [fS,Gm z n,List.replicate_succ,aj_]
theorem Gn (z:Value): ∀n,fS [z] n=List.replicate n z
 |0=>rfl
 |n+1=>by rw [fS,Gn z n];rfl
theorem au.make (o:au H0 H L) {bytes:Nat} {z:List Value} {n:Int} (hz:0<z.length) (h0:0≤n) (hb: (bytes:Int)*n≤281474976710656) (hn:n≤9223372036854775807)
  (hk: ∀y H',au H0 H' (.sl y z.length (fS z n.toNat)::L)→K y H'):dB H e bytes z (.int .i64 n) (.int .i64 n) K:=by
 simp only [dB];refine⟨h0,alp _,hb,hn,?_⟩;exact hk _ _ (o.add (Ext.refl H).push ⟨hz,.inr ⟨H.size,n.toNat,n.toNat,[],rfl,⟨⟨e,(0,0),by rw [ajl];exact bO,.inl rfl⟩,by rw [g_],by simp [g_]⟩⟩⟩ (fun j hj=>by simp only [It.dF,aY,ai8] at hj;omega))
theorem au.qh (o:au H0 H L) {bytes:Nat} {z:Value} {n:Int} (h0:0≤n) (hb: (bytes:Int)*n≤281474976710656) (hn:n≤9223372036854775807)
  (hk: ∀y H',au H0 H' (.sl y 1 (List.replicate n.toNat z)::L)→K y H'):dB H e bytes [z] (.int .i64 n) (.int .i64 n) K:=by
 refine o.make (by simp) h0 hb hn fun y H' o' =>?_;rw [Gn] at o';exact hk y H' o'
theorem au.append (o:au H0 H L) {v x:Value} {bytes m n:Nat} {zero l new:List Value} (fH:dD (.sl v sz l) L M) (hzero:zero.length=sz) (hx:Sl H x sz new)
  (hl:l.length=n*sz) (hm:new.length=m*sz) (kG:new.all aS=true) (jL:2* (n+m)*bytes≤281474976710656)
  (hk: ∀v' H',au H0 H' (.sl v' sz (l++new)::M)→K v' H'):a7 H e sz bytes zero v x K:=by
 have o1:=o.front fH;obtain⟨hz,ho⟩:=o1.ok _ aiX;refine jJ.append ho hz hzero (hx.jc hm hz) hx.cellsOf hl hm kG jL fun v' H' o' hi hs hb=>?_;refine hk v' H' (o1.jC cx.here hs (fun k hk hf=>hi k hk hf) ⟨hz,o'⟩ fun k hk=>?_);simp only [It.dF] at hk ⊢;rcases hb with hb|hb
 ·left;rw [←hb];exact hk
 ·right;rw [hb,ai8] at hk;omega
theorem au.app (o:au H0 H L) {v x z:Value} {bytes:Nat} {l new:List Value} (fH:dD (.sl v 1 l) L M) (hx:Sl H x 1 new)
  (kG:new.all aS=true) (jL:2* (l.length+new.length)*bytes≤281474976710656)
  (hk: ∀v' H',au H0 H' (.sl v' 1 (l++new)::M)→K v' H'):a7 H e 1 bytes [z] v x K:=
 o.append fH rfl hx (ai5 _).symm (ai5 _).symm kG jL hk
theorem Sl.one {v:Value} {l:List Value} (h:Sl H v sz l):aS v=true:=by
 rcases h with ⟨rfl,_⟩ | ⟨a,m,cap,rfl,_⟩<;>rfl
theorem aR {l:List Value} {o:Nat} {v:Value} {r:List (Nat × Nat × Value)} (hv:aS v=true) (ho:o<l.length) (h:aW (l.set o v) r KV):aW l ((o,1,v)::r) KV:=by
 rw [da,cells_one hv];exact⟨rfl,by omega,by simpa [b7,cR] using h⟩
theorem all_cons {x:Value} {l:List Value} (hx:aS x=true) (hl:l.all aS=true): (x::l).all aS=true:=by simp [hx,hl]
theorem dU {a b x y:Value} (hx:aS x=true) (hy:aS y=true) (h:KV (.agg #[x,y])):aW [a,b] [(0,1,x),(1,1,y)] KV:=
 aR hx (by simp) (aR hy (by simp) h)
theorem dL {a b c x y z:Value} (hx:aS x=true) (hy:aS y=true) (hz:aS z=true) (h:KV (.agg #[x,y,z])):aW [a,b,c] [(0,1,x),(1,1,y),(2,1,z)] KV:=
 aR hx (by simp) (aR hy (by simp) (aR hz (by simp) h))
def At (v:Value) (j:Nat) (p:Value):Prop:= ∃a n cap,v= .slice (some a) n cap∧p= .pointer (some (a.add j))
theorem Sl.at_ {v:Value} {l:List Value} (h:Sl H v sz l) {n:Nat} (hn:l.length=n*sz) (hz:0<sz) {i:Int} (h0:0≤i) (h1:i< (n:Int)) (hk: ∀p,At v (i.toNat*sz) p→KV p):aK sz v (.int .i64 i) KV:=by
 rcases h with ⟨rfl,rfl⟩ | ⟨a,m,cap,rfl,h2,h3,h4⟩
 ·have:=akR (show 0<n by omega) hz
  simp only [ai_] at hn;omega
 ·rw [h2] at hn
  have hmn:=akW hz hn;rw [mE];exact⟨h0,by omega,hk _ ⟨a,m,cap,rfl,rfl⟩⟩
theorem At.field {v p:Value} {j f:Nat} (h:At v j p) (hk: ∀q,At v (j+f) q→KV q):aa f p KV:=by
 obtain⟨a,n,cap,rfl,rfl⟩:=h;rw [ae];exact hk _ ⟨a,n,cap,rfl,by rw [uq]⟩
theorem At.load {v p w:Value} {j:Nat} {l:List Value} (h:At v j p) (hs:Sl H v sz l) (hw:l[j]? =some w) (hk:KV w):ao H p KV:=by
 obtain⟨a,n,cap,rfl,rfl⟩:=h;rcases hs with ⟨h,rfl⟩ | ⟨a',m,Vb,h,h2,h3,h4⟩
 ·simp at hw
 ·cases h
  rw [bo (h4 j w hw)];exact hk
theorem At.fZ {v p:Value} {j n:Nat} {l ws:List Value} (h:At v j p) (hs:Sl H v sz l) (hw: (l.drop j).take n=ws) (hn:ws.length=n) (hk:KV (.agg ws.toArray)):aF H n p KV:=by
 obtain⟨a,c,cap,rfl,rfl⟩:=h;rcases hs with ⟨h,rfl⟩ | ⟨a',m,Vb,h,h2,h3,h4⟩
 ·simp at hw
  subst hw;simp only [ai_] at hn;subst hn;exact hk
 ·cases h
  subst hw;exact(h4.part j n).fZ hn hk
theorem Ai {l sp new:List Value} {b j:Nat} {t:TypeId} {fr:Nat × Nat} {N:Nat} (hf:Ee fr N) (hb:H[b]? =some (.cells (l++sp).toArray t fr)) (kG:new.all aS=true) (hj:j+new.length≤l.length) (hN: (l++sp).length=N):
  fQ H ⟨b,j,none⟩ 0 new=some (H.setIfInBounds b (.cells (lg l j new++sp).toArray t fr)):=by
 rw [jK hf new H j 0 (l++sp) hb kG (by rw [aiV];omega) hN]
 congr 4
 rw [ajq];have Jr:l=l.take j++l.drop j:= (ajp j l).symm;have hlj: (l.take j).length=j:=by rw [ai2];omega
 have e1:=n9 new (l.take j) (l.drop j++sp) (by rw [aiV,ai4];omega);have e2:=n9 new (l.take j) (l.drop j) (by rw [ai4];omega);rw [hlj] at e1 e2;rw [←ai0,ajp] at e1;rw [ajp] at e2;rw [e1,e2,ai0 (List.take j l++new),ajR (by rw [ai4];omega)]
theorem au.put (o:au H0 H L) {v p:Value} {j:Nat} {l new:List Value} (h:At v j p) (fH:It.sl v sz l∈L) (hj:j+new.length≤l.length) (kG:new.all aS=true)
  (mH:cx (.sl v sz l) (.sl v sz (lg l j new)) L L'): ∃a H',p= .pointer (some a)∧fQ H a 0 new=some H' ∧au H0 H' L' ∧H'.size=H.size:=by
 obtain⟨hz,ho⟩:=o.ok _ fH;obtain⟨a,n,cap,rfl,rfl⟩:=h;rcases ho with ⟨h,rfl⟩ | ⟨b,n',Vb,sp,h,⟨t,fr,hb,hf⟩,hl,hc⟩
 ·cases h
 ·cases h
  refine⟨_,H.setIfInBounds b (.cells (lg l j new++sp).toArray t fr),rfl,?_,?_,?_⟩
  ·rw [ax,ajb];exact Ai hf hb kG hj hc
  ·refine o.jC mH (by simp) (fun k hk cQ=>c9 (by intro e;subst e;exact cQ rfl)) ⟨hz,.inr ⟨b,n,cap,sp,rfl,⟨⟨t,fr,bU (bz hb),hf⟩,?_,?_⟩⟩⟩ (fun k hk=> .inl hk)
   ·rw [Gg];exact hl
   ·rw [aiV,Gg,←aiV];exact hc
  ·simp
theorem au.store (o:au H0 H L) {v p x:Value} {j:Nat} {l:List Value} (h:At v j p) (fH:It.sl v sz l∈L) (hj:j<l.length) (hx:aS x=true)
  (mH:cx (.sl v sz l) (.sl v sz (l.set j x)) L L') (hk: ∀H',au H0 H' L' →H'.size=H.size→K undef H'):aI H p x K:=by
 obtain⟨a,H',rfl,hs,o',qm⟩:=o.put (new:= [x]) h fH (by simp;omega) (by simp [hx]) (by rw [b7,cR];exact mH);simp only [aI,hs];exact hk H' o' qm
theorem au.Vn (o:au H0 H L) {v p:Value} {vs:List Value} {j n:Nat} {l:List Value} (h:At v j p) (fH:It.sl v sz l∈L) (hn:vs.length=n) (hj:j+n≤l.length) (hx:vs.all aS=true)
  (mH:cx (.sl v sz l) (.sl v sz (lg l j vs)) L L') (hk: ∀H',au H0 H' L' →H'.size=H.size→K undef H'):aH H n p (.agg vs.toArray) K:=by
 subst hn;obtain⟨a,H',rfl,hs,o',qm⟩:=o.put (new:=vs) h fH hj hx mH;simp only [aH,fG,hs];exact⟨by simp,hk H' o' qm⟩
theorem au.box (o:au H0 H L) {v:Value} (hk: ∀b H',au H0 H' (.box b v.cells.toList e::L)→b=H.size→K (.pointer (some ⟨b,0,none⟩)) H'):bD H e v K:=
 hk _ _ (o.add (Ext.refl H).push (show _=_ from bO) (fun j hj=>by simp only [It.dF] at hj;omega)) rfl
theorem au.dc (o:au H0 H L) {b f:Nat} {cs:List Value} {t:TypeId} {w:Value} (fH:It.box b cs t∈L) (hw:cs[f]? = .some w) (hk:KV w):ao H (.pointer (some ⟨b,f,none⟩)) KV:=
 gn (o.lk fH) hw hk
theorem au.lK (o:au H0 H L) {b n:Nat} {cs:List Value} {t:TypeId} (fH:It.box b cs t∈L) (hn:cs.length=n) (hk:KV (.agg cs.toArray)):aF H n (.pointer (some ⟨b,0,none⟩)) KV:=
 Ms (o.lk fH) (by simpa using hn) hk
theorem au.eV (o:au H0 H L) {b f:Nat} {cs:List Value} {t:TypeId} {x:Value} (fH:It.box b cs t∈L) (hf:f<cs.length) (hx:aS x=true)
  (mH:cx (.box b cs t) (.box b (cs.set f x) t) L L') (hk: ∀H',au H0 H' L' →H'.size=H.size→K undef H'):aI H (.pointer (some ⟨b,f,none⟩)) x K:=by
 refine iM (o.lk fH) (by simpa using hf) hx fun H' hs u=>hk H' (o.jC mH u.size (fun k hk cQ=>u.ne k hk (fun e=>cQ e.symm)) ?_ (fun k hk=> .inl hk)) hs;show _=_;rw [u.at_,alr]
theorem au.yY (o:au H0 H L) {b n:Nat} {cs vs:List Value} {t:TypeId} (fH:It.box b cs t∈L) (hn:cs.length=n) (hv:vs.length=n) (hx:vs.all aS=true)
  (mH:cx (.box b cs t) (.box b vs t) L L') (hk: ∀H',au H0 H' L' →H'.size=H.size→K undef H'):aH H n (.pointer (some ⟨b,0,none⟩)) (.agg vs.toArray) K:=by
 refine dt (o.lk fH) (by simpa using hn) (by simpa using hv) (by simpa using hx) fun H' hs u=>hk H' (o.jC mH u.size (fun k hk cQ=>u.ne k hk (fun e=>cQ e.symm)) ?_ (fun k hk=> .inl hk)) hs;exact u.at_
theorem au.aw {KV:Value→Prop} (o:au H0 H L) {b f:Nat} {cs:List Value} {t:TypeId} {w:Value} (hk:KV w) (fH:It.box b cs t∈L:=by repeat(first|exact aiX|apply aiW)) (hw:cs[f]? = .some w:=by exact rfl):ao H (.pointer (some ⟨b,f,none⟩)) KV:=o.dc fH hw hk
theorem au.bh {KV:Value→Prop} (o:au H0 H L) {b n:Nat} {cs:List Value} {t:TypeId} (hk:KV (.agg cs.toArray)) (fH:It.box b cs t∈L:=by repeat(first|exact aiX|apply aiW)) (hn:cs.length=n:=by exact rfl):aF H n (.pointer (some ⟨b,0,none⟩)) KV:=o.lK fH hn hk
theorem au.cj {K:Value→ag→Prop} (o:au H0 H L) {L' :List It} {b f:Nat} {cs:List Value} {t:TypeId} {x:Value} (hk: ∀H',au H0 H' L' →H'.size=H.size→K undef H') (fH:It.box b cs t∈L:=by repeat(first|exact aiX|apply aiW)) (hf:f<cs.length:=by exact ai7 rfl) (hx:aS x=true:=by exact rfl) (mH:cx (.box b cs t) (.box b (cs.set f x) t) L L' :=by repeat(first|exact cx.here|apply cx.there)):aI H (.pointer (some ⟨b,f,none⟩)) x K:=o.eV fH hf hx mH hk
theorem au.de {K:Value→ag→Prop} (o:au H0 H L) {L' :List It} {b n:Nat} {cs vs:List Value} {t:TypeId} (hx:vs.all aS=true) (hk: ∀H',au H0 H' L' →H'.size=H.size→K undef H') (fH:It.box b cs t∈L:=by repeat(first|exact aiX|apply aiW)) (hn:cs.length=n:=by exact rfl) (hv:vs.length=n:=by exact rfl) (mH:cx (.box b cs t) (.box b vs t) L L' :=by repeat(first|exact cx.here|apply cx.there)):aH H n (.pointer (some ⟨b,0,none⟩)) (.agg vs.toArray) K:=o.yY fH hn hv hx mH hk
theorem au.cz {K:Value→ag→Prop} (o:au H0 H L) {L' :List It} {b n:Nat} {cs vs:List Value} {t:TypeId} (hk: ∀H',au H0 H' L' →H'.size=H.size→K undef H') (fH:It.box b cs t∈L:=by repeat(first|exact aiX|apply aiW)) (hn:cs.length=n:=by exact rfl) (hv:vs.length=n:=by exact rfl) (hx:vs.all aS=true:=by exact rfl) (mH:cx (.box b cs t) (.box b vs t) L L' :=by repeat(first|exact cx.here|apply cx.there)):aH H n (.pointer (some ⟨b,0,none⟩)) (.agg vs.toArray) K:=o.yY fH hn hv hx mH hk
theorem au.cf {v:Value} {sz:Nat} {l:List Value} (o:au H0 H L) (h:It.sl v sz l∈L:=by repeat(first|exact aiX|apply aiW)):Sl H v sz l:=o.sl h
theorem au.j8 {b:Nat} {cs:List Value} {t:TypeId} (o:au H0 H L) (h:It.box b cs t∈L:=by repeat(first|exact aiX|apply aiW)):H[b]? =some (.cells cs.toArray t (0,0)):=o.lk h
theorem au.dS {T:eX} (o:au H0 H L) (h:It.aE T∈L:=by repeat(first|exact aiX|apply aiW)):T.holds H:=o.aE h
theorem au.h_ {L' :List It} (o:au H0 H L) (s:qN L' L:=by repeat(first|exact qN.nil|exact dD.here|apply qN.cons|apply dD.there)):au H0 H L' :=o.arr s
theorem au.cY {L' :List It} (o:au H0 H L) (s:fK L' L:=by repeat(first|exact fK.refl|exact dD.here|apply fK.cons|apply dD.there)):au H0 H L' :=o.Ah s
theorem au.ZD {e sz:Nat} {K:Value→ag→Prop} (o:au H0 H L) {M:List It} {v x:Value} {bytes m n:Nat} {zero l new:List Value} (hx:Sl H x sz new) (hl:l.length=n*sz) (hm:new.length=m*sz) (kG:new.all aS=true) (jL:2* (n+m)*bytes≤281474976710656) (hk: ∀v' H',au H0 H' (.sl v' sz (l++new)::M)→K v' H') (fH:dD (.sl v sz l) L M:=by repeat(first|exact dD.here|apply dD.there)) (hzero:zero.length=sz:=by exact rfl):a7 H e sz bytes zero v x K:=o.append fH hzero hx hl hm kG jL hk
theorem Sl.gG {KV:Value→Prop} {sz:Nat} {v:Value} {l:List Value} (h:Sl H v sz l) {n:Nat} (hn:l.length=n*sz) {i:Int} (hk: ∀p,At v (i.toNat*sz) p→KV p) (hz:0<sz:=by decide) (h0:0≤i:=by omega) (h1:i< (n:Int):=by omega):aK sz v (.int .i64 i) KV:=h.at_ hn hz h0 h1 hk
theorem Sl.df {sz:Nat} {v:Value} {l:List Value} {K:Value→Prop} (h:Sl H v sz l) {n:Nat} (hn:l.length=n*sz) (hk:K (.int .i64 (n:Int))) (hz:0<sz:=by decide):bK v K:=h.len hn hz hk
theorem aJ {n:Int} (h0: -9223372036854775808≤n:=by omega) (h1:n≤9223372036854775807:=by omega):IntKind.i64.wrap n=n:=ff h0 h1
theorem ei {p:Prop} [Decidable p] (h: ¬p:=by omega):decide p=false:=decide_eq_false h
theorem nR {p:Prop} [Decidable p] (h:p:=by omega):decide p=true:=decide_eq_true h
theorem yZ {p:Prop} [Decidable p] (h: ¬p:=by simp):decide p=false:=decide_eq_false h
theorem qO {p:Prop} [Decidable p] (h: ¬p:=by decide):decide p=false:=decide_eq_false h
theorem aeV {K:Value→Prop} {vs:List Value} {v:Value} {i:Nat} (h:K v) (hv:vs[i]? =some v:=by exact rfl):ar i (.tuple vs.toArray) K:=ai hv h
end
end
end Go.Vc
namespace Go.Proofs
open Go Go.Vc
section
def Tryz.C:List Nat:= [2,3,4,5,6,7,8,9,10,11,12,13,14,15,16,17,18,19,20,21,22,23,24,25,26,27,28,29,30,31,32,33,34,35,36,37,38,39,40,41,42,43,44,45,46,47,48,49,50,51,52,53,54,55,56,57,58,59,60,61,62,63,64,65,66,67,68,69,70,71,72,73,74,75,76,77,78,79,80,81,82,83,84,85,86,87,88,89,90,91,92,93,94,95,96,97,98,99,100,101,102,103,104,105,106,107,108,109,110,111,112,113,114,115,116,117,118,119,120,121,122,123,124,125,126,127,128,129,130,131,132,133,134,135,136,137,138,139,140,141,142,143,144,145,146,147,148,149,150,151,152,153,154,155,156,157,158,159,160,161,162,163,164,165,166,167,168,169,170,171,172,173,174,175,176,177,180,181,182,183,184,185,186,187,188,189,190,191,192,193,194,195,196,197,198,199,200,201,202,203,204,205,206,207,208,209,210,211,212,213,214,215,216,217,218,219,220,221,222,223,224,225,226,227,228,229,230,231,232,233,234,235,236,237,238,239,240,241,242,243,244,245,246,247,248,249,250,251,252,253,254,255,256,257,258,259,260,261,262,263,264,265,266,267,268,269,270,271,272,273,274,275,276,277,278,279,280,281,282,283,284,285,286,287,288,289,290,291,292,293,294,295,296,297,298,299,300,301,303,304,305,306,307,308,309,310,311,312,314,315,316,317,318,319,320,321,322,323,350]
theorem Tryz.mixed:Tryz.prog.follows .mixedOrders=true:=by kernel_rfl
theorem Tryz.oe:iI Tryz.prog Tryz.C:=by
 have key: ∀f∈Tryz.C,∀ (args:Array Value) (w:World),(callFunc f args).run Tryz.prog w= .ok (.enter f args) w:=by
  unfold Tryz.C
  repeat(refine List.forall_mem_cons.2 ⟨fun _ _=>rfl,?_⟩)
  exact fun _ h=>absurd h amv
 exact fun f hf=>key f (nZ.1 hf)
theorem Tryz.vc [Go.Vc.Mode] {f:FuncId} {fn:Func} (an:ue) {args:List Value} {H:ag} {R:Value→ag→Prop} {r:Prop} (hf:Tryz.prog.funcs[f]? =some fn) (hk:Gb Tryz.prog fn an args.length=true) (e:OS Tryz.prog Tryz.C fn an args H R=r) (h:r):jb Tryz.prog f args.toArray H R:=SI Tryz.oe Tryz.mixed an hf hk e h
def nbs:Nat→Nat→List Nat
 |0,_=> []
 |f+1,n=>match n with
  |0=> []
  |k+1=> ((k+1) %16)::nbs f ((k+1) /16)
def Aj:Nat→List Nat→(Nat→List Nat→ue)→ue
 |0,_,_=> .leaf
 |f+1,ds,k=>match ds with
  | []=> .leaf
  |d::r=>match Nat.ble 8 d with
   |true=>Aj f r fun v r=>k (d - 8+8*v) r
   |false=>k d r
def Ya:Nat→Nat→List Nat→(List Nat→List Nat→ue)→ue
 |0,_,ds,k=>k [] ds
 |c+1,b,ds,k=>Aj 30 ds fun g ds=>Aj 30 ds fun l ds=>Ya c (b+g+l+1) ds fun t ds=>k (rgL (b+g) (l+1) t) ds
def Yb:Nat→List Nat→(List Nat→List Nat→ue)→ue
 |0,ds,k=>k [] ds
 |c+1,ds,k=>Aj 30 ds fun v ds=>Yb c ds fun t ds=>k (v::t) ds
def deV:Nat→List Nat→(List (List Nat)→List Nat→ue)→ue
 |0,ds,k=>k [] ds
 |c+1,ds,k=>Aj 30 ds fun v ds=>Yb v ds fun t ds=>deV c ds fun u ds=>k (t::u) ds
def Vo:Nat→Nat→Nat→List Nat→(List Nat→List Nat→ue)→ue
 |0,_,_,ds,k=>k [] ds
 |c+1,j,p,ds,k=>match ds with
  | []=> .leaf
  |d::r=>match d with
   |0=>Vo c (j+1) 0 r fun t ds=>k (0::t) ds
   |1=>Vo c (j+1) (p+2 ^ (j - 1)) r fun t ds=>k ((p+2 ^ (j - 1))::t) ds
   |2=>Vo c (j+1) (2 ^ j - 1) r fun t ds=>k ((2 ^ j - 1)::t) ds
   |3=>Vo c (j+1) p r fun t ds=>k (p::t) ds
   |4=>Vo c (j+1) (2 ^ (j - 1)) r fun t ds=>k ((2 ^ (j - 1))::t) ds
   |_=>Aj 30 r fun v r=>Vo c (j+1) v r fun t ds=>k (v::t) ds
def SL:Nat→List Nat→(nG→List Nat→ue)→ue
 |0,_,_=> .leaf
 |f+1,ds,k=>match ds with
  | []=> .leaf
  |d::r=>match d with
   |0=>k .nil r
   |1=>Aj 30 r fun i ds=>Aj 30 ds fun n ds=>Yb n ds fun s ds=>SL f ds fun p ds=>k (.op i s p) ds
   |2=>Aj 30 r fun i ds=>SL f ds fun b ds=>Aj 30 ds fun j ds=>SL f ds fun p ds=>k (.IX i b j p) ds
   |3=>SL f r fun a ds=>SL f ds fun b ds=>k (.fork a b) ds
   |4=>Aj 30 r fun i ds=>Aj 30 ds fun n ds=>SL f ds fun p ds=>k (Sj i n p) ds
   |_=>Aj 30 r fun i ds=>SL f ds fun p ds=>k (.op i [] p) ds
def R6:Nat→List Nat→(ue→List Nat→ue)→ue
 |0,_,_=> .leaf
 |f+1,ds,k=>match ds with
  | []=> .leaf
  |d::r=>match d with
   |0=>k .leaf r
   |1=>SL 999 r fun p ds=>k (.WW p) ds
   |2=>Aj 30 r fun n ds=>Vo n 0 0 ds fun m ds=>SL 999 ds fun p ds=>k (.Zw m p) ds
   |3=>R6 f r fun a ds=>R6 f ds fun b ds=>k (.seq a b) ds
   |4=>Aj 30 r fun n ds=>Ya n 0 ds fun s ds=>Aj 30 ds fun n ds=>Ya n 0 ds fun w ds=>R6 f ds fun a ds=>R6 f ds fun b ds=>k (.cut s w a b) ds
   |5=>R6 f r fun a ds=>R6 f ds fun b ds=>k (.cond a b) ds
   |6=>R6 f r fun a ds=>k (.block a) ds
   |7=>Aj 30 r fun n ds=>Ya n 0 ds fun s ds=>Aj 30 ds fun n ds=>Ya n 0 ds fun w ds=>R6 f ds fun a ds=>k (.loop s w a) ds
   |8=>Aj 30 r fun n ds=>Yb n ds fun b ds=>Aj 30 ds fun n ds=>deV n ds fun j ds=>Aj 30 ds fun n ds=>Yb n ds fun g ds=>k (.inv b j g) ds
   |9=>Aj 30 r fun n ds=>k (.WW (Sj 0 n .nil)) ds
   |_=>Aj 30 r fun n ds=>R6 f ds fun b ds=>k (.seq (.WW (Sj 0 n .nil)) b) ds
def deZ (n:Nat):ue:=R6 999 (nbs 9999 n) fun a _=>a
abbrev ab [Go.Vc.Mode] (f:FuncId) (args:Array Value) (H:ag) (R:Value→ag→Prop):Prop:=jb Tryz.prog f args H R
theorem bI [Go.Vc.Mode] {f:FuncId} {fn:Func} (n:Nat) {args:List Value} {H:ag} {R:Value→ag→Prop} {r:Prop} (hf:Tryz.prog.funcs[f]? =some fn) (h:r) (hk:Gb Tryz.prog fn (deZ n) args.length=true:=by kernel_rfl) (e:OS Tryz.prog Tryz.C fn (deZ n) args H R=r:=by kernel_rfl):jb Tryz.prog f args.toArray H R:=Tryz.vc (deZ n) hf hk e h
end
end Go.Proofs
namespace Go.Proofs.YtpcgccdmmoggmaaGreatDoor
open Go Go.Vc Go.Proofs
section
set_option maxHeartbeats 4000000
variable [Go.Vc.Mode] (H0:ag) (R:Value→ag→Prop)
theorem uw.vc (a:Value) (h:
 aG a fun b=>aa 1 b fun b=>ao H0 b fun b=>aT b fun b=>ab 140 #[a,b] H0 fun b c=>aG a fun d=>aa 19 d fun d=>ao c d fun d=>aT b fun e=>aB d e fun d=>aG a fun e=>aa 19 e fun e=>aI c e d fun _ c=>aG a fun d=>aa 18 d fun d=>ao c d fun d=>ab 124 #[d,b] c fun b c=>ar 0 b fun d=>ar 1 b fun b=> ∃e:ag→Prop,(∀ (_:Env) (f:ag),e f→eW 0 b (.int .i64 0) fun g=>aq g (R b f) (aG a fun b=>aa 18 b fun b=>ao f b fun b=>ab 125 #[b] f fun b f=>d_ b fun b=>aq b (R (.int .i64 2) f) (aG a fun b=>aa 18 b fun b=>ao f b fun b=>ab 126 #[b] f fun b f=>aG a fun g=>aa 1 g fun g=>aI f g b fun _ b=>aG a fun f=>aa 3 f fun f=>ao b f fun f=>aG a fun g=>aa 1 g fun g=>ao b g fun g=>aT g fun g=>bR f g fun f=>aG a fun g=>aa 3 g fun g=>aI b g f fun _ b=>aG a fun f=>aa 18 f fun f=>ao b f fun f=>ab 142 #[f] b fun b f=>bf .u64 b fun b=>aG a fun g=>aa 5 g fun g=>aa 7 g fun g=>aI f g b fun _ b=>aG a fun f=>aa 2 f fun f=>aI b f (.int .i64 2) fun _ b=>aG a fun f=>aa 5 f fun f=>aF b 12 f fun f=>ab 139 #[f] b fun b f=>bE b (fun b=>aG a fun g=>aa 17 g fun g=>ao f g fun g=>d_ g fun g=>b g f) f fun b f=> ∀_:Env,aq b (R (.int .i64 8) f) (R (.int .i64 0) f))))∧eW 1 d (str []) fun b=>aq b (aG a fun b=>aa 5 b fun b=>aa 8 b fun b=>ao c b fun b=>aT d fun f=>bf .u64 f fun f=>aB b f fun b=>aG a fun f=>aa 5 f fun f=>aa 8 f fun f=>aI c f b fun _ b=>aG a fun f=>aa 0 f fun f=>ao b f fun f=>aG a fun g=>aa 5 g fun g=>aa 9 g fun g=>ao b g fun g=>ab 63 #[f,g,d] b fun b f=>aG a fun g=>aa 5 g fun g=>aa 9 g fun g=>aI f g b fun _ b=>aG a fun f=>aa 23 f fun f=>ao b f fun f=>aW [(.int .i64 0),(str []),(.int .i64 0),(.int .i64 0),(.int .i64 0),(.int .i64 0),(.int .i64 0),(.int .i64 0),(.int .u64 0),(.int .u64 0),(.int .u32 0),(.int .u64 0),(.bool false),(str [])] [(0,1,(.int .i64 2)),(13,1,d)] fun d=>aU b 46 1 [(.int .i64 0),(str []),(.int .i64 0),(.int .i64 0),(.int .i64 0),(.int .i64 0),(.int .i64 0),(.int .i64 0),(.int .u64 0),(.int .u64 0),(.int .u32 0),(.int .u64 0),(.bool false),(str [])] [(0,14,d)] fun b d=>a7 d 46 14 128 [(.int .i64 0),(str []),(.int .i64 0),(.int .i64 0),(.int .i64 0),(.int .i64 0),(.int .i64 0),(.int .i64 0),(.int .u64 0),(.int .u64 0),(.int .u32 0),(.int .u64 0),(.bool false),(str [])] f b fun b d=>aG a fun a=>aa 23 a fun a=>aI d a b fun _ a=>e a) (e c)):ab 90 #[a] H0 R:=bI 0x101a001a501b0564526041334a1ba01d0411121111011101d2319a001a57a02a53a6301c90280411123ffe50111101110028231da52a4f3f1041ba1aa18a1a Tryz.func90 h
theorem sZ.vc (a:Value) (h:
 aG a fun b=>aa 5 b fun b=>aF H0 12 b fun b=>ab 97 #[b] H0 fun b c=>aG a fun d=>aa 1 d fun d=>ao c d fun d=>aG a fun e=>aa 1 e fun e=>ao c e fun e=>aT e fun e=>aT b fun f=>jA e f fun e=>bd d none (some e) fun d=>aT d fun e=>jA e (.int .i64 8) fun e=>aG a fun f=>aa 17 f fun f=>ao c f fun g=>aG a fun h=>aa 5 h fun h=>aF c 12 h fun h=>ab 139 #[h] c fun c h=> (ao h f fun f=>f=g)∧eW 2 g c fun c=>ej c (fun c=>jA e (.int .i64 4) fun f=>bd d none (some f) fun f=>jA e (.int .i64 4) fun g=>bd b none (some g) fun g=>eW 1 f g fun f=>c f h) h fun c f=> ∀_:Env,aq c (R (.int .i64 3) f) (b_ e (.int .i64 8) fun c=>aq c (R (.int .i64 2) f) (bd d none (some (.int .i64 8)) fun c=>bd b none (some (.int .i64 8)) fun e=>eW 1 c e fun c=>aq c (R (.int .i64 7) f) (ab 106 #[b,d] f fun c e=>d_ c fun c=>aq c (R (.int .i64 3) e) (aT d fun c=>aT b fun d=>b_ c d fun c=>aq c (R (.int .i64 2) e) (aT b fun b=>ab 140 #[a,b] e fun _ b=>ab 141 #[a] b fun _ a=>R (.int .i64 0) a)))))):ab 91 #[a] H0 R:=bI 0x101a2a4a001a56a01a55a01a5060412101062301a53a01a502d52c0191b41a2219431181180411278bfff5133fff52131121111011102e23634a01e04123fe85101111011101e236a1a Tryz.func91 h
theorem sn.vc (a:Value) (h:
 aG a fun b=>aa 1 b fun b=>ao H0 b fun b=>aT b fun b=>aG a fun c=>aa 22 c fun c=>ao H0 c fun c=>aT c fun c=>jA b c fun b=>aG a fun c=>aa 1 c fun c=>ao H0 c fun c=>bd c none (some b) fun c=>aG a fun d=>aa 22 d fun d=>ao H0 d fun d=>bd d none (some b) fun d=>eW 1 c d fun c=>aq c (R (.int .i64 3) H0) (ab 140 #[a,b] H0 fun _ c=>aG a fun d=>aa 22 d fun d=>ao c d fun d=>bd d (some b) none fun b=>aG a fun d=>aa 22 d fun d=>aI c d b fun _ b=>aG a fun c=>aa 22 c fun c=>ao b c fun c=>eW 1 c (str []) fun c=>aq c (R (.int .i64 2) b) (aG a fun c=>aa 2 c fun c=>aI b c (.int .i64 4) fun _ b=>aG a fun c=>aa 23 c fun c=>ao b c fun c=>aW [(.int .i64 0),(str []),(.int .i64 0),(.int .i64 0),(.int .i64 0),(.int .i64 0),(.int .i64 0),(.int .i64 0),(.int .u64 0),(.int .u64 0),(.int .u32 0),(.int .u64 0),(.bool false),(str [])] [(0,1,(.int .i64 4))] fun d=>aU b 46 1 [(.int .i64 0),(str []),(.int .i64 0),(.int .i64 0),(.int .i64 0),(.int .i64 0),(.int .i64 0),(.int .i64 0),(.int .u64 0),(.int .u64 0),(.int .u32 0),(.int .u64 0),(.bool false),(str [])] [(0,14,d)] fun b d=>a7 d 46 14 128 [(.int .i64 0),(str []),(.int .i64 0),(.int .i64 0),(.int .i64 0),(.int .i64 0),(.int .i64 0),(.int .i64 0),(.int .u64 0),(.int .u64 0),(.int .u32 0),(.int .u64 0),(.bool false),(str [])] c b fun b c=>aG a fun a=>aa 23 a fun a=>aI c a b fun _ a=>R (.int .i64 0) a))):ab 92 #[a] H0 R:=bI 0x101a1ba4a001a55a31aa3a001a501d0423f885011102011101d23301c041211110111101c231a Tryz.func92 h
theorem ux.vc (a b:Value) (h:
 aG a fun c=>aa 1 c fun c=>ao H0 c fun c=>bd c none (some b) fun c=>aG a fun d=>aa 1 d fun d=>ao H0 d fun d=>bd d (some b) none fun d=>aG a fun e=>aa 1 e fun e=>aI H0 e d fun _ d=>aG a fun e=>aa 3 e fun e=>ao d e fun e=>aB e b fun b=>aG a fun a=>aa 3 a fun a=>aI d a b fun _ a=>R c a):ab 140 #[a,b] H0 R:=bI 0x102a19a1aa7a1a Tryz.func140 h
theorem s0.vc (a:Value) (h:
 aG a fun b=>aa 20 b fun b=>ao H0 b fun c=>aG a fun d=>aa 5 d fun d=>aF H0 12 d fun d=>aU H0 44 1 [(str []),(.int .i64 0),(.int .i64 0),(.int .i64 0),(.int .i64 0),(.int .i64 0),(.int .i64 0),(.int .u64 0),(.int .u64 0),(.int .u32 0),(.int .u64 0),(.bool false)] [(0,12,d)] fun d e=> (ao e b fun b=>b=c)∧a7 e 44 12 104 [(str []),(.int .i64 0),(.int .i64 0),(.int .i64 0),(.int .i64 0),(.int .i64 0),(.int .i64 0),(.int .u64 0),(.int .u64 0),(.int .u32 0),(.int .u64 0),(.bool false)] c d fun b c=>aG a fun d=>aa 20 d fun d=>aI c d b fun _ b=>aG a fun c=>aa 3 c fun c=>ao b c fun c=>aG a fun d=>aa 4 d fun d=>aI b d c fun _ b=>aG a fun c=>aa 23 c fun c=>ao b c fun d=>aG a fun e=>aa 5 e fun e=>aF b 12 e fun e=>aW [(.int .i64 0),(str []),(.int .i64 0),(.int .i64 0),(.int .i64 0),(.int .i64 0),(.int .i64 0),(.int .i64 0),(.int .u64 0),(.int .u64 0),(.int .u32 0),(.int .u64 0),(.bool false),(str [])] [(0,1,(.int .i64 3)),(1,12,e)] fun e=>aU b 46 1 [(.int .i64 0),(str []),(.int .i64 0),(.int .i64 0),(.int .i64 0),(.int .i64 0),(.int .i64 0),(.int .i64 0),(.int .u64 0),(.int .u64 0),(.int .u32 0),(.int .u64 0),(.bool false),(str [])] [(0,14,e)] fun b e=> (ao e c fun c=>c=d)∧a7 e 46 14 128 [(.int .i64 0),(str []),(.int .i64 0),(.int .i64 0),(.int .i64 0),(.int .i64 0),(.int .i64 0),(.int .i64 0),(.int .u64 0),(.int .u64 0),(.int .u32 0),(.int .u64 0),(.bool false),(str [])] d b fun b c=>aG a fun d=>aa 23 d fun d=>aI c d b fun _ b=>aG a fun a=>aa 2 a fun a=>aI b a (.int .i64 0) fun _ a=>R (.tuple #[]) a):ab 141 #[a] H0 R:=bI 0x149041b4411a11a041123ffe5111110111001f2318a041a44119119041121ffe511110111001e23 Tryz.func141 h
theorem Vp.vc (a:Value) (h:
 bD H0 40 (.agg #[(.int .i64 0),(.int .i64 0),(.int .i64 0),(.int .i64 0),(.int .i64 0),(.int .i64 0)]) fun b c=>b_ a (.int .i64 0) fun d=>aq d (aW [(.int .i64 0),(.int .i64 0),(.int .i64 0),(.int .i64 0),(.int .i64 0),(.int .i64 0)] [] fun d=>aH c 6 b d fun _ d=>aF d 6 b fun e=>R (.tuple #[e,(.bool false)]) d) (k_ a (.int .i64 43200) fun d=>jU a (.int .i64 43200) fun a=>k_ a (.int .i64 1800) fun e=>k_ a (.int .i64 30) fun f=>jU f (.int .i64 60) fun f=>jU a (.int .i64 30) fun a=>kB a (.int .i64 2) fun a=>aW [(.int .i64 0),(.int .i64 0),(.int .i64 0),(.int .i64 0),(.int .i64 0),(.int .i64 0)] [(0,1,(.int .i64 1980)),(1,1,(.int .i64 1)),(2,1,(.int .i64 1)),(3,1,e),(4,1,f),(5,1,a)] fun a=>bD c 40 (.agg #[(.int .i64 0),(.int .i64 0),(.int .i64 0),(.int .i64 0),(.int .i64 0),(.int .i64 0)]) fun c e=>aH e 6 c a fun _ a=> ∃e:Value→ag→Prop,(∀ (_:Env) (f:Value) (g:ag),e f g→aa 0 c fun h=>ao g h fun h=>ef h (.int .i64 2107) fun h=>aq h (aW [(.int .i64 0),(.int .i64 0),(.int .i64 0),(.int .i64 0),(.int .i64 0),(.int .i64 0)] [] fun h=>aH g 6 b h fun _ h=>aF h 6 b fun i=>R (.tuple #[i,(.bool false)]) h) (∃ (h:Value→ag→Prop) (i:Value→ag→Nat),h f g∧∀ (_:Env) (f:Value) (g:ag),h f g→aa 0 c fun j=>ao g j fun j=>aa 1 c fun k=>ao g k fun k=>ab 73 #[j,k] g fun j k=>jz f j fun j=>aq j (aa 0 c fun j=>ao k j fun j=>aa 1 c fun l=>ao k l fun l=>ab 73 #[j,l] k fun j l=>bR f j fun j=>aa 1 c fun m=>ao l m fun m=>aB m (.int .i64 1) fun m=>aa 1 c fun n=>aI l n m fun _ l=>h j l∧i j l<i f g) (aa 2 c fun g=>ao k g fun g=>aB g f fun f=>aa 2 c fun g=>aI k g f fun _ f=>aF f 6 c fun g=>aH f 6 b g fun _ f=>aF f 6 b fun b=>R (.tuple #[b,(.bool true)]) f)))∧∃ (b:Value→ag→Prop) (f:Value→ag→Nat),b d a∧∀ (_:Env) (a:Value) (d:ag),b a d→aa 0 c fun g=>ao d g fun g=>oZ g (.int .i64 2107) fun g=>aq g (aa 0 c fun g=>ao d g fun g=>ab 73 #[g,(.int .i64 2)] d fun g h=>aB (.int .i64 337) g fun g=>b_ a g fun i=>aq i (e a h) (bR a g fun g=>aa 0 c fun i=>ao h i fun i=>aB i (.int .i64 1) fun i=>aa 0 c fun c=>aI h c i fun _ c=>b g c∧f g c<f a d)) (e a d))):ab 29 #[a] H0 R:=bI 0x103a6a5918a60057a32958042041763003a53a3594a0053a35a60053a32828020430417628280204304141ba6a003a52a32a Tryz.func29 h
theorem Pt.vc (a b:Value) (h:
 ∃c:Value→ag→Prop,(∀ (_:Env) (d:Value) (e:ag),c d e→aq d (R (.int .i64 30) e) (cd 0 b (.int .i64 2) fun d=>aq d (ab 127 #[a] e fun a d=>aq a (R (.int .i64 29) d) (R (.int .i64 28) d)) (b_ b (.int .i64 1) fun a=>ej a (fun a=>ef b (.int .i64 12) fun d=>a d e) e fun a d=> ∀_:Env,aq a (R (.int .i64 0) d) (R (.int .i64 31) d))))∧cd 0 b (.int .i64 4) fun a=>aq a (c a H0) (cd 0 b (.int .i64 6) fun a=>aq a (c a H0) (cd 0 b (.int .i64 9) fun a=>aq a (c a H0) (cd 0 b (.int .i64 11) fun a=>c a H0)))):ab 73 #[a,b] H0 R:=bI 0x101a001a505023422304133001a001a52a352a01a529052a052a052a461061461a31a Tryz.func73 h
theorem Cg.vc (a:Value) (h:
 bD H0 40 a fun a b=>aa 0 a fun c=>ao b c fun c=>jz c (.int .i64 1980) fun c=>bE c (fun c=>aa 0 a fun d=>ao b d fun d=>oZ d (.int .i64 2107) fun d=>c d b) b fun b c=> ∀_:Env,bE b (fun b=>aa 2 a fun d=>ao c d fun d=>jz d (.int .i64 1) fun d=>b d c) c fun b c=> ∀_:Env,bE b (fun b=>aa 2 a fun d=>ao c d fun e=>aa 0 a fun f=>ao c f fun f=>aa 1 a fun g=>ao c g fun g=>ab 73 #[f,g] c fun f g=> (ao g d fun d=>d=e)∧oZ e f fun d=>b d g) c fun b c=> ∀_:Env,bE b (fun b=>aa 3 a fun d=>ao c d fun d=>jz d (.int .i64 0) fun d=>b d c) c fun b c=> ∀_:Env,bE b (fun b=>aa 3 a fun d=>ao c d fun d=>b_ d (.int .i64 24) fun d=>b d c) c fun b c=> ∀_:Env,bE b (fun b=>aa 4 a fun d=>ao c d fun d=>jz d (.int .i64 0) fun d=>b d c) c fun b c=> ∀_:Env,bE b (fun b=>aa 4 a fun d=>ao c d fun d=>b_ d (.int .i64 60) fun d=>b d c) c fun b c=> ∀_:Env,bE b (fun b=>aa 5 a fun d=>ao c d fun d=>jz d (.int .i64 0) fun d=>b d c) c fun b c=> ∀_:Env,bE b (fun b=>aa 5 a fun d=>ao c d fun d=>b_ d (.int .i64 60) fun d=>b d c) c fun b c=> ∀_:Env,bE b (fun b=>aa 5 a fun a=>ao c a fun a=>jU a (.int .i64 2) fun a=>cd 0 a (.int .i64 0) fun a=>b a c) c fun a b=> ∀_:Env,R a b):ab 94 #[a] H0 R:=bI 0x1007b57a046e46d26d56c036946826855f035c45b25b55a034f44e24e54d034a449249548033d43c23c53b033842f22f52e02d51f12c161e41d21d51c0319418218570344324041111111111111111111111111111111111111123ebffff513ffff513ffff511111111111111107c232a Tryz.func94 h
theorem Pu.vc (a:Value) (h:
 jU a (.int .i64 4) fun b=>cd 0 b (.int .i64 0) fun b=>bE b (fun b=>jU a (.int .i64 100) fun c=>eW 0 c (.int .i64 0) fun c=>ej c (fun c=>jU a (.int .i64 400) fun a=>cd 0 a (.int .i64 0) fun a=>c a H0) H0 fun a c=> ∀_:Env,b a c) H0 fun a b=> ∀_:Env,R a b):ab 127 #[a] H0 R:=bI 0x1001d51c01b031847244432404131a Tryz.func127 h
theorem Ch.vc (a:Value) (h:
 bD H0 40 a fun a b=>aF b 6 a fun c=>ab 94 #[c] b fun b c=>d_ b fun b=>aq b (R (.tuple #[(.int .u64 0),(.int .u64 0),(.bool false)]) c) (aa 2 a fun b=>ao c b fun b=>aa 1 a fun d=>ao c d fun d=>kC d (.int .u64 5) fun d=>cK .or b d fun b=>aa 0 a fun d=>ao c d fun d=>bR d (.int .i64 1980) fun d=>kC d (.int .u64 9) fun d=>cK .or b d fun b=>bf .u64 b fun b=>aa 5 a fun d=>ao c d fun d=>k_ d (.int .i64 2) fun d=>aa 4 a fun e=>ao c e fun e=>kC e (.int .u64 5) fun e=>cK .or d e fun d=>aa 3 a fun a=>ao c a fun a=>kC a (.int .u64 11) fun a=>cK .or d a fun a=>bf .u64 a fun a=>R (.tuple #[b,a,(.bool true)]) c)):ab 197 #[a] H0 R:=bI 0x1003b04127fff511fff888851107f888851101101211102110103b23003a53a34a Tryz.func197 h
theorem Js.vc (a b:Value) (h:
 bD H0 40 (.agg #[(.int .i64 0),(.int .i64 0),(.int .i64 0),(.int .i64 0),(.int .i64 0),(.int .i64 0)]) fun c d=>jz a (.int .u64 65536) fun e=>ej e (fun e=>jz b (.int .u64 65536) fun f=>e f d) d fun d e=> ∀_:Env,aq d (aW [(.int .i64 0),(.int .i64 0),(.int .i64 0),(.int .i64 0),(.int .i64 0),(.int .i64 0)] [] fun d=>aH e 6 c d fun _ d=>aF d 6 c fun f=>R (.tuple #[f,(.bool false)]) d) (bf .i64 a fun a=>bf .i64 b fun b=>nU a (.int .u64 9) fun d=>aB d (.int .i64 1980) fun d=>nU a (.int .u64 5) fun f=>cK .and f (.int .i64 15) fun f=>cK .and a (.int .i64 31) fun a=>nU b (.int .u64 11) fun g=>nU b (.int .u64 5) fun h=>cK .and h (.int .i64 63) fun h=>cK .and b (.int .i64 31) fun b=>kB b (.int .i64 2) fun b=>aW [(.int .i64 0),(.int .i64 0),(.int .i64 0),(.int .i64 0),(.int .i64 0),(.int .i64 0)] [(0,1,d),(1,1,f),(2,1,a),(3,1,g),(4,1,h),(5,1,b)] fun a=>bD e 40 (.agg #[(.int .i64 0),(.int .i64 0),(.int .i64 0),(.int .i64 0),(.int .i64 0),(.int .i64 0)]) fun b d=>aH d 6 b a fun _ a=>aF a 6 b fun d=>ab 94 #[d] a fun a d=>d_ a fun a=>aq a (aW [(.int .i64 0),(.int .i64 0),(.int .i64 0),(.int .i64 0),(.int .i64 0),(.int .i64 0)] [] fun a=>aH d 6 c a fun _ a=>aF a 6 c fun e=>R (.tuple #[e,(.bool false)]) a) (aF d 6 b fun a=>aH d 6 c a fun _ a=>aF a 6 c fun b=>R (.tuple #[b,(.bool true)]) a))):ab 262 #[a,b] H0 R:=bI 0x103a003a53a32ba6a003a5050234223041332a Tryz.func262 h
theorem strings_Join.vc (a b:Value) (h:
 bK a fun c=>cd 0 c (.int .i64 0) fun d=>aq d (R (str []) H0) (cd 0 c (.int .i64 1) fun c=>aq c (aK 1 a (.int .i64 0) fun c=>ao H0 c fun c=>R c H0) (∃c:Value→ag→Prop,(∀ (_:Env) (d:Value) (e:ag),c d e→bK a fun f=> ∃ (g:Value→Value→ag→Prop) (h:Value→Value→ag→Nat),g d (.int .i64 0) e∧∀ (_:Env) (d e:Value) (i:ag),g d e i→b_ e f fun f=>aq f (aK 1 a e fun f=>ao i f fun f=> ∃j:ag→Prop,(∀ (_:Env) (k:ag),j k→aT f fun l=>aB d l fun l=>aB e (.int .i64 1) fun m=>g l m k∧h l m k<h d e i)∧aT f fun e=>bR (.int .i64 9223372036854775807) d fun f=>ef e f fun e=>aq e (False) (j i)) (bD i 153 (.agg #[(.pointer none),(.slice none 0 0)]) fun e f=>ab 74 #[e,d] f fun _ d=>aK 1 a (.int .i64 0) fun f=>ao d f fun f=>ab 75 #[e,f] d fun _ d=>gp 1 a (some (.int .i64 1)) none fun f=>bK f fun g=> ∃ (h:Value→ag→Prop) (i:Value→ag→Nat),h (.int .i64 0) d∧∀ (_:Env) (d:Value) (j:ag),h d j→b_ d g fun g=>aq g (aK 1 f d fun f=>ao j f fun f=>ab 75 #[e,b] j fun _ g=>ab 75 #[e,f] g fun _ f=>aB d (.int .i64 1) fun g=>h g f∧i g f<i d j) (ab 76 #[e] j fun d e=>R d e)))∧aT b fun d=>ef d (.int .i64 0) fun d=>aq d (∃d:ag→Prop,(∀ (_:Env) (e:ag),d e→aT b fun f=>bK a fun g=>bR g (.int .i64 1) fun g=>kB f g fun f=>aB (.int .i64 0) f fun f=>c f e)∧aT b fun b=>bK a fun a=>bR a (.int .i64 1) fun a=>k_ (.int .i64 9223372036854775807) a fun a=>jz b a fun a=>aq a (False) (d H0)) (c (.int .i64 0) H0)))):ab 30 #[a,b] H0 R:=bI 0x102a29292a3a6300531a186e01a201891764a34a2a1a295902955a55d1043a6300531a1e490105304b052763a3019902957a72f10453a2a1e05205141a004a52a01a52a62a31a Tryz.func30 h
theorem strings_Repeat.vc (a b:Value) (h:
 cd 0 b (.int .i64 0) fun c=>aq c (R (str []) H0) (cd 0 b (.int .i64 1) fun c=>aq c (R a H0) (∃c:ag→Prop,(∀ (_:Env) (d:ag),c d→aT a fun e=>bf .u64 e fun e=>bf .u64 b fun f=>ab 105 #[e,f] d fun d e=>ar 0 d fun f=>ar 1 d fun d=> ∃g:ag→Prop,(∀ (_:Env) (h:ag),g h→bf .i64 d fun i=>aT a fun j=>cd 0 j (.int .i64 0) fun j=>aq j (R (str []) h) (∃j:ag→Prop,(∀ (_:Env) (k:ag),j k→∃l:Value→ag→Prop,(∀ (_:Env) (m:Value) (n:ag),l m n→bD n 153 (.agg #[(.pointer none),(.slice none 0 0)]) fun n o=>ab 74 #[n,i] o fun _ o=>ab 75 #[n,a] o fun _ o=> ∃ (p:ag→Prop) (q:ag→Nat),p o∧∀ (_:Env) (o:ag),p o→ab 100 #[n] o fun r s=>b_ r i fun r=>aq r (ab 100 #[n] s fun r t=>bR i r fun r=>ab 100 #[n] t fun t u=>jA r t fun r=>jA r m fun m=>ab 76 #[n] u fun r t=>bd r none (some m) fun m=>ab 75 #[n,m] t fun _ m=>p m∧q m<q o) (ab 76 #[n] s fun m n=>R m n))∧ef i (.int .i64 8192) fun m=>aq m (aT a fun m=>k_ (.int .i64 8192) m fun m=>aT a fun n=>kB m n fun m=>cd 0 m (.int .i64 0) fun n=>aq n (aT a fun n=>l n k) (l m k)) (l i k))∧bN a (.int .i64 0) fun k=> ∃l:Value→ag→Prop,(∀ (_:Env) (m:Value) (n:ag),l m n→aq m (oZ i (.int .i64 128) fun m=>bE m (fun m=>ab 106 #[(str [32,32,32,32,32,32,32,32,32,32,32,32,32,32,32,32,32,32,32,32,32,32,32,32,32,32,32,32,32,32,32,32,32,32,32,32,32,32,32,32,32,32,32,32,32,32,32,32,32,32,32,32,32,32,32,32,32,32,32,32,32,32,32,32,32,32,32,32,32,32,32,32,32,32,32,32,32,32,32,32,32,32,32,32,32,32,32,32,32,32,32,32,32,32,32,32,32,32,32,32,32,32,32,32,32,32,32,32,32,32,32,32,32,32,32,32,32,32,32,32,32,32,32,32,32,32,32,32]),a] n fun o p=>m o p) n fun m o=> ∀_:Env,aq m (bd (str [32,32,32,32,32,32,32,32,32,32,32,32,32,32,32,32,32,32,32,32,32,32,32,32,32,32,32,32,32,32,32,32,32,32,32,32,32,32,32,32,32,32,32,32,32,32,32,32,32,32,32,32,32,32,32,32,32,32,32,32,32,32,32,32,32,32,32,32,32,32,32,32,32,32,32,32,32,32,32,32,32,32,32,32,32,32,32,32,32,32,32,32,32,32,32,32,32,32,32,32,32,32,32,32,32,32,32,32,32,32,32,32,32,32,32,32,32,32,32,32,32,32,32,32,32,32,32,32]) none (some i) fun m=>R m o) (oZ i (.int .i64 128) fun m=>bE m (fun m=>ab 106 #[(str [45,45,45,45,45,45,45,45,45,45,45,45,45,45,45,45,45,45,45,45,45,45,45,45,45,45,45,45,45,45,45,45,45,45,45,45,45,45,45,45,45,45,45,45,45,45,45,45,45,45,45,45,45,45,45,45,45,45,45,45,45,45,45,45,45,45,45,45,45,45,45,45,45,45,45,45,45,45,45,45,45,45,45,45,45,45,45,45,45,45,45,45,45,45,45,45,45,45,45,45,45,45,45,45,45,45,45,45,45,45,45,45,45,45,45,45,45,45,45,45,45,45,45,45,45,45,45,45]),a] o fun p q=>m p q) o fun m o=> ∀_:Env,aq m (bd (str [45,45,45,45,45,45,45,45,45,45,45,45,45,45,45,45,45,45,45,45,45,45,45,45,45,45,45,45,45,45,45,45,45,45,45,45,45,45,45,45,45,45,45,45,45,45,45,45,45,45,45,45,45,45,45,45,45,45,45,45,45,45,45,45,45,45,45,45,45,45,45,45,45,45,45,45,45,45,45,45,45,45,45,45,45,45,45,45,45,45,45,45,45,45,45,45,45,45,45,45,45,45,45,45,45,45,45,45,45,45,45,45,45,45,45,45,45,45,45,45,45,45,45,45,45,45,45,45]) none (some i) fun m=>R m o) (oZ i (.int .i64 64) fun m=>bE m (fun m=>ab 106 #[(str [48,48,48,48,48,48,48,48,48,48,48,48,48,48,48,48,48,48,48,48,48,48,48,48,48,48,48,48,48,48,48,48,48,48,48,48,48,48,48,48,48,48,48,48,48,48,48,48,48,48,48,48,48,48,48,48,48,48,48,48,48,48,48,48]),a] o fun p q=>m p q) o fun m o=> ∀_:Env,aq m (bd (str [48,48,48,48,48,48,48,48,48,48,48,48,48,48,48,48,48,48,48,48,48,48,48,48,48,48,48,48,48,48,48,48,48,48,48,48,48,48,48,48,48,48,48,48,48,48,48,48,48,48,48,48,48,48,48,48,48,48,48,48,48,48,48,48]) none (some i) fun m=>R m o) (oZ i (.int .i64 128) fun m=>bE m (fun m=>ab 106 #[(str [61,61,61,61,61,61,61,61,61,61,61,61,61,61,61,61,61,61,61,61,61,61,61,61,61,61,61,61,61,61,61,61,61,61,61,61,61,61,61,61,61,61,61,61,61,61,61,61,61,61,61,61,61,61,61,61,61,61,61,61,61,61,61,61,61,61,61,61,61,61,61,61,61,61,61,61,61,61,61,61,61,61,61,61,61,61,61,61,61,61,61,61,61,61,61,61,61,61,61,61,61,61,61,61,61,61,61,61,61,61,61,61,61,61,61,61,61,61,61,61,61,61,61,61,61,61,61,61]),a] o fun p q=>m p q) o fun m o=> ∀_:Env,aq m (bd (str [61,61,61,61,61,61,61,61,61,61,61,61,61,61,61,61,61,61,61,61,61,61,61,61,61,61,61,61,61,61,61,61,61,61,61,61,61,61,61,61,61,61,61,61,61,61,61,61,61,61,61,61,61,61,61,61,61,61,61,61,61,61,61,61,61,61,61,61,61,61,61,61,61,61,61,61,61,61,61,61,61,61,61,61,61,61,61,61,61,61,61,61,61,61,61,61,61,61,61,61,61,61,61,61,61,61,61,61,61,61,61,61,61,61,61,61,61,61,61,61,61,61,61,61,61,61,61,61]) none (some i) fun m=>R m o) (oZ i (.int .i64 64) fun m=>bE m (fun m=>ab 106 #[(str [9,9,9,9,9,9,9,9,9,9,9,9,9,9,9,9,9,9,9,9,9,9,9,9,9,9,9,9,9,9,9,9,9,9,9,9,9,9,9,9,9,9,9,9,9,9,9,9,9,9,9,9,9,9,9,9,9,9,9,9,9,9,9,9]),a] o fun a p=>m a p) o fun a m=> ∀_:Env,aq a (bd (str [9,9,9,9,9,9,9,9,9,9,9,9,9,9,9,9,9,9,9,9,9,9,9,9,9,9,9,9,9,9,9,9,9,9,9,9,9,9,9,9,9,9,9,9,9,9,9,9,9,9,9,9,9,9,9,9,9,9,9,9,9,9,9,9]) none (some i) fun a=>R a m) (j m)))))) (j n))∧cd 0 k (.int .u8 32) fun a=>aq a (l a h) (cd 0 k (.int .u8 45) fun a=>aq a (l a h) (cd 0 k (.int .u8 48) fun a=>aq a (l a h) (cd 0 k (.int .u8 61) fun a=>aq a (l a h) (cd 0 k (.int .u8 9) fun a=>l a h))))))∧ef f (.int .u64 0) fun a=>ej a (fun a=>ef d (.int .u64 9223372036854775807) fun d=>a d e) e fun a d=> ∀_:Env,aq a (False) (g d))∧b_ b (.int .i64 0) fun a=>aq a (False) (c H0)))):ab 50 #[a,b] H0 R:=bI 0x102a497a60053a31c1cc01a207632a2a1a003952a7a52a1b1ae0182018142a0003a506550234223041303a506550234223041303a506550234223041303a506550234223041303a50655023422304136529052a052a052a052a55b105b1462a6c4c04204001a53a33a0295050234223041363d1041ba02952a229104002a52a01a52a61a31a Tryz.func50 h
theorem iB.vc (a b:Value) (h:
 ab 128 #[a] H0 fun _ c=>aG a fun d=>aa 1 d fun d=>ao c d fun d=>a7 c 5 1 1 [(.int .u8 0)] d b fun c d=>aG a fun a=>aa 1 a fun a=>aI d a c fun _ a=>aT b fun b=>R (.tuple #[b,.nilIface]) a):ab 75 #[a,b] H0 R:=bI 0x104a1aa2a2a Tryz.func75 h
theorem sq.vc (a:Value) (h:
 aG a fun a=>aa 1 a fun a=>ao H0 a fun a=>bK a fun a=>R a H0):ab 100 #[a] H0 R:=bI 0x106a1a Tryz.func100 h
theorem strings_HasPrefix.vc (a b:Value) (h:
 ab 152 #[a,b] H0 fun a b=>R a b):ab 106 #[a,b] H0 R:=bI 0x104a1a Tryz.func106 h
theorem strings_HasSuffix.vc (a b:Value) (h:
 ab 189 #[a,b] H0 fun a b=>R a b):ab 136 #[a,b] H0 R:=bI 0x104a1a Tryz.func136 h
theorem qn.vc (a:Value) (h:
 aG a fun b=>aa 0 b fun b=>aI H0 b (.pointer none) fun _ b=>aG a fun a=>aa 1 a fun a=>aI b a (.slice none 0 0) fun _ a=>R (.tuple #[]) a):ab 174 #[a] H0 R:=bI 0x1494a Tryz.func174 h
theorem strings_ContainsFunc.vc (a b:Value) (h:
 ab 237 #[a,b] H0 fun a b=>jz a (.int .i64 0) fun a=>R a b):ab 193 #[a,b] H0 R:=bI 0x105a1a Tryz.func193 h
theorem v_.vc (a b:Value) (h:
 ab 238 #[a,b,(.int .i64 0)] H0 fun a b=>R a b):ab 195 #[a,b] H0 R:=bI 0x104a1a Tryz.func195 h
theorem wa.vc (a b c:Value) (h:
 bD H0 9 a fun a d=>bD d 9 b fun b d=>bD d 3 c fun c d=>R (.func (.func 264) #[] #[b,a,c]) d):ab 238 #[a,b,c] H0 R:=bI 0x102a4a Tryz.func238 h
theorem mY.vc (a b:Value) (h:
 ab 128 #[a] H0 fun _ c=>aG a fun d=>aa 1 d fun d=>ao c d fun d=>aU c 5 1 [(.int .u8 0)] [(0,1,b)] fun b c=>a7 c 5 1 1 [(.int .u8 0)] d b fun b c=>aG a fun a=>aa 1 a fun a=>aI c a b fun _ a=>R .nilIface a):ab 258 #[a,b] H0 R:=bI 0x101a1ba2a1a Tryz.func258 h
theorem oh.vc (a b c:Value) (h:
 jz a (.int .u64 4611686018427387904) fun d=>ej d (fun d=>jz b (.int .u64 4611686018427387904) fun e=>d e H0) H0 fun d e=> ∀_:Env,ej d (fun d=>jz c (.int .u64 4611686018427387904) fun f=>d f e) e fun d e=> ∀_:Env,aq d (R (str []) e) (∃d:Value→ag→Prop,(∀ (_:Env) (f:Value) (g:ag),d f g→∃h:Value→ag→Prop,(∀ (_:Env) (i:Value) (j:ag),h i j→∃k:Value→ag→Prop,(∀ (_:Env) (l:Value) (m:ag),k l m→∃n:Value→ag→Prop,(∀ (_:Env) (o:Value) (p:ag),n o p→aB f (str [80,75,5,6]) fun f=>ab 80 #[(.int .u64 0)] p fun p q=>aB f p fun f=>ab 79 #[i] q fun p q=>aB f p fun f=>ab 79 #[i] q fun i p=>aB f i fun f=>ab 80 #[l] p fun i l=>aB f i fun f=>ab 80 #[o] l fun i l=>aB f i fun f=>ab 79 #[(.int .u64 0)] l fun i l=>aB f i fun f=>R f l)∧ef c (.int .u64 4294967294) fun f=>aq f (n (.int .u64 4294967295) m) (n c m))∧ef b (.int .u64 4294967294) fun f=>aq f (k (.int .u64 4294967295) j) (k b j))∧ef a (.int .u64 65534) fun f=>aq f (h (.int .u64 65535) g) (h a g))∧ef a (.int .u64 65534) fun f=>ej f (fun f=>ef b (.int .u64 4294967294) fun g=>f g e) e fun e f=> ∀_:Env,ej e (fun e=>ef c (.int .u64 4294967294) fun g=>e g f) f fun e f=> ∀_:Env,aq e (∃e:Nat→Value→ag→Prop,(∀ (g:Nat) (h:Value) (i j:ag),Ext i j→e g h i→e g h j)∧(∀ (_:Env) (g:ag),Ext f g→ab 78 #[(.int .u64 44),(.int .i64 8)] g fun h i=>Ext g i∧e 0 h i)∧(∀ (_:Env) (g:Value) (h:ag),Ext f h→e 0 g h→aB (str [80,75,6,6]) g fun g=>Ext h h∧e 1 g h)∧(∀ (_:Env) (g:ag),Ext f g→ab 79 #[(.int .u64 45)] g fun h i=>Ext g i∧e 2 h i)∧(∀ (_:Env) (g h:Value) (i:ag),Ext f i→e 1 g i→e 2 h i→aB g h fun g=>Ext i i∧e 3 g i)∧(∀ (_:Env) (g:ag),Ext f g→ab 79 #[(.int .u64 45)] g fun h i=>Ext g i∧e 4 h i)∧(∀ (_:Env) (g h:Value) (i:ag),Ext f i→e 3 g i→e 4 h i→aB g h fun g=>Ext i i∧e 5 g i)∧(∀ (_:Env) (g:ag),Ext f g→dB g 5 1 [(.int .u8 0)] (.int .i64 8) (.int .i64 8) fun h i=>Ext g i∧e 6 h i)∧(∀ (_:Env) (g:Value) (h:ag),Ext f h→e 6 g h→fR h g fun g=>Ext h h∧e 7 g h)∧(∀ (_:Env) (g h:Value) (i:ag),Ext f i→e 5 g i→e 7 h i→aB g h fun g=>Ext i i∧e 8 g i)∧(∀ (_:Env) (g:ag),Ext f g→Ext g g∧e 9 a g)∧(∀ (_:Env) (g:Value) (h:ag),Ext f h→e 9 g h→ab 78 #[g,(.int .i64 8)] h fun g i=>Ext h i∧e 10 g i)∧(∀ (_:Env) (g h:Value) (i:ag),Ext f i→e 8 g i→e 10 h i→aB g h fun g=>Ext i i∧e 11 g i)∧(∀ (_:Env) (g:ag),Ext f g→Ext g g∧e 12 a g)∧(∀ (_:Env) (a:Value) (g:ag),Ext f g→e 12 a g→ab 78 #[a,(.int .i64 8)] g fun a h=>Ext g h∧e 13 a h)∧(∀ (_:Env) (a g:Value) (h:ag),Ext f h→e 11 a h→e 13 g h→aB a g fun a=>Ext h h∧e 14 a h)∧(∀ (_:Env) (a:ag),Ext f a→Ext a a∧e 15 b a)∧(∀ (_:Env) (a:Value) (g:ag),Ext f g→e 15 a g→ab 78 #[a,(.int .i64 8)] g fun a h=>Ext g h∧e 16 a h)∧(∀ (_:Env) (a g:Value) (h:ag),Ext f h→e 14 a h→e 16 g h→aB a g fun a=>Ext h h∧e 17 a h)∧(∀ (_:Env) (a:ag),Ext f a→Ext a a∧e 18 c a)∧(∀ (_:Env) (a:Value) (g:ag),Ext f g→e 18 a g→ab 78 #[a,(.int .i64 8)] g fun a h=>Ext g h∧e 19 a h)∧(∀ (_:Env) (a g:Value) (h:ag),Ext f h→e 17 a h→e 19 g h→aB a g fun a=>Ext h h∧e 20 a h)∧(∀ (_:Env) (a:Value) (g:ag),Ext f g→e 20 a g→aB a (str [80,75,6,7]) fun a=>Ext g g∧e 21 a g)∧(∀ (_:Env) (a:ag),Ext f a→ab 80 #[(.int .u64 0)] a fun g h=>Ext a h∧e 22 g h)∧(∀ (_:Env) (a g:Value) (h:ag),Ext f h→e 21 a h→e 22 g h→aB a g fun a=>Ext h h∧e 23 a h)∧(∀ (_:Env) (a:ag),Ext f a→Ext a a∧e 24 c a)∧(∀ (_:Env) (a:ag),Ext f a→Ext a a∧e 25 b a)∧(∀ (_:Env) (a b:Value) (c:ag),Ext f c→e 24 a c→e 25 b c→aB a b fun a=>Ext c c∧e 26 a c)∧(∀ (_:Env) (a:Value) (b:ag),Ext f b→e 26 a b→ab 78 #[a,(.int .i64 8)] b fun a c=>Ext b c∧e 27 a c)∧(∀ (_:Env) (a b:Value) (c:ag),Ext f c→e 23 a c→e 27 b c→aB a b fun a=>Ext c c∧e 28 a c)∧(∀ (_:Env) (a:ag),Ext f a→ab 80 #[(.int .u64 1)] a fun b c=>Ext a c∧e 29 b c)∧(∀ (_:Env) (a b:Value) (c:ag),Ext f c→e 28 a c→e 29 b c→aB a b fun a=>Ext c c∧e 30 a c)∧(∀ (_:Env) (a:Value) (b:ag),Ext f b→e 30 a b→Ext b b∧e 31 a b)∧(∀ (_:Env) (a:Value) (b:ag),Ext f b→e 31 a b→d a b)) (d (str []) f))):ab 32 #[a,b,c] H0 R:=bI 0x102ba01952a17a01a201a1401952a17901920191401952a1780182018146a03f13e13d3c203b2f23a139382002e2d202c12b2922a10281e21f101d1b21c101a182191075261043202120010481ffffffffff7fffffffff1fabbbb8ad1fffffffff7abbbb8ad388888888003fffffff3bbb8ad7ffffff3ffffff1bbb8ad03fffff1bb8ad03ffff1b8ad03fff18ad03ff18803f57110488501902746265502342230413581d07207141a001a50190274626550234223041331a Tryz.func32 h
theorem s7.vc (a:Value) (h:
 bD H0 88 a fun a b=>aF b 12 a fun c=>ab 82 #[c] b fun b c=>d_ b fun b=>aq b (R (str []) c) (aF c 12 a fun b=>ab 83 #[b] c fun b c=>aq b (∃b:Nat→Value→ag→Prop,(∀ (d:Nat) (e:Value) (f g:ag),Ext f g→b d e f→b d e g)∧(∀ (_:Env) (d:ag),Ext c d→ab 79 #[(.int .u64 45)] d fun e f=>Ext d f∧b 0 e f)∧(∀ (_:Env) (d:Value) (e:ag),Ext c e→b 0 d e→aB (str [80,75,3,4]) d fun d=>Ext e e∧b 1 d e)∧(∀ (_:Env) (d:ag),Ext c d→aF d 12 a fun e=>Ext d d∧b 2 e d)∧(∀ (_:Env) (d:Value) (e:ag),Ext c e→b 2 d e→ab 84 #[d] e fun d f=>Ext e f∧b 3 d f)∧(∀ (_:Env) (d e:Value) (f:ag),Ext c f→b 1 d f→b 3 e f→aB d e fun d=>Ext f f∧b 4 d f)∧(∀ (_:Env) (d:ag),Ext c d→ab 80 #[(.int .u64 0)] d fun e f=>Ext d f∧b 5 e f)∧(∀ (_:Env) (d e:Value) (f:ag),Ext c f→b 4 d f→b 5 e f→aB d e fun d=>Ext f f∧b 6 d f)∧(∀ (_:Env) (d:ag),Ext c d→ab 80 #[(.int .u64 4294967295)] d fun e f=>Ext d f∧b 7 e f)∧(∀ (_:Env) (d e:Value) (f:ag),Ext c f→b 6 d f→b 7 e f→aB d e fun d=>Ext f f∧b 8 d f)∧(∀ (_:Env) (d:ag),Ext c d→ab 80 #[(.int .u64 4294967295)] d fun e f=>Ext d f∧b 9 e f)∧(∀ (_:Env) (d e:Value) (f:ag),Ext c f→b 8 d f→b 9 e f→aB d e fun d=>Ext f f∧b 10 d f)∧(∀ (_:Env) (d:ag),Ext c d→aa 0 a fun e=>Ext d d∧b 11 e d)∧(∀ (_:Env) (d:Value) (e:ag),Ext c e→b 11 d e→ao e d fun d=>Ext e e∧b 12 d e)∧(∀ (_:Env) (d:Value) (e:ag),Ext c e→b 12 d e→aT d fun d=>Ext e e∧b 13 d e)∧(∀ (_:Env) (d:Value) (e:ag),Ext c e→b 13 d e→bf .u64 d fun d=>Ext e e∧b 14 d e)∧(∀ (_:Env) (d:Value) (e:ag),Ext c e→b 14 d e→ab 79 #[d] e fun d f=>Ext e f∧b 15 d f)∧(∀ (_:Env) (d e:Value) (f:ag),Ext c f→b 10 d f→b 15 e f→aB d e fun d=>Ext f f∧b 16 d f)∧(∀ (_:Env) (d:ag),Ext c d→ab 79 #[(.int .u64 20)] d fun e f=>Ext d f∧b 17 e f)∧(∀ (_:Env) (d e:Value) (f:ag),Ext c f→b 16 d f→b 17 e f→aB d e fun d=>Ext f f∧b 18 d f)∧(∀ (_:Env) (d:ag),Ext c d→aa 0 a fun e=>Ext d d∧b 19 e d)∧(∀ (_:Env) (d:Value) (e:ag),Ext c e→b 19 d e→ao e d fun d=>Ext e e∧b 20 d e)∧(∀ (_:Env) (d e:Value) (f:ag),Ext c f→b 18 d f→b 20 e f→aB d e fun d=>Ext f f∧b 21 d f)∧(∀ (_:Env) (d:ag),Ext c d→ab 79 #[(.int .u64 1)] d fun e f=>Ext d f∧b 22 e f)∧(∀ (_:Env) (d e:Value) (f:ag),Ext c f→b 21 d f→b 22 e f→aB d e fun d=>Ext f f∧b 23 d f)∧(∀ (_:Env) (d:ag),Ext c d→ab 79 #[(.int .u64 16)] d fun e f=>Ext d f∧b 24 e f)∧(∀ (_:Env) (d e:Value) (f:ag),Ext c f→b 23 d f→b 24 e f→aB d e fun d=>Ext f f∧b 25 d f)∧(∀ (_:Env) (d:ag),Ext c d→dB d 5 1 [(.int .u8 0)] (.int .i64 16) (.int .i64 16) fun e f=>Ext d f∧b 26 e f)∧(∀ (_:Env) (d:Value) (e:ag),Ext c e→b 26 d e→fR e d fun d=>Ext e e∧b 27 d e)∧(∀ (_:Env) (d e:Value) (f:ag),Ext c f→b 25 d f→b 27 e f→aB d e fun d=>Ext f f∧b 28 d f)∧(∀ (_:Env) (d:Value) (e:ag),Ext c e→b 28 d e→Ext e e∧b 29 d e)∧(∀ (_:Env) (d:Value) (e:ag),Ext c e→b 29 d e→R d e)) (∃b:Nat→Value→ag→Prop,(∀ (d:Nat) (e:Value) (f g:ag),Ext f g→b d e f→b d e g)∧(∀ (_:Env) (d:ag),Ext c d→ab 79 #[(.int .u64 20)] d fun e f=>Ext d f∧b 0 e f)∧(∀ (_:Env) (d:Value) (e:ag),Ext c e→b 0 d e→aB (str [80,75,3,4]) d fun d=>Ext e e∧b 1 d e)∧(∀ (_:Env) (d:ag),Ext c d→aF d 12 a fun e=>Ext d d∧b 2 e d)∧(∀ (_:Env) (d:Value) (e:ag),Ext c e→b 2 d e→ab 84 #[d] e fun d f=>Ext e f∧b 3 d f)∧(∀ (_:Env) (d e:Value) (f:ag),Ext c f→b 1 d f→b 3 e f→aB d e fun d=>Ext f f∧b 4 d f)∧(∀ (_:Env) (d:ag),Ext c d→dB d 5 1 [(.int .u8 0)] (.int .i64 12) (.int .i64 12) fun e f=>Ext d f∧b 5 e f)∧(∀ (_:Env) (d:Value) (e:ag),Ext c e→b 5 d e→fR e d fun d=>Ext e e∧b 6 d e)∧(∀ (_:Env) (d e:Value) (f:ag),Ext c f→b 4 d f→b 6 e f→aB d e fun d=>Ext f f∧b 7 d f)∧(∀ (_:Env) (d:ag),Ext c d→aa 0 a fun e=>Ext d d∧b 8 e d)∧(∀ (_:Env) (d:Value) (e:ag),Ext c e→b 8 d e→ao e d fun d=>Ext e e∧b 9 d e)∧(∀ (_:Env) (d:Value) (e:ag),Ext c e→b 9 d e→aT d fun d=>Ext e e∧b 10 d e)∧(∀ (_:Env) (d:Value) (e:ag),Ext c e→b 10 d e→bf .u64 d fun d=>Ext e e∧b 11 d e)∧(∀ (_:Env) (d:Value) (e:ag),Ext c e→b 11 d e→ab 79 #[d] e fun d f=>Ext e f∧b 12 d f)∧(∀ (_:Env) (d e:Value) (f:ag),Ext c f→b 7 d f→b 12 e f→aB d e fun d=>Ext f f∧b 13 d f)∧(∀ (_:Env) (d:ag),Ext c d→ab 79 #[(.int .u64 0)] d fun e f=>Ext d f∧b 14 e f)∧(∀ (_:Env) (d e:Value) (f:ag),Ext c f→b 13 d f→b 14 e f→aB d e fun d=>Ext f f∧b 15 d f)∧(∀ (_:Env) (d:ag),Ext c d→aa 0 a fun a=>Ext d d∧b 16 a d)∧(∀ (_:Env) (a:Value) (d:ag),Ext c d→b 16 a d→ao d a fun a=>Ext d d∧b 17 a d)∧(∀ (_:Env) (a d:Value) (e:ag),Ext c e→b 15 a e→b 17 d e→aB a d fun a=>Ext e e∧b 18 a e)∧(∀ (_:Env) (a:Value) (d:ag),Ext c d→b 18 a d→Ext d d∧b 19 a d)∧(∀ (_:Env) (a:Value) (d:ag),Ext c d→b 19 a d→R a d)))):ab 34 #[a] H0 R:=bI 0x102b12a1291f228101e1d201c721b11a119118106425103122100102c1ffffff7fffff28888807ffff1fc9d1ffff7c9d3c881c8848801ff4801f50102c83003d13c13b3923a10382f202e2d202c2a22b102928201f1a21e11d11c11b10191820762054203122100103e3fffffffff1fffffffff48888888801ffffffff28dfdadd3fffffff5fdadd7ffffff288888807fffff1fdadd1fffff7dadd3c8881c888488801fff2dd3ff5d7f1d1f50103e8352a3001a53a32a Tryz.func34 h
theorem s8.vc (a:Value) (h:
 bD H0 88 a fun a b=>aF b 12 a fun c=>ab 82 #[c] b fun b c=>d_ b fun b=>ej b (fun b=>aa 11 a fun d=>ao c d fun d=>b d c) c fun b c=> ∀_:Env,aq b (R (str []) c) (∃b:Value→ag→Prop,(∀ (_:Env) (d:Value) (e:ag),b d e→aa 9 a fun f=>ao e f fun f=>bf .u64 f fun f=>aa 7 a fun g=>ao e g fun h=>aa 8 a fun i=>ao e i fun j=>ab 80 #[f] e fun e f=> (ao f g fun g=>g=h)∧(ao f i fun g=>g=j)∧aB (str [80,75,7,8]) e fun e=>ab 78 #[h,d] f fun f g=> (ao g i fun h=>h=j)∧aB e f fun e=>ab 78 #[j,d] g fun d f=>aB e d fun d=>R d f)∧aF c 12 a fun a=>ab 83 #[a] c fun a c=>aq a (b (.int .i64 8) c) (b (.int .i64 4) c))):ab 35 #[a] H0 R:=bI 0x10031d41951b1181451b623131a4354304121efdf501023df501011110282301952a1703203141a001a5060244324041332a Tryz.func35 h
theorem yo.vc (a:Value) (h:
 ab 78 #[a,(.int .i64 2)] H0 fun a b=>R a b):ab 79 #[a] H0 R:=bI 0x103a1a Tryz.func79 h
theorem yp.vc (a:Value) (h:
 ab 78 #[a,(.int .i64 4)] H0 fun a b=>R a b):ab 80 #[a] H0 R:=bI 0x103a1a Tryz.func80 h
end
section
variable {H:ag} {R:Value→ag→Prop}
structure T6 where
 (y m d h n s:Int)
deriving DecidableEq
abbrev T6.cells (t:T6):Array Value:= #[.int .i64 t.y,.int .i64 t.m,.int .i64 t.d,.int .i64 t.h,.int .i64 t.n,.int .i64 t.s]
abbrev T6.v (t:T6):Value:= .agg t.cells
def T6.obj (t:T6):Obj:= .cells t.cells 40 (0,0)
def T6.zero:T6:= ⟨0,0,0,0,0,0⟩
def Gp (y:Int):Bool:=decide (y.tmod 4=0∧(y.tmod 100≠0∨y.tmod 400=0))
def eo (y m:Int):Int:=if m=4∨m=6∨m=9∨m=11 then 30 else if m=2 then (if Gp y then 29 else 28) else if m<1∨12<m then 0 else 31
def jN (t:T6):Bool:=decide (1980≤t.y∧t.y≤2107∧1≤t.d∧t.d≤eo t.y t.m∧0≤t.h∧t.h<24∧0≤t.n∧t.n<60∧0≤t.s∧t.s<60∧t.s.tmod 2=0)
theorem Mt {y:Int} (h:R (.bool (Gp y)) H):ab 127 #[.int .i64 y] H R:=by
 refine Pu.vc _ _ _ ?_;simp only [gz,ne_eq,Int.reduceEq,not_false_eq_true,aZ,true_and,fx,gr,kE,Ab,j7];exact fun _=>h
theorem rT {y m:Int} (h:R (.int .i64 (eo y m)) H):ab 73 #[.int .i64 y,.int .i64 m] H R:=by
 refine Pt.vc _ _ _ _ ?_;refine⟨fun v H' =>v= .bool (decide (m=4∨m=6∨m=9∨m=11))∧H' =H,?_,?_⟩
 ·rintro _ _ _ ⟨rfl,rfl⟩
  simp only [bc,aO,gr,kE,aZ];refine av (fun hc=>?_) (fun hc=>?_)
  ·rw [eo,if_pos hc] at h;exact h
  rw [eo,if_neg hc] at h;refine av (fun hc=>?_) (fun hc=>?_)
  ·rw [if_pos hc] at h
   refine Mt ?_;refine cN (fun hl=>?_) (fun hl=>?_)
   ·rw [hl] at h;exact h
   ·rw [hl] at h;exact h
  rw [if_neg hc] at h
  intros
  refine av (fun hc=>?_) (fun hc=>?_)
  ·rw [if_pos hc] at h;exact h
  ·rw [if_neg hc] at h;exact h
 ·simp only [and_true,aZ]
  refine av (fun hc=>?_) (fun hc=>?_)
  ·simp [hc]
  refine av (fun hc=>?_) (fun hc=>?_)
  ·simp [hc]
  refine av (fun hc=>?_) (fun hc=>?_)
  ·simp [hc]
  simp [*]
theorem rW {t:T6} (h: ∀H',Ext H H' →R (.bool (jN t)) H'):ab 94 #[t.v] H R:=by
 refine Cg.vc _ _ _ ?_;refine fI fun H1 s1 e1 b1=>?_;have b1:H1[H.size]? =some t.obj:=b1;have h:=h H1 e1;simp only [ae,ax,ajq,mC b1,ajn,gZ,ajb,dH,fF,j7,aju]
 intros
 refine dC (d:=decide (t.d≤eo t.y t.m)) (fun _=>?_) ?_
 ·refine rT ?_
  simp only [mC b1,aju,ajn,and_true,gZ]
 simp only [j7,mC b1,aju,ajn,dH,fF,aO,gz,ne_eq,Int.reduceEq,not_false_eq_true,aZ,true_and]
 intros
 refine Ea ?_ h;rw [jN,ajV];simp only [decide_eq_true_eq,aja]
 constructor<;>intro h<;>simp only [h,and_self,true_and,and_true]
def nj (t:T6):Int:=IntKind.u64.wrap (bitsOf .or .i64 (bitsOf .or .i64 t.d (IntKind.i64.wrap (t.m*2 ^ 5))) (IntKind.i64.wrap (IntKind.i64.wrap (t.y - 1980)*2 ^ 9)))
def nk (t:T6):Int:=IntKind.u64.wrap (bitsOf .or .i64 (bitsOf .or .i64 (IntKind.i64.wrap (t.s.tdiv 2)) (IntKind.i64.wrap (t.n*2 ^ 5))) (IntKind.i64.wrap (t.h*2 ^ 11)))
theorem Jt {t:T6} (h: ∀H',Ext H H' →R (if jN t then .tuple #[.int .u64 (nj t),.int .u64 (nk t),.bool true] else .tuple #[.int .u64 0,.int .u64 0,.bool false]) H'):ab 197 #[t.v] H R:=by
 refine Ch.vc _ _ _ ?_;refine fI fun H1 s1 e1 b1=>?_;have b1:H1[H.size]? =some t.obj:=b1;rw [dm b1 (by rfl)];refine rW fun H2 e2=>?_;have b2:=e2.lk b1;have h:=h H2 (e1.trans e2);simp only [ae,ax,ajb,mC b2,aju,ajn,fB,Int.reduceLE,true_and,iL,ne_eq,Int.reduceEq,not_false_eq_true,cu,cP,ajq,bq,dq];refine cN (fun hg=>?_) (fun hg=>?_)
 ·rw [if_neg (by simpa using hg)] at h;exact h
 ·rw [if_pos (by simpa using hg)] at h
  exact h
def Ud (d n:Int):T6:= ⟨d/512+1980,d/32%16,d%32,n/2048,n/32%64,n%32*2⟩
def R7 (d n:Int):Bool:=decide (d<65536∧n<65536) && jN (Ud d n)
theorem Gq {d n:Int} (hd:0≤d) (hn:0≤n) (h: ∀H',Ext H H' →R (.tuple #[(if R7 d n then Ud d n else T6.zero).v,.bool (R7 d n)]) H'):ab 262 #[.int .u64 d,.int .u64 n] H R:=by
 refine Js.vc _ _ _ _ ?_;refine fI fun H1 s1 e1 b1=>?_;have b1:H1[H.size]? =some T6.zero.obj:=b1;simp only [dH,br,da,ajb,ai6,ai_,Nat.reduceAdd,Nat.reduceLeDiff,true_and,cP,cu,gw,dZ,ajA,List.bY,b7,cR,lI,Int.reduceLE,ay,ajU,ajS,jl,gr,kE]
 intros
 refine av (fun hc=>?_) (fun hc=>?_)
 ·refine dt b1 (by rfl) (by rfl) (by rfl) fun H2 _ u2=>?_
  rw [dm u2.at_ (by rfl)];have h:=h H2 (u2.ext e1 (aiZ _));rw [show R7 d n=false by simp [R7];omega] at h;exact h
 have Yc:d<65536:=by omega
 have Mu:n<65536:=by omega
 have f9:d.fdiv (2 ^ (min (9:Int).toNat IntKind.i64.bits))=d/512:=by rw [alu _ (by decide)];rfl
 have f5:d.fdiv (2 ^ (min (5:Int).toNat IntKind.i64.bits))=d/32:=by rw [alu _ (by decide)];rfl
 have g11:n.fdiv (2 ^ (min (11:Int).toNat IntKind.i64.bits))=n/2048:=by rw [alu _ (by decide)];rfl
 have g5:n.fdiv (2 ^ (min (5:Int).toNat IntKind.i64.bits))=n/32:=by rw [alu _ (by decide)];rfl
 simp only [ff (show -9223372036854775808≤d by omega) (show d≤9223372036854775807 by omega),ff (show -9223372036854775808≤n by omega) (show n≤9223372036854775807 by omega),f9,f5,g11,g5];rw [nh (k:=4) (m:=15) (by decide) rfl,nh (k:=5) (m:=31) (by decide) rfl,nh (k:=6) (m:=63) (by decide) rfl,nh (k:=5) (m:=31) (by decide) rfl,aJ,aJ];refine fI fun H2 s2 e2 b2=>?_;have b2:H2[H1.size]? =some T6.zero.obj:=b2;refine dt b2 (by rfl) (by rfl) (by rfl) fun H3 _ u3=>?_;have b3:H3[H1.size]? =some (Ud d n).obj:=u3.at_;have a3:=u3.ym (e2.lk b1) (by omega);have e3:Ext H H3:=u3.ext (e1.trans e2) (by omega);rw [dm b3 (by rfl)];refine rW (t:=Ud d n) fun H4 e4=>?_;have a4:=e4.lk a3;have b4:=e4.lk b3;simp only [dq];refine cN (fun hg=>?_) (fun hg=>?_)
 ·refine dt a4 (by rfl) (by rfl) (by rfl) fun H5 _ u5=>?_
  rw [dm u5.at_ (by rfl)];have h:=h H5 (u5.ext (e3.trans e4) (aiZ _));rw [show R7 d n=false by simp [R7];intros;simpa using hg] at h;exact h
 ·rw [dm b4 (by rfl)]
  refine dt a4 (by rfl) (by rfl) (by rfl) fun H5 _ u5=>?_;rw [dm u5.at_ (by rfl)];have h:=h H5 (u5.ext (e3.trans e4) (aiZ _));rw [show R7 d n=true by simp [R7];exact⟨⟨by omega,by omega⟩,by simpa using hg⟩] at h;exact h
def iN (y:Int):Int:=337+eo y 2
def je:Nat→Int→Int→Int × Int
 |0,y,d=> (y,d)
 |k+1,y,d=>if d<iN y then (y,d) else je k (y+1) (d - iN y)
def qi:Nat→Int→Int→Int→Int × Int
 |0,_,m,d=> (m,d)
 |k+1,y,m,d=>if eo y m≤d then qi k y (m+1) (d - eo y m) else (m,d)
def qP:Nat→Int→Int→Int
 |0,y,m=>eo y m
 |k+1,y,m=>eo y m+qP k y (m+1)
def Ue (n:Int):Option T6:=
 if n<0 then none else
 if 2107< (je 128 1980 (n/43200)).1 then none else
 some ⟨(je 128 1980 (n/43200)).1,(qi 11 (je 128 1980 (n/43200)).1 1 (je 128 1980 (n/43200)).2).1,1+ (qi 11 (je 128 1980 (n/43200)).1 1 (je 128 1980 (n/43200)).2).2,
  n%43200/1800,n%43200/30%60,n%43200%30*2⟩
theorem Gr (y:Int):28≤eo y 2∧eo y 2≤29:=by
 simp only [eo];simp;split<;>decide
theorem Pv {y m:Int} (h1:1≤m) (h2:m≤12):28≤eo y m∧eo y m≤31:=by
 unfold eo
 split
 ·decide
 ·split
  ·split<;>decide
  ·rw [if_neg (by omega)];decide
theorem Gs (y:Int):qP 11 y 1=iN y:=by
 simp only [qP,iN,eo]
 simp
 split<;>rfl
set_option maxHeartbeats 1000000 in
theorem SM {n:Int} (hn:n≤9223372036854775807) (h: ∀H',Ext H H' →R (.tuple #[((Ue n).getD T6.zero).v,.bool (Ue n).isSome]) H'):ab 29 #[.int .i64 n] H R:=by
 refine Vp.vc _ _ _ ?_;refine fI fun H1 s1 e1 b1=>?_;have b1:H1[H.size]? =some T6.zero.obj:=b1;simp only [br,da,dZ,ajA,ai6,ai_,ajb,Nat.reduceAdd,Nat.reduceLeDiff,List.bY,b7,ajU,cR,ajS,true_and,gz,ne_eq,Int.reduceEq,not_false_eq_true,gw,iL,jl,aO];refine av (fun hc=>?_) (fun hc=>?_)
 ·refine dt b1 (by rfl) (by rfl) (by rfl) fun H2 _ u2=>?_
  rw [dm u2.at_ (by rfl)];have h:=h H2 (u2.ext e1 (aiZ _));rw [Ue,if_pos hc] at h;exact h
 have Ad:0≤n:=by omega
 rw [Ue,if_neg hc] at h;have q1:n.tdiv 43200=n/43200:=akr Ad;have q2:n.tmod 43200=n%43200:=akh Ad;have q3: (n%43200).tdiv 1800=n%43200/1800:=akr (by omega);have q4: (n%43200).tdiv 30=n%43200/30:=akr (by omega);have q5: (n%43200/30).tmod 60=n%43200/30%60:=akh (by omega);have q6: (n%43200).tmod 30=n%43200%30:=akh (by omega);simp only [q1,q2,q3,q4,ff (show -9223372036854775808≤n/43200 by omega) (show n/43200≤9223372036854775807 by omega),ff (show -9223372036854775808≤n%43200/1800 by omega) (show n%43200/1800≤9223372036854775807 by omega),ff (show -9223372036854775808≤n%43200/30 by omega) (show n%43200/30≤9223372036854775807 by omega),q5,q6,ff (show -9223372036854775808≤n%43200%30*2 by omega) (show n%43200%30*2≤9223372036854775807 by omega)];generalize hA:n%43200/1800=A at*;generalize hB:n%43200/30%60=B at*;generalize hC:n%43200%30*2=C at*;refine fI fun H2 s2 e2 b2=>?_;have b2:H2[H1.size]? =some T6.zero.obj:=b2;refine dt b2 (by rfl) (by rfl) (by rfl) fun H3 _ u3=>?_;have b3:H3[H1.size]? =some (T6.obj ⟨1980,1,1,A,B,C⟩):=u3.at_;have a3:H3[H.size]? =some T6.zero.obj:=u3.ym (e2.lk b1) (by omega);have e3:Ext H H3:=u3.ext (e1.trans e2) (by omega);have cQ:H.size≠H1.size:=by omega
 have hle:H.size≤H1.size:=by omega
 generalize H1.size=c at*;generalize hb:H.size=b at*;clear u3 b2 e2 s2 e1 s1 b1 q1 q2 q3 q4 q5 q6;generalize hD:n/43200=D at*;refine⟨fun v H' => ∃y d,v= .int .i64 d∧H'[c]? =some (T6.obj ⟨y,1,1,A,B,C⟩)∧H'[b]? =some T6.zero.obj∧Ext H H' ∧je 128 1980 D= (y,d)∧(2107<y∨d<iN y)∧0≤d∧d≤D,?_,?_⟩
 ·rintro _ _ H4 ⟨y,d,rfl,c4,b4,e4,hy,hd,y5,Pw⟩
  rw [hy] at h
  dsimp only at h
  simp only [ae,ax,ajb,ajq];refine gn c4 rfl ?_;simp only [bc];refine av (fun gE=>?_) (fun gE=>?_)
  ·refine dt b4 (by rfl) (by rfl) (by rfl) fun H5 _ u5=>?_
   rw [dm u5.at_ (by rfl)];have h:=h H5 (u5.ext e4 (by omega));rw [if_pos gE] at h;exact h
  rw [if_neg gE] at h;have cL:d<qP 11 y 1:=by rw [Gs];omega
  refine⟨fun v H' => ∃ (m e:Int) (k:Nat),v= .int .i64 e∧H'[c]? =some (T6.obj ⟨y,m,1,A,B,C⟩)∧H'[b]? =some T6.zero.obj∧Ext H H' ∧m+k=12∧1≤m∧qi k y m e=qi 11 y 1 d∧0≤e∧e<qP k y m∧e≤D,fun v _=>match v with| .int _ e=>e.toNat|_=>0,⟨1,d,11,rfl,c4,b4,e4,by omega,by omega,rfl,y5,cL,Pw⟩,?_⟩;rintro _ _ H5 ⟨m,e,k,rfl,c5,b5,e5,hk,hm,C0,Vq,IK,O8⟩;have hdm:=Pv (y:=y) hm (show m≤12 by omega);refine gn c5 rfl ?_;simp only [];refine gn c5 rfl ?_;refine rT ?_;simp only [dH];refine av (fun y6=>?_) (fun y6=>?_)
  ·refine gn c5 rfl ?_
   simp only [];refine gn c5 rfl ?_;refine rT ?_;simp only [bq];rw [aJ];refine gn c5 rfl ?_;simp only [ay];rw [aJ];refine iM c5 (by simp [T6.cells]) rfl fun H6 _ u6=>?_
   match k,hk,C0,IK with
   |0,hk,C0,IK=>simp only [qP] at IK;omega
   |k+1,hk,C0,IK=>
    simp only [qP] at IK;simp only [qi,if_pos y6] at C0;exact⟨⟨m+1,e - eo y m,k,rfl,u6.at_,u6.ym b5 (by omega),u6.ext e5 (by omega),by omega,by omega,C0,by omega,by omega,by omega⟩,by show (_:Int).toNat< (_:Int).toNat;omega⟩
  ·have hf:qi 11 y 1 d= (m,e):=by
    rw [←C0]
    cases k with
    |zero=>rfl
    |succ k=>simp only [qi,if_neg y6]
   rw [hf] at h;refine gn c5 rfl ?_;simp only [ay];rw [aJ];refine iM c5 (by simp [T6.cells]) rfl fun H6 _ u6=>?_;have c6:H6[c]? =some (T6.obj ⟨y,m,1+e,A,B,C⟩):=u6.at_;rw [dm c6 (by rfl)];refine dt (u6.ym b5 (by omega)) (by rfl) (by rfl) (by rfl) fun H7 _ u7=>?_;rw [dm u7.at_ (by rfl)];have h:=h H7 (u7.ext (u6.ext e5 (by omega)) (by omega));exact h
 ·refine⟨fun v H' => ∃ (y d:Int) (k:Nat),v= .int .i64 d∧H'[c]? =some (T6.obj ⟨y,1,1,A,B,C⟩)∧H'[b]? =some T6.zero.obj∧Ext H H' ∧y+k=2108∧1980≤y∧je k y d=je 128 1980 D∧0≤d∧d≤D,fun v _=>match v with| .int _ e=>e.toNat|_=>0,⟨1980,D,128,rfl,b3,a3,e3,by omega,by omega,rfl,by omega,by omega⟩,?_⟩
  rintro _ _ H4 ⟨y,d,k,rfl,c4,b4,e4,hk,hy,Mv,y5,Pw⟩;have h2:=Gr y;simp only [ae,ax,ajq];refine gn c4 rfl ?_;simp only [gZ];refine av (fun gE=>?_) (fun gE=>?_)
  ·refine gn c4 rfl ?_
   refine rT ?_;simp only [ay,bq,aO];rw [aJ]
   match k,hk,Mv with
   |0,hk,Mv=>omega
   |k+1,hk,Mv=>
    have Mv: (if d<iN y then (y,d) else je k (y+1) (d - iN y))=je 128 1980 D:=Mv;refine av (fun y6=>?_) (fun y6=>?_)
    ·rw [if_pos (show d<iN y from y6)] at Mv
     exact⟨y,d,rfl,c4,b4,e4,Mv.symm,.inr y6,y5,Pw⟩
    ·rw [if_neg (show ¬d<iN y from y6)] at Mv
     rw [aJ];refine gn c4 rfl ?_;simp only [ay];rw [aJ];refine iM c4 (by simp [T6.cells]) rfl fun H6 _ u6=>?_;exact⟨⟨y+1,d - (337+eo y 2),k,rfl,u6.at_,u6.ym b4 (by omega),u6.ext e4 (by omega),by omega,by omega,Mv,by omega,by omega⟩,by show (_:Int).toNat< (_:Int).toNat;omega⟩
  ·match k,hk,Mv with
   |0,hk,Mv=>exact⟨y,d,rfl,c4,b4,e4,Mv.symm,.inl (by omega),y5,Pw⟩
   |k+1,hk,Mv=>omega
end
end Go.Proofs.YtpcgccdmmoggmaaGreatDoor
namespace Go.Proofs
open Go.Shelf
section
open Go.RowKit in
open Go.RowKit in
open Go.RowKit in
open Go.RowKit in
def Tryz.xx:Go.Shelf.Ren:= ⟨fun|156=>30|165=>74|166=>75|169=>76|240=>128|241=>129|276=>178|277=>179|n=>n,fun|31=>60|9=>9|3=>3|4=>4|0=>0|20=>20|72=>153|76=>156|70=>151|37=>82|75=>155|127=>200|164=>256|5=>5|80=>149|n=>n,fun|n=>n⟩
theorem Tryz.Ls:Go.Proofs.Lays.n156 Tryz.prog Tryz.xx:= {
 mixed:=by kernel_rfl
 f156:=Tryz.func30.trans (congrArg some (by kernel_rfl))
 f165:=Tryz.func74.trans (congrArg some (by kernel_rfl))
 f166:=Tryz.func75.trans (congrArg some (by kernel_rfl))
 f169:=Tryz.func76.trans (congrArg some (by kernel_rfl))
 f240:=Tryz.func128.trans (congrArg some (by kernel_rfl))
 f241:=Tryz.func129.trans (congrArg some (by kernel_rfl))
 f276:=Tryz.func178.trans (congrArg some (by kernel_rfl))
 f277:=Tryz.func179.trans (congrArg some (by kernel_rfl))
 t0:=Tryz.underlying0
 a0:=Tryz.isAgg0
 z0:=Tryz.sizeOf0
 v0:=Tryz.zeroValue0
 t3:=Tryz.underlying3
 a3:=Tryz.isAgg3
 z3:=Tryz.sizeOf3
 v3:=Tryz.zeroValue3
 t4:=Tryz.underlying4
 a4:=Tryz.isAgg4
 z4:=Tryz.sizeOf4
 v4:=Tryz.zeroValue4
 t9:=Tryz.underlying9
 a9:=Tryz.isAgg9
 z9:=Tryz.sizeOf9
 v9:=Tryz.zeroValue9
 t20:=Tryz.underlying20
 a20:=Tryz.isAgg20
 z20:=Tryz.sizeOf20
 v20:=Tryz.zeroValue20
 t31:=Tryz.underlying60
 a31:=Tryz.isAgg60
 z31:=Tryz.sizeOf60
 v31:=Tryz.zeroValue60
 t37:=Tryz.underlying82
 a37:=Tryz.isAgg82
 z37:=Tryz.sizeOf82
 v37:=Tryz.zeroValue82
 t70:=Tryz.underlying151
 a70:=Tryz.isAgg151
 z70:=Tryz.sizeOf151
 v70:=Tryz.zeroValue151
 t72:=Tryz.underlying153
 a72:=Tryz.isAgg153
 z72:=Tryz.sizeOf153
 v72:=Tryz.zeroValue153
 t75:=Tryz.underlying155
 a75:=Tryz.isAgg155
 z75:=Tryz.sizeOf155
 v75:=Tryz.zeroValue155
 t76:=Tryz.underlying156
 a76:=Tryz.isAgg156
 z76:=Tryz.sizeOf156
 v76:=Tryz.zeroValue156
 t127:=Tryz.underlying200
 a127:=Tryz.isAgg200
 z127:=Tryz.sizeOf200
 v127:=Tryz.zeroValue200
 t164:=Tryz.underlying256
 a164:=Tryz.isAgg256
 z164:=Tryz.sizeOf256
 v164:=Tryz.zeroValue256}
theorem Tryz.np:Builder.Extra Tryz.prog Tryz.xx:= {
 sizeBuilder:=by kernel_rfl
 liesBuilder:=by kernel_rfl
 t5:=Tryz.underlying5
 a5:=Tryz.isAgg5
 z5:=Tryz.sizeOf5
 v5:=Tryz.zeroValue5
 infoByte:=by kernel_rfl
 cellsByte:=by kernel_rfl
 sizeByte:=by kernel_rfl
 neB5:=by decide}
open Go.RowKit in
theorem Tryz.strings_Join_none (a:Option Addr) (c:Nat) (sep:ByteArray) (w:World):
  Calls Tryz.prog 30 #[.slice a 0 c,.string sep] w fun e w' =>e= .returned (.string ⟨#[]⟩)∧w' =w:=Any.strings_Join_none Tryz.Ls Tryz.np a c sep w
open Go.RowKit in
theorem Tryz.strings_Join (bk o c:Nat) (xs:List ByteArray) (sep:ByteArray) (w:World) (jd: ∀ (j:Nat) x,xs[j]? =some x→w.cell? ⟨bk,o+j,none⟩=some (.string x)) (XP:bk<w.heap.size) (hN:xs.length≤140737488355328) (Ae:xs.length≤c) (hlen: (Lib.join (xs.map (·.data.toList)) sep.data.toList).length≤140737488355328):
  Calls Tryz.prog 30 #[.slice (some ⟨bk,o,none⟩) xs.length c,.string sep] w fun e w' =>e= .returned (.string ⟨(Lib.join (xs.map (·.data.toList)) sep.data.toList).toArray⟩)∧Below w.heap.size w w' :=Any.strings_Join Tryz.Ls Tryz.np bk o c xs sep w jd XP hN Ae hlen
open Go.RowKit Go.Lib in
open Go.RowKit Go.Lib in
open Go.RowKit Go.Lib in
open Go.RowKit Go.Lib in
open Go.RowKit Go.Lib in
def Tryz.Gt:Go.Shelf.Ren:= ⟨fun|143=>266|219=>283|217=>301|225=>302|224=>303|267=>304|266=>313|314=>314|n=>n,fun|9=>9|3=>3|4=>4|5=>5|46=>171|146=>217|51=>42|n=>n,fun|1=>1|n=>n⟩
theorem Tryz.SN:Go.Proofs.Lays.n143 Tryz.prog Tryz.Gt:= {
 mixed:=by kernel_rfl
 f143:=Tryz.func266.trans (congrArg some (by kernel_rfl))
 f217:=Tryz.func301.trans (congrArg some (by kernel_rfl))
 f219:=Tryz.func283.trans (congrArg some (by kernel_rfl))
 f224:=Tryz.func303.trans (congrArg some (by kernel_rfl))
 f225:=Tryz.func302.trans (congrArg some (by kernel_rfl))
 f266:=Tryz.func313.trans (congrArg some (by kernel_rfl))
 f267:=Tryz.func304.trans (congrArg some (by kernel_rfl))
 f314:=Tryz.func314.trans (congrArg some (by kernel_rfl))
 t3:=Tryz.underlying3
 a3:=Tryz.isAgg3
 z3:=Tryz.sizeOf3
 v3:=Tryz.zeroValue3
 t4:=Tryz.underlying4
 a4:=Tryz.isAgg4
 z4:=Tryz.sizeOf4
 v4:=Tryz.zeroValue4
 t5:=Tryz.underlying5
 a5:=Tryz.isAgg5
 z5:=Tryz.sizeOf5
 v5:=Tryz.zeroValue5
 t9:=Tryz.underlying9
 a9:=Tryz.isAgg9
 z9:=Tryz.sizeOf9
 v9:=Tryz.zeroValue9
 t46:=Tryz.underlying171
 a46:=Tryz.isAgg171
 z46:=Tryz.sizeOf171
 v46:=Tryz.zeroValue171
 t51:=Tryz.underlying42
 a51:=Tryz.isAgg42
 z51:=Tryz.sizeOf42
 v51:=Tryz.zeroValue42
 t146:=Tryz.underlying217
 a146:=Tryz.isAgg217
 z146:=Tryz.sizeOf217
 v146:=Tryz.zeroValue217
 g1:=by kernel_rfl}
open Go.RowKit Go.Lib in
theorem Tryz.strings_Index_one (s:ByteArray) (c:UInt8) (w:World):
  Calls Tryz.prog 266 #[.string s,.string ⟨#[c]⟩] w fun e w' =>e= .returned (.int .i64 (Lib.indexByte s.data.toList c))∧w' =w:=Any.strings_Index_one Tryz.SN s c w
open Go.RowKit Go.Lib in
def Tryz.Eh:Go.Shelf.Ren:= ⟨fun|17=>193|15=>237|20=>263|n=>n,fun|9=>9|23=>273|4=>4|3=>3|0=>0|21=>21|n=>n,fun|n=>n⟩
theorem Tryz.Px:Go.Proofs.LaysGw.n17 Tryz.prog Tryz.Eh:= {
 mixed:=by kernel_rfl
 f15:=Tryz.func237.trans (congrArg some (by kernel_rfl))
 f17:=Tryz.func193.trans (congrArg some (by kernel_rfl))
 f20:=Tryz.func263.trans (congrArg some (by kernel_rfl))
 t0:=Tryz.underlying0
 a0:=Tryz.isAgg0
 z0:=Tryz.sizeOf0
 v0:=Tryz.zeroValue0
 i0:=by kernel_rfl
 t3:=Tryz.underlying3
 a3:=Tryz.isAgg3
 z3:=Tryz.sizeOf3
 v3:=Tryz.zeroValue3
 i3:=by kernel_rfl
 t4:=Tryz.underlying4
 a4:=Tryz.isAgg4
 z4:=Tryz.sizeOf4
 v4:=Tryz.zeroValue4
 i4:=by kernel_rfl
 t9:=Tryz.underlying9
 a9:=Tryz.isAgg9
 z9:=Tryz.sizeOf9
 v9:=Tryz.zeroValue9
 i9:=by kernel_rfl
 t21:=Tryz.underlying21
 a21:=Tryz.isAgg21
 z21:=Tryz.sizeOf21
 v21:=Tryz.zeroValue21
 i21:=by kernel_rfl
 t23:=Tryz.underlying273
 a23:=Tryz.isAgg273
 z23:=Tryz.sizeOf273
 v23:=Tryz.zeroValue273
 i23:=by kernel_rfl}
open Go.RowKit Go.Lib in
theorem Tryz.strings_ContainsFunc (g:Nat) (lb:Array Value) (eg: ∀args w,(callFunc g args).run Tryz.prog w= .ok (.enter g args) w) (p:Nat→Bool) (s:ByteArray) (w:World) (hp:PredAt Tryz.prog g lb encR p w):
  Calls Tryz.prog 193 #[.string s,.func (.func g) #[] lb] w fun e w' =>e= .returned (.bool (decide (0≤Lib.idxFunc p true s)))∧Below w.heap.size w w' :=Any.strings_ContainsFunc Tryz.Px g lb eg p s w hp
def Tryz.xy:Go.Shelf.Ren:= ⟨fun|105=>50|212=>105|99=>106|165=>74|166=>75|170=>100|169=>76|263=>150|264=>151|206=>152|240=>128|241=>129|276=>178|277=>179|n=>n,fun|9=>9|3=>3|4=>4|20=>20|0=>0|46=>171|109=>178|5=>5|72=>153|76=>156|51=>42|146=>217|53=>41|148=>219|70=>151|37=>82|75=>155|127=>200|164=>256|80=>149|n=>n,fun|n=>n⟩
theorem Tryz.SO:Go.Proofs.Lays.n105 Tryz.prog Tryz.xy:= {
 mixed:=by kernel_rfl
 f99:=Tryz.func106.trans (congrArg some (by kernel_rfl))
 f105:=Tryz.func50.trans (congrArg some (by kernel_rfl))
 f165:=Tryz.func74.trans (congrArg some (by kernel_rfl))
 f166:=Tryz.func75.trans (congrArg some (by kernel_rfl))
 f169:=Tryz.func76.trans (congrArg some (by kernel_rfl))
 f170:=Tryz.func100.trans (congrArg some (by kernel_rfl))
 f206:=Tryz.func152.trans (congrArg some (by kernel_rfl))
 f212:=Tryz.func105.trans (congrArg some (by kernel_rfl))
 f240:=Tryz.func128.trans (congrArg some (by kernel_rfl))
 f241:=Tryz.func129.trans (congrArg some (by kernel_rfl))
 f263:=Tryz.func150.trans (congrArg some (by kernel_rfl))
 f264:=Tryz.func151.trans (congrArg some (by kernel_rfl))
 f276:=Tryz.func178.trans (congrArg some (by kernel_rfl))
 f277:=Tryz.func179.trans (congrArg some (by kernel_rfl))
 t0:=Tryz.underlying0
 a0:=Tryz.isAgg0
 z0:=Tryz.sizeOf0
 v0:=Tryz.zeroValue0
 t3:=Tryz.underlying3
 a3:=Tryz.isAgg3
 z3:=Tryz.sizeOf3
 v3:=Tryz.zeroValue3
 t4:=Tryz.underlying4
 a4:=Tryz.isAgg4
 z4:=Tryz.sizeOf4
 v4:=Tryz.zeroValue4
 t5:=Tryz.underlying5
 a5:=Tryz.isAgg5
 z5:=Tryz.sizeOf5
 v5:=Tryz.zeroValue5
 t9:=Tryz.underlying9
 a9:=Tryz.isAgg9
 z9:=Tryz.sizeOf9
 v9:=Tryz.zeroValue9
 t20:=Tryz.underlying20
 a20:=Tryz.isAgg20
 z20:=Tryz.sizeOf20
 v20:=Tryz.zeroValue20
 t37:=Tryz.underlying82
 a37:=Tryz.isAgg82
 z37:=Tryz.sizeOf82
 v37:=Tryz.zeroValue82
 t46:=Tryz.underlying171
 a46:=Tryz.isAgg171
 z46:=Tryz.sizeOf171
 v46:=Tryz.zeroValue171
 t51:=Tryz.underlying42
 a51:=Tryz.isAgg42
 z51:=Tryz.sizeOf42
 v51:=Tryz.zeroValue42
 t53:=Tryz.underlying41
 a53:=Tryz.isAgg41
 z53:=Tryz.sizeOf41
 v53:=Tryz.zeroValue41
 t70:=Tryz.underlying151
 a70:=Tryz.isAgg151
 z70:=Tryz.sizeOf151
 v70:=Tryz.zeroValue151
 t72:=Tryz.underlying153
 a72:=Tryz.isAgg153
 z72:=Tryz.sizeOf153
 v72:=Tryz.zeroValue153
 t75:=Tryz.underlying155
 a75:=Tryz.isAgg155
 z75:=Tryz.sizeOf155
 v75:=Tryz.zeroValue155
 t76:=Tryz.underlying156
 a76:=Tryz.isAgg156
 z76:=Tryz.sizeOf156
 v76:=Tryz.zeroValue156
 t109:=Tryz.underlying178
 a109:=Tryz.isAgg178
 z109:=Tryz.sizeOf178
 v109:=Tryz.zeroValue178
 t127:=Tryz.underlying200
 a127:=Tryz.isAgg200
 z127:=Tryz.sizeOf200
 v127:=Tryz.zeroValue200
 t146:=Tryz.underlying217
 a146:=Tryz.isAgg217
 z146:=Tryz.sizeOf217
 v146:=Tryz.zeroValue217
 t148:=Tryz.underlying219
 a148:=Tryz.isAgg219
 z148:=Tryz.sizeOf219
 v148:=Tryz.zeroValue219
 t164:=Tryz.underlying256
 a164:=Tryz.isAgg256
 z164:=Tryz.sizeOf256
 v164:=Tryz.zeroValue256}
theorem Tryz.uy:Builder.Extra Tryz.prog Tryz.xy:= {
 sizeBuilder:=by kernel_rfl
 liesBuilder:=by kernel_rfl
 t5:=Tryz.underlying5
 a5:=Tryz.isAgg5
 z5:=Tryz.sizeOf5
 v5:=Tryz.zeroValue5
 infoByte:=by kernel_rfl
 cellsByte:=by kernel_rfl
 sizeByte:=by kernel_rfl
 neB5:=by decide}
open Go.RowKit Go.Lib in
open Go.RowKit Go.Lib in
open Go.RowKit Go.Lib in
open Go.RowKit Go.Lib in
open Go.RowKit Go.Lib in
theorem Tryz.strings_Repeat (s:ByteArray) (c:Nat) (w:World) (hc:c≤9223372036854775807) (hlen:s.size*c≤140737488355328):
  Calls Tryz.prog 50 #[.string s,.int .i64 c] w fun e w' =>e= .returned (.string ⟨(Lib.repeatL s.data.toList c).toArray⟩)∧Below w.heap.size w w' :=Any.strings_Repeat Tryz.SO Tryz.uy s c w hc hlen
def Tryz.wc:Go.Shelf.Ren:= ⟨fun|6=>244|15=>271|14=>270|28=>293|29=>294|20=>285|21=>286|22=>287|23=>288|24=>289|25=>290|26=>291|27=>292|46=>307|47=>308|48=>309|49=>310|50=>311|57=>318|n=>n,fun|22=>59|24=>3|25=>150|3=>3|39=>171|0=>0|53=>42|55=>41|4=>4|46=>371|45=>370|50=>305|5=>5|9=>9|66=>389|70=>393|76=>402|77=>326|n=>n,fun|n=>n⟩
theorem Tryz.Uf:Go.Proofs.SlLaysF.n6 Tryz.prog Tryz.wc:= {
 mixed:=by kernel_rfl
 f6:= ⟨Tryz.f244.name,by decide,Tryz.func244.trans (congrArg some (by kernel_rfl))⟩
 f14:= ⟨Tryz.f270.name,by decide,Tryz.func270.trans (congrArg some (by kernel_rfl))⟩
 f15:=Tryz.func271.trans (congrArg some (by kernel_rfl))
 f20:= ⟨Tryz.f285.name,by decide,Tryz.func285.trans (congrArg some (by kernel_rfl))⟩
 f21:= ⟨Tryz.f286.name,by decide,Tryz.func286.trans (congrArg some (by kernel_rfl))⟩
 f22:= ⟨Tryz.f287.name,by decide,Tryz.func287.trans (congrArg some (by kernel_rfl))⟩
 f23:= ⟨Tryz.f288.name,by decide,Tryz.func288.trans (congrArg some (by kernel_rfl))⟩
 f24:= ⟨Tryz.f289.name,by decide,Tryz.func289.trans (congrArg some (by kernel_rfl))⟩
 f25:= ⟨Tryz.f290.name,by decide,Tryz.func290.trans (congrArg some (by kernel_rfl))⟩
 f26:= ⟨Tryz.f291.name,by decide,Tryz.func291.trans (congrArg some (by kernel_rfl))⟩
 f27:= ⟨Tryz.f292.name,by decide,Tryz.func292.trans (congrArg some (by kernel_rfl))⟩
 f28:=Tryz.func293.trans (congrArg some (by kernel_rfl))
 f29:=Tryz.func294.trans (congrArg some (by kernel_rfl))
 f46:= ⟨Tryz.f307.name,by decide,Tryz.func307.trans (congrArg some (by kernel_rfl))⟩
 f47:=Tryz.func308.trans (congrArg some (by kernel_rfl))
 f48:=Tryz.func309.trans (congrArg some (by kernel_rfl))
 f49:= ⟨Tryz.f310.name,by decide,Tryz.func310.trans (congrArg some (by kernel_rfl))⟩
 f50:= ⟨Tryz.f311.name,by decide,Tryz.func311.trans (congrArg some (by kernel_rfl))⟩
 f57:= ⟨Tryz.f318.name,by decide,Tryz.func318.trans (congrArg some (by kernel_rfl))⟩
 t0:=Tryz.underlying0
 a0:=Tryz.isAgg0
 z0:=Tryz.sizeOf0
 v0:=Tryz.zeroValue0
 t3:=Tryz.underlying3
 a3:=Tryz.isAgg3
 z3:=Tryz.sizeOf3
 v3:=Tryz.zeroValue3
 t4:=Tryz.underlying4
 a4:=Tryz.isAgg4
 z4:=Tryz.sizeOf4
 v4:=Tryz.zeroValue4
 t5:=Tryz.underlying5
 a5:=Tryz.isAgg5
 z5:=Tryz.sizeOf5
 v5:=Tryz.zeroValue5
 t9:=Tryz.underlying9
 a9:=Tryz.isAgg9
 z9:=Tryz.sizeOf9
 v9:=Tryz.zeroValue9
 t22:=Tryz.underlying59
 a22:=Tryz.isAgg59
 z22:=Tryz.sizeOf59
 v22:=Tryz.zeroValue59
 a24:=Tryz.isAgg3
 z24:=Tryz.sizeOf3
 t25:=Tryz.underlying150
 a25:=Tryz.isAgg150
 z25:=Tryz.sizeOf150
 v25:=Tryz.zeroValue150
 t39:=Tryz.underlying171
 a39:=Tryz.isAgg171
 z39:=Tryz.sizeOf171
 v39:=Tryz.zeroValue171
 t45:=Tryz.underlying370
 a45:=Tryz.isAgg370
 z45:=Tryz.sizeOf370
 v45:=Tryz.zeroValue370
 t46:=Tryz.underlying371
 a46:=Tryz.isAgg371
 z46:=Tryz.sizeOf371
 v46:=Tryz.zeroValue371
 t50:=Tryz.underlying305
 a50:=Tryz.isAgg305
 z50:=Tryz.sizeOf305
 v50:=Tryz.zeroValue305
 t53:=Tryz.underlying42
 a53:=Tryz.isAgg42
 z53:=Tryz.sizeOf42
 v53:=Tryz.zeroValue42
 t55:=Tryz.underlying41
 a55:=Tryz.isAgg41
 z55:=Tryz.sizeOf41
 v55:=Tryz.zeroValue41
 t66:=Tryz.underlying389
 a66:=Tryz.isAgg389
 z66:=Tryz.sizeOf389
 v66:=Tryz.zeroValue389
 t70:=Tryz.underlying393
 a70:=Tryz.isAgg393
 z70:=Tryz.sizeOf393
 v70:=Tryz.zeroValue393
 t76:=Tryz.underlying402
 a76:=Tryz.isAgg402
 z76:=Tryz.sizeOf402
 v76:=Tryz.zeroValue402
 t77:=Tryz.underlying326
 a77:=Tryz.isAgg326
 z77:=Tryz.sizeOf326
 v77:=Tryz.zeroValue326}
end
end Go.Proofs
namespace Go.Vc
open Go
section
def cD (l:List (List UInt8)):List Value:=l.map fun s=>str s
theorem gA (l:List (List UInt8)): (cD l).length=l.length:=by simp [cD]
theorem we {l:List (List UInt8)} {i:Nat} (h:i<l.length): (cD l)[i]? =some (str l[i]):=by unfold cD;rw [aji,ai1 h];rfl
theorem j9 (l m:List (List UInt8)):cD (l++m)=cD l++cD m:=by simp [cD]
end
end Go.Vc
namespace Go.Proofs.YtpcgccdmmoggmaaGreatDoor
open Go Go.Vc Go.Proofs Go.RowKit
section
variable {H:ag} {R:Value→ag→Prop} {v:Value}
theorem pB {P:Program} {f:FuncId} {args:Array Value} {r:Value} (h: ∀w:World,w.heap=H→Calls P f args w fun e w' =>e= .returned r∧Below w.heap.size w w') (hk: ∀H',Ext H H' →R r H'):jb P f args H R:=
 fun w hw=> (h w hw).mono fun e w' ⟨he,hb⟩=> ⟨r,he,⟨hb.os,hb.output,hb.tape,fun h=>h.elim⟩,hk _ ⟨by rw [←hw];exact hb.size,fun k hk=>by rw [←hw] at hk ⊢;exact hb.block k hk⟩⟩
theorem xz {P:Program} {f:FuncId} {args:Array Value} {r:Value} (h: ∀w:World,w.heap=H→Calls P f args w fun e w' =>e= .returned r∧w' =w) (hk:R r H):jb P f args H R:=
 fun w hw=> (h w hw).mono fun e w' ⟨he,hb⟩=> ⟨r,he,by rw [hb];exact cq.refl w,by rw [hb,hw];exact hk⟩
theorem Gu {s:List UInt8} {c:Nat} (hc:c≤9223372036854775807) (hlen:s.length*c≤140737488355328) (hk: ∀H',Ext H H' →R (str (Lib.repeatL s c)) H'):ab 50 #[str s,.int .i64 (c:Int)] H R:=
 pB (fun w hw=>Tryz.strings_Repeat ⟨s.toArray⟩ c w hc (by show s.toArray.size*c≤_;rw [ajA];exact hlen)) hk
theorem Ak (b:UInt8): ∀c,Lib.repeatL [b] c=List.replicate c b
 |0=>rfl
 |c+1=>by rw [Lib.repeatL,Ak b c];rfl
theorem C5 (L:List (List UInt8)):Lib.join L []=L.flatten:=by
 unfold Lib.join
 induction L with
 |nil=>rfl
 |cons x L ih=>
  cases L with
  |nil=>simp [List.intercalate]
  |cons y L=>
   rw [List.intercalate] at ih ⊢;simp only [List.intersperse,aj_,aje] at ih ⊢;rw [ih]
theorem Mw {L:List (List UInt8)} (hs:Sl H v 1 (cD L)) (hN:L.length≤140737488355328) (hlen:L.flatten.length≤140737488355328) (hk: ∀H',Ext H H' →R (str L.flatten) H'):ab 30 #[v,str []] H R:=by
 have hx: (L.map fun s:List UInt8=> (⟨s.toArray⟩:ByteArray)).map (fun x=>x.data.toList)=L:=by
  rw [alg];exact(akm (fun s _=>rfl)).trans (List.map_id _)
 by_cases h0:L= []
 ·subst h0
  rcases hs with ⟨rfl,_⟩ | ⟨a,m,cap,rfl,hm,Ae,hc⟩
  ·exact xz (fun w hw=>Tryz.strings_Join_none none 0 ⟨#[]⟩ w) (hk H (Ext.refl H))
  ·have FF:m=0:=by simp [cD] at hm;omega
   subst FF;exact xz (fun w hw=>Tryz.strings_Join_none (some a) cap ⟨#[]⟩ w) (hk H (Ext.refl H))
 rcases hs with ⟨rfl,h1⟩ | ⟨a,m,cap,rfl,hm,Ae,hc⟩
 ·exact absurd (List.map_eq_nil_iff.1 h1) h0
 rw [gA,ai5] at hm;subst hm;have hl:0<L.length:=amw.2 h0;have gY: ∀ (i:Nat) (h:i<L.length),cellAt H (a.add i)=some (str L[i]):=fun i h=>hc i _ (we h);obtain⟨bk,o,sp⟩:=a;have zO:sp=none:=by
  have:=gY 0 hl
  cases sp with
  |none=>rfl
  |some x=>
   exfalso
   unfold cellAt Addr.add at this
   revert this
   simp only
   split<;>simp
 subst zO;refine pB (r:=str L.flatten) (fun w hw=>?_) hk;have XP:bk<w.heap.size:=by
  have:=gY 0 hl;rw [hw];unfold cellAt at this;rcases ajM bk H.size with g|g
  ·exact g
  ·rw [show (Addr.add ⟨bk,o,none⟩ 0).block=bk from rfl,akB g] at this
   cases this
 have Yd:=Tryz.strings_Join bk o cap (L.map fun s:List UInt8=> (⟨s.toArray⟩:ByteArray)) ⟨#[]⟩ w (fun j x hj=>by
  rw [aji] at hj
  cases hLj:L[j]? with
  |none=>rw [hLj] at hj;cases hj
  |some t=>
   rw [hLj] at hj;obtain⟨g1,g2⟩:=ajD.1 hLj;have:=gY j g1;rw [←hw,ax] at this;have e:x= ⟨t.toArray⟩:=by simpa using hj.symm
   rw [e,←g2];exact this) XP (by rw [ajh];exact hN) (by rw [ajh];exact Ae) (by rw [hx];show (Lib.join L []).length≤_;rw [C5];exact hlen)
 rw [ajh,hx,show ((⟨#[]⟩:ByteArray).data.toList)= [] from rfl,C5] at Yd;exact Yd
end
end Go.Proofs.YtpcgccdmmoggmaaGreatDoor
namespace Go.Vc
open Go
section
theorem uz {a b:Nat} (ha:a<4294967296) (hb:b<4294967296):bitsOf .xor .u32 (a:Int) (b:Int)= ((a ^^^ b:Nat):Int):=by
 have cL:a ^^^ b<2 ^ 32:=akE (by simpa using ha) (by simpa using hb);have e: ((BitVec.ofInt 32 (a:Int)) ^^^ (BitVec.ofInt 32 (b:Int))).toNat=a ^^^ b:=by
  rw [alM,ajT,ajT,ajH,ajH,ajg (by omega),ajg (by omega)]
 show IntKind.u32.wrap ((((BitVec.ofInt 32 (a:Int)) ^^^ (BitVec.ofInt 32 (b:Int))).toNat:Nat):Int)=_;rw [e,Gd (by omega) (by omega)]
theorem SP {a b:Nat} (ha:a<4294967296) (hb:b<4294967296):bitsOf .and .u32 (a:Int) (b:Int)= ((a &&& b:Nat):Int):=by
 have cL:a &&& b<2 ^ 32:=Nat.lt_of_le_of_lt Nat.and_le_left (by omega);have e: ((BitVec.ofInt 32 (a:Int)) &&& (BitVec.ofInt 32 (b:Int))).toNat=a &&& b:=by
  rw [amp,ajT,ajT,ajH,ajH,ajg (by omega),ajg (by omega)]
 show IntKind.u32.wrap ((((BitVec.ofInt 32 (a:Int)) &&& (BitVec.ofInt 32 (b:Int))).toNat:Nat):Int)=_;rw [e,Gd (by omega) (by omega)]
end
section
def a_ (v n:Nat):List Bool:= (List.range n).map fun i=>v.testBit i
def fV:List Bool→Nat
 | []=>0
 |b::l=>b.toNat+2*fV l
def toBits (l:List UInt8):List Bool:=l.flatMap fun b=>a_ b.toNat 8
theorem aX (v n:Nat): (a_ v n).length=n:=by simp [a_]
theorem pC (v:Nat):a_ v 0= []:=rfl
theorem Mx {v n i:Nat} (h:i<n): (a_ v n)[i]? =some (v.testBit i):=by simp [a_,aka h]
theorem My {v w n:Nat} (h: ∀i,i<n→v.testBit i=w.testBit i):a_ v n=a_ w n:=by
 unfold a_;apply akm;intro i hi;exact h i (alv.1 hi)
theorem mc (v n:Nat):a_ (v%2 ^ n) n=a_ v n:=My fun i hi=>by rw [Nat.testBit_mod_two_pow];simp [hi]
theorem jO (v m n:Nat):a_ v (m+n)=a_ v m++a_ (v/2 ^ m) n:=by
 unfold a_;rw [List.range_add,ajy,alg]
 congr 1
 apply akm;intro i _;simp only [Function.comp];rw [Nat.testBit_div_two_pow,akN]
theorem s9 (v n:Nat):a_ v (n+1)=v.testBit 0::a_ (v/2) n:=by
 rw [akN,jO];rfl
theorem Al {a v m n:Nat} (h:a<2 ^ m):a_ (a+v*2 ^ m) (m+n)=a_ a m++a_ v n:=by
 rw [jO];have h1: (a+v*2 ^ m) /2 ^ m=v:=by
  rw [Nat.add_mul_div_right _ _ (ak8 m),Nat.div_eq_of_lt h,ajb]
 have h2:a_ (a+v*2 ^ m) m=a_ a m:=by
  rw [←mc,Nat.add_mul_mod_self_right,mc]
 rw [h1,h2]
theorem qQ: ∀ (l m:List Bool),fV (l++m)=fV l+2 ^ l.length*fV m
 | [],m=>by simp [fV]
 |b::l,m=>by
  rw [ake,fV,fV,qQ l m,ai6,ajI,Nat.mul_add,←ak5,ajQ 2 (2 ^ l.length),akO]
theorem gO: ∀ (n v:Nat),fV (a_ v n)=v%2 ^ n
 |0,v=>by simp [a_,fV,alN]
 |n+1,v=>by
  rw [s9,fV,gO n,ak9,ajI,ajQ (2 ^ n) 2,Nat.mod_mul];rcases ak_ v with h|h<;>simp [h]
theorem pD: ∀ (l:List Bool),fV l<2 ^ l.length
 | []=>by simp [fV]
 |b::l=>by
  have:=pD l;rw [fV,ai6,ajI]
  cases b<;>simp<;>omega
theorem s_: ∀ (l:List Bool),a_ (fV l) l.length=l
 | []=>rfl
 |b::l=>by
  rw [ai6,s9,fV]
  congr 1
  ·rw [ak9];cases b<;>simp<;>omega
  ·rw [show (b.toNat+2*fV l) /2=fV l by cases b<;>simp<;>omega,s_ l]
theorem bj (l:List UInt8): (toBits l).length=8*l.length:=by
 induction l with
 |nil=>rfl
 |cons b l ih=>unfold toBits at ih ⊢;rw [akx,aiV,ih,aX,ai6];omega
theorem cG (l m:List UInt8):toBits (l++m)=toBits l++toBits m:=by unfold toBits;rw [alX]
theorem ln (b:UInt8) (l:List UInt8):toBits (b::l)=a_ b.toNat 8++toBits l:=rfl
theorem ta (b:UInt8):toBits [b]=a_ b.toNat 8:=by rw [ln];simp [toBits]
def bm:List Bool→List UInt8
 |a::b::c::d::e::f::g::h::l=>UInt8.ofNat (fV [a,b,c,d,e,f,g,h])::bm l
 |_=> []
theorem sI {l:List Bool} (h:l.length<8):bm l= []:=by
 match l,h with
 | [],_=>rfl
 | [_],_=>rfl
 | [_,_],_=>rfl
 | [_,_,_],_=>rfl
 | [_,_,_,_],_=>rfl
 | [_,_,_,_,_],_=>rfl
 | [_,_,_,_,_,_],_=>rfl
 | [_,_,_,_,_,_,_],_=>rfl
 |_::_::_::_::_::_::_::_::_,h=>simp at h;omega
theorem j_ {x l:List Bool} (h:x.length=8):bm (x++l)=UInt8.ofNat (fV x)::bm l:=by
 match x,h with
 | [a,b,c,d,e,f,g,i],_=>rfl
theorem Mz (b:UInt8):UInt8.ofNat (fV (a_ b.toNat 8))=b:=by
 rw [gO,ajg b.toNat_lt]
 simp
theorem mI: ∀ (l:List UInt8) (r:List Bool),r.length<8→bm (toBits l++r)=l
 | [],r,h=>sI h
 |b::l,r,h=>by
  rw [ln,ai0,j_ (aX _ _),Mz,mI l r h]
theorem jx (l:List UInt8):bm (toBits l)=l:=by
 have:=mI l [] (by decide)
 rwa [ajl] at this
theorem mJ: ∀ (n:Nat) (l:List Bool),l.length=8*n→toBits (bm l)=l
 |0,l,h=>by
  have:l= []:=amu (by omega);subst this;rfl
 |n+1,l,h=>by
  have e:l=l.take 8++l.drop 8:= (ajp 8 l).symm;have h8: (l.take 8).length=8:=by rw [ai2];omega
  rw [e,j_ h8,ln,mJ n _ (by rw [ai4];omega)]
  congr 1
  rw [alO,ajg (by have:=pD (l.take 8);rw [h8] at this;exact this)];have:=s_ (l.take 8);rw [h8] at this;exact this
theorem lp: ∀ (n:Nat) (l:List Bool),l.length/8=n→(bm l).length=n
 |0,l,h=>by rw [sI (by omega)];rfl
 |n+1,l,h=>by
  have e:l=l.take 8++l.drop 8:= (ajp 8 l).symm;rw [e,j_ (by rw [ai2];omega),ai6,lp n _ (by rw [ai4];omega)]
theorem uA {a v n:Nat} (h:a<2 ^ n):a|||v*2 ^ n=a+v*2 ^ n:=by
 rw [alo,ajQ v,←ams h,akN]
theorem wg {a b:Nat} (ha:a<18446744073709551616) (hb:b<18446744073709551616):bitsOf .or .u64 (a:Int) (b:Int)= ((a|||b:Nat):Int):=by
 have cL:a|||b<2 ^ 64:=Nat.or_lt_two_pow (by simpa using ha) (by simpa using hb)
 have e: ((BitVec.ofInt 64 (a:Int)) ||| (BitVec.ofInt 64 (b:Int))).toNat=a|||b:=by
  rw [amr,ajT,ajT,ajH,ajH,ajg (by omega),ajg (by omega)]
 show IntKind.u64.wrap ((((BitVec.ofInt 64 (a:Int)) ||| (BitVec.ofInt 64 (b:Int))).toNat:Nat):Int)=_;rw [e,cF (by omega) (by omega)]
theorem Ei {a b:Nat} (ha:a<18446744073709551616) (hb:b<18446744073709551616):bitsOf .and .u64 (a:Int) (b:Int)= ((a &&& b:Nat):Int):=by
 have cL:a &&& b<2 ^ 64:=Nat.lt_of_le_of_lt Nat.and_le_left (by omega);have e: ((BitVec.ofInt 64 (a:Int)) &&& (BitVec.ofInt 64 (b:Int))).toNat=a &&& b:=by
  rw [amp,ajT,ajT,ajH,ajH,ajg (by omega),ajg (by omega)]
 show IntKind.u64.wrap ((((BitVec.ofInt 64 (a:Int)) &&& (BitVec.ofInt 64 (b:Int))).toNat:Nat):Int)=_;rw [e,cF (by omega) (by omega)]
theorem Am {v n:Nat} (hv:v<18446744073709551616) (hn:n≤32):bitsOf .and .u64 (v:Int) (IntKind.u64.wrap (IntKind.u64.wrap (1*2 ^ min ((n:Int)).toNat IntKind.u64.bits) - 1))= ((v%2 ^ n:Nat):Int):=by
 have e:IntKind.u64.wrap (IntKind.u64.wrap (1*2 ^ min ((n:Int)).toNat IntKind.u64.bits) - 1)= ((2 ^ n - 1:Nat):Int):=by
  rw [show min ((n:Int)).toNat IntKind.u64.bits=n by show min ((n:Int)).toNat 64=n;omega];have hp: (2:Nat) ^ n≤2 ^ 32:=ajk (by decide) hn;have h1:1≤(2:Nat) ^ n:=amq;rw [show (1:Int)*2 ^ n= ((2 ^ n:Nat):Int) by rw [Int.one_mul,ak6];rfl];generalize (2:Nat) ^ n=P at hp h1 ⊢;rw [cF (n:= (P:Int)) (by omega) (by omega),cF (by omega) (by omega)];omega
 have hp: (2:Nat) ^ n≤2 ^ 32:=ajk (by decide) hn;rw [e,Ei hv (by omega),amO]
theorem Lt {v n:Nat} (h:v*2 ^ n<18446744073709551616) (hn:n≤64):IntKind.u64.wrap ((v:Int)*2 ^ min ((n:Int)).toNat IntKind.u64.bits)= ((v*2 ^ n:Nat):Int):=by
 rw [show min ((n:Int)).toNat IntKind.u64.bits=n by show min ((n:Int)).toNat 64=n;omega];rw [show (v:Int)*2 ^ n= ((v*2 ^ n:Nat):Int) by rw [Int.natCast_mul,ak6];rfl];exact cF (by omega) (by omega)
theorem Lu {k:IntKind} {v n:Nat} (hn:n≤k.bits): ((v:Nat):Int).fdiv (2 ^ min ((n:Int)).toNat k.bits)= ((v/2 ^ n:Nat):Int):=by
 rw [show min ((n:Int)).toNat k.bits=n by rw [aiY];omega];rw [alu _ (Int.le_of_lt (alm (by decide))),show ((2:Int) ^ n)= ((2 ^ n:Nat):Int) by rw [ak6];rfl,←Int.natCast_ediv]
theorem ka {n m j:Nat} (h:m=j): ((n:Nat):Int).fdiv (2 ^ m)= ((n/2 ^ j:Nat):Int):=by
 subst h;rw [alu _ (Int.le_of_lt (alm (by decide))),show ((2:Int) ^ m)= ((2 ^ m:Nat):Int) by rw [ak6];rfl,←Int.natCast_ediv]
theorem uB {v:Nat}:Value.int .u8 (IntKind.u8.wrap (v:Int))=bu (UInt8.ofNat (v%256)):=by
 unfold bu;rw [D9,alO,show v%256%2 ^ 8=v%256 by omega]
 congr 1
theorem sJ {v n:Nat} (h:8≤n):a_ v n=toBits [UInt8.ofNat (v%256)]++a_ (v/2 ^ 8) (n - 8):=by
 rw [ta,alO,show v%256%2 ^ 8=v%2 ^ 8 by omega,mc]
 conv=>lhs;rw [show n=8+ (n - 8) by omega]
 rw [jO]
end
section
def aA (n:Nat) (k:Nat):List UInt8:= (List.range k).map fun i=>UInt8.ofNat (n/256 ^ i%256)
def iE:List UInt8→Nat
 | []=>0
 |b::l=>b.toNat+256*iE l
theorem az (n k:Nat): (aA n k).length=k:=by simp [aA]
theorem rX (n k:Nat):aA n (k+1)=aA n k++ [UInt8.ofNat (n/256 ^ k%256)]:=by
 unfold aA;rw [akF,ajy];rfl
theorem pE: ∀ (l:List UInt8),iE l<256 ^ l.length
 | []=>by simp [iE]
 |b::l=>by
  have:=pE l;have hb:b.toNat<256:=b.toNat_lt;rw [iE,ai6,ajI];omega
theorem An {l:List UInt8} (h:l.length≤8):iE l<18446744073709551616:=by
 have h1:=pE l;have h2:256 ^ l.length≤256 ^ 8:=ajk (by decide) h;have h3: (256:Nat) ^ 8=18446744073709551616:=by decide
 omega
theorem C6 {s:List UInt8} {j:Nat} (h:j<s.length):iE (s.drop j)=s[j].toNat+256*iE (s.drop (j+1)):=by
 rw [ajJ h];rfl
end
end Go.Vc
