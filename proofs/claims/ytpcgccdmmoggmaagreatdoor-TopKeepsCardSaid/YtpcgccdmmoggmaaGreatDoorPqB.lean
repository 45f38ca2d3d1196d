/- Part 2 of the proof of RowTopKeeps: what it is built on, in the order of its needs. -/
import Derived.Test.YtpcgccdmmoggmaaGreatDoorPqA
import Derived.Below
import Derived.ChangeAlike
import Derived.ProofKit
import Derived.OpenShut
import Derived.ShutString
import Derived.Deep.Slices
import Derived.Deep.Fields
import Derived.ChangeSame
import Derived.MapKept
import Derived.Laws.IdiomRangeMap
import Derived.Test.YtpcgccdmmoggmaaGreatDoorProg
import Derived.KernelRfl
import Derived.Shelf.Strings.Builder1
import Derived.Shelf.Strings.OnBuilder
import Derived.Shelf.Strings.Search1
import Derived.Shelf.Strings.Search2
import Derived.Shelf.Strings.Search3
import Derived.Shelf.GgClosure.StringsIndexFuncTop
import Derived.Shelf.Strings.Repeat
import Derived.Shelf.SlSortCmp.Whole1
import Derived.Shelf.Unicode.ValidAny
set_option linter.unusedSimpArgs false
set_option linter.unusedVariables false
set_option maxRecDepth 100000
namespace Go.Vc
open Go
section
section
variable {K:Value→Prop} {x x' y y' z z' :Value}
variable {H H' :ai}
variable {KE:Value→ai→Prop}
theorem bB {b: (Value→ai→Prop)→Prop} (h:b KE):bZ (.bool true) b H KE:= ⟨KE,fun _ _ h=>h,(fun h=>by cases h),fun _=>h⟩
theorem cW {b: (Value→ai→Prop)→Prop}:bZ (.bool false) b H KE=KE (.bool false) H:=by
 apply propext;constructor
 ·rintro⟨J,h1,h2,_⟩;exact h1 _ _ (h2 rfl)
 ·intro h;exact⟨KE,fun _ _ h=>h,fun _=>h,(fun h=>by cases h)⟩
theorem cY {b: (Value→ai→Prop)→Prop}:d_ (.bool true) b H KE=KE (.bool true) H:=by
 apply propext;constructor
 ·rintro⟨J,h1,h2,_⟩;exact h1 _ _ (h2 rfl)
 ·intro h;exact⟨KE,fun _ _ h=>h,fun _=>h,(fun h=>by cases h)⟩
theorem aO {b: (Value→ai→Prop)→Prop} (h:b KE):d_ (.bool false) b H KE:= ⟨KE,fun _ _ h=>h,(fun h=>by cases h),fun _=>h⟩
theorem jy {a d:Bool}:bZ (.bool a) (fun J=>J (.bool d) H) H KE=KE (.bool (a && d)) H:=by
 apply propext;cases a
 ·rw [cW];rfl
 ·constructor
  ·rintro⟨J,h1,_,h2⟩;exact h1 _ _ (h2 rfl)
  ·intro h;exact bB h
theorem fC {a d:Bool}:d_ (.bool a) (fun J=>J (.bool d) H) H KE=KE (.bool (a||d)) H:=by
 apply propext;cases a
 ·constructor
  ·rintro⟨J,h1,_,h2⟩;exact h1 _ _ (h2 rfl)
  ·intro h;exact aO h
 ·rw [cY];rfl
theorem dM {a d:Bool} {b: (Value→ai→Prop)→Prop} (hb:a=true→b (fun v H' =>v= .bool d∧H' =H)) (h:KE (.bool (a && d)) H):bZ (.bool a) b H KE:=by
 refine⟨fun v H' =>v= .bool (a && d)∧H' =H,fun v H' h' =>by rw [h'.1,h'.2];exact h,fun ha=>by rw [ha];exact⟨rfl,rfl⟩,fun ha=>?_⟩;have:=hb ha;subst ha;exact this
theorem il {a d:Bool} {b: (Value→ai→Prop)→Prop} (hb:a=false→b (fun v H' =>v= .bool d∧H' =H)) (h:KE (.bool (a||d)) H):d_ (.bool a) b H KE:=by
 refine⟨fun v H' =>v= .bool (a||d)∧H' =H,fun v H' h' =>by rw [h'.1,h'.2];exact h,fun ha=>by rw [ha];exact⟨rfl,rfl⟩,fun ha=>?_⟩;have:=hb ha;subst ha;exact this
theorem xV {b:Bool} {A B:Prop}:ao (.bool b) A B= ((b=true→A)∧(b=false→B)):=rfl
theorem aD {A B:Prop}:ao (.bool true) A B=A:=by simp [xV]
theorem aj {A B:Prop}:ao (.bool false) A B=B:=by simp [xV]
end
theorem al (b o n:Nat): (⟨b,o,none⟩:Addr).add n= ⟨b,o+n,none⟩:=by
 unfold Addr.add;split
 ·rename_i h;subst h;rfl
 ·rfl
theorem da {H:ai} {b o:Nat} {cs:Array Value} {t:TypeId} {fr:Nat × Nat} (h:H[b]? =some (.cells cs t fr)):cellAt H ⟨b,o,none⟩=cs[o]? :=by
 simp [cellAt,h]
theorem KC {H:ai} {b o:Nat} {cs:Array Value} {t:TypeId} {fr:Nat × Nat} {v:Value} {K:Value→Prop} (h:H[b]? =some (.cells cs t fr)) (hv:cs[o]? =some v) (hk:K v):ak H (.pointer (some ⟨b,o,none⟩)) K:=by
 simp only [ak,da h,hv];exact hk
theorem gF {H:ai} {b o:Nat} {l:List Value} {t:TypeId} {fr:Nat × Nat} {v:Value} {K:Value→Prop} (h:H[b]? =some (.cells l.toArray t fr)) (hv:l[o]? =some v) (hk:K v):ak H (.pointer (some ⟨b,o,none⟩)) K:=
 KC h (by rw [agO];exact hv) hk
theorem oY {H:ai} {b o:Nat} {l:List Value} {t:TypeId} {fr:Nat × Nat} {K:Value→Prop} (h:H[b]? =some (.cells l.toArray t fr)):ak H (.pointer (some ⟨b,o,none⟩)) K=match l[o]? with
  |some v=>K v
  |none=>False:=by
 simp only [ak,da h,agO]
 cases l[o]? <;>rfl
theorem aW {H:ai} {a:Addr} {v:Value} {K:Value→Prop} (h:cellAt H a=some v):ak H (.pointer (some a)) K=K v:=by
 simp only [ak,h]
theorem uf {H:ai} {b o:Nat} {cs:Array Value} {t:TypeId} {fr:Nat × Nat} {v:Value} (h:H[b]? =some (.cells cs t fr)):setAt H ⟨b,o,none⟩ v=H.setIfInBounds b (.cells (cs.setIfInBounds o v) t fr):=by
 unfold setAt;apply ahS;intro j;rw [ah6,aik]
 by_cases hj:b=j
 ·subst hj
  have hl:b<H.size:=by
   rcases ag6 b H.size with h' |h'
   ·exact h'
   ·simp [ahH h'] at h
  simp [hl] at h ⊢
  simp [h]
 ·simp [hj]
theorem xW {H:ai} {b o:Nat} {cs:Array Value} {t:TypeId} {v:Value} {K:Value→ai→Prop} (h:H[b]? =some (.cells cs t (0,0))) (ho:o<cs.size) (hv:aK v=true):
  aF H (.pointer (some ⟨b,o,none⟩)) v K=K undef (H.setIfInBounds b (.cells (cs.setIfInBounds o v) t (0,0))):=by
 have hc:cellAt H ⟨b,o,none⟩=some cs[o]:=by rw [da h];simp [ho]
 have hf:frozenAt H ⟨b,o,none⟩=false:=by simp [frozenAt,h]
 simp only [aF,eA,al,agL,hc,hf,cond_false,hv,cond_true,uf h]
theorem bq {H:ai} {b:Nat} {o:Obj} (h:H[b]? =some o):b<H.size:= (ahT.1 h).1
theorem bN {H:ai} {b:Nat} {o:Obj} (h:b<H.size): (H.setIfInBounds b o)[b]? =some o:=by simp [h]
theorem cD {H:ai} {b c:Nat} {o:Obj} (h:b≠c): (H.setIfInBounds b o)[c]? =H[c]? :=by simp [aik,h]
theorem bW {H:ai} {o:Obj}: (H.push o)[H.size]? =some o:=by simp
theorem jY {H:ai} {b:Nat} {o:Obj} (h:b<H.size): (H.push o)[b]? =H[b]? :=by rw [ajm,if_neg (by omega)]
theorem ba {n:Int} (h0: -9223372036854775808≤n) (h1:n≤9223372036854775807):IntKind.i64.wrap n=n:=by
 simp [IntKind.wrap,IntKind.bits,IntKind.signed];omega
theorem wu8 {n:Int} (h0:0≤n) (h1:n≤255):IntKind.u8.wrap n=n:=by
 simp [IntKind.wrap,IntKind.bits,IntKind.signed];omega
theorem Cr {n:Int} (h0:0≤n) (h1:n≤4294967295):IntKind.u32.wrap n=n:=by
 simp [IntKind.wrap,IntKind.bits,IntKind.signed];omega
theorem cR {n:Int} (h0:0≤n) (h1:n≤18446744073709551615):IntKind.u64.wrap n=n:=by
 simp [IntKind.wrap,IntKind.bits,IntKind.signed];omega
theorem JE (n:Int):IntKind.u8.wrap n=n%256:=by simp [IntKind.wrap,IntKind.bits,IntKind.signed]
theorem sF (l:List UInt8): (ByteArray.mk l.toArray).size=l.length:=by simp [ByteArray.size]
end
section
theorem qe {p q:Prop} [Decidable p] [Decidable q]: (decide p && decide q)=decide (p∧q):=by simp
theorem ki {p q:Prop} [Decidable p] [Decidable q]: (decide p||decide q)=decide (p∨q):=by simp
theorem sG {n:Nat}: (n≤n)=True:=by simp
theorem List.fD {α:Type} {l:List α}:l.toArray.toList=l:=rfl
theorem av {p:Prop} [Decidable p] {A B:Prop} (h1:p→A) (h2: ¬p→B):ao (.bool (decide p)) A B:= ⟨fun h=>h1 (by simpa using h),fun h=>h2 (by simpa using h)⟩
theorem cy {b:Bool} {A B:Prop} (h1:b=true→A) (h2:b=false→B):ao (.bool b) A B:= ⟨h1,h2⟩
end
section
theorem set_set {H:ai} {b:Nat} {o o' :Obj}: (H.setIfInBounds b o).setIfInBounds b o' =H.setIfInBounds b o' :=by simp
theorem lM {H:ai} {b o:Nat} {cs:Array Value} {t:TypeId} {fr:Nat × Nat} (h:H[b]? =some (.cells cs t fr)): ∀n,o+n≤cs.size→dT H ⟨b,o,none⟩ n=some ((cs.toList.drop o).take n)
 |0,_=>by simp [dT]
 |n+1,hn=>by
  have cF:o+n<cs.size:=by omega
  have ih:=lM (o:=o) (cs:=cs) (t:=t) (fr:=fr) h n (by omega);simp only [dT,ih,al,da h,aiG cF];rw [agz,ag7]
  simp [cF]
theorem cK {H:ai} {b n:Nat} {cs:Array Value} {t:TypeId} {fr:Nat × Nat} {K:Value→Prop} (h:H[b]? =some (.cells cs t fr)) (hn:cs.size=n):aE H n (.pointer (some ⟨b,0,none⟩)) K=K (.agg cs):=by
 subst hn;simp only [aE,lM (o:=0) (cs:=cs) (t:=t) (fr:=fr) h cs.size (by omega)]
 congr 2
 rw [agS,←Array.length_toList,agr]
end
section
theorem Ext.push {A H:ai} {o:Obj} (h:Ext A H):Ext A (H.push o):= ⟨by have:=h.size;simp;omega,fun i hi=>by
 have:=h.size;rw [ajm,if_neg (by omega)];exact h.get i hi⟩
theorem Ext.set {A H:ai} {b:Nat} {o:Obj} (h:Ext A H) (hb:A.size≤b):Ext A (H.setIfInBounds b o):= ⟨by have:=h.size;simpa using this,fun i hi=>by
 rw [cD (by omega)];exact h.get i hi⟩
theorem Ext.fZ {A H:ai} {b:Nat} {o:Obj} (h:Ext A H) (hb:A[b]? =some o):H[b]? =some o:=by rw [h.get b (bq hb)];exact hb
theorem EA {H:ai} {b:Nat} {o:Obj} (hb:H[b]? =some o):H.setIfInBounds b o=H:=by
 apply ahS;intro j;rw [aik]
 by_cases hj:b=j
 ·subst hj;simp [bq hb];exact(ahT.1 hb).2.symm
 ·simp [hj]
theorem nx {n:Int} {k:Nat} {m:Int} (hk:k≤62) (hm:m=2 ^ k - 1):bitsOf .and .i64 n m=n%2 ^ k:=by
 subst hm;have hp: (2:Nat) ^ k≤2 ^ 62:=agA (by omega) hk;have h1: ((BitVec.ofInt 64 n) &&& (BitVec.ofInt 64 ((2:Int) ^ k - 1))).toNat= ((n%18446744073709551616).toNat) %2 ^ k:=by
  rw [ajp,BitVec.toNat_ofInt,BitVec.toNat_ofInt];have e: ((((2:Int) ^ k - 1) % ((2 ^ 64:Nat):Int)).toNat)=2 ^ k - 1:=by
   have h0: (0:Int)≤(2:Int) ^ k - 1:=by
    have: (1:Int)≤2 ^ k:=by exact_mod_cast ajq
    omega
   have h2: (2:Int) ^ k - 1< ((2 ^ 64:Nat):Int):=by
    have: ((2:Int) ^ k)= ((2 ^ k:Nat):Int):=by norm_cast
    rw [this];omega
   rw [Int.emod_eq_of_lt h0 h2];have: ((2:Int) ^ k)= ((2 ^ k:Nat):Int):=by norm_cast
   rw [this];omega
  rw [e,ajM]
  rfl
 have h3: ((n%18446744073709551616).toNat) %2 ^ k= (n%2 ^ k).toNat:=by
  have hd: ((2:Int) ^ k) ∣18446744073709551616:=by
   have: (18446744073709551616:Int)=2 ^ k*2 ^ (64 - k):=by rw [←Int.pow_add];rw [show k+ (64 - k)=64 by omega];rfl
   rw [this];exact Int.dvd_mul_right _ _
  have h4: (n%18446744073709551616) %2 ^ k=n%2 ^ k:=Int.emod_emod_of_dvd _ hd;have h5:0≤n%18446744073709551616:=aio _ (by decide);have KD: (0:Int)≤n%2 ^ k:=aio _ (Int.ne_of_gt (aip (by decide)));apply Int.ofNat.inj;show (((n%18446744073709551616).toNat%2 ^ k:Nat):Int)= (((n%2 ^ k).toNat:Nat):Int);rw [Int.natCast_emod,ahv h5,ahv KD,←h4,aia]
  rfl
 show IntKind.i64.wrap ((((BitVec.ofInt 64 n) &&& (BitVec.ofInt 64 ((2:Int) ^ k - 1))).toNat:Nat):Int)=n%2 ^ k;rw [h1,h3];have KD: (0:Int)≤n%2 ^ k:=aio _ (Int.ne_of_gt (aip (by decide)));have cF:n% (2:Int) ^ k<2 ^ k:=aiH _ (aip (by decide));have Aq: ((2:Int) ^ k)≤4611686018427387904:=by
  have: ((2:Int) ^ k)= ((2 ^ k:Nat):Int):=by norm_cast
  rw [this];omega
 rw [ahv KD];exact ba (by omega) (by omega)
section
variable {K:Value→Prop} {KE:Value→ai→Prop} {H:ai} {k k' :IntKind} {a b:Int} {s t:ByteArray} {p q:Bool} {x y:Value}
theorem au {ad:Addr}:aB (.pointer (some ad)) K=K (.pointer (some ad)):=rfl
theorem az:aG (.int k a) (.int k b) K=K (.int k (k.wrap (a+b))):=propext ⟨fun h=>h.2,fun h=> ⟨rfl,h⟩⟩
theorem aZ:bY (.int k a) (.int k b) K=K (.int k (k.wrap (a - b))):=propext ⟨fun h=>h.2,fun h=> ⟨rfl,h⟩⟩
theorem mc:qE (.int k a) (.int k b) K=K (.int k (k.wrap (a*b))):=propext ⟨fun h=>h.2,fun h=> ⟨rfl,h⟩⟩
theorem Hy:aG (.string s) (.string t) K= (s.size+t.size≤9223372036854775807∧K (str (fL s++fL t))):=rfl
theorem ug:rh (.int k a) (.int k b) K= (b≠0∧K (.int k (k.wrap (a.tdiv b)))):=propext ⟨fun h=>h.2,fun h=> ⟨rfl,h⟩⟩
theorem jz:l8 (.int k a) (.int k b) K= (b≠0∧K (.int k (a.tmod b))):=propext ⟨fun h=>h.2,fun h=> ⟨rfl,h⟩⟩
theorem cd {o:BinOp}:cx o (.int k a) (.int k b) K=K (.int k (bitsOf o k a b)):=propext ⟨fun h=>h.2,fun h=> ⟨rfl,h⟩⟩
theorem eB:jv (.int k a) (.int k' b) K= (0≤b∧K (.int k (k.wrap (a*2 ^ (min b.toNat k.bits))))):=rfl
theorem kj:mo (.int k a) (.int k' b) K= (0≤b∧K (.int k (a.fdiv (2 ^ (min b.toNat k.bits))))):=rfl
theorem aN:cq (.int k a) (.int k b) K=K (.bool (decide (a<b))):=propext ⟨fun h=>h.2,fun h=> ⟨rfl,h⟩⟩
theorem kp:vk (.int k a) (.int k b) K=K (.bool (decide (a≤b))):=propext ⟨fun h=>h.2,fun h=> ⟨rfl,h⟩⟩
theorem a8:dW (.int k a) (.int k b) K=K (.bool (decide (b<a))):=propext ⟨fun h=>h.2,fun h=> ⟨rfl,h⟩⟩
theorem dP:lB (.int k a) (.int k b) K=K (.bool (decide (b≤a))):=propext ⟨fun h=>h.2,fun h=> ⟨rfl,h⟩⟩
theorem bc:cu 0 (.int k a) (.int k b) K=K (.bool (decide (a=b))):=by simp [cu,kT]
theorem cA:ea 0 (.int k a) (.int k b) K=K (.bool (decide (a≠b))):=by simp [ea,kT]
theorem Vi:cu 1 (.string s) (.string t) K=K (.bool (decide (fL s=fL t))):=rfl
theorem RV:ea 1 (.string s) (.string t) K=K (.bool (decide (fL s≠fL t))):=by simp [ea,kT]
theorem SY:cu 3 (.pointer none) (.pointer none) K=K (.bool true):=rfl
theorem cB {ad}:cu 3 (.pointer (some ad)) (.pointer none) K=K (.bool false):=rfl
theorem rn {ad}:ea 3 (.pointer (some ad)) (.pointer none) K=K (.bool true):=rfl
theorem SZ {n c m d}:cu 4 (.slice none n c) (.slice none m d) K=K (.bool true):=rfl
theorem S0 {ad n c m d}:cu 4 (.slice (some ad) n c) (.slice none m d) K=K (.bool false):=rfl
theorem db:e7 (.bool p) K=K (.bool !p):=rfl
theorem Nl:ML (.int k a) K=K (.int k (bitsOf .xor k (if k.signed then -1 else k.max) a)):=rfl
theorem bR:bm k (.int k' a) K=K (.int k (k.wrap a)):=rfl
theorem iV:jU (.int k a) (.int k b) K=K (.int k (min a b)):=propext ⟨fun h=>h.2,fun h=> ⟨rfl,h⟩⟩
theorem Hz:G1 (.int k a) (.int k b) K=K (.int k (max a b)):=propext ⟨fun h=>h.2,fun h=> ⟨rfl,h⟩⟩
theorem ae {o:Nat} {ad:Addr}:aa o (.pointer (some ad)) K=K (.pointer (some (ad.add o))):=rfl
theorem Be {o:Nat} {l:List Value}:ic o (.agg l.toArray) K=match l[o]? with|some v=>K v|none=>False:=rfl
theorem iq {o:Nat} {l:List Value}:aq o (.tuple l.toArray) K=match l[o]? with|some v=>K v|none=>False:=rfl
theorem gG {n m:Nat} {ad:Addr}:dL n m (.pointer (some ad)) (.int k a) K= (0≤a∧a< (n:Int)∧K (.pointer (some (ad.add (a.toNat*m))))):=rfl
theorem oZ {n c m:Nat} {ad:Addr}:aI m (.slice (some ad) n c) (.int k a) K= (0≤a∧a< (n:Int)∧K (.pointer (some (ad.add (a.toNat*m))))):=rfl
theorem cf:bO (.string s) (.int k a) K= (0≤a∧a< ((fL s).length:Int)∧K (.int .u8 (((fL s).getD a.toNat 0).toNat:Int))):=rfl
theorem xX {n c:Nat} {Kb:Nat→Nat→Prop}:fk n c none none Kb=Kb 0 n:=rfl
theorem jA {n c:Nat} {Kb:Nat→Nat→Prop}:fk n c (some (.int k a)) none Kb= (0≤a∧a≤(n:Int)∧Kb a.toNat n):=rfl
theorem dc {n c:Nat} {Kb:Nat→Nat→Prop}:fk n c none (some (.int k b)) Kb= (0≤b∧b≤(c:Int)∧Kb 0 b.toNat):=rfl
theorem ny {n c:Nat} {Kb:Nat→Nat→Prop}:fk n c (some (.int k a)) (some (.int k' b)) Kb= (0≤b∧b≤(c:Int)∧0≤a∧a≤b∧Kb a.toNat b.toNat):=rfl
theorem mE {lo hi:Option Value}:a7 (.string s) lo hi K=fk (fL s).length (fL s).length lo hi fun l h=>K (str (((fL s).drop l).take (h - l))):=rfl
theorem gH {m n c:Nat} {ad:Option Addr} {lo hi:Option Value}:fg m (.slice ad n c) lo hi K=fk n c lo hi fun l h=>K (.slice (if c=l then ad else ad.map (·.add (l*m))) (h - l) (c - l)):=rfl
theorem EB {m n:Nat} {ad:Addr} {lo hi:Option Value}:ri n m (.pointer (some ad)) lo hi K=fk n n lo hi fun l h=>K (.slice (some (if n=l then ad else ad.add (l*m))) (h - l) (n - l)):=rfl
theorem qf:aX (.string s) K=K (.int .i64 ((fL s).length:Int)):=rfl
theorem o_ {ad:Option Addr} {n c:Nat}:bV (.slice ad n c) K=K (.int .i64 (n:Int)):=rfl
theorem Cs {ad:Option Addr} {n c:Nat}:G2 (.slice ad n c) K=K (.int .i64 (c:Int)):=rfl
theorem bz {l:List Value}:aT l [] K=K (.agg l.toArray):=rfl
theorem eE {l:List Value} {o m:Nat} {v:Value} {r:List (Nat × Nat × Value)}:aT l ((o,m,v)::r) K= (v.cells.size=m∧o+m≤l.length∧aT (iI l o v.cells.toList) r K):=rfl
theorem kG:Value.cells (.int k a)= #[(.int k a)]:=rfl
theorem KF:Value.cells (.string s)= #[(.string s)]:=rfl
theorem eV {u}:Value.cells (.agg u)=u:=rfl
end
theorem dd (cs:List Value) (o:Nat) (v:Value) (r:List Value):iI cs o (v::r)=iI (cs.set o v) (o+1) r:=rfl
theorem eh (cs:List Value) (o:Nat):iI cs o []=cs:=rfl
theorem xY (l:List Value): ∀ (cs:List Value) (o:Nat),(iI cs o l).length=cs.length:=by
 induction l with
 |nil=>intros;rfl
 |cons v r ih=>intro cs o;rw [dd,ih,ag8]
theorem sH (l:List Value): ∀ (a c:List Value),c.length=l.length→iI (a++c) a.length l=a++l:=by
 induction l with
 |nil=>
  intro a c h;have:c= []:=by simpa using h
  subst this;rfl
 |cons v r ih=>
  intro a c h
  match c,h with
  |x::c,h=>
   rw [dd,show (a++x::c).set a.length v= (a++ [v])++c by simp,show a.length+1= (a++ [v]).length by simp,ih (a++ [v]) c (by simpa using h)]
   simp
theorem nA {b o:Nat} {t:TypeId}: ∀ (l:List Value) (H:ai) (cs:Array Value) (i:Nat),H[b]? =some (.cells cs t (0,0))→l.all aK=true→o+i+l.length≤cs.size→
  eA H ⟨b,o,none⟩ i l=some (H.setIfInBounds b (.cells (iI cs.toList (o+i) l).toArray t (0,0)))
 | [],H,cs,i,h,_,_=>by simp only [eA,eh];rw [EA h]
 |v::r,H,cs,i,h,hv,hs=>by
  have rp:aK v=true:=by simp only [ai4,agk] at hv;exact hv.1
  have EC:r.all aK=true:=by simp only [ai4,agk] at hv;exact hv.2
  have hs' :o+i+ (r.length+1)≤cs.size:=by simpa using hs
  have hc:cellAt H ⟨b,o+i,none⟩=some cs[o+i]:=by rw [da h];simp
  have hf:frozenAt H ⟨b,o+i,none⟩=false:=by simp [frozenAt,h]
  simp only [eA,al,hc,hf,cond_false,rp,cond_true,uf h];rw [nA r _ (cs.setIfInBounds (o+i) v) (i+1) (bN (bq h)) EC (by simp;omega),set_set,dd]
  simp [ahR]
theorem ED {H:ai} {b n:Nat} {cs vs:Array Value} {t:TypeId} {K:Value→ai→Prop} (h:H[b]? =some (.cells cs t (0,0))) (hn:cs.size=n) (hv:vs.size=n) (ha:vs.toList.all aK=true):
  aC H n (.pointer (some ⟨b,0,none⟩)) (.agg vs) K=K undef (H.setIfInBounds b (.cells vs t (0,0))):=by
 have e:=sH vs.toList [] cs.toList (by simp [hn,hv]);simp only [agn,agt] at e;simp only [aC,eV,hv,nA (o:=0) vs.toList H cs 0 h ha (by simp;omega),e,true_and]
def RW (H:ai) (v:Value) (H' :ai):Prop:=v= .bool true∧Ext H H'
end
section
structure DY (b:Nat) (o:Obj) (H H' :ai):Prop where
 size:H.size≤H'.size
 at_:H'[b]? =some o
 ne: ∀i,i<H.size→i≠b→H'[i]? =H[i]?
theorem DY.sI {b c:Nat} {o o' :Obj} {H H' :ai} (h:DY b o H H') (hc:H[c]? =some o') (hn:c≠b):H'[c]? =some o' := (h.ne c (bq hc) hn).trans hc
theorem DY.ext {A H H' :ai} {b:Nat} {o:Obj} (h:DY b o H H') (hE:Ext A H) (hb:A.size≤b):Ext A H' :=
 ⟨agJ hE.size h.size,fun i hi=> (h.ne i (ahj hi hE.size) (by omega)).trans (hE.get i hi)⟩
theorem DY.set {H:ai} {b:Nat} {o:Obj} (hb:b<H.size):DY b o H (H.setIfInBounds b o):= ⟨by simp,bN hb,fun i _ hn=>cD (ahh hn)⟩
theorem DY.trans {A B C:ai} {b:Nat} {o o' :Obj} (h:DY b o A B) (k:DY b o' B C):DY b o' A C:=
 ⟨agJ h.size k.size,k.at_,fun i hi hn=> (k.ne i (ahj hi h.size) hn).trans (h.ne i hi hn)⟩
theorem DY.refl {A:ai} {b:Nat} {o:Obj} (h:A[b]? =some o):DY b o A A:= ⟨aga _,h,fun _ _ _=>rfl⟩
section
variable {KE:Value→ai→Prop} {H:ai} {b o n:Nat} {cs vs:Array Value} {t:TypeId} {v:Value}
theorem gn (h:H[b]? =some (.cells cs t (0,0))) (ho:o<cs.size) (hv:aK v=true) (hk: ∀H',H'.size=H.size→DY b (.cells (cs.setIfInBounds o v) t (0,0)) H H' →KE undef H'):aF H (.pointer (some ⟨b,o,none⟩)) v KE:=by
 rw [xW h ho hv];exact hk _ (by simp) (DY.set (bq h))
theorem cL (h:H[b]? =some (.cells cs t (0,0))) (hn:cs.size=n) (hv:vs.size=n) (ha:vs.toList.all aK=true) (hk: ∀H',H'.size=H.size→DY b (.cells vs t (0,0)) H H' →KE undef H'):aC H n (.pointer (some ⟨b,0,none⟩)) (.agg vs) KE:=by
 rw [ED h hn hv ha];exact hk _ (by simp) (DY.set (bq h))
theorem eW {e:TypeId} (hk: ∀H',H'.size=H.size+1→Ext H H' →H'[H.size]? =some (.cells v.cells e (0,0))→KE (.pointer (some ⟨H.size,0,none⟩)) H'):bs H e v KE:=
 hk _ (by simp) (Ext.refl _).push bW
end
end
section
section
variable {H:ai} {KE:Value→ai→Prop} {a d:Bool}
theorem HA:bZ (.bool a) (fun J=> ∀_:Env,J (.bool d) H) H KE=KE (.bool (a && d)) H:=by
 refine Eq.trans ?_ (jy (H:=H) (KE:=KE) (a:=a) (d:=d));unfold bZ;simp only [forall_const]
theorem JF {R:Value→ai→Prop} {b:Bool} (e:a=b) (h:R (.bool b) H):R (.bool a) H:=by rw [e];exact h
end
end
section
theorem Ct {a c:Int} {k:Nat} (ha:0≤a) (S1:a<2 ^ k) (hc:0≤c) (hb:c*2 ^ k+a≤9223372036854775807):bitsOf .or .i64 a (c*2 ^ k)=c*2 ^ k+a:=by
 obtain⟨a',rfl⟩:=Int.eq_ofNat_of_zero_le ha;obtain⟨c',rfl⟩:=Int.eq_ofNat_of_zero_le hc;have Xb:a' <2 ^ k:=by exact_mod_cast S1
 have hp: (c' :Int)*2 ^ k= ((c' *2 ^ k:Nat):Int):=by rw [Int.natCast_mul,aia];rfl
 rw [hp] at hb ⊢;have SF:c' *2 ^ k+a' ≤9223372036854775807:=by
  generalize c' *2 ^ k=z at hb;omega
 have e: ((BitVec.ofInt 64 (a' :Int)) ||| (BitVec.ofInt 64 ((c' *2 ^ k:Nat):Int))).toNat=c' *2 ^ k+a' :=by
  rw [ajr,agY,agY,agZ,agZ,agp (by omega),agp (by omega),aiq,agT c',ajs Xb]
 show IntKind.i64.wrap ((((BitVec.ofInt 64 (a' :Int)) ||| (BitVec.ofInt 64 ((c' *2 ^ k:Nat):Int))).toNat:Nat):Int)=_;rw [e,ba (by omega) (by omega)]
 rfl
end
end Go.Vc
namespace Go.Vc
open Go Go.RowKit
section
theorem Nn [Go.Vc.Mode] {P:Program} {f:FuncId} {args:Array Value} {w:World} (h:fP P f args w.heap (RW w.heap)):Calls P f args w fun e w' =>e= .returned (.bool true)∧∃Au :World,w'.Alike Au ∧Below w.heap.size w Au :=
 (h w rfl).mono fun e w' ⟨v,he,hr,hv,hx⟩=> ⟨by rw [he,hv],{w' with tape:=w.tape},⟨rfl,rfl,rfl⟩,⟨hr.os,rfl,hr.output,hx.size,fun k hk=>hx.get k hk⟩⟩
def ir (k:IntKind) (H:ai) (a:Option Addr) (len cap:Nat) (zs:List Int):Prop:=
 (a=none∧len=0∧cap=0∧zs= [])∨
 ∃x,a=some x∧len≤cap∧cap≤maxLen∧zs.length=cap∧(∀i,i<zs.length→cellAt H (x.add i)=some (.int k (zs.getD i 0)))∧∀n∈zs,(Lit.int k n).wf=true
theorem Vj {n:Int} (h: (Lit.int .i64 n).wf=true): -9223372036854775808≤n∧n≤9223372036854775807:=by
 simpa [Lit.wf,IntKind.min,IntKind.max,IntKind.signed,IntKind.bits] using h
theorem xZ {H H' :ai} {a:Addr} {v:Value} (h:Ext H H') (hc:cellAt H a=some v):cellAt H' a=some v:=by
 unfold cellAt at hc ⊢;have hl:a.block<H.size:=by
  rcases ag6 a.block H.size with h' |h'
  ·exact h'
  ·rw [ahH h'] at hc;cases hc
 rw [h.get _ hl];exact hc
theorem ir.read {k:IntKind} {H H' :ai} {a:Option Addr} {len cap:Nat} {zs:List Int} (hr:ir k H a len cap zs) (hx:Ext H H') {i:Int} (h0:0≤i) (h1:i< (len:Int)) {K:Value→Prop}:
  (K (.int k (zs.getD i.toNat 0)))→aI 1 (.slice a len cap) (.int .i64 i) fun x=>ak H' x K:=by
 intro hk;rcases hr with ⟨_,rfl,_⟩ | ⟨x,rfl,hl,_,hz,hc,_⟩
 ·omega
 ·rw [oZ]
  refine⟨h0,h1,?_⟩;rw [agh,aW (xZ hx (hc i.toNat (by omega)))];exact hk
theorem ir.wf {k:IntKind} {H:ai} {a:Option Addr} {len cap:Nat} {zs:List Int} (hr:ir k H a len cap zs) {i:Nat} (h1:i<len): (Lit.int k (zs.getD i 0)).wf=true:=by
 rcases hr with ⟨_,rfl,_⟩ | ⟨x,rfl,hl,_,hz,hc,hw⟩
 ·omega
 ·rw [agd,agb (by omega)]
  exact hw _ (agj _)
theorem ir.S2 {k:IntKind} {H:ai} {a:Option Addr} {len cap:Nat} {zs:List Int} (hr:ir k H a len cap zs):len≤zs.length:=by
 rcases hr with ⟨_,rfl,_,rfl⟩ | ⟨x,rfl,hl,_,hz,hc,hw⟩
 ·exact aga _
 ·omega
theorem ir.Qt {k:IntKind} {H:ai} {a:Option Addr} {len cap:Nat} {zs:List Int} (hr:ir k H a len cap zs):len≤maxLen:=by
 rcases hr with ⟨_,rfl,_,rfl⟩ | ⟨x,rfl,hl,_,hz,hc,hw⟩
 ·exact agK _
 ·omega
end
end Go.Vc
namespace Go.Vc
open Go Go.ChangeShapes Go.WideShapes Go.Deep Go.RowKit
section
def S3:TypeDesc→Value→Prop
 | .int k,v=> ∃n,v= .int k n∧(Lit.int k n).wf=true
 | .bool,v=> ∃b,v= .bool b
 | .string,v=> ∃l,v=str l∧l.length≤maxLen
 |_,_=>True
def rq (ds:List TypeDesc) (c:Nat→Option Value):Prop:= ∀ (j:Nat) (d:TypeDesc),ds[j]? =some d→∃v,c j=some v∧S3 d v
def kH (ds:List TypeDesc) (H:ai) (a:Option Addr) (len cap:Nat):Prop:=
 (a=none∧len=0∧cap=0)∨
 ∃x,a=some x∧len≤cap∧cap≤maxLen∧∀i,i<len→rq ds fun j=>cellAt H (x.add (i*ds.length+j))
def Bf (P:Program) (fs:List Field):List TypeDesc:=fs.map fun f=> (P.underlying f.type).getD .bool
section
variable {H:Type} {enc:TypeId × Value→H} {P:Program} {w:World} {base:Nat} {spare:Nat→Bool} {held:Bool}
theorem S4 {t:TypeId} {d:TypeDesc} {v:Value} {n:Nat} {y:DataW H × List MemPlace} (hu:P.underlying t=some d) (h:DataW.trod enc P w base spare held n t [v]=some y):S3 d v:=by
 unfold S3
 split
 ·obtain⟨m,he,_,hw⟩:=DataW.trod_int hu h
  simp only [ahE,and_true] at he;exact⟨m,he,hw⟩
 ·obtain⟨b,he,_⟩:=DataW.trod_bool hu h
  simp only [ahE,and_true] at he;exact⟨b,he⟩
 ·obtain⟨s,he,_,hl⟩:=DataW.trod_string hu h
  simp only [ahE,and_true] at he;refine⟨fL s,by rw [he,P6],?_⟩;have e: (fL s).length=s.size:=rfl;rw [e];exact hl
 ·trivial
theorem take_one {cs:List Value} {j:Nat} (h:j<cs.length): (cs.drop j).take 1= [cs[j]'h]:=by
 rw [ag4 h];rfl
theorem Qu {t:TypeId} {fs:Array Field} {cs:List Value} {fuel:Nat} {x:DataW H × List MemPlace} (ht:P.underlying t=some (.struct fs)) (lF:oneCellFields P fs=true) (hC:P.cellsOf t=fs.size)
  (ij:fs.toList.all (fun f=> (P.underlying f.type).isSome)=true) (h:DataW.trod enc P w base spare held fuel t cs=some x):cs.length=fs.size∧rq (Bf P fs.toList) fun j=>cs[j]? :=by
 obtain⟨ys,n',Vk,hy,hlen,DZ,hf⟩:=DataW.trod_struct ht h;refine⟨hlen.trans hC,fun j d hj=>?_⟩;unfold Bf at hj;rw [agu,Array.getElem?_toList] at hj
 cases Ur:fs[j]? with
 |none=>rw [Ur] at hj;cases hj
 |some f=>
  rw [Ur] at hj;simp only [ahD,agf] at hj;have Aw:j<fs.size:= (ahT.1 Ur).1;obtain⟨ho,hk⟩:=hone_of lF j f Ur;have h1:=hf j f Ur;have hl:j<cs.length:=by omega
  rw [ho,hk,take_one hl,agb (show j<ys.length by omega)] at h1;have hs: (P.underlying f.type).isSome=true:=ahu.1 ij f (by
   have:= (ahT.1 Ur);obtain⟨h1,h2⟩:=this;rw [←h2];simp)
  obtain⟨d',GS⟩:=Option.isSome_iff_exists.1 hs;rw [GS] at hj;simp only [ahi] at hj;subst hj;exact⟨cs[j],agb hl,S4 GS h1⟩
theorem Cu {t e:TypeId} {fs:Array Field} {fuel:Nat} {a:Option Addr} {len cap:Nat} {x:DataW H × List MemPlace} (ht:P.underlying t=some (.slice e)) (he:P.underlying e=some (.struct fs)) (lF:oneCellFields P fs=true) (hC:P.cellsOf e=fs.size)
  (ij:fs.toList.all (fun f=> (P.underlying f.type).isSome)=true) {ds:List TypeDesc} (Ya:Bf P fs.toList=ds) (h:DataW.trod enc P w base spare held fuel t [.slice a len cap]=some x):kH ds w.heap a len cap:=by
 subst Ya;rcases open_slice ht h with ⟨h0,_⟩ | ⟨a',ab9,S5,m,n,D,Pl,tV,hb,hl,hm,Yb,hx,hi⟩
 ·simp only [ahE,Value.slice.injEq,and_true] at h0
  exact .inl h0
 ·simp only [ahE,Value.slice.injEq,and_true] at tV
  obtain⟨rfl,rfl,rfl⟩:=tV;refine .inr ⟨a',rfl,hl,hm,fun i xi=>?_⟩;have Up:i<m:=by rw [Yb];split<;>omega
  obtain⟨EE,hc,U6⟩:=hi i Up;have hF:=Qu he lF hC ij U6;obtain⟨_,dX,x6⟩:=World.cells?_some hc;intro j d hj;obtain⟨v,hv,hk⟩:=hF.2 j d hj;have Aw:j<EE.length:= (agD.1 hv).1;refine⟨v,?_,hk⟩;have x6:=x6 j (by omega);have hv:EE[j]? =some v:=hv;show cellAt w.heap (a'.add (i* (Bf P fs.toList).length+j))=some v;rw [←hv,←x6,Go.Deep.add_add,hC];have: (Bf P fs.toList).length=fs.size:=by simp [Bf]
  rw [this]
  rfl
end
end
end Go.Vc
namespace Go.Vc
open Go
section
theorem sJ (a:Addr) (m n:Nat): (a.add m).add n=a.add (m+n):=by
 unfold Addr.add
 by_cases hm:m=0
 ·subst hm;simp
 ·by_cases hn:n=0
  ·subst hn;simp [hm]
  ·have:m+n≠0:=by omega
   simp [hm,hn,this,ahR]
def Reads (H:ai) (a:Addr) (l:List Value):Prop:= ∀ (i:Nat) (v:Value),l[i]? =some v→cellAt H (a.add i)=some v
theorem Reads.cells {H:ai} {a:Addr} {l:List Value} (h:Reads H a l): ∀n,n≤l.length→dT H a n=some (l.take n)
 |0,_=>by simp [dT]
 |n+1,hn=>by
  have cF:n<l.length:=by omega
  simp only [dT,h.cells n (by omega),h n l[n] (agb cF)];rw [agz,agb cF]
  rfl
theorem Reads.all {H:ai} {a:Addr} {l:List Value} (h:Reads H a l):dT H a l.length=some l:=by rw [h.cells _ (aga _),agr]
theorem Reads.ext {H H' :ai} {a:Addr} {l:List Value} (h:Reads H a l) (hx:Ext H H'):Reads H' a l:=fun i v hv=>xZ hx (h i v hv)
theorem Reads.part {H:ai} {a:Addr} {l:List Value} (h:Reads H a l) (o n:Nat):Reads H (a.add o) ((l.drop o).take n):=fun i v hv=>by
 rw [sJ];rw [agV] at hv
 split at hv
 ·rw [ag7] at hv;exact h _ _ hv
 ·cases hv
def Sl (H:ai) (v:Value) (sz:Nat) (l:List Value):Prop:=
 (v= .slice none 0 0∧l= [])∨∃a n cap,v= .slice (some a) n cap∧l.length=n*sz∧n≤cap∧Reads H a l
theorem Sl.ext {H H' :ai} {v:Value} {sz:Nat} {l:List Value} (h:Sl H v sz l) (hx:Ext H H'):Sl H' v sz l:=by
 rcases h with h| ⟨a,n,cap,h1,h2,h3,h4⟩
 ·exact .inl h
 ·exact .inr ⟨a,n,cap,h1,h2,h3,h4.ext hx⟩
theorem Sl.len {H:ai} {v:Value} {sz:Nat} {l:List Value} {K:Value→Prop} (h:Sl H v sz l) {n:Nat} (hn:l.length=n*sz) (hz:0<sz) (hk:K (.int .i64 (n:Int))):bV v K:=by
 rcases h with ⟨rfl,rfl⟩ | ⟨a,m,cap,rfl,h2,h3,h4⟩
 ·rw [o_]
  have:n=0:=by
   rcases air n with h|h
   ·exact h
   ·have:=ah9 h hz
    simp only [agt] at hn;omega
  subst this;exact hk
 ·rw [o_]
  rw [h2] at hn;rw [ais hz hn];exact hk
theorem Sl.iJ {H:ai} {v:Value} {sz:Nat} {l:List Value} (h:Sl H v sz l) {n:Nat} (hn:l.length=n*sz) (hz:0<sz):Go.Vc.iJ v=some n:=by
 rcases h with ⟨rfl,rfl⟩ | ⟨a,m,cap,rfl,h2,h3,h4⟩
 ·have:n=0:=by
   rcases air n with h|h
   ·exact h
   ·have:=ah9 h hz
    simp only [agt] at hn;omega
  subst this;rfl
 ·rw [h2] at hn
  rw [ais hz hn];rfl
theorem Sl.cellsOf {H:ai} {v:Value} {sz:Nat} {l:List Value} (h:Sl H v sz l):Go.Vc.cellsOf H sz v=some l:=by
 rcases h with ⟨rfl,rfl⟩ | ⟨a,m,cap,rfl,h2,h3,h4⟩
 ·rfl
 ·show dT H a (m*sz)=some l
  rw [←h2];exact h4.all
theorem Reads.load {H:ai} {a:Addr} {l:List Value} {v:Value} {K:Value→Prop} (h:Reads H a l) (hv:l[0]? =some v) (hk:K v):ak H (.pointer (some a)) K:=by
 have:=h 0 v hv;have e:a.add 0=a:=by simp [Addr.add]
 rw [e] at this;rw [aW this];exact hk
theorem Reads.loadAt {H:ai} {a:Addr} {l:List Value} {v:Value} {o:Nat} {K:Value→Prop} (h:Reads H a l) (hv:l[o]? =some v) (hk:K v):ak H (.pointer (some (a.add o))) K:=by
 rw [aW (h o v hv)];exact hk
theorem Reads.fE {H:ai} {a:Addr} {l:List Value} {n:Nat} {K:Value→Prop} (h:Reads H a l) (hn:l.length=n) (hk:K (.agg l.toArray)):aE H n (.pointer (some a)) K:=by
 subst hn;simp only [aE,h.all];exact hk
def Cv (fr:Nat × Nat) (n:Nat):Prop:=fr= (0,0)∨n≤fr.1
structure Yc (H:ai) (b:Nat) (sz n cap:Nat) (l sp:List Value):Prop where
 fZ: ∃t fr,H[b]? =some (.cells (l++sp).toArray t fr)∧Cv fr (cap*sz)
 len:l.length=n*sz
 cap_: (l++sp).length=cap*sz
def kI (H:ai) (v:Value) (sz:Nat) (l:List Value):Prop:=
 (v= .slice none 0 0∧l= [])∨∃b n cap sp,v= .slice (some ⟨b,0,none⟩) n cap∧Yc H b sz n cap l sp
def aS:Value→Option Nat
 | .slice (some a) _ _=>some a.block
 |_=>none
theorem kI.sl {H:ai} {v:Value} {sz:Nat} {l:List Value} (hz:0<sz) (h:kI H v sz l):Sl H v sz l:=by
 rcases h with h| ⟨b,n,cap,sp,rfl,⟨t,fr,hb,_⟩,hl,hc⟩
 ·exact .inl h
 ·refine .inr ⟨_,n,cap,rfl,hl,?_,fun i v hv=>?_⟩
  ·rw [af9] at hc
   exact Nat.le_of_mul_le_mul_right (by omega) hz
  ·rw [al,ags,da hb,agO,agM (agD.1 hv).1]
   exact hv
theorem kI.ext {H H' :ai} {v:Value} {sz:Nat} {l:List Value} (h:kI H v sz l) (hx:Ext H H'):kI H' v sz l:=by
 rcases h with h| ⟨b,n,cap,sp,rfl,⟨t,fr,hb,hf⟩,hl,hc⟩
 ·exact .inl h
 ·exact .inr ⟨b,n,cap,sp,rfl,⟨⟨t,fr,hx.fZ hb,hf⟩,hl,hc⟩⟩
theorem kI.other {H H' :ai} {v:Value} {sz:Nat} {l:List Value} {b' :Option Nat} (h:kI H v sz l) (hx: ∀i,i<H.size→b' ≠some i→H'[i]? =H[i]?) (hb:aS v≠b' ∨aS v=none):kI H' v sz l:=by
 rcases h with h| ⟨b,n,cap,sp,rfl,⟨t,fr,PH,hf⟩,hl,hc⟩
 ·exact .inl h
 ·refine .inr ⟨b,n,cap,sp,rfl,⟨⟨t,fr,?_,hf⟩,hl,hc⟩⟩
  rw [hx b (bq PH) (by
   rcases hb with hb|hb
   ·exact fun e=>hb (by simp [aS,e])
   ·simp [aS] at hb)]
  exact PH
theorem kI.lt {H:ai} {v:Value} {sz:Nat} {l:List Value} (h:kI H v sz l) {b:Nat} (hb:aS v=some b):b<H.size:=by
 rcases h with ⟨rfl,_⟩ | ⟨b',n,cap,sp,rfl,⟨t,fr,PH,hf⟩,hl,hc⟩
 ·simp [aS] at hb
 ·simp only [aS,agf] at hb
  subst hb;exact bq PH
theorem jZ {b:Nat} {t:TypeId} {fr:Nat × Nat} {N:Nat} (hf:Cv fr N): ∀ (l:List Value) (H:ai) (o i:Nat) (cs:List Value),H[b]? =some (.cells cs.toArray t fr)→l.all aK=true→o+i+l.length≤cs.length→cs.length=N→
  eA H ⟨b,o,none⟩ i l=some (H.setIfInBounds b (.cells (iI cs (o+i) l).toArray t fr))
 | [],H,o,i,cs,h,_,_,_=>by simp only [eA,eh];rw [EA h]
 |v::r,H,o,i,cs,h,hv,hs,hN=>by
  have rp:aK v=true:=by simp only [ai4,agk] at hv;exact hv.1
  have EC:r.all aK=true:=by simp only [ai4,agk] at hv;exact hv.2
  have hs' :o+i+ (r.length+1)≤cs.length:=by simpa using hs
  have hc:cellAt H ⟨b,o+i,none⟩=some (cs[o+i]'(by omega)):=by rw [da h,agO,agb]
  have No:frozenAt H ⟨b,o+i,none⟩=false:=by
   obtain⟨lo,hi⟩:=fr;simp only [frozenAt,h];rcases hf with hf|hf
   ·simp only [ahr] at hf
    obtain⟨rfl,rfl⟩:=hf
    simp
   ·have: ¬lo≤o+i:=by simp only at hf;omega
    simp [this]
  simp only [eA,al,hc,No,cond_false,rp,cond_true,uf h];rw [show (Array.setIfInBounds cs.toArray (o+i) v)= (cs.set (o+i) v).toArray by simp];rw [jZ hf r _ o (i+1) (cs.set (o+i) v) (bN (bq h)) EC (by simp;omega) (by simpa using hN),set_set,dd]
  simp [ahR]
theorem mF (l:List Value): ∀ (a c:List Value),l.length≤c.length→iI (a++c) a.length l=a++l++c.drop l.length:=by
 induction l with
 |nil=>intro a c _;simp [eh]
 |cons v r ih=>
  intro a c h
  match c,h with
  |x::c,h=>
   rw [dd,show (a++x::c).set a.length v= (a++ [v])++c by simp,show a.length+1= (a++ [v]).length by simp,ih (a++ [v]) c (by simpa using h)]
   simp
theorem gp (z:List Value): ∀n,(eJ z n).length=n*z.length
 |0=>by simp [eJ]
 |n+1=>by rw [eJ,af9,gp z n,ah4,ahQ]
theorem kI.append {H:ai} {v x:Value} {sz bytes m n:Nat} {e:TypeId} {zero l new:List Value} {K:Value→ai→Prop} (h:kI H v sz l) (hz:0<sz) (hzero:zero.length=sz) (hlen:iJ x=some m) (jw:cellsOf H sz x=some new)
  (hl:l.length=n*sz) (hm:new.length=m*sz) (lF:new.all aK=true) (lN:2* (n+m)*bytes≤281474976710656)
  (hk: ∀v' H',kI H' v' sz (l++new)→(∀i,i<H.size→aS v≠some i→H'[i]? =H[i]?)→H.size≤H'.size→(aS v' =aS v∨aS v' =some H.size)→K v' H'):bj H e sz bytes zero v x K:=by
 rcases h with ⟨rfl,rfl⟩ | ⟨b,n',cap,sp,rfl,⟨t,fr,hb,hf⟩,Kn,hc⟩
 ·have Bg:n=0:=by
   rcases air n with h|h
   ·exact h
   ·have:=ah9 h hz
    simp only [agt] at hl;omega
  subst Bg;simp only [bj,hlen,jw];refine⟨fun hle=>?_,fun cF=>?_⟩
  ·have MA:m=0:=by omega
   subst MA;have:new= []:=by simpa using hm
   subst this;exact hk _ H (.inl ⟨rfl,rfl⟩) (fun _ _ _=>rfl) (aga _) (.inl rfl)
  ·refine⟨by simpa using lN,?_⟩
   simp only [cellsOf,agn];intro c hc;refine hk _ _ (.inr ⟨H.size,0+m,c,eJ zero (c - (0+m)),rfl,⟨⟨e,(0,0),bW,.inl rfl⟩,by simpa using hm,?_⟩⟩) (fun i hi _=>jY hi) (by simp) (.inr rfl);simp only [agn];rw [af9,gp,hm,hzero,←ahw]
   congr 1;omega
 ·have Vl:n' =n:=ais hz (Kn.symm.trans hl)
  subst Vl;simp only [bj,hlen,jw];refine⟨fun hle=>?_,fun cF=>?_⟩
  ·have Ky:new.length≤sp.length:=by
    rw [af9] at hc;have:=aht sz hle;rw [ahw] at this;omega
   simp only [al,ags];rw [jZ hf new H (n' *sz) 0 (l++sp) hb lF (by rw [af9];omega) hc];simp only [agL];rw [←Kn,mF new l sp Ky];refine hk _ _ (.inr ⟨b,n' +m,cap,sp.drop new.length,rfl,⟨⟨t,fr,bN (bq hb),hf⟩,?_,?_⟩⟩) (fun i hi df=>?_) (by simp) (.inl rfl)
   ·rw [af9,Kn,hm,ahw]
   ·rw [af9,af9,agl]
    rw [af9] at hc;omega
   ·exact cD (by intro e;subst e;simp [aS] at df)
  ·refine⟨lN,?_⟩
   have hr:cellsOf H sz (.slice (some ⟨b,0,none⟩) n' cap)=some l:=by
    have:= (kI.sl hz (.inr ⟨b,n',cap,sp,rfl,⟨⟨t,fr,hb,hf⟩,Kn,hc⟩⟩:kI H (.slice (some ⟨b,0,none⟩) n' cap) sz l)).cellsOf;exact this
   rw [hr];intro c f_;refine hk _ _ (.inr ⟨H.size,n' +m,c,eJ zero (c - (n' +m)),rfl,⟨⟨e,(0,0),bW,.inl rfl⟩,?_,?_⟩⟩) (fun i hi _=>jY hi) (by simp) (.inr rfl)
   ·rw [af9,Kn,hm,ahw]
   ·rw [af9,af9,gp,Kn,hm,hzero,←ahw,←ahw]
    congr 1;omega
theorem kI.Qv {H:ai} {v x:Value} {sz bytes n:Nat} {e:TypeId} {zero l:List Value} {K:Value→ai→Prop} (h:kI H v sz l) (hz:0<sz) (hzero:zero.length=sz) (hx:x.cells.size=sz) (lF:x.cells.toList.all aK=true)
  (hl:l.length=n*sz) (lN:2* (n+1)*bytes≤281474976710656)
  (hk: ∀v' H',kI H' v' sz (l++x.cells.toList)→(∀i,i<H.size→aS v≠some i→H'[i]? =H[i]?)→H.size≤H'.size→(∀k,aS v' =some k→aS v=some k∨H.size≤k)→K v' H'):
  aY H e 1 zero [(0,sz,x)] fun y H1=>bj H1 e sz bytes zero v y K:=by
 have hp:iI zero 0 x.cells.toList=x.cells.toList:=by
  have:=sH x.cells.toList [] zero (by simp [hzero,hx])
  simpa using this
 simp only [aY,eE,bz,hp,eV];refine⟨hx,by omega,?_⟩;have e1:Ext H (H.push (.cells x.cells.toList.toArray e)):= (Ext.refl H).push;have hr:Reads (H.push (.cells x.cells.toList.toArray e)) ⟨H.size,0,none⟩ x.cells.toList:=fun i w hw=>by
  rw [al,ags,da bW,agO];exact hw
 have hc:Go.Vc.cellsOf (H.push (.cells x.cells.toList.toArray e)) sz (.slice (some ⟨H.size,0,none⟩) 1 1)=some x.cells.toList:=by
  have:=hr.all;rw [show x.cells.toList.length=1*sz by simp [hx]] at this;exact this
 refine kI.append (h.ext e1) hz hzero (m:=1) rfl hc hl (by simp [hx]) lF lN fun v' H' ho hi hs hb=>?_;refine hk v' H' ho (fun i xi df=>?_) (by rw [ajt] at hs;omega) (fun k gE =>?_)
 ·rw [hi i (by rw [ajt];omega) df];exact jY xi
 ·rcases hb with hb|hb
  ·left;rw [←hb];exact gE
  ·right;rw [hb,agf,ajt] at gE;omega
theorem x9 {A H H' :ai} {v:Value} (hx:Ext A H) (hv: ∀k,aS v=some k→A.size≤k) (hi: ∀i,i<H.size→aS v≠some i→H'[i]? =H[i]?) (hs:H.size≤H'.size):Ext A H' :=
 ⟨agJ hx.size hs,fun i xi=>by
  have:=hx.size;rw [hi i (by omega) (fun e=>by have:=hv i e;omega)];exact hx.get i xi⟩
theorem qU: ∀l:List UInt8,bytesOf (l.map bX)=some l
 | []=>rfl
 |b::r=>by
  simp only [aha,bytesOf,qU r]
  congr 2
  simp
theorem Sl.str {H:ai} {v:Value} {l:List UInt8} {K:Value→Prop} (h:Sl H v 1 (l.map bX)) (hk:K (str l)):kh H v K:=by
 rcases h with ⟨rfl,hl⟩ | ⟨a,n,cap,rfl,h2,h3,h4⟩
 ·have:l= []:=by simpa using hl
  subst this;exact hk
 ·simp only [agw,agh] at h2
  simp only [kh];have:=h4.all;rw [agw,h2] at this;rw [this];simp only [qU];exact hk
theorem Sl.cut {H:ai} {v:Value} {sz:Nat} {l:List Value} {K:Value→Prop} (h:Sl H v sz l) (hz:0<sz) {n lo hi:Nat} (hn:l.length=n*sz) (h1:lo≤hi) (h2:hi≤n) (hk: ∀v',Sl H v' sz ((l.drop (lo*sz)).take ((hi - lo)*sz))→K v') {x y:Option Value}
  (hx:x=some (.int .i64 (lo:Int))∨(x=none∧lo=0)) (hy:y=some (.int .i64 (hi:Int))∨(y=none∧hi=n)):fg sz v x y K:=by
 have hc: ∀ (c:Nat) (Kb:Nat→Nat→Prop),n≤c→Kb lo hi→fk n c x y Kb:=by
  intro c Kb hnc hk;rcases hx with rfl| ⟨rfl,rfl⟩<;>rcases hy with rfl| ⟨rfl,rfl⟩
  ·rw [ny];exact⟨by omega,by omega,by omega,by omega,by simpa using hk⟩
  ·rw [jA];exact⟨by omega,by omega,by simpa using hk⟩
  ·rw [dc];exact⟨by omega,by omega,by simpa using hk⟩
  ·rw [xX];exact hk
 rcases h with ⟨rfl,rfl⟩ | ⟨a,m,cap,rfl,hm,x_,hr⟩
 ·have Bg:n=0:=by
   rcases air n with h|h
   ·exact h
   ·have:=ah9 h hz
    simp only [agt] at hn;omega
  subst Bg;have:hi=0:=by omega
  subst this;have:lo=0:=by omega
  subst this;rw [gH];refine hc 0 _ (aga _) ?_;exact hk _ (.inl ⟨by simp,by simp⟩)
 ·have hmn:=ais hz (hm.symm.trans hn)
  subst hmn;rw [gH];refine hc cap _ x_ ?_;refine hk _ (.inr ⟨if cap=lo then a else a.add (lo*sz),hi - lo,cap - lo,by split<;>rfl,?_,by omega,?_⟩)
  ·rw [age,agl,hm]
   have: (hi - lo)*sz≤m*sz - lo*sz:=by
    rw [←Nat.sub_mul];exact aht sz (by omega)
   omega
  ·split
   ·rename_i he
    subst he;have:hi - cap=0:=by omega
    rw [this,aiI,ahW];intro i w hw;simp at hw
   ·exact hr.part _ _
theorem kI.store {H:ai} {v x:Value} {l:List Value} {K:Value→ai→Prop} (h:kI H v 1 l) (hx:aK x=true) {i:Int} (h0:0≤i) (h1:i< (l.length:Int))
  (hk: ∀H',kI H' v 1 (l.set i.toNat x)→(∀j,j<H.size→aS v≠some j→H'[j]? =H[j]?)→H'.size=H.size→K undef H'):aI 1 v (.int .i64 i) fun p=>aF H p x K:=by
 rcases h with ⟨rfl,rfl⟩ | ⟨b,n,cap,sp,rfl,⟨t,fr,hb,hf⟩,hl,hc⟩
 ·simp only [agt] at h1;omega
 ·rw [oZ]
  refine⟨h0,by omega,?_⟩;rw [agh,al,ags];have cF:i.toNat< (l++sp).length:=by rw [af9];omega
  have hs:=jZ hf [x] H i.toNat 0 (l++sp) hb (by simp [hx]) (by simp only [agi,agt];omega) hc;simp only [aF,hs,agL,dd,eh];refine hk _ (.inr ⟨b,n,cap,sp,rfl,⟨⟨t,fr,?_,hf⟩,by simpa using hl,by simpa using hc⟩⟩) (fun j hj df=>cD (by intro e;subst e;simp [aS] at df)) (by simp);rw [bN (bq hb),ai5 _ _ (by omega)]
theorem Np {H:ai} {e:TypeId} {bytes:Nat} {z:Value} {n:Int} {K:Value→ai→Prop} (h0:0≤n) (hb: (bytes:Int)*n≤281474976710656) (hn:n≤9223372036854775807)
  (hk: ∀v H',kI H' v 1 (List.replicate n.toNat z)→Ext H H' →H'.size=H.size+1→aS v=some H.size→K v H'):dF H e bytes [z] (.int .i64 n) (.int .i64 n) K:=by
 have hr: ∀k,eJ [z] k=List.replicate k z:=by
  intro k
  induction k with
  |zero=>rfl
  |succ k ih=>rw [eJ,ih];rfl
 simp only [dF];refine⟨h0,ait _,hb,hn,?_⟩;rw [hr];exact hk _ _ (.inr ⟨H.size,n.toNat,n.toNat,[],rfl,⟨⟨e,(0,0),by rw [agy];exact bW,.inl rfl⟩,by simp,by simp⟩⟩) (Ext.refl H).push (by simp) rfl
theorem HB {H:ai} {e:TypeId} {sz:Nat} {zero:List Value} {x:Value} {K:Value→ai→Prop} (hzero:zero.length=sz) (hx:x.cells.size=sz)
  (hk: ∀y H',Sl H' y sz x.cells.toList→Ext H H' →aS y=some H.size→K y H'):aY H e 1 zero [(0,sz,x)] K:=by
 have hp:iI zero 0 x.cells.toList=x.cells.toList:=by
  have:=sH x.cells.toList [] zero (by simp [hzero,hx])
  simpa using this
 simp only [aY,eE,bz,hp,eV];refine⟨hx,by omega,?_⟩;refine hk _ _ (.inr ⟨_,1,1,rfl,by simp [hx],aga _,fun i w hw=>?_⟩) (Ext.refl H).push ?_
 ·rw [al,ags,da bW,agO];exact hw
 ·rfl
theorem Sl.other {H H' :ai} {v:Value} {sz:Nat} {l:List Value} {b' :Option Nat} (h:Sl H v sz l) (hx: ∀i,i<H.size→b' ≠some i→H'[i]? =H[i]?) (hb:aS v≠b' ∨aS v=none):Sl H' v sz l:=by
 rcases h with h| ⟨a,n,cap,rfl,h1,h2,h3⟩
 ·exact .inl h
 ·refine .inr ⟨a,n,cap,rfl,h1,h2,fun i w hw=>?_⟩
  have hc:=h3 i w hw;have Bb: (a.add i).block=a.block:=by unfold Addr.add;split<;>rfl
  unfold cellAt at hc ⊢;rw [Bb] at hc ⊢;have hl:a.block<H.size:=by
   rcases ag6 a.block H.size with h' |h'
   ·exact h'
   ·rw [ahH h'] at hc;cases hc
  rw [hx a.block hl (by
   rcases hb with hb|hb
   ·exact fun e=>hb (by rw [e];rfl)
   ·simp [aS] at hb)]
  exact hc
structure wA (sz:Nat) (H0 H:ai) (a b:Value) (la lb:List Value):Prop where
 oa:kI H a sz la
 ob:kI H b sz lb
 ext:Ext H0 H
 fa: ∀k,aS a=some k→H0.size≤k
 fb: ∀k,aS b=some k→H0.size≤k
 sep: ∀k,aS a=some k→aS b≠some k
theorem wA.symm {sz:Nat} {H0 H:ai} {a b:Value} {la lb:List Value} (h:wA sz H0 H a b la lb):wA sz H0 H b a lb la:=
 ⟨h.ob,h.oa,h.ext,h.fb,h.fa,fun k hk gE =>h.sep k gE hk⟩
theorem wA.more {sz:Nat} {H0 H H' :ai} {a b:Value} {la lb:List Value} (h:wA sz H0 H a b la lb) (hx:Ext H H'):wA sz H0 H' a b la lb:=
 ⟨h.oa.ext hx,h.ob.ext hx,h.ext.trans hx,h.fa,h.fb,h.sep⟩
theorem wA.step {sz:Nat} {H0 H H' :ai} {a b a' :Value} {la lb la' :List Value} (h:wA sz H0 H a b la lb) (o:kI H' a' sz la') (hi: ∀i,i<H.size→aS a≠some i→H'[i]? =H[i]?) (hs:H.size≤H'.size) (hk:aS a' =aS a∨aS a' =some H.size):wA sz H0 H' a' b la' lb:=by
 refine⟨o,h.ob.other hi ?_,x9 h.ext h.fa hi hs,fun k e=>?_,h.fb,fun k e e' =>?_⟩
 ·cases hb:aS b with
  |none=>exact .inr rfl
  |some k=>exact .inl fun e=>h.sep k e.symm hb
 ·rcases hk with hk|hk
  ·exact h.fa k (hk ▸ e)
  ·rw [hk,agf] at e;have:=h.ext.size;omega
 ·rcases hk with hk|hk
  ·exact h.sep k (hk ▸ e) e'
  ·rw [hk,agf] at e;have:=h.ob.lt e';omega
theorem wA.append {sz bytes n:Nat} {H0 H:ai} {a b y:Value} {la lb new zero:List Value} {e:TypeId} {K:Value→ai→Prop} (h:wA sz H0 H a b la lb) (hz:0<sz) (hzero:zero.length=sz) (hy:Sl H y sz new) (hn:new.length=1*sz) (lF:new.all aK=true)
  (hl:la.length=n*sz) (lN:2* (n+1)*bytes≤281474976710656) (hk: ∀a' H',wA sz H0 H' a' b (la++new) lb→(∀i,i<H.size→aS a≠some i→H'[i]? =H[i]?)→K a' H'):bj H e sz bytes zero a y K:=
 kI.append h.oa hz hzero (hy.iJ hn hz) hy.cellsOf hl hn lF lN fun a' H' o i s k=>hk a' H' (h.step o i s k) i
end
section
theorem mG {n:Nat}: ∀ (L:List (List Value)),(∀r∈L,r.length=n)→L.flatten.length=L.length*n
 | [],_=>by simp
 |u::L,hl=>by
  have hu:=hl u (by simp);rw [ag0,af9,mG L (fun r hr=>hl r (by simp [hr])),hu,agi,ah4];omega
theorem EF {n:Nat} (hn:0<n): ∀ (L:List (List Value)) (k:Nat) (v:Value),(∀r∈L,r.length=n)→L.flatten[k]? =some v→∃r,L[k/n]? =some r∧r[k%n]? =some v
 | [],k,v,_,h=>by simp at h
 |u::L,k,v,hl,h=>by
  have hu:=hl u (by simp);rw [ag0] at h
  by_cases hk:k<n
  ·rw [agM (by omega)] at h
   exact⟨u,by rw [Nat.div_eq_of_lt hk];rfl,by rw [agp hk];exact h⟩
  ·rw [agQ (by omega),hu] at h
   obtain⟨r,h1,h2⟩:=EF hn L (k - n) v (fun r hr=>hl r (by simp [hr])) h;refine⟨r,?_,?_⟩
   ·rw [Nat.div_eq_sub_div hn (by omega)];exact h1
   ·rw [Nat.mod_eq_sub_mod (by omega)];exact h2
theorem Nq {n:Nat} {ds:List TypeDesc} (Ya:ds.length=n) {c:Nat→Option Value} (h:rq ds c): ∃r:List Value,r.length=n∧rq ds (fun j=>r[j]?)∧∀j,j<n→r[j]? =c j:=by
 refine⟨(List.range n).map fun j=> (c j).getD undef,by simp,?_,?_⟩
 ·intro j d hj
  have cF:j<n:=by rw [←Ya];exact(agD.1 hj).1
  obtain⟨v,hv,hk⟩:=h j d hj;exact⟨v,by simp [agu,aho cF,hv],hk⟩
 ·intro j hj
  obtain⟨v,hv,_⟩:=h j _ (agb (by omega))
  simp [agu,aho hj,hv]
theorem kH.rows {ds:List TypeDesc} {H:ai} {a:Option Addr} {len cap:Nat} (h:kH ds H a len cap) (hn:0<ds.length):
  ∃L:List (List Value),L.length=len∧len≤maxLen∧(∀r∈L,r.length=ds.length)∧(∀r∈L,rq ds fun j=>r[j]?)∧Sl H (.slice a len cap) ds.length L.flatten:=by
 rcases h with ⟨rfl,rfl,rfl⟩ | ⟨x,rfl,hl,hm,hf⟩
 ·exact⟨[],rfl,agK _,by simp,by simp,.inl ⟨rfl,rfl⟩⟩
 ·have key: ∀m,m≤len→∃L:List (List Value),L.length=m∧(∀r∈L,r.length=ds.length)∧(∀r∈L,rq ds fun j=>r[j]?)∧∀i r,L[i]? =some r→∀j,j<ds.length→r[j]? =cellAt H (x.add (i*ds.length+j)):=by
   intro m
   induction m with
   |zero=>intro _;exact⟨[],rfl,by simp,by simp,by simp⟩
   |succ m ih=>
    intro hm;obtain⟨L,h1,h2,h3,h4⟩:=ih (by omega);obtain⟨r,wz,Cw,Us⟩:=Nq rfl (hf m (by omega));refine⟨L++ [r],by simp [h1],?_,?_,?_⟩
    ·intro s hs;rcases agv.1 hs with hs|hs
     ·exact h2 s hs
     ·simp only [agH] at hs;subst hs;exact wz
    ·intro s hs;rcases agv.1 hs with hs|hs
     ·exact h3 s hs
     ·simp only [agH] at hs;subst hs;exact Cw
    ·intro i s hs j hj
     by_cases hi:i<m
     ·rw [agM (by omega)] at hs
      exact h4 i s hs j hj
     ·rw [agQ (by omega)] at hs
      have JG:i=m:=by
       rcases ag6 m i with h' |h'
       ·rw [agq (by simp;omega)] at hs;cases hs
       ·omega
      subst JG;rw [h1,ahB,agB,agf] at hs;subst hs;exact Us j hj
  obtain⟨L,h1,h2,h3,h4⟩:=key len (aga _);refine⟨L,h1,by omega,h2,h3,.inr ⟨x,len,cap,rfl,by rw [mG L h2,h1],hl,fun k v hv=>?_⟩⟩;obtain⟨r,wz,Cw⟩:=EF hn L k v h2 hv;have:=h4 _ r wz (k%ds.length) (ag5 _ hn);rw [Cw] at this;rw [this]
  congr 2
  rw [agT];exact(Nat.div_add_mod k ds.length).symm
end
section
structure Keys (α:Type) (kind:Nat) where
 κ:α→Value
 dec:DecidableEq α
 eq: ∀a b:α,kT kind (κ a) (κ b)=some (@decide (a=b) (dec a b))
def fq (k:IntKind):Keys Int 0:= ⟨.int k,inferInstance,fun a b=>by simp [kT]⟩
def strKeys:Keys (List UInt8) 1:= ⟨fun l=>str l,inferInstance,fun a b=>by simp [kT]⟩
theorem Keys.inj {α:Type} {kind:Nat} (κ:Keys α kind) {a b:α} (h:κ.κ a=κ.κ b):a=b:=by
 have h1:=κ.eq a b;rw [h,κ.eq b b,@decide_eq_true (b=b) (κ.dec b b) rfl] at h1;simp only [agf] at h1;exact @of_decide_eq_true (a=b) (κ.dec a b) h1.symm
def cZ {α:Type} {kind:Nat} (κ:Keys α kind) (H:ai) (r:Nat) (m:α→Option Value):Prop:=
 ∃ (es:Array MapEntry) (clock:Nat) (ks:List α),H[r]? =some (.map es clock)∧MapKept.Stamped es clock∧es.toList.map (·.key)=ks.map κ.κ∧ks.Nodup∧
  (∀ (j:Nat) (e:MapEntry) (k:α),es.toList[j]? =some e→ks[j]? =some k→m k=some e.val)∧∀k,k∉ks→m k=none
section
variable {α:Type} {kind:Nat} {κ:Keys α kind}
theorem sK {k:α}: ∀ (l:List MapEntry) (ks:List α) (i:Nat),l.map (·.key)=ks.map κ.κ→k∉ks→ko kind (κ.κ k) l i=some none
 | [],ks,i,_,_=>rfl
 |e::l,[],i,h,_=>by simp at h
 |e::l,a::ks,i,h,hk=>by
  simp only [aha,ahE] at h;have df:k≠a:=fun e=>hk (by simp [e]);have hd: @decide (k=a) (κ.dec k a)=false:=by
   cases Qw:κ.dec k a with
   |isTrue ht=>exact absurd ht df
   |isFalse hf=>rfl
  simp only [ko,h.1,κ.eq,hd];exact sK l ks (i+1) h.2 (fun h' =>hk (by simp [h']))
theorem qg {k:α}: ∀ (l:List MapEntry) (ks:List α) (i:Nat),l.map (·.key)=ks.map κ.κ→k∈ks→∃ (j:Nat) (e:MapEntry),l[j]? =some e∧ks[j]? =some k∧ko kind (κ.κ k) l i=some (some (i+j,e.val))
 | [],[],i,_,hk=>by simp at hk
 | [],a::ks,i,h,_=>by simp at h
 |e::l,[],i,h,_=>by simp at h
 |e::l,a::ks,i,h,hk=>by
  simp only [aha,ahE] at h
  by_cases he:k=a
  ·subst he
   have hd: @decide (k=k) (κ.dec k k)=true:=by
    cases Qw:κ.dec k k with
    |isTrue ht=>rfl
    |isFalse hf=>exact absurd rfl hf
   refine⟨0,e,rfl,rfl,?_⟩;show (match kT kind (κ.κ k) e.key with|some true=>some (some (i,e.val)) |some false=>ko kind (κ.κ k) l (i+1) |none=>none)=_;rw [h.1,κ.eq,hd]
   rfl
  ·have hd: @decide (k=a) (κ.dec k a)=false:=by
    cases Qw:κ.dec k a with
    |isTrue ht=>exact absurd ht he
    |isFalse hf=>rfl
   obtain⟨j,e',h1,h2,h3⟩:=qg l ks (i+1) h.2 (by
    rcases ago.1 hk with h' |h'
    ·exact absurd h' he
    ·exact h')
   refine⟨j+1,e',h1,h2,?_⟩;simp only [ko,h.1,κ.eq,hd];rw [h3,show i+1+j=i+ (j+1) by omega]
variable {H:ai} {r:Nat} {m:α→Option Value}
theorem cZ.ext {H' :ai} (h:cZ κ H r m) (hx:Ext H H'):cZ κ H' r m:=by
 obtain⟨es,c,ks,h1,h2⟩:=h;exact⟨es,c,ks,hx.fZ h1,h2⟩
theorem cZ.sI {H' :ai} (h:cZ κ H r m) (hx:H'[r]? =H[r]?):cZ κ H' r m:=by
 obtain⟨es,c,ks,h1,h2⟩:=h;exact⟨es,c,ks,hx.trans h1,h2⟩
theorem cZ.lt (h:cZ κ H r m):r<H.size:=by
 obtain⟨es,c,ks,h1,h2⟩:=h;exact bq h1
theorem cZ.lookup (h:cZ κ H r m) {k:α} {zero:Value} {ok:Bool} {K:Value→Prop} (hk:K (bif ok then .tuple #[(m k).getD zero,.bool (m k).isSome] else (m k).getD zero)):fT H kind zero ok (.map (some r)) (κ.κ k) K:=by
 obtain⟨es,c,ks,h1,jM,h2,h3,h4,h5⟩:=h
 by_cases hm:k∈ks
 ·obtain⟨j,e,g1,g2,g3⟩:=qg (κ:=κ) es.toList ks 0 h2 hm
  simp only [fT,mq,h1,g3];rw [h4 j e k g1 g2] at hk;exact hk
 ·simp only [fT,mq,h1,sK (κ:=κ) es.toList ks 0 h2 hm]
  rw [h5 k hm] at hk;exact hk
def rr (κ:Keys α kind) (m:α→Option Value) (k:α) (v:Option Value):α→Option Value:=fun x=>if @decide (x=k) (κ.dec x k)=true then v else m x
theorem kJ (k:α) (v:Option Value):rr κ m k v k=v:=by
 unfold rr;rw [if_pos]
 cases Qw:κ.dec k k with
 |isTrue ht=>rfl
 |isFalse hf=>exact absurd rfl hf
theorem jP {k x:α} (v:Option Value) (h:x≠k):rr κ m k v x=m x:=by
 unfold rr;rw [if_neg]
 cases Qw:κ.dec x k with
 |isTrue ht=>exact absurd ht h
 |isFalse hf=>exact Bool.false_ne_true
theorem mH {ks:List α} (h:ks.Nodup) {i j:Nat} {k:α} (hi:ks[i]? =some k) (hj:ks[j]? =some k):i=j:=by
 exact(List.getElem?_inj (agD.1 hi).1 h).1 (hi.trans hj.symm)
theorem Bh {β γ:Type} (f:β→γ) (l:List β) (j:Nat): (l.eraseIdx j).map f= (l.map f).eraseIdx j:=by
 apply agX;intro i;simp only [agu,aiJ]
 split<;>rfl
theorem cZ.set (h:cZ κ H r m) {k:α} {v:Value} {KE:Value→ai→Prop} (hk: ∀H',cZ κ H' r (rr κ m k (some v))→H'.size=H.size→(∀i,i≠r→H'[i]? =H[i]?)→KE undef H'):ie H kind (.map (some r)) (κ.κ k) v KE:=by
 have hr:=h.lt;obtain⟨es,c,ks,h1,jM,h2,h3,h4,h5⟩:=h
 by_cases hm:k∈ks
 ·obtain⟨j,e,g1,g2,g3⟩:=qg (κ:=κ) es.toList ks 0 h2 hm
  rw [ags] at g3;simp only [ie,h1,g3];refine hk _ ⟨_,c,ks,bN hr,?_,?_,h3,?_,?_⟩ (by simp) (fun i hi=>cD (ahh hi))
  ·refine MapKept.stamped_modify jM j _ (fun _ _=>rfl) (fun e' _ Um =>?_)
   have h1' :es[j]? =some e:=by rw [←Array.getElem?_toList];exact g1
   rw [h1',agf] at Um;subst Um;have: (ks.map κ.κ)[j]? =some (κ.κ k):=by simp [g2]
   rw [←h2,agu,g1] at this;simp only [ahD,agf] at this;exact this.symm
  ·rw [←h2]
   apply agX;intro i;simp only [Array.toList_modify,agu,List.getElem?_modify]
   by_cases JH:j=i
   ·subst JH
    rw [g1];have: (ks.map κ.κ)[j]? =some (κ.κ k):=by simp [g2]
    rw [←h2,agu,g1] at this;simp only [ahD,agf] at this
    simp [this]
   ·simp only [if_neg JH];cases es.toList[i]? <;>rfl
  ·intro i e' k' he gE
   rw [Array.toList_modify,List.getElem?_modify] at he
   by_cases JH:j=i
   ·subst JH
    rw [g2,agf] at gE;subst gE;rw [kJ];rw [g1] at he
    simp at he
    rw [←he]
   ·have df:k' ≠k:=fun e=>JH (mH h3 g2 (e ▸ gE))
    rw [jP _ df];have:es.toList[i]? =some e' :=by
     simp only [if_neg JH] at he
     cases hh:es.toList[i]? with
     |none=>rw [hh] at he;cases he
     |some x=>rw [hh] at he;simpa using he
    exact h4 i e' k' this gE
  ·intro x hx
   rw [jP _ (show x≠k from fun e=>hx (by rw [e];exact hm))];exact h5 x hx
 ·simp only [ie,h1,sK (κ:=κ) es.toList ks 0 h2 hm]
  refine hk _ ⟨_,c+1,ks++ [k],bN hr,MapKept.stamped_push jM (fun x hx e=>hm (by
   have h' :x.key∈es.toList.map (fun y=>y.key):=agP.2 ⟨x,hx,rfl⟩;rw [h2,e] at h';obtain⟨a,ha,hae⟩:=agP.1 h';rw [←κ.inj hae];exact ha)),by simp [h2],?_,?_,?_⟩ (by simp) (fun i hi=>cD (ahh hi))
  ·rw [aju]
   exact⟨h3,by simp,fun a ha b hb=>by simp only [agH] at hb;subst hb;intro e;exact hm (e ▸ ha)⟩
  ·have hlen:es.toList.length=ks.length:=by have:=congrArg List.length h2;simpa using this
   intro i e' k' he gE;rw [Array.toList_push] at he
   by_cases hi:i<ks.length
   ·rw [agM (by omega)] at he gE
    have df:k' ≠k:=fun e=>hm (e ▸ ag9 gE);rw [jP _ df];exact h4 i e' k' he gE
   ·rw [agQ (by omega)] at he gE
    have JG:i=ks.length:=by
     rcases ag6 ks.length i with h' |h'
     ·rw [agq (by simp;omega)] at gE;cases gE
     ·omega
    subst JG;rw [ahB,agB,agf] at gE;rw [hlen,ahB,agB,agf] at he;subst gE;rw [kJ,←he]
  ·intro x hx
   have:x≠k:=fun e=>hx (by simp [e]);rw [jP _ this];exact h5 x (fun h' =>hx (by simp [h']))
theorem cZ.delete (h:cZ κ H r m) {k:α} {KE:Value→ai→Prop} (hk: ∀H',cZ κ H' r (rr κ m k none)→H'.size=H.size→(∀i,i≠r→H'[i]? =H[i]?)→KE (.tuple #[]) H'):lK H kind (.map (some r)) (κ.κ k) KE:=by
 have hr:=h.lt;obtain⟨es,c,ks,h1,jM,h2,h3,h4,h5⟩:=h
 by_cases hm:k∈ks
 ·obtain⟨j,e,g1,g2,g3⟩:=qg (κ:=κ) es.toList ks 0 h2 hm
  rw [ags] at g3;have hj:j<es.size:=by have:= (agD.1 g1).1;simpa using this
  simp only [lK,h1,g3];have he: (es.eraseIdxIfInBounds j).toList=es.toList.eraseIdx j:=by
   rw [Array.eraseIdxIfInBounds,dif_pos hj]
   simp
  refine hk _ ⟨_,c,ks.eraseIdx j,bN hr,MapKept.stamped_erase jM j,?_,h3.eraseIdx j,?_,?_⟩ (by simp) (fun i hi=>cD (ahh hi))
  ·rw [he,Bh,h2,←Bh]
  ·intro i e' k' hi gE
   rw [he,aiJ] at hi;rw [aiJ] at gE;have pc: ∃i',i' ≠j∧es.toList[i']? =some e' ∧ks[i']? =some k' :=by
    by_cases JH:i<j
    ·rw [if_pos JH] at hi gE;exact⟨i,by omega,hi,gE⟩
    ·rw [if_neg JH] at hi gE;exact⟨i+1,by omega,hi,gE⟩
   obtain⟨i',Yd,q1,q2⟩:=pc;have df:k' ≠k:=fun e=>Yd (mH h3 (e ▸ q2) g2);rw [jP _ df];exact h4 i' e' k' q1 q2
  ·intro x hx
   by_cases RX:x=k
   ·subst RX;exact kJ _ _
   ·rw [jP _ RX]
    refine h5 x (fun dz=>hx ?_);obtain⟨i,hi⟩:=ahI dz;have JH:i≠j:=fun e=>by subst e;rw [g2,agf] at hi;exact RX hi.symm
    rw [List.mem_iff_getElem?]
    by_cases cF:i<j
    ·exact⟨i,by rw [aiJ,if_pos cF];exact hi⟩
    ·exact⟨i - 1,by rw [aiJ,if_neg (by omega),show i - 1+1=i by omega];exact hi⟩
 ·simp only [lK,h1,sK (κ:=κ) es.toList ks 0 h2 hm]
  refine hk H ⟨es,c,ks,h1,jM,h2,h3,fun j e k' he gE =>?_,fun x hx=>?_⟩ rfl (fun _ _=>rfl)
  ·rw [jP _ (show k' ≠k from fun e=>hm (by rw [←e];exact ag9 gE))];exact h4 j e k' he gE
  ·by_cases RX:x=k
   ·subst RX;exact kJ _ _
   ·rw [jP _ RX];exact h5 x hx
theorem cZ.clear (h:cZ κ H r m) {KE:Value→ai→Prop} (hk: ∀H',cZ κ H' r (fun _=>none)→H'.size=H.size→(∀i,i≠r→H'[i]? =H[i]?)→KE (.tuple #[]) H'):nq H (.map (some r)) KE:=by
 have hr:=h.lt;obtain⟨es,c,ks,h1,jM,h2,h3,h4,h5⟩:=h;simp only [nq,h1];exact hk _ ⟨#[],c,[],bN hr,MapKept.stamped_empty _,rfl,ah_,by simp,fun _ _=>rfl⟩ (by simp) (fun i hi=>cD (ahh hi))
theorem mI (κ:Keys α kind) {KE:Value→ai→Prop} (hk: ∀H',cZ κ H' H.size (fun _=>none)→Ext H H' →H'.size=H.size+1→KE (.map (some H.size)) H'):mr H KE:=
 hk _ ⟨#[],0,[],bW,MapKept.stamped_empty _,rfl,ah_,by simp,fun _ _=>rfl⟩ (Ext.refl H).push (by simp)
theorem cZ.len (h:cZ κ H r m) {K:Value→Prop} (hk: ∀ks:List α,ks.Nodup→(∀k,k∈ks↔(m k).isSome=true)→K (.int .i64 (ks.length:Int))):Jt H (.map (some r)) K:=by
 obtain⟨es,c,ks,h1,jM,h2,h3,h4,h5⟩:=h;have hl:es.size=ks.length:=by have:=congrArg List.length h2;simpa using this
 simp only [Jt,h1,hl];refine hk ks h3 fun k=> ⟨fun hm=>?_,fun hm=>?_⟩
 ·obtain⟨j,hj⟩:=ahI hm
  have Aw:= (agD.1 hj).1;have he:es.toList[j]? =some (es.toList[j]'(by simp;omega)):=agb _;rw [h4 j _ k he hj];rfl
 ·rcases Classical.em (k∈ks) with h' |h'
  ·exact h'
  ·rw [h5 k h'] at hm;cases hm
def Iter {α:Type} {kind:Nat} (κ:Keys α kind) (H:ai) (it r:Nat) (m:α→Option Value) (done:List α):Prop:=
 ∃ (es:Array MapEntry) (clock:Nat) (ks:List α) (seen:Array Nat) (c0:Nat),H[it]? =some (.mapIter (some r) clock seen c0)∧clock≤c0∧H[r]? =some (.map es clock)∧MapKept.Stamped es clock∧
  es.toList.map (·.key)=ks.map κ.κ∧ks.Nodup∧
  (∀ (j:Nat) (e:MapEntry) (k:α),es.toList[j]? =some e→ks[j]? =some k→m k=some e.val)∧(∀k,k∉ks→m k=none)∧done.Nodup∧
  (∀ (j:Nat) (e:MapEntry) (k:α),es.toList[j]? =some e→ks[j]? =some k→(seen.contains e.born=true↔k∈done))∧(∀k,k∈done→k∈ks)∧
  ∀k,done.getLast? =some k→c0=clock∧∃ (j:Nat) (e:MapEntry),es.toList[j]? =some e∧ks[j]? =some k∧seen.back? =some e.born
def eF (H:ai) (it:Nat):Nat:=match H[it]? with
 |some (.mapIter (some r) _ seen _)=> (match H[r]? with
  |some (.map es _)=> (leftOf es seen).size
  |_=>0)
 |_=>0
theorem Iter.map {it:Nat} {done:List α} (h:Iter κ H it r m done):cZ κ H r m:=by
 obtain⟨es,clock,ks,seen,c0,g1,g2,g3,g4,g5,g6,g7,g8,g9,g10,g11⟩:=h;exact⟨es,clock,ks,g3,g4,g5,g6,g7,g8⟩
theorem Iter.lt {it:Nat} {done:List α} (h:Iter κ H it r m done):it<H.size:=by
 obtain⟨es,clock,ks,seen,c0,g1,_⟩:=h;exact bq g1
theorem Iter.sI {it:Nat} {done:List α} {H' :ai} (h:Iter κ H it r m done) (h1:H'[it]? =H[it]?) (h2:H'[r]? =H[r]?):Iter κ H' it r m done:=by
 obtain⟨es,clock,ks,seen,c0,g1,g2,g3,g4⟩:=h;exact⟨es,clock,ks,seen,c0,h1.trans g1,g2,h2.trans g3,g4⟩
theorem Ax {it:Nat} {done:List α} {H' :ai} (h:Iter κ H it r m done) (h1:H'[it]? =H[it]?) (h2:H'[r]? =H[r]?):eF H' it=eF H it:=by
 obtain⟨es,clock,ks,seen,c0,g1,g2,g3,g4⟩:=h;simp only [eF,h1,g1,h2,g3]
theorem Iter.nodup {it:Nat} {done:List α} (h:Iter κ H it r m done):done.Nodup:=by
 obtain⟨es,clock,ks,seen,c0,g1,g2,g3,g4,g5,g6,g7,g8,g9,g10⟩:=h;exact g9
theorem Iter.Qx {it:Nat} {done:List α} (h:Iter κ H it r m done) {k:α} (hk:k∈done): (m k).isSome=true:=by
 obtain⟨es,clock,ks,seen,c0,g1,g2,g3,g4,g5,g6,g7,g8,g9,g10,g11,g12⟩:=h;obtain⟨j,hj⟩:=ahI (g11 k hk);have hl:es.size=ks.length:=by have:=congrArg List.length g5;simpa using this
 have Aw:= (agD.1 hj).1;rw [g7 j _ k (agb (by simp;omega)) hj];rfl
def Nr (P:Program) (t:TypeId):Bool:=match P.underlying t with
 |some (.map _ _)=>true
 |_=>false
theorem cZ.range [Go.Vc.Mode] {P:Program} (h:cZ κ H r m) {t:TypeId} (ht:Nr P t=true) {K:Value→ai→Prop} (hk: ∀H',Ext H H' →H'.size=H.size+1→Iter κ H' H.size r m []→K (.pointer (some ⟨H.size,0,none⟩)) H'):tW H P (Instr.range t (.map (some r))) K:=by
 obtain⟨es,c,ks,h1,jM,h2,h3,h4,h5⟩:=h;intro w hw;subst hw;obtain⟨k,e,ht⟩: ∃k e,P.underlying t=some (.map k e):=by
  unfold Nr at ht
  split at ht
  ·exact⟨_,_,by assumption⟩
  ·cases ht
 rw [run_range_map w t k e r es c ht h1];have hx:Ext w.heap (w.heap.push (.mapIter (some r) c #[] c)):= (Ext.refl _).push;refine⟨⟨rfl,rfl,rfl,fun _=>by first|exact aga _|exact agG _⟩,hk _ hx (by simp) ⟨es,c,ks,#[],c,bW,aga _,hx.fZ h1,jM,h2,h3,h4,h5,ah_,?_,by simp,by simp⟩⟩;intro j e k _ _
 simp
theorem filter_none {α:Type} {p:α→Bool} {L:Array α} (h: (L.filter p).size=0): ∀x∈L.toList,p x=false:=by
 intro x hx;have h2:L.filter p= #[]:=ajN h;rw [ajO] at h2;have:=h2 x (Array.mem_toList_iff.1 hx)
 simpa using this
theorem Iter.next [Go.Vc.Mode] {P:Program} {it:Nat} {done:List α} (h:Iter κ H it r m done) {ty:TypeId} {K:Value→ai→Prop} (Ns: (∀k,(m k).isSome=true→k∈done)→K (.tuple #[.bool false]) H)
  (hk: ∀k v H',k∉done→m k=some v→Iter κ H' it r m (done++ [k])→(∀i,i≠it→H'[i]? =H[i]?)→H'.size=H.size→eF H' it<eF H it→K (.tuple #[.bool true,κ.κ k,v]) H'):tW H P (Instr.next (.pointer (some ⟨it,0,none⟩)) false ty) K:=by
 have cF:=h.lt;obtain⟨es,clock,ks,seen,c0,g1,g2,g3,g4,g5,g6,g7,g8,g9,g10,g11,g12⟩:=h;have hlen:es.size=ks.length:=by have:=congrArg List.length g5;simpa using this
 intro w hw;subst hw;have hold:=g4.1;simp only [Instr.next,getObj,Sem.run_bind,Sem.run,g1,g3,Result.andThen,next_test_false seen es clock c0 hold g2,ahe,if_false];have Vm:Array.filter (fun e=> !seen.contains e.born) es=leftOf es seen:=rfl;rw [Vm];have wB: ∀x∈(leftOf es seen).toList,x.born<clock:=fun x hx=>hold x (mem_left hx).1;have e1: (leftOf es seen).filter (fun x=>decide (x.born<clock))=leftOf es seen:=Array.filter_eq_self.2 (fun x hx=>by simpa using wB x (by simpa using hx));have e2: (leftOf es seen).filter (fun x=>decide (x.born≥clock))= #[]:=by
  rw [ajO];intro x hx;have:=wB x (by simpa using hx)
  simp
  omega
 simp only [e1,e2,Array.append_empty]
 by_cases h0: (leftOf es seen).size=0
 ·have hL:leftOf es seen= #[]:=ajN h0
  rw [hL]
  simp [choose,Sem.run,Question.forced]
  refine⟨⟨rfl,rfl,rfl,fun _=>by first|exact aga _|exact agG _⟩,Ns fun k hk=>?_⟩;rcases Classical.em (k∈ks) with hm|hm
  ·obtain⟨j,hj⟩:=ahI hm
   have Aw:= (agD.1 hj).1;have he:es.toList[j]? =some (es.toList[j]'(by simp;omega)):=agb _;have hns:=filter_none h0 (es.toList[j]'(by simp;omega)) (agj _);simp only [Bool.not_eq_false'] at hns;exact(g10 j _ k he hj).1 hns
  ·rw [g8 k hm] at hk;cases hk
 ·have df: (leftOf es seen).isEmpty=false:=by simp [Array.isEmpty,h0]
  simp only [df,ahe,if_false,Array.empty_append,Array.size_map];have hch: ∃ (j:Nat) (w1:World),j< (leftOf es seen).size∧(w1.Alike w∧w1.tape=w.tape∧w.drawn≤w1.drawn)∧(choose (Question.mapNext (leftOf es seen).size)).run P w= .ok j w1:=by
   by_cases hf: (leftOf es seen).size≤1
   ·exact⟨0,w,by omega,⟨⟨rfl,rfl,rfl⟩,rfl,aga _⟩,by simp [choose,Sem.run,Question.forced,hf]⟩
   ·exact⟨_,w.drew,ag5 _ (by omega),⟨⟨rfl,rfl,rfl⟩,rfl,agG _⟩,by
     simp only [choose,Sem.run,Question.forced,decide_eq_true_eq,hf,if_false,Question.cut]
     rfl⟩
  obtain⟨j,w1,hj,⟨Cx,htp,Ye⟩,fY⟩:=hch;have S6: (setObj it (.mapIter (some r) clock (seen.push (leftOf es seen)[j].born) clock)).run P w1= .ok () {w1 with heap:=w1.heap.setIfInBounds it (.mapIter (some r) clock (seen.push (leftOf es seen)[j].born) clock)}:=by
   simp only [setObj,Sem.run];rw [Cx.1,g1]
  simp only [fY,Array.getElem?_map,aiG hj,ahD,Sem.run_bind,S6,Result.andThen];have dz: (leftOf es seen)[j]∈(leftOf es seen).toList:=by simp
  have S7:=mem_left dz;obtain⟨j',Hg⟩:=ahI S7.1;have Yf:j' <ks.length:=by have:= (agD.1 Hg).1;simp at this;omega
  have Qj:ks[j']? =some ks[j']:=agb Yf;have S8: (leftOf es seen)[j].key=κ.κ ks[j']:=by
   have h' : (es.toList.map (·.key))[j']? =some (leftOf es seen)[j].key:=by rw [agu,Hg];rfl
   rw [g5,agu,Qj] at h'
   simpa using h'.symm
  have SU:ks[j'] ∉done:=fun hd=>by
   have:= (g10 j' _ _ Hg Qj).2 hd;rw [S7.2] at this;cases this
  refine⟨⟨by rw [Cx.2.1],by rw [Cx.2.2],by rw [htp],fun _=>Ye⟩,?_⟩;show K (.tuple #[.bool true,(leftOf es seen)[j].key,(leftOf es seen)[j].val]) (w1.heap.setIfInBounds it _);rw [S8,Cx.1];have Vn:it≠r:=fun e=>by subst e;rw [g1] at g3;cases g3
  refine hk ks[j'] _ _ SU (g7 j' _ _ Hg Qj) ⟨es,clock,ks,_,clock,bN cF,aga _,(cD Vn).trans g3,g4,g5,g6,g7,g8,?_,?_,?_,?_⟩ (fun i hi=>cD (ahh hi)) (by simp) ?_
  ·rw [aju]
   exact⟨g9,by simp,fun a ha b hb=>by simp only [agH] at hb;subst hb;intro e;exact SU (e ▸ ha)⟩
  ·intro i e k he gE
   rw [contains_push,ahg,g10 i e k he gE,agv,agH,beq_iff_eq]
   constructor
   ·rintro(h' |h')
    ·exact .inl h'
    ·right
     have:=born_inj g4.2.1 (ag9 he) S7.1 h';subst this;have Yg:i=j' :=by
      have hn:es.toList.Nodup:=by
       have:=g4.2.1;exact List.Pairwise.of_map (f:=fun x:MapEntry=>x.born) (fun a b Yh e=>Yh (by rw [e])) this
      exact mH hn he Hg
     subst Yg;rw [Qj,agf] at gE;exact gE.symm
   ·rintro(h' |h')
    ·exact .inl h'
    ·right
     rw [h'] at gE;have Yg:=mH g6 gE Qj;subst Yg;rw [he,agf] at Hg;rw [Hg]
  ·intro k gE
   rcases agv.1 gE with h' |h'
   ·exact g11 k h'
   ·simp only [agH] at h';rw [h'];exact agj _
  ·intro k gE
   rw [List.getLast?_concat,agf] at gE;subst gE;exact⟨rfl,j',_,Hg,Qj,by simp⟩
  ·simp only [eF,bN cF,cD Vn,g3,g1]
   exact left_shrinks es seen _ dz
theorem Iter.entry [Go.Vc.Mode] {P:Program} {it:Nat} {done:List α} {k:α} {v:Value} (h:Iter κ H it r m (done++ [k])) (hv:m k=some v) {K:Value→ai→Prop} (hk:K (.tuple #[κ.κ k,v]) H):tW H P (Instr.entry (.pointer (some ⟨it,0,none⟩))) K:=by
 obtain⟨es,clock,ks,seen,c0,g1,g2,g3,g4,g5,g6,g7,g8,g9,g10,g11,g12⟩:=h;obtain⟨rfl,j,e,h1,h2,h3⟩:=g12 k (by simp);intro w hw;subst hw;have hf:es.find? (·.born==e.born)=some e:=by rw [←Array.find?_toList];exact find_born e es.toList g4.2.1 (ag9 h1)
 simp only [Instr.entry,getObj,Sem.run_bind,Sem.run,g1,g3,Result.andThen,h3,bne_self_eq_false,ahe,if_false,hf];have S8:e.key=κ.κ k:=by
  have h' : (es.toList.map (·.key))[j]? =some e.key:=by rw [agu,h1];rfl
  rw [g5,agu,h2] at h'
  simpa using h'.symm
 have EG:e.val=v:=by
  have:=g7 j e k h1 h2;rw [hv,agf] at this;exact this.symm
 refine⟨⟨rfl,rfl,rfl,fun _=>by first|exact aga _|exact agG _⟩,?_⟩;rw [S8,EG];exact hk
end
end
section
theorem xj {l m:List Value} (h:l.toArray=m.toArray):l=m:=by simpa using congrArg Array.toList h
def kl (H:ai) (b o:Nat) (cs:List Value):Prop:= ∃ (pre post:List Value) (t:TypeId),pre.length=o∧H[b]? =some (.cells (pre++cs++post).toArray t (0,0))
structure jB (b o n:Nat) (F F' :Nat→Prop) (H H' :ai):Prop where
 size:H.size≤H'.size
 ne: ∀i,i<H.size→i≠b→¬F i→H'[i]? =H[i]?
 fZ: ∀ (cs:List Value) (t:TypeId) (fr:Nat × Nat),H[b]? =some (.cells cs.toArray t fr)→∃EE :List Value,H'[b]? =some (.cells EE.toArray t fr)∧EE.length=cs.length∧∀j,(j<o∨o+n≤j)→EE[j]? =cs[j]?
 new: ∀k,F' k→F k∨H.size≤k
abbrev none_:Nat→Prop:=fun _=>False
abbrev lG (v:Value):Nat→Prop:=fun k=>aS v=some k
theorem jB.refl {b o n:Nat} {F:Nat→Prop} {H:ai}:jB b o n F F H H:= ⟨aga _,fun _ _ _ _=>rfl,fun cs t fr h=> ⟨cs,h,rfl,fun _ _=>rfl⟩,fun k h=> .inl h⟩
theorem jB.trans {b o n:Nat} {F F' F'' :Nat→Prop} {H H' Km :ai} (h:jB b o n F F' H H') (k:jB b o n F' F'' H' Km):jB b o n F F'' H Km :=
 ⟨agJ h.size k.size,fun i hi hb hF=> (k.ne i (ahj hi h.size) hb (fun e=>by
   rcases h.new i e with h' |h'
   ·exact hF h'
   ·omega)).trans (h.ne i hi hb hF),fun cs t fr hc=>by
  obtain⟨c1,h1,h2,h3⟩:=h.fZ cs t fr hc;obtain⟨c2,g1,g2,g3⟩:=k.fZ c1 t fr h1;exact⟨c2,g1,g2.trans h2,fun j hj=> (g3 j hj).trans (h3 j hj)⟩,fun i hi=>by
  rcases k.new i hi with h' |h'
  ·exact h.new i h'
  ·right;have:=h.size;omega⟩
theorem jB.SA {b o n:Nat} {F F' G G' :Nat→Prop} {H H' :ai} (h:jB b o n F F' H H') (h1: ∀k,F k→G k) (h2: ∀k,G' k→F' k∨G k∨H.size≤k):jB b o n G G' H H' :=
 ⟨h.size,fun i hi hb hG=>h.ne i hi hb (fun e=>hG (h1 i e)),h.fZ,fun k hk=>by
  rcases h2 k hk with h' |h' |h'
  ·rcases h.new k h' with S9 |S9
   ·exact .inl (h1 k S9)
   ·exact .inr S9
  ·exact .inl h'
  ·exact .inr h'⟩
theorem jB.any {b o n:Nat} {G:Nat→Prop} {H H' :ai} (h:jB b o n none_ none_ H H'):jB b o n G G H H' :=h.SA (fun _ h=>h.elim) (fun _ h=> .inr (.inl h))
theorem jB.wide {b o n o' n' :Nat} {F F' :Nat→Prop} {H H' :ai} (h:jB b o n F F' H H') (h1:o' ≤o) (h2:o+n≤o' +n'):jB b o' n' F F' H H' :=
 ⟨h.size,h.ne,fun cs t fr hc=>by
  obtain⟨c1,g1,g2,g3⟩:=h.fZ cs t fr hc;exact⟨c1,g1,g2,fun j hj=>g3 j (by omega)⟩,h.new⟩
theorem jB.ext {A H H' :ai} {b o n:Nat} {F F' :Nat→Prop} (h:jB b o n F F' H H') (hx:Ext A H) (hb:A.size≤b) (hF: ∀k,F k→A.size≤k):Ext A H' ∧∀k,F' k→A.size≤k:=
 ⟨⟨agJ hx.size h.size,fun i hi=> (h.ne i (ahj hi hx.size) (by omega) (fun e=>by have:=hF i e;omega)).trans (hx.get i hi)⟩,fun k hk=>by
  rcases h.new k hk with h' |h'
  ·exact hF k h'
  ·have:=hx.size;omega⟩
theorem jB.sI {b o n c:Nat} {F F' :Nat→Prop} {H H' :ai} {ob:Obj} (h:jB b o n F F' H H') (hc:H[c]? =some ob) (h1:c≠b) (h2: ¬F c):H'[c]? =some ob:= (h.ne c (bq hc) h1 h2).trans hc
theorem jB.sl {b o n sz:Nat} {F F' :Nat→Prop} {H H' :ai} {v:Value} {l:List Value} (h:jB b o n F F' H H') (hs:Sl H v sz l) (h1:aS v≠some b) (h2: ∀k,aS v=some k→¬F k):Sl H' v sz l:=by
 rcases hs with hs| ⟨a,m,cap,rfl,h3,h4,h5⟩
 ·exact .inl hs
 ·refine .inr ⟨a,m,cap,rfl,h3,h4,fun i w hw=>?_⟩
  have hc:=h5 i w hw;have Bb: (a.add i).block=a.block:=by unfold Addr.add;split<;>rfl
  unfold cellAt at hc ⊢;rw [Bb] at hc ⊢;have hl:a.block<H.size:=by
   rcases ag6 a.block H.size with h' |h'
   ·exact h'
   ·rw [ahH h'] at hc;cases hc
  rw [h.ne a.block hl (fun e=>h1 (by rw [←e];rfl)) (h2 a.block rfl)];exact hc
theorem jB.own {b o n sz:Nat} {F F' :Nat→Prop} {H H' :ai} {v:Value} {l:List Value} (h:jB b o n F F' H H') (hs:kI H v sz l) (h1:aS v≠some b) (h2: ∀k,aS v=some k→¬F k):kI H' v sz l:=by
 rcases hs with hs| ⟨c,m,cap,sp,rfl,⟨t,fr,hc,hf⟩,h3,h4⟩
 ·exact .inl hs
 ·exact .inr ⟨c,m,cap,sp,rfl,⟨⟨t,fr,h.sI hc (fun e=>h1 (by rw [←e];rfl)) (h2 c rfl),hf⟩,h3,h4⟩⟩
theorem kl.lt {H:ai} {b o:Nat} {cs:List Value} (h:kl H b o cs):b<H.size:=by obtain⟨_,_,_,_,h⟩:=h;exact bq h
theorem kl.ext {H H' :ai} {b o:Nat} {cs:List Value} (h:kl H b o cs) (hx:Ext H H'):kl H' b o cs:=by
 obtain⟨p,q,t,h1,h2⟩:=h;exact⟨p,q,t,h1,hx.fZ h2⟩
theorem kl.same {H H' :ai} {b o:Nat} {cs:List Value} (h:kl H b o cs) (hx:H'[b]? =H[b]?):kl H' b o cs:=by
 obtain⟨p,q,t,h1,h2⟩:=h;exact⟨p,q,t,h1,hx.trans h2⟩
theorem kl.cell {H:ai} {b o k:Nat} {cs:List Value} {v:Value} (h:kl H b o cs) (hk:cs[k]? =some v):cellAt H ⟨b,o+k,none⟩=some v:=by
 obtain⟨p,q,t,h1,h2⟩:=h;subst h1;have hl:= (agD.1 hk).1;rw [da h2,agO,agc,agQ (by omega),agM (by omega),show p.length+k - p.length=k by omega,hk]
theorem kl.cell0 {H:ai} {b o:Nat} {cs:List Value} {v:Value} (h:kl H b o cs) (hk:cs[0]? =some v):cellAt H ⟨b,o,none⟩=some v:=h.cell (k:=0) hk
theorem kl.part {H:ai} {b o:Nat} {x y z:List Value} (h:kl H b o (x++y++z)):kl H b (o+x.length) y:=by
 obtain⟨p,q,t,h1,h2⟩:=h;exact⟨p++x,z++q,t,by simp [h1],by rw [h2];simp [agc]⟩
theorem kl.whole {H H' :ai} {b o:Nat} {x y y' z:List Value} {F F' :Nat→Prop} (h:kl H b o (x++y++z)) (hc:jB b (o+x.length) y.length F F' H H') (hy:kl H' b (o+x.length) y') (hl:y'.length=y.length):kl H' b o (x++y' ++z):=by
 obtain⟨p,q,t,h1,h2⟩:=h;obtain⟨c,g1,g2,g3⟩:=hc.fZ _ _ _ h2;obtain⟨p',q',t',k1,k2⟩:=hy;rw [g1] at k2;simp only [agf,Obj.cells.injEq] at k2;obtain⟨k2,k3,-⟩:=k2;have k2:=xj k2;subst k3;refine⟨p,q,t,h1,?_⟩;rw [g1]
 congr 2
 subst h1;rw [k2] at g2 g3 ⊢;have e1:p' =p++x:=by
  apply agX;intro j
  by_cases hj:j<p'.length
  ·have:=g3 j (.inl (by omega))
   rw [agc p',agM hj] at this;rw [this,show p++ (x++y++z)++q= (p++x)++ (y++z++q) by simp [agc],agM (by simp;omega)]
  ·rw [agq (by omega),agq (by simp;omega)]
 have e2:q' =z++q:=by
  apply agX;intro j;have:=g3 (p.length+x.length+y.length+j) (.inr (by omega));rw [agQ (by simp;omega),show p.length+x.length+y.length+j - (p' ++y').length=j by simp;omega] at this;rw [this,show p++ (x++y++z)++q= (p++x++y)++ (z++q) by simp [agc],agQ (by simp;omega)]
  congr 1
  simp;omega
 rw [e1,e2]
 simp [agc]
theorem kl.all {H:ai} {b:Nat} {cs:List Value} {t:TypeId} (h:H[b]? =some (.cells cs.toArray t (0,0))):kl H b 0 cs:= ⟨[],[],t,rfl,by simpa using h⟩
theorem kl.S_ {H H' :ai} {b n:Nat} {cs EE :List Value} {t:TypeId} {F F' :Nat→Prop} (h:H[b]? =some (.cells cs.toArray t (0,0))) (hc:jB b 0 n F F' H H') (hy:kl H' b 0 EE) (hl:EE.length=cs.length):H'[b]? =some (.cells EE.toArray t (0,0)):=by
 obtain⟨c,g1,g2,g3⟩:=hc.fZ _ _ _ h;obtain⟨p',q',t',k1,k2⟩:=hy;have:p' = []:=by simpa using k1
 subst this;rw [g1] at k2;simp only [agf,Obj.cells.injEq,agn] at k2;obtain⟨k2,k3,-⟩:=k2;have k2:=xj k2;subst k3;have hq:q' = []:=by
  have:=congrArg List.length k2;rw [af9] at this;apply ajP;omega
 subst hq;rw [g1,k2,agy]
section
variable {H:ai} {KE:Value→ai→Prop} {b o k:Nat} {cs:List Value} {v:Value}
theorem JI {p q:List Value} {v:Value} (hk:k<cs.length): (p++cs++q).set (p.length+k) v=p++cs.set k v++q:=by
 rw [agc,ai6 _ _ (by omega),show p.length+k - p.length=k by omega,ai5 _ _ hk,agc]
theorem ft {n:Nat} {F:Nat→Prop} (h:kl H b o cs) (hn:n=cs.length) (hk:k<cs.length) (hv:aK v=true) (hK: ∀H',H'.size=H.size→kl H' b o (cs.set k v)→jB b o n F F H H' →KE undef H'):aF H (.pointer (some ⟨b,o+k,none⟩)) v KE:=by
 obtain⟨p,q,t,h1,h2⟩:=h;subst h1;rw [xW h2 (by simp;omega) hv];have hb:=bq h2;have e: ((p++cs++q).toArray.setIfInBounds (p.length+k) v)= (p++cs.set k v++q).toArray:=by rw [aiu,JI hk]
 rw [e];refine hK _ (by simp) ⟨p,q,t,rfl,bN hb⟩ ⟨by simp,fun i hi df _=>cD (ahh df),fun c t' fr hc=>?_,fun k h=> .inl h⟩;rw [h2] at hc;simp only [agf,Obj.cells.injEq] at hc;obtain⟨hc,rfl,rfl⟩:=hc;have hc:=xj hc;subst hc;refine⟨_,bN hb,by simp,fun j hj=>?_⟩;rw [←JI hk,aiv (by omega)]
theorem iC {n:Nat} {F:Nat→Prop} (h:kl H b o cs) (hn:n=cs.length) (hk:0<cs.length) (hv:aK v=true) (hK: ∀H',H'.size=H.size→kl H' b o (cs.set 0 v)→jB b o n F F H H' →KE undef H'):aF H (.pointer (some ⟨b,o,none⟩)) v KE:=
 ft (k:=0) h hn hk hv hK
end
theorem kI.Yi {H:ai} {v:Value} {l:List Value} {K:Value→Prop} (h:kI H v 1 l) (hk: ∀v',kI H v' 1 []→aS v' =aS v→K v'):fg 1 v none (some (.int .i64 0)) K:=by
 rcases h with ⟨rfl,rfl⟩ | ⟨b,n,cap,sp,rfl,⟨t,fr,hb,hf⟩,hl,hc⟩
 ·rw [gH,dc]
  exact⟨by decide,by decide,hk _ (.inl ⟨by simp,rfl⟩) rfl⟩
 ·rw [gH,dc]
  refine⟨by decide,by omega,?_⟩;have e: (if cap=0 then (some ⟨b,0,none⟩:Option Addr) else Option.map (fun x:Addr=>x.add (0*1)) (some (⟨b,0,none⟩:Addr)))=some ⟨b,0,none⟩:=by
   split
   ·rfl
   ·simp [Addr.add]
  rw [e];exact hk _ (.inr ⟨b,0,cap,l++sp,rfl,⟨⟨t,fr,by rw [agn];exact hb,hf⟩,by simp,by rw [agn];exact hc⟩⟩) rfl
theorem aP {a b:List UInt8} {K:Value→Prop} (h:a.length+b.length≤9223372036854775807) (hk:K (str (a++b))):aG (str a) (str b) K:=by
 rw [Hy,bu,bu,sF,sF];exact⟨h,hk⟩
section
variable {K:Value→Prop} {b o n:Nat} {k k' :IntKind} {a c:Int} {l:List UInt8} {p:Bool}
theorem ax (h:K (.pointer (some ⟨b,o+n,none⟩))):aa n (.pointer (some ⟨b,o,none⟩)) K:=by rw [ae,al];exact h
theorem b7 (h:K (.int k (k.wrap a))):bm k (.int k' a) K:=h
theorem aJ (h:K (.int .i64 (l.length:Int))):aX (str l) K:=by rw [qf,bu];exact h
theorem cJ {ad:Addr} (h:K (.pointer (some ad))):aB (.pointer (some ad)) K:=h
theorem gI (h:K (.bool !p)):e7 (.bool p) K:=h
theorem qh {m:List UInt8} (h:K (.bool (decide (l≠m)))):ea 1 (str l) (str m) K:=by rw [RV,bu,bu];exact h
theorem iW {m:List UInt8} (h:K (.bool (decide (l=m)))):cu 1 (str l) (str m) K:=by rw [Vi,bu,bu];exact h
theorem ag {vs:List Value} {v:Value} {i:Nat} (hv:vs[i]? =some v) (h:K v):aq i (.tuple vs.toArray) K:=by rw [iq,hv];exact h
theorem bg {x y:Option Value} {lo hi:Nat} (hx:x=some (.int .i64 (lo:Int))∨(x=none∧lo=0)) (hy:y=some (.int .i64 (hi:Int))∨(y=none∧hi=l.length)) (h1:lo≤hi) (h2:hi≤l.length) (h:K (str ((l.drop lo).take (hi - lo)))):a7 (str l) x y K:=by
 rw [mE,bu];rcases hx with rfl| ⟨rfl,rfl⟩<;>rcases hy with rfl| ⟨rfl,rfl⟩
 ·rw [ny];exact⟨by omega,by omega,by omega,by omega,by simpa using h⟩
 ·rw [jA];exact⟨by omega,by omega,by simpa using h⟩
 ·rw [dc];exact⟨by omega,by omega,by simpa using h⟩
 ·rw [xX];exact h
theorem KG {H:ai} {t:TypeId} {fr:Nat × Nat} {cs:Array Value} (h:H[b]? =some (.cells cs t fr)) (hn:cs.size=n) (hk:K (.agg cs)):aE H n (.pointer (some ⟨b,0,none⟩)) K:=by rw [cK h hn];exact hk
end
end
section
structure jl where
 cN:Nat→Prop
 holds:ai→Prop
 frame: ∀ {H H' :ai},holds H→(∀k,cN k→H'[k]? =H[k]?)→holds H'
 lt: ∀ {H:ai} {k:Nat},holds H→cN k→k<H.size
inductive It where
 |sl (v:Value) (sz:Nat) (l:List Value)
 |box (b:Nat) (cs:List Value) (t:TypeId)
 |aA (T:jl)
def It.cN:It→Nat→Prop
 | .sl v _ _=>fun k=>aS v=some k
 | .box b _ _=>fun k=>b=k
 | .aA T=>T.cN
def It.holds (H:ai):It→Prop
 | .sl v sz l=>0<sz∧kI H v sz l
 | .box b cs t=>H[b]? =some (.cells cs.toArray t (0,0))
 | .aA T=>T.holds H
theorem It.frame {H H' :ai} {i:It} (h:i.holds H) (hf: ∀k,i.cN k→H'[k]? =H[k]?):i.holds H' :=by
 cases i with
 |sl v sz l=>
  refine⟨h.1,?_⟩;rcases h.2 with h| ⟨b,n,cap,sp,rfl,⟨t,fr,hb,hfr⟩,hl,hc⟩
  ·exact .inl h
  ·exact .inr ⟨b,n,cap,sp,rfl,⟨⟨t,fr,(hf b rfl).trans hb,hfr⟩,hl,hc⟩⟩
 |box b cs t=>exact(hf b rfl).trans h
 |aA T=>exact T.frame h hf
theorem It.lt {H:ai} {i:It} {k:Nat} (h:i.holds H) (hf:i.cN k):k<H.size:=by
 cases i with
 |sl v sz l=>exact h.2.lt hf
 |box b cs t=>cases hf;exact bq h
 |aA T=>exact T.lt h hf
structure ar (H0 H:ai) (L:List It):Prop where
 ext:Ext H0 H
 ok: ∀i∈L,i.holds H
 new: ∀i∈L,∀k,i.cN k→H0.size≤k
 D0:L.Pairwise fun i j=> ∀k,i.cN k→¬j.cN k
variable {H0 H H' :ai} {L L' M:List It} {i i' :It}
theorem ar.start:ar H H []:= ⟨Ext.refl H,by simp,by simp,List.Pairwise.nil⟩
theorem ar.more (o:ar H0 H L) (hx:Ext H H'):ar H0 H' L:=
 ⟨o.ext.trans hx,fun i hi=>It.frame (o.ok i hi) fun k hk=>hx.get k (It.lt (o.ok i hi) hk),o.new,o.D0⟩
theorem ar.add (o:ar H0 H L) (hx:Ext H H') (hi:i.holds H') (hf: ∀k,i.cN k→H.size≤k):ar H0 H' (i::L):=by
 have o' :=o.more hx;refine⟨o'.ext,?_,?_,agC.2 ⟨fun j hj k hk gE =>?_,o.D0⟩⟩
 ·intro j hj;rcases ago.1 hj with rfl|hj
  ·exact hi
  ·exact o'.ok j hj
 ·intro j hj;rcases ago.1 hj with rfl|hj
  ·intro k hk;have:=hf k hk;have:=o.ext.size;omega
  ·exact o.new j hj
 ·have:=hf k hk;have:=It.lt (o.ok j hj) gE;omega
inductive aV (i i' :It):List It→List It→Prop
 |here {L:List It}:aV i i' (i::L) (i' ::L)
 |there {j:It} {L L' :List It}:aV i i' L L' →aV i i' (j::L) (j::L')
theorem aV.mem: ∀ {L L' :List It},aV i i' L L' →i∈L
 |_,_,.here=>af8
 |_,_,.there h=>af7 _ h.mem
theorem aV.Ta : ∀ {L L' :List It},aV i i' L L' →∀j∈L',j=i' ∨j∈L
 |_,_,.here,j,hj=>by
  rcases ago.1 hj with h|h
  ·exact .inl h
  ·exact .inr (af7 _ h)
 |_,_,.there h,j,hj=>by
  rcases ago.1 hj with h' |h'
  ·subst h';exact .inr af8
  ·rcases h.Ta j h' with S9 |S9
   ·exact .inl S9
   ·exact .inr (af7 _ S9)
theorem aV.D0 {n:Nat} (hf: ∀k,i'.cN k→i.cN k∨n≤k): ∀ {L L' :List It},aV i i' L L' →(∀j∈L,∀k,j.cN k→k<n)→L.Pairwise (fun i j=> ∀k,i.cN k→¬j.cN k)→L'.Pairwise (fun i j=> ∀k,i.cN k→¬j.cN k)
 |_,_,.here,hn,hd=>by
  rw [agC] at hd ⊢;refine⟨fun j hj k hk gE =>?_,hd.2⟩;rcases hf k hk with h|h
  ·exact hd.1 j hj k h gE
  ·have:=hn j (af7 _ hj) k gE;omega
 |_,_,.there (j:=j) h,hn,hd=>by
  rw [agC] at hd ⊢;refine⟨fun x hx k hk gE =>?_,h.D0 hf (fun x hx=>hn x (af7 _ hx)) hd.2⟩;rcases h.Ta x hx with rfl|hx
  ·rcases hf k gE with h' |h'
   ·exact hd.1 i h.mem k hk h'
   ·have:=hn j af8 k hk;omega
  ·exact hd.1 x hx k hk gE
theorem aV.rest {P:It→Prop} (hp:P i'): ∀ {L L' :List It},aV i i' L L' →(∀j∈L,(∀k,i.cN k→¬j.cN k)→P j)→L.Pairwise (fun i j=> ∀k,i.cN k→¬j.cN k)→∀j∈L',P j
 |_,_,.here,hn,hd,j,hj=>by
  rw [agC] at hd;rcases ago.1 hj with rfl|hj
  ·exact hp
  ·exact hn j (af7 _ hj) (hd.1 j hj)
 |_,_,.there (j:=j') h,hn,hd,j,hj=>by
  rw [agC] at hd;rcases ago.1 hj with rfl|hj
  ·exact hn j af8 (fun k hk gE =>hd.1 i h.mem k gE hk)
  ·exact h.rest hp (fun x hx=>hn x (af7 _ hx)) hd.2 j hj
theorem ar.eX (o:ar H0 H L) (r:aV i i' L L') (hs:H.size≤H'.size) (df: ∀k,k<H.size→¬i.cN k→H'[k]? =H[k]?) (hi:i'.holds H') (hf: ∀k,i'.cN k→i.cN k∨H.size≤k):ar H0 H' L' :=by
 have wB:=r.mem;refine⟨⟨agJ o.ext.size hs,fun k hk=>?_⟩,?_,?_,r.D0 (n:=H.size) hf (fun j hj k hk=>It.lt (o.ok j hj) hk) o.D0⟩
 ·rw [df k (ahj hk o.ext.size) (fun h=>by have:=o.new i wB k h;omega)]
  exact o.ext.get k hk
 ·refine r.rest hi (fun j hj hd=>It.frame (o.ok j hj) fun k hk=>df k (It.lt (o.ok j hj) hk) fun h=>hd k h hk) o.D0
 ·intro j hj k hk
  rcases r.Ta j hj with rfl|hj
  ·rcases hf k hk with h|h
   ·exact o.new i wB k h
   ·have:=o.ext.size;omega
  ·exact o.new j hj k hk
inductive bw (i:It):List It→List It→Prop
 |here {L:List It}:bw i (i::L) L
 |there {j:It} {L M:List It}:bw i L M→bw i (j::L) (j::M)
theorem bw.perm: ∀ {L M:List It},bw i L M→(i::M).Perm L
 |_,_,.here=>aiK _
 |_,_,.there h=> (List.Perm.swap ..).trans (h.perm.cons _)
theorem ar.perm (o:ar H0 H L) (hs:L'.Perm L):ar H0 H L' :=
 ⟨o.ext,fun i hi=>o.ok i (hs.mem_iff.1 hi),fun i hi=>o.new i (hs.mem_iff.1 hi),by
  refine(hs.symm.pairwise_iff ?_).1 o.D0;intro a b Yh k hk gE;exact Yh k gE hk⟩
theorem ar.front (o:ar H0 H L) (s:bw i L M):ar H0 H (i::M):=o.perm s.perm
inductive cC:List It→List It→Prop
 |nil {L:List It}:cC [] L
 |cons {i:It} {L L' M:List It}:bw i L M→cC L' M→cC (i::L') L
theorem cC.perm: ∀ {L' L:List It},cC L' L→∃M,(L' ++M).Perm L
 |_,L,.nil=> ⟨L,aiK _⟩
 |_,_,.cons s h=>by
  obtain⟨M,hM⟩:=h.perm;exact⟨M,(hM.cons _).trans s.perm⟩
theorem ar.arr (o:ar H0 H L) (s:cC L' L):ar H0 H L' :=by
 obtain⟨M,hM⟩:=s.perm;have o' :=o.perm hM;exact⟨o'.ext,fun i hi=>o'.ok i (ahJ _ hi),fun i hi=>o'.new i (ahJ _ hi),(ai7.1 o'.D0).1⟩
inductive bd:List It→List It→Prop
 |refl {L:List It}:bd L L
 |cons {i:It} {L' M L:List It}:bw i L M→bd L' M→bd (i::L') L
theorem bd.perm: ∀ {L' L:List It},bd L' L→L'.Perm L
 |_,_,.refl=>aiK _
 |_,_,.cons s t=> (t.perm.cons _).trans s.perm
theorem ar.eR (o:ar H0 H L) (s:bd L' L):ar H0 H L' :=o.perm s.perm
theorem ar.sl {v:Value} {sz:Nat} {l:List Value} (o:ar H0 H L) (h:It.sl v sz l∈L):Sl H v sz l:= (o.ok _ h).2.sl (o.ok _ h).1
theorem ar.Tb {v:Value} {sz:Nat} {l:List Value} (o:ar H0 H L) (h:It.sl v sz l∈L) {k:Nat} (hk:aS v=some k):H0.size≤k:=o.new _ h k hk
theorem ar.own {v:Value} {sz:Nat} {l:List Value} (o:ar H0 H L) (h:It.sl v sz l∈L):kI H v sz l:= (o.ok _ h).2
theorem ar.fZ {b:Nat} {cs:List Value} {t:TypeId} (o:ar H0 H L) (h:It.box b cs t∈L):H[b]? =some (.cells cs.toArray t (0,0)):=o.ok _ h
theorem ar.aA {T:jl} (o:ar H0 H L) (h:It.aA T∈L):T.holds H:=o.ok _ h
theorem ar.pick (o:ar H0 H L) (hs:L'.Sublist L):ar H0 H L' :=
 ⟨o.ext,fun i hi=>o.ok i (hs.subset hi),fun i hi=>o.new i (hs.subset hi),o.D0.sublist hs⟩
theorem ar.call {L2:List It} (o:ar H0 H L) (c:ar H H' L2):ar H0 H' (L2++L):=by
 have o' :=o.more c.ext;refine⟨o'.ext,?_,?_,ai7.2 ⟨c.D0,o.D0,fun a ha b hb k hk gE =>?_⟩⟩
 ·intro i hi;rcases agv.1 hi with h|h
  ·exact c.ok i h
  ·exact o'.ok i h
 ·intro i hi;rcases agv.1 hi with h|h
  ·intro k hk;have:=c.new i h k hk;have:=o.ext.size;omega
  ·exact o.new i h
 ·have:=c.new a ha k hk;have:=It.lt (o.ok b hb) gE;omega
theorem Sl.frame {v:Value} {sz:Nat} {l:List Value} (h:Sl H v sz l) (hf: ∀k,aS v=some k→H'[k]? =H[k]?):Sl H' v sz l:=by
 rcases h with h| ⟨a,n,cap,rfl,h1,h2,h3⟩
 ·exact .inl h
 ·refine .inr ⟨a,n,cap,rfl,h1,h2,fun i w hw=>?_⟩
  have hc:=h3 i w hw;have Bb: (a.add i).block=a.block:=by unfold Addr.add;split<;>rfl
  unfold cellAt at hc ⊢;rw [Bb] at hc ⊢;rw [hf a.block rfl];exact hc
theorem Sl.lt {v:Value} {sz:Nat} {l:List Value} {k:Nat} (h:Sl H v sz l) (hl:l≠ []) (hk:aS v=some k):k<H.size:=by
 rcases h with ⟨rfl,h⟩ | ⟨a,n,cap,rfl,h1,h2,h3⟩
 ·exact absurd h hl
 ·cases l with
  |nil=>exact absurd rfl hl
  |cons x l=>
   have hc:=h3 0 x rfl;have Bb: (a.add 0).block=a.block:=by unfold Addr.add;split<;>rfl
   simp only [aS,agf] at hk;subst hk;unfold cellAt at hc;rw [Bb] at hc;rcases ag6 a.block H.size with h' |h'
   ·exact h'
   ·rw [ahH h'] at hc;cases hc
section
variable {K:Value→ai→Prop} {KV:Value→Prop} {e:TypeId} {sz:Nat}
theorem ar.Tc (o:ar H0 H L) (sz:Nat) (hz:0<sz) (hk: ∀y H',ar H0 H' (.sl y sz []::L)→K y H'):aY H e 0 [] [] K:=by
 simp only [aY,bz,eV];exact hk _ _ (o.add (Ext.refl H).push ⟨hz,.inr ⟨H.size,0,0,[],rfl,⟨⟨e,(0,0),bW,.inl rfl⟩,by simp,by simp⟩⟩⟩ (fun j hj=>by simp only [It.cN,aS,agf] at hj;omega))
theorem ar.build (o:ar H0 H L) {n:Nat} {zero vs:List Value} {parts:List (Nat × Nat × Value)} (sz:Nat) (hz:0<sz) (EG: ∀K' :Value→Prop,K' (.agg vs.toArray)→aT zero parts K') (hn:vs.length=n*sz)
  (hk: ∀y H',ar H0 H' (.sl y sz vs::L)→K y H'):aY H e n zero parts K:=by
 refine EG _ ?_;simp only [eV];exact hk _ _ (o.add (Ext.refl H).push ⟨hz,.inr ⟨H.size,n,n,[],rfl,⟨⟨e,(0,0),by rw [agy];exact bW,.inl rfl⟩,hn,by simpa using hn⟩⟩⟩ (fun j hj=>by simp only [It.cN,aS,agf] at hj;omega))
theorem ar.dj (o:ar H0 H L) {zero:List Value} {x:Value} (hz:0<sz) (hzero:zero.length=sz) (hx:x.cells.size=sz) (hk: ∀y H',ar H0 H' (.sl y sz x.cells.toList::L)→K y H'):aY H e 1 zero [(0,sz,x)] K:=by
 refine o.build sz hz (vs:=x.cells.toList) (fun K' hK=>?_) (by simp [hx]) hk;have hp:iI zero 0 x.cells.toList=x.cells.toList:=by
  have:=sH x.cells.toList [] zero (by simp [hzero,hx])
  simpa using this
 rw [eE,bz,hp];exact⟨hx,by omega,hK⟩
theorem EH (z:List Value): ∀n,eJ z n= (List.replicate n z).flatten
 |0=>rfl
 |n+1=>by rw [eJ,EH z n,List.replicate_succ,ag0]
theorem ya (z:Value): ∀n,eJ [z] n=List.replicate n z
 |0=>rfl
 |n+1=>by rw [eJ,ya z n];rfl
theorem ar.make (o:ar H0 H L) {bytes:Nat} {z:List Value} {n:Int} (hz:0<z.length) (h0:0≤n) (hb: (bytes:Int)*n≤281474976710656) (hn:n≤9223372036854775807)
  (hk: ∀y H',ar H0 H' (.sl y z.length (eJ z n.toNat)::L)→K y H'):dF H e bytes z (.int .i64 n) (.int .i64 n) K:=by
 simp only [dF];refine⟨h0,ait _,hb,hn,?_⟩;exact hk _ _ (o.add (Ext.refl H).push ⟨hz,.inr ⟨H.size,n.toNat,n.toNat,[],rfl,⟨⟨e,(0,0),by rw [agy];exact bW,.inl rfl⟩,by rw [gp],by simp [gp]⟩⟩⟩ (fun j hj=>by simp only [It.cN,aS,agf] at hj;omega))
theorem ar.qV (o:ar H0 H L) {bytes:Nat} {z:Value} {n:Int} (h0:0≤n) (hb: (bytes:Int)*n≤281474976710656) (hn:n≤9223372036854775807)
  (hk: ∀y H',ar H0 H' (.sl y 1 (List.replicate n.toNat z)::L)→K y H'):dF H e bytes [z] (.int .i64 n) (.int .i64 n) K:=by
 refine o.make (by simp) h0 hb hn fun y H' o' =>?_;rw [ya] at o';exact hk y H' o'
theorem ar.append (o:ar H0 H L) {v x:Value} {bytes m n:Nat} {zero l new:List Value} (dz:bw (.sl v sz l) L M) (hzero:zero.length=sz) (hx:Sl H x sz new)
  (hl:l.length=n*sz) (hm:new.length=m*sz) (lF:new.all aK=true) (lN:2* (n+m)*bytes≤281474976710656)
  (hk: ∀v' H',ar H0 H' (.sl v' sz (l++new)::M)→K v' H'):bj H e sz bytes zero v x K:=by
 have o1:=o.front dz;obtain⟨hz,ho⟩:=o1.ok _ af8;refine kI.append ho hz hzero (hx.iJ hm hz) hx.cellsOf hl hm lF lN fun v' H' o' hi hs hb=>?_;refine hk v' H' (o1.eX aV.here hs (fun k hk hf=>hi k hk hf) ⟨hz,o'⟩ fun k hk=>?_);simp only [It.cN] at hk ⊢;rcases hb with hb|hb
 ·left;rw [←hb];exact hk
 ·right;rw [hb,agf] at hk;omega
theorem ar.app (o:ar H0 H L) {v x z:Value} {bytes:Nat} {l new:List Value} (dz:bw (.sl v 1 l) L M) (hx:Sl H x 1 new)
  (lF:new.all aK=true) (lN:2* (l.length+new.length)*bytes≤281474976710656)
  (hk: ∀v' H',ar H0 H' (.sl v' 1 (l++new)::M)→K v' H'):bj H e 1 bytes [z] v x K:=
 o.append dz rfl hx (agh _).symm (agh _).symm lF lN hk
theorem Sl.one {v:Value} {l:List Value} (h:Sl H v sz l):aK v=true:=by
 rcases h with ⟨rfl,_⟩ | ⟨a,m,cap,rfl,_⟩<;>rfl
theorem aM {l:List Value} {o:Nat} {v:Value} {r:List (Nat × Nat × Value)} (hv:aK v=true) (ho:o<l.length) (h:aT (l.set o v) r KV):aT l ((o,1,v)::r) KV:=by
 rw [eE,cells_one hv];exact⟨rfl,by omega,by simpa [dd,eh] using h⟩
theorem all_cons {x:Value} {l:List Value} (hx:aK x=true) (hl:l.all aK=true): (x::l).all aK=true:=by simp [hx,hl]
theorem dm {a b x y:Value} (hx:aK x=true) (hy:aK y=true) (h:KV (.agg #[x,y])):aT [a,b] [(0,1,x),(1,1,y)] KV:=
 aM hx (by simp) (aM hy (by simp) h)
theorem c9 {a b c x y z:Value} (hx:aK x=true) (hy:aK y=true) (hz:aK z=true) (h:KV (.agg #[x,y,z])):aT [a,b,c] [(0,1,x),(1,1,y),(2,1,z)] KV:=
 aM hx (by simp) (aM hy (by simp) (aM hz (by simp) h))
def At (v:Value) (j:Nat) (p:Value):Prop:= ∃a n cap,v= .slice (some a) n cap∧p= .pointer (some (a.add j))
theorem Sl.at_ {v:Value} {l:List Value} (h:Sl H v sz l) {n:Nat} (hn:l.length=n*sz) (hz:0<sz) {i:Int} (h0:0≤i) (h1:i< (n:Int)) (hk: ∀p,At v (i.toNat*sz) p→KV p):aI sz v (.int .i64 i) KV:=by
 rcases h with ⟨rfl,rfl⟩ | ⟨a,m,cap,rfl,h2,h3,h4⟩
 ·have:=ah9 (show 0<n by omega) hz
  simp only [agt] at hn;omega
 ·rw [h2] at hn
  have hmn:=ais hz hn;rw [oZ];exact⟨h0,by omega,hk _ ⟨a,m,cap,rfl,rfl⟩⟩
theorem At.field {v p:Value} {j f:Nat} (h:At v j p) (hk: ∀q,At v (j+f) q→KV q):aa f p KV:=by
 obtain⟨a,n,cap,rfl,rfl⟩:=h;rw [ae];exact hk _ ⟨a,n,cap,rfl,by rw [sJ]⟩
theorem At.load {v p w:Value} {j:Nat} {l:List Value} (h:At v j p) (hs:Sl H v sz l) (hw:l[j]? =some w) (hk:KV w):ak H p KV:=by
 obtain⟨a,n,cap,rfl,rfl⟩:=h;rcases hs with ⟨h,rfl⟩ | ⟨a',m,S5,h,h2,h3,h4⟩
 ·simp at hw
 ·cases h
  rw [aW (h4 j w hw)];exact hk
theorem At.fE {v p:Value} {j n:Nat} {l ws:List Value} (h:At v j p) (hs:Sl H v sz l) (hw: (l.drop j).take n=ws) (hn:ws.length=n) (hk:KV (.agg ws.toArray)):aE H n p KV:=by
 obtain⟨a,c,cap,rfl,rfl⟩:=h;rcases hs with ⟨h,rfl⟩ | ⟨a',m,S5,h,h2,h3,h4⟩
 ·simp at hw
  subst hw;simp only [agt] at hn;subst hn;exact hk
 ·cases h
  subst hw;exact(h4.part j n).fE hn hk
theorem yb {l sp new:List Value} {b j:Nat} {t:TypeId} {fr:Nat × Nat} {N:Nat} (hf:Cv fr N) (hb:H[b]? =some (.cells (l++sp).toArray t fr)) (lF:new.all aK=true) (hj:j+new.length≤l.length) (hN: (l++sp).length=N):
  eA H ⟨b,j,none⟩ 0 new=some (H.setIfInBounds b (.cells (iI l j new++sp).toArray t fr)):=by
 rw [jZ hf new H j 0 (l++sp) hb lF (by rw [af9];omega) hN]
 congr 4
 rw [agL];have Cy:l=l.take j++l.drop j:= (agE j l).symm;have hlj: (l.take j).length=j:=by rw [age];omega
 have e1:=mF new (l.take j) (l.drop j++sp) (by rw [af9,agl];omega);have e2:=mF new (l.take j) (l.drop j) (by rw [agl];omega);rw [hlj] at e1 e2;rw [←agc,agE] at e1;rw [agE] at e2;rw [e1,e2,agc (List.take j l++new),ahk (by rw [agl];omega)]
theorem ar.put (o:ar H0 H L) {v p:Value} {j:Nat} {l new:List Value} (h:At v j p) (dz:It.sl v sz l∈L) (hj:j+new.length≤l.length) (lF:new.all aK=true)
  (jC:aV (.sl v sz l) (.sl v sz (iI l j new)) L L'): ∃a H',p= .pointer (some a)∧eA H a 0 new=some H' ∧ar H0 H' L' ∧H'.size=H.size:=by
 obtain⟨hz,ho⟩:=o.ok _ dz;obtain⟨a,n,cap,rfl,rfl⟩:=h;rcases ho with ⟨h,rfl⟩ | ⟨b,n',S5,sp,h,⟨t,fr,hb,hf⟩,hl,hc⟩
 ·cases h
 ·cases h
  refine⟨_,H.setIfInBounds b (.cells (iI l j new++sp).toArray t fr),rfl,?_,?_,?_⟩
  ·rw [al,ags];exact yb hf hb lF hj hc
  ·refine o.eX jC (by simp) (fun k hk df=>cD (by intro e;subst e;exact df rfl)) ⟨hz,.inr ⟨b,n,cap,sp,rfl,⟨⟨t,fr,bN (bq hb),hf⟩,?_,?_⟩⟩⟩ (fun k hk=> .inl hk)
   ·rw [xY];exact hl
   ·rw [af9,xY,←af9];exact hc
  ·simp
theorem ar.store (o:ar H0 H L) {v p x:Value} {j:Nat} {l:List Value} (h:At v j p) (dz:It.sl v sz l∈L) (hj:j<l.length) (hx:aK x=true)
  (jC:aV (.sl v sz l) (.sl v sz (l.set j x)) L L') (hk: ∀H',ar H0 H' L' →H'.size=H.size→K undef H'):aF H p x K:=by
 obtain⟨a,H',rfl,hs,o',kg⟩:=o.put (new:= [x]) h dz (by simp;omega) (by simp [hx]) (by rw [dd,eh];exact jC);simp only [aF,hs];exact hk H' o' kg
theorem ar.Td (o:ar H0 H L) {v p:Value} {vs:List Value} {j n:Nat} {l:List Value} (h:At v j p) (dz:It.sl v sz l∈L) (hn:vs.length=n) (hj:j+n≤l.length) (hx:vs.all aK=true)
  (jC:aV (.sl v sz l) (.sl v sz (iI l j vs)) L L') (hk: ∀H',ar H0 H' L' →H'.size=H.size→K undef H'):aC H n p (.agg vs.toArray) K:=by
 subst hn;obtain⟨a,H',rfl,hs,o',kg⟩:=o.put (new:=vs) h dz hj hx jC;simp only [aC,eV,hs];exact⟨by simp,hk H' o' kg⟩
theorem ar.box (o:ar H0 H L) {v:Value} (hk: ∀b H',ar H0 H' (.box b v.cells.toList e::L)→b=H.size→K (.pointer (some ⟨b,0,none⟩)) H'):bs H e v K:=
 hk _ _ (o.add (Ext.refl H).push (show _=_ from bW) (fun j hj=>by simp only [It.cN] at hj;omega)) rfl
theorem ar.aw (o:ar H0 H L) {b f:Nat} {cs:List Value} {t:TypeId} {w:Value} (dz:It.box b cs t∈L) (hw:cs[f]? = .some w) (hk:KV w):ak H (.pointer (some ⟨b,f,none⟩)) KV:=
 gF (o.fZ dz) hw hk
theorem ar.bf (o:ar H0 H L) {b n:Nat} {cs:List Value} {t:TypeId} (dz:It.box b cs t∈L) (hn:cs.length=n) (hk:KV (.agg cs.toArray)):aE H n (.pointer (some ⟨b,0,none⟩)) KV:=
 KG (o.fZ dz) (by simpa using hn) hk
theorem ar.bF (o:ar H0 H L) {b f:Nat} {cs:List Value} {t:TypeId} {x:Value} (dz:It.box b cs t∈L) (hf:f<cs.length) (hx:aK x=true)
  (jC:aV (.box b cs t) (.box b (cs.set f x) t) L L') (hk: ∀H',ar H0 H' L' →H'.size=H.size→K undef H'):aF H (.pointer (some ⟨b,f,none⟩)) x K:=by
 refine gn (o.fZ dz) (by simpa using hf) hx fun H' hs u=>hk H' (o.eX jC u.size (fun k hk df=>u.ne k hk (fun e=>df e.symm)) ?_ (fun k hk=> .inl hk)) hs;show _=_;rw [u.at_,aiu]
theorem ar.br (o:ar H0 H L) {b n:Nat} {cs vs:List Value} {t:TypeId} (dz:It.box b cs t∈L) (hn:cs.length=n) (hv:vs.length=n) (hx:vs.all aK=true)
  (jC:aV (.box b cs t) (.box b vs t) L L') (hk: ∀H',ar H0 H' L' →H'.size=H.size→K undef H'):aC H n (.pointer (some ⟨b,0,none⟩)) (.agg vs.toArray) K:=by
 refine cL (o.fZ dz) (by simpa using hn) (by simpa using hv) (by simpa using hx) fun H' hs u=>hk H' (o.eX jC u.size (fun k hk df=>u.ne k hk (fun e=>df e.symm)) ?_ (fun k hk=> .inl hk)) hs;exact u.at_
theorem ar.Yj {KV:Value→Prop} (o:ar H0 H L) {b f:Nat} {cs:List Value} {t:TypeId} {w:Value} (hk:KV w) (dz:It.box b cs t∈L:=by repeat(first|exact af8|apply af7)) (hw:cs[f]? = .some w:=by exact rfl):ak H (.pointer (some ⟨b,f,none⟩)) KV:=o.aw dz hw hk
theorem ar.Xc {KV:Value→Prop} (o:ar H0 H L) {b n:Nat} {cs:List Value} {t:TypeId} (hk:KV (.agg cs.toArray)) (dz:It.box b cs t∈L:=by repeat(first|exact af8|apply af7)) (hn:cs.length=n:=by exact rfl):aE H n (.pointer (some ⟨b,0,none⟩)) KV:=o.bf dz hn hk
theorem ar.Xd {K:Value→ai→Prop} (o:ar H0 H L) {L' :List It} {b f:Nat} {cs:List Value} {t:TypeId} {x:Value} (hk: ∀H',ar H0 H' L' →H'.size=H.size→K undef H') (dz:It.box b cs t∈L:=by repeat(first|exact af8|apply af7)) (hf:f<cs.length:=by exact agm rfl) (hx:aK x=true:=by exact rfl) (jC:aV (.box b cs t) (.box b (cs.set f x) t) L L' :=by repeat(first|exact aV.here|apply aV.there)):aF H (.pointer (some ⟨b,f,none⟩)) x K:=o.bF dz hf hx jC hk
theorem ar.Vo {K:Value→ai→Prop} (o:ar H0 H L) {L' :List It} {b n:Nat} {cs vs:List Value} {t:TypeId} (hx:vs.all aK=true) (hk: ∀H',ar H0 H' L' →H'.size=H.size→K undef H') (dz:It.box b cs t∈L:=by repeat(first|exact af8|apply af7)) (hn:cs.length=n:=by exact rfl) (hv:vs.length=n:=by exact rfl) (jC:aV (.box b cs t) (.box b vs t) L L' :=by repeat(first|exact aV.here|apply aV.there)):aC H n (.pointer (some ⟨b,0,none⟩)) (.agg vs.toArray) K:=o.br dz hn hv hx jC hk
theorem ar.Vp {K:Value→ai→Prop} (o:ar H0 H L) {L' :List It} {b n:Nat} {cs vs:List Value} {t:TypeId} (hk: ∀H',ar H0 H' L' →H'.size=H.size→K undef H') (dz:It.box b cs t∈L:=by repeat(first|exact af8|apply af7)) (hn:cs.length=n:=by exact rfl) (hv:vs.length=n:=by exact rfl) (hx:vs.all aK=true:=by exact rfl) (jC:aV (.box b cs t) (.box b vs t) L L' :=by repeat(first|exact aV.here|apply aV.there)):aC H n (.pointer (some ⟨b,0,none⟩)) (.agg vs.toArray) K:=o.br dz hn hv hx jC hk
theorem ar.slA {v:Value} {sz:Nat} {l:List Value} (o:ar H0 H L) (h:It.sl v sz l∈L:=by repeat(first|exact af8|apply af7)):Sl H v sz l:=o.sl h
theorem ar.acg {b:Nat} {cs:List Value} {t:TypeId} (o:ar H0 H L) (h:It.box b cs t∈L:=by repeat(first|exact af8|apply af7)):H[b]? =some (.cells cs.toArray t (0,0)):=o.fZ h
theorem ar.Yk {T:jl} (o:ar H0 H L) (h:It.aA T∈L:=by repeat(first|exact af8|apply af7)):T.holds H:=o.aA h
theorem ar.ach {L' :List It} (o:ar H0 H L) (s:cC L' L:=by repeat(first|exact cC.nil|exact bw.here|apply cC.cons|apply bw.there)):ar H0 H L' :=o.arr s
theorem ar.aah {L' :List It} (o:ar H0 H L) (s:bd L' L:=by repeat(first|exact bd.refl|exact bw.here|apply bd.cons|apply bw.there)):ar H0 H L' :=o.eR s
theorem ar.Xe {e sz:Nat} {K:Value→ai→Prop} (o:ar H0 H L) {M:List It} {v x:Value} {bytes m n:Nat} {zero l new:List Value} (hx:Sl H x sz new) (hl:l.length=n*sz) (hm:new.length=m*sz) (lF:new.all aK=true) (lN:2* (n+m)*bytes≤281474976710656) (hk: ∀v' H',ar H0 H' (.sl v' sz (l++new)::M)→K v' H') (dz:bw (.sl v sz l) L M:=by repeat(first|exact bw.here|apply bw.there)) (hzero:zero.length=sz:=by exact rfl):bj H e sz bytes zero v x K:=o.append dz hzero hx hl hm lF lN hk
theorem Sl.atA {KV:Value→Prop} {sz:Nat} {v:Value} {l:List Value} (h:Sl H v sz l) {n:Nat} (hn:l.length=n*sz) {i:Int} (hk: ∀p,At v (i.toNat*sz) p→KV p) (hz:0<sz:=by decide) (h0:0≤i:=by omega) (h1:i< (n:Int):=by omega):aI sz v (.int .i64 i) KV:=h.at_ hn hz h0 h1 hk
theorem Sl.aci {sz:Nat} {v:Value} {l:List Value} {K:Value→Prop} (h:Sl H v sz l) {n:Nat} (hn:l.length=n*sz) (hk:K (.int .i64 (n:Int))) (hz:0<sz:=by decide):bV v K:=h.len hn hz hk
theorem acj {n:Int} (h0: -9223372036854775808≤n:=by omega) (h1:n≤9223372036854775807:=by omega):IntKind.i64.wrap n=n:=ba h0 h1
theorem dFA {p:Prop} [Decidable p] (h: ¬p:=by omega):decide p=false:=decide_eq_false h
theorem dTA {p:Prop} [Decidable p] (h:p:=by omega):decide p=true:=decide_eq_true h
theorem dFS {p:Prop} [Decidable p] (h: ¬p:=by simp):decide p=false:=decide_eq_false h
theorem dFD {p:Prop} [Decidable p] (h: ¬p:=by decide):decide p=false:=decide_eq_false h
theorem ack {K:Value→Prop} {vs:List Value} {v:Value} {i:Nat} (h:K v) (hv:vs[i]? =some v:=by exact rfl):aq i (.tuple vs.toArray) K:=ag hv h
end
end
end Go.Vc
namespace Go.Proofs
open Go Go.Vc
section
def Tryz.C:List Nat:= [2,3,4,5,6,7,8,9,10,11,12,13,14,15,16,17,18,19,20,21,22,23,24,25,26,27,28,29,30,31,32,33,34,35,36,37,38,39,40,41,42,43,44,45,46,47,48,49,50,51,52,53,54,55,56,57,58,59,60,61,62,63,64,65,66,67,68,69,70,71,72,73,74,75,76,77,78,79,80,81,82,83,84,85,86,87,88,89,90,91,92,93,94,95,96,97,98,99,100,101,102,103,104,105,106,107,108,109,110,111,112,113,114,115,116,117,118,119,120,121,122,123,124,125,126,127,128,129,130,131,132,133,134,135,136,137,138,139,140,141,142,143,144,145,146,147,148,149,150,151,152,153,154,155,156,157,158,159,160,161,162,163,164,165,166,167,168,169,170,171,172,173,174,175,176,177,180,181,182,183,184,185,186,187,188,189,190,191,192,193,194,195,196,197,198,199,200,201,202,203,204,205,206,207,208,209,210,211,212,213,214,215,216,217,218,219,220,221,222,223,224,225,226,227,228,229,230,231,232,233,234,235,236,237,238,239,240,241,242,243,244,245,246,247,248,249,250,251,252,253,254,255,256,257,258,259,260,261,262,263,264,265,266,267,268,269,270,271,272,273,274,275,276,277,278,279,280,281,282,283,284,285,286,287,288,289,290,291,292,293,294,295,296,297,298,299,300,301,303,304,305,306,307,308,309,310,311,312,314,315,316,317,318,319,320,321,322,323,350]
theorem Tryz.mixed:Tryz.prog.follows .mixedOrders=true:=by kernel_rfl
theorem Tryz.mJ:gm Tryz.prog Tryz.C:=by
 have key: ∀f∈Tryz.C,∀ (args:Array Value) (w:World),(callFunc f args).run Tryz.prog w= .ok (.enter f args) w:=by
  unfold Tryz.C
  repeat(refine List.forall_mem_cons.2 ⟨fun _ _=>rfl,?_⟩)
  exact fun _ h=>absurd h List.not_mem_nil
 exact fun f hf=>key f (my.1 hf)
theorem Tryz.vc [Go.Vc.Mode] {f:FuncId} {fn:Func} (an:sq) {args:List Value} {H:ai} {R:Value→ai→Prop} {r:Prop} (hf:Tryz.prog.funcs[f]? =some fn) (hk:Ez Tryz.prog fn an args.length=true) (e:MR Tryz.prog Tryz.C fn an args H R=r) (h:r):fP Tryz.prog f args.toArray H R:=Qs Tryz.mJ Tryz.mixed an hf hk e h
def nbs:Nat→Nat→List Nat
 |0,_=> []
 |f+1,n=>match n with
  |0=> []
  |k+1=> ((k+1) %16)::nbs f ((k+1) /16)
def yc:Nat→List Nat→(Nat→List Nat→sq)→sq
 |0,_,_=> .leaf
 |f+1,ds,k=>match ds with
  | []=> .leaf
  |d::r=>match Nat.ble 8 d with
   |true=>yc f r fun v r=>k (d - 8+8*v) r
   |false=>k d r
def Vq:Nat→Nat→List Nat→(List Nat→List Nat→sq)→sq
 |0,_,ds,k=>k [] ds
 |c+1,b,ds,k=>yc 30 ds fun g ds=>yc 30 ds fun l ds=>Vq c (b+g+l+1) ds fun t ds=>k (Z8 (b+g) (l+1) t) ds
def Vr:Nat→List Nat→(List Nat→List Nat→sq)→sq
 |0,ds,k=>k [] ds
 |c+1,ds,k=>yc 30 ds fun v ds=>Vr c ds fun t ds=>k (v::t) ds
def deV:Nat→List Nat→(List (List Nat)→List Nat→sq)→sq
 |0,ds,k=>k [] ds
 |c+1,ds,k=>yc 30 ds fun v ds=>Vr v ds fun t ds=>deV c ds fun u ds=>k (t::u) ds
def Te:Nat→Nat→Nat→List Nat→(List Nat→List Nat→sq)→sq
 |0,_,_,ds,k=>k [] ds
 |c+1,j,p,ds,k=>match ds with
  | []=> .leaf
  |d::r=>match d with
   |0=>Te c (j+1) 0 r fun t ds=>k (0::t) ds
   |1=>Te c (j+1) (p+2 ^ (j - 1)) r fun t ds=>k ((p+2 ^ (j - 1))::t) ds
   |2=>Te c (j+1) (2 ^ j - 1) r fun t ds=>k ((2 ^ j - 1)::t) ds
   |3=>Te c (j+1) p r fun t ds=>k (p::t) ds
   |4=>Te c (j+1) (2 ^ (j - 1)) r fun t ds=>k ((2 ^ (j - 1))::t) ds
   |_=>yc 30 r fun v r=>Te c (j+1) v r fun t ds=>k (v::t) ds
def Qy:Nat→List Nat→(l9→List Nat→sq)→sq
 |0,_,_=> .leaf
 |f+1,ds,k=>match ds with
  | []=> .leaf
  |d::r=>match d with
   |0=>k .nil r
   |1=>yc 30 r fun i ds=>yc 30 ds fun n ds=>Vr n ds fun s ds=>Qy f ds fun p ds=>k (.op i s p) ds
   |2=>yc 30 r fun i ds=>Qy f ds fun b ds=>yc 30 ds fun j ds=>Qy f ds fun p ds=>k (.G4 i b j p) ds
   |3=>Qy f r fun a ds=>Qy f ds fun b ds=>k (.fork a b) ds
   |4=>yc 30 r fun i ds=>yc 30 ds fun n ds=>Qy f ds fun p ds=>k (P8 i n p) ds
   |_=>yc 30 r fun i ds=>Qy f ds fun p ds=>k (.op i [] p) ds
def PO:Nat→List Nat→(sq→List Nat→sq)→sq
 |0,_,_=> .leaf
 |f+1,ds,k=>match ds with
  | []=> .leaf
  |d::r=>match d with
   |0=>k .leaf r
   |1=>Qy 999 r fun p ds=>k (.Ul p) ds
   |2=>yc 30 r fun n ds=>Te n 0 0 ds fun m ds=>Qy 999 ds fun p ds=>k (.WX m p) ds
   |3=>PO f r fun a ds=>PO f ds fun b ds=>k (.seq a b) ds
   |4=>yc 30 r fun n ds=>Vq n 0 ds fun s ds=>yc 30 ds fun n ds=>Vq n 0 ds fun w ds=>PO f ds fun a ds=>PO f ds fun b ds=>k (.cut s w a b) ds
   |5=>PO f r fun a ds=>PO f ds fun b ds=>k (.cond a b) ds
   |6=>PO f r fun a ds=>k (.block a) ds
   |7=>yc 30 r fun n ds=>Vq n 0 ds fun s ds=>yc 30 ds fun n ds=>Vq n 0 ds fun w ds=>PO f ds fun a ds=>k (.loop s w a) ds
   |8=>yc 30 r fun n ds=>Vr n ds fun b ds=>yc 30 ds fun n ds=>deV n ds fun j ds=>yc 30 ds fun n ds=>Vr n ds fun g ds=>k (.inv b j g) ds
   |9=>yc 30 r fun n ds=>k (.Ul (P8 0 n .nil)) ds
   |_=>yc 30 r fun n ds=>PO f ds fun b ds=>k (.seq (.Ul (P8 0 n .nil)) b) ds
def Yl (n:Nat):sq:=PO 999 (nbs 9999 n) fun a _=>a
abbrev ab [Go.Vc.Mode] (f:FuncId) (args:Array Value) (H:ai) (R:Value→ai→Prop):Prop:=fP Tryz.prog f args H R
theorem bD [Go.Vc.Mode] {f:FuncId} {fn:Func} (n:Nat) {args:List Value} {H:ai} {R:Value→ai→Prop} {r:Prop} (hf:Tryz.prog.funcs[f]? =some fn) (h:r) (hk:Ez Tryz.prog fn (Yl n) args.length=true:=by kernel_rfl) (e:MR Tryz.prog Tryz.C fn (Yl n) args H R=r:=by kernel_rfl):fP Tryz.prog f args.toArray H R:=Tryz.vc (Yl n) hf hk e h
end
end Go.Proofs
namespace Go.Proofs.YtpcgccdmmoggmaaGreatDoor
open Go Go.Vc Go.Proofs
section
set_option maxHeartbeats 4000000
variable [Go.Vc.Mode] (H0:ai) (R:Value→ai→Prop)
theorem Nt.vc (a:Value) (h:
 cq a (.int .i64 1) fun b=>d_ b (fun b=>dW a (.int .i64 65536) fun c=>b c H0) H0 fun b c=> ∀_:Env,ao b (R (.tuple #[(.pointer none),(.int .i64 1)]) c) (dF c 9 16 [(str [])] a a fun a b=>mr b fun b c=>aT [(.slice none 0 0),(.map none),(.slice none 0 0),(.bool false),(.bool false),(.int .i64 0)] [(0,1,a),(1,1,b)] fun a=>bs c 118 a fun a b=>aB a fun c=>aa 0 c fun c=>ak b c fun c=>bV c fun c=> ∃ (d:Value→ai→Prop) (e:Value→ai→Nat),d (.int .i64 0) b∧∀ (_:Env) (b:Value) (f:ai),d b f→cq b c fun c=>ao c (aB a fun c=>aa 0 c fun c=>ak f c fun g=>ab 50 #[(str [0]),(.int .i64 64)] f fun h i=> (ak i c fun c=>c=g)∧aI 1 g b fun c=>aF i c h fun _ c=>aG b (.int .i64 1) fun g=>d g c∧e g c<e b f) (R (.tuple #[a,(.int .i64 0)]) f))):ab 19 #[a] H0 R:=bD 0x103a2902643151504120011101822a6300531a1a2805202e1766a36a002a5050234223041332a Tryz.func19 h
theorem yd.vc (a b:Value) (h:
 ea 3 a (.pointer none) fun c=>ao c (lB b (.int .i64 0) fun c=>aB a fun d=>aa 4 d fun d=>aF H0 d c fun _ c=>aB a fun a=>aa 5 a fun a=>aF c a b fun _ a=>R (.tuple #[]) a) (R (.tuple #[]) H0)):ab 20 #[a,b] H0 R:=bD 0x101b952a Tryz.func20 h
theorem wC.vc (a b:Value) (h:
 cu 3 a (.pointer none) fun c=>d_ c (fun c=>aB a fun d=>aa 3 d fun d=>ak H0 d fun d=>c d H0) H0 fun c d=> ∀_:Env,ao c (R (.tuple #[]) d) (aB a fun c=>aa 2 c fun c=>ak d c fun c=>bV c fun e=> ∃ (f:Value→ai→Prop) (g:Value→ai→Nat),f (.int .i64 0) d∧∀ (_:Env) (d:Value) (h:ai),f d h→cq d e fun e=>ao e (aI 1 c d fun c=>ak h c fun c=> ∃e:Value→ai→Prop,(∀ (_:Env) (i:Value) (j:ai),e i j→aB a fun k=>aa 0 k fun k=>ak j k fun l=>aB a fun m=>aa 0 m fun m=>ak j m fun m=>aI 1 m c fun m=>ak j m fun m=>aB a fun n=>aa 1 n fun n=>ak j n fun n=>fT j 0 (str []) false n c fun n=>ab 67 #[m,n,i] j fun i j=> (ak j k fun k=>k=l)∧aI 1 l c fun c=>aF j c i fun _ c=>aG d (.int .i64 1) fun i=>f i c∧g i c<g d h)∧bV b fun c=>cq d c fun c=>ao c (aI 1 b d fun b=>ak h b fun b=>l8 b (.int .i64 4) fun b=>aG b (.int .i64 4) fun b=>l8 b (.int .i64 4) fun b=>e b h) (e (.int .i64 0) h)) (ab 68 #[a] h fun _ b=>aB a fun c=>aa 3 c fun c=>aF b c (.bool true) fun _ b=>aB a fun a=>aa 4 a fun a=>aF b a (.bool false) fun _ a=>R (.tuple #[]) a))):ab 26 #[a,b] H0 R:=bD 0x11892a29022c4312b12b04121ffffc8503f888850111011fc8501110011102e2018954a1a2a06206141a5a6300531a4d1d24202c1766a300507043422304133 Tryz.func26 h
theorem wD.vc (a:Value) (h:
 ea 3 a (.pointer none) fun b=>ao b (aB a fun a=>aa 3 a fun a=>aF H0 a (.bool false) fun _ a=>R (.tuple #[]) a) (R (.tuple #[]) H0)):ab 27 #[a] H0 R:=bD 0x104952a Tryz.func27 h
theorem sM.vc (a:Value) (h:
 cu 3 a (.pointer none) fun b=>ao b (R (.int .i64 0) H0) (aB a fun a=>aa 0 a fun a=>ak H0 a fun a=>bV a fun a=>R a H0)):ab 51 #[a] H0 R:=bD 0x106a001a52a31a Tryz.func51 h
theorem KH.vc (a b c:Value) (h:
 cu 0 c (.int .i64 1) fun d=>ao d (R b H0) (cu 0 c (.int .i64 2) fun d=>ao d (a7 b none (some (.int .i64 32)) fun d=>a7 a (some (.int .i64 32)) none fun e=>aG d e fun d=>R d H0) (cu 0 c (.int .i64 3) fun c=>ao c (a7 a none (some (.int .i64 32)) fun c=>a7 b (some (.int .i64 32)) none fun b=>aG c b fun b=>R b H0) (R a H0)))):ab 67 #[a,b,c] H0 R:=bD 0x102a00060412101062352a0060412101062352a02a52a61a31a Tryz.func67 h
theorem wE.vc (a:Value) (h:
 aB a fun b=>aa 1 b fun b=>ak H0 b fun b=>nq H0 b fun _ b=>aB a fun a=>aa 2 a fun a=>aF b a (.slice none 0 0) fun _ a=>R (.tuple #[]) a):ab 68 #[a] H0 R:=bD 0x1495a Tryz.func68 h
theorem ye.vc (a b:Value) (h:
 ab 153 #[a,b] H0 fun c d=>ea 0 c (.int .i64 0) fun e=>ao e (R (.tuple #[(str []),c]) d) (aB a fun c=>aa 1 c fun c=>ak d c fun c=>fT d 0 (str []) true c b fun c=>aq 0 c fun e=>aq 1 c fun c=>ao c (R (.tuple #[e,(.int .i64 0)]) d) (aB a fun a=>aa 0 a fun a=>ak d a fun a=>aI 1 a b fun a=>ak d a fun a=>R (.tuple #[a,(.int .i64 0)]) d))):ab 107 #[a,b] H0 R:=bD 0x1019a003a51a1ba3003a52a4a32a Tryz.func107 h
theorem yf.vc (a:Value) (h:
 ab 153 #[a,(.int .i64 0)] H0 fun b c=>ea 0 b (.int .i64 0) fun d=>ao d (R b c) (ab 156 #[a] c fun b c=>ao b (R (.int .i64 14) c) (aB a fun b=>aa 1 b fun b=>ak c b fun b=>tW c Tryz.prog (Instr.range 116 b) fun b c=> ∃ (d:ai→Prop) (e:ai→Nat),d c∧∀ (_:Env) (c:ai),d c→tW c Tryz.prog (Instr.next b false 0) fun f g=>aq 0 f fun f=>ao f (tW g Tryz.prog (Instr.entry b) fun b f=>aq 0 b fun h=>aq 1 b fun b=>aB a fun i=>aa 0 i fun i=>ak f i fun i=>aI 1 i h fun h=>aF f h b fun _ b=>d b∧e b<e c) (ab 68 #[a] g fun _ a=>R (.int .i64 0) a)))):ab 113 #[a] H0 R:=bD 0x101a2a1895a600532a1b1c1420765a3001a52a3002a52a3a31a Tryz.func113 h
theorem wF.vc (a b:Value) (h:
 cu 3 a (.pointer none) fun c=>ao c (R (.int .i64 1) H0) (aB a fun c=>aa 3 c fun c=>ak H0 c fun c=>ao c (R (.int .i64 14) H0) (cq b (.int .i64 0) fun c=>d_ c (fun c=>aB a fun a=>aa 0 a fun a=>ak H0 a fun a=>bV a fun a=>lB b a fun a=>c a H0) H0 fun a b=> ∀_:Env,ao a (R (.int .i64 20) b) (R (.int .i64 0) b)))):ab 153 #[a,b] H0 R:=bD 0x101a001a501b51a0734223041301a55a01a53a631a Tryz.func153 h
theorem wG.vc (a b c:Value) (h:
 bs H0 3 b fun b d=>cu 3 a (.pointer none) fun e=>d_ e (fun e=>aX c fun f=>ea 0 f (.int .i64 64) fun f=>e f d) d fun d e=> ∀_:Env,ao d (R (.int .i64 1) e) (ak e b fun d=>ab 153 #[a,d] e fun d e=>ea 0 d (.int .i64 0) fun f=>ao f (R d e) (ab 156 #[a] e fun d e=>ao d (R (.int .i64 14) e) (aB a fun d=>aa 5 d fun d=>ak e d fun d=>bY d (.int .i64 1) fun d=>aB a fun f=>aa 5 f fun f=>aF e f d fun _ d=> ∃e:ai→Prop,(∀ (_:Env) (f:ai),e f→aB a fun g=>aa 1 g fun g=>ak f g fun g=>ak f b fun h=>ie f 0 g h c fun _ c=>R (.int .i64 0) c)∧aB a fun c=>aa 2 c fun c=>ak d c fun f=>ak d b fun g=> (ab 199 #[f,(.func (.func 200) #[] #[b])] d fun h i=> (ak i b fun j=>j=g)∧aY i 3 1 [(.int .i64 0)] [(0,1,g)] fun i j=> (ak j c fun k=>k=f)∧bj j 3 1 8 [(.int .i64 0)] h i fun h i=>aB a fun j=>aa 2 j fun j=>aF i j h fun _ h=>e h)∧(aY d 3 1 [(.int .i64 0)] [(0,1,g)] fun d h=> (ak h c fun c=>c=f)∧ab 199 #[f,(.func (.func 200) #[] #[b])] h fun c f=> (ak f b fun b=>b=g)∧bj f 3 1 8 [(.int .i64 0)] c d fun b c=>aB a fun a=>aa 2 a fun a=>aF c a b fun _ a=>e a))))):ab 155 #[a,b,c] H0 R:=bD 0x101a0704200111072304194716141181041944118171613756041127fe5107e50111001d21b3e10418a001a52a3002a52a4a3001a5060334223041332a Tryz.func155 h
theorem yg.vc (a:Value) (h:
 aB a fun b=>aa 4 b fun b=>ak H0 b fun b=>bZ b (fun b=>aB a fun c=>aa 5 c fun c=>ak H0 c fun c=>vk c (.int .i64 0) fun c=>b c H0) H0 fun b c=> ∀_:Env,ao b (ab 26 #[a,(.slice none 0 0)] c fun _ a=>R (.bool true) a) (R (.bool false) c)):ab 156 #[a] H0 R:=bD 0x101a001a2a501a0554425041331a Tryz.func156 h
theorem ru.vc (a b:Value) (h:
 ak H0 b fun b=>cu 0 a b fun a=>R a H0):ab 200 #[a,b] H0 R:=bD 0x104a1a Tryz.func200 h
theorem KI.vc (a:Value) (h:
 cu 3 a (.pointer none) fun b=>ao b (R (.tuple #[(.pointer none),(.int .i64 1)]) H0) (ab 51 #[a] H0 fun b c=>cq b (.int .i64 9) fun b=>ao b (R (.tuple #[(.pointer none),(.int .i64 20)]) c) (ab 52 #[a,(.int .i64 0),(.int .i64 8)] c fun b c=>aq 0 b fun d=>aq 1 b fun b=>ea 0 b (.int .i64 0) fun e=>ao e (R (.tuple #[(.pointer none),b]) c) (ab 41 #[] c fun b c=>aT [(.pointer none),(.pointer none),(.pointer none),(.int .u32 0),(.int .u32 0),(.int .i64 0),(.int .u32 0),(.bool false),(.bool false)] [(0,1,d),(2,1,b)] fun b=>bs c 125 b fun b c=> ∃e:ai→Prop,(∀ (_:Env) (f:ai),e f→aB b fun g=>aa 3 g fun g=>aa 2 g fun g=>ak f g fun h=>ab 51 #[a] f fun f i=> (ak i g fun g=>g=h)∧bY f (.int .i64 8) fun f=>ab 55 #[a,(.int .i64 8),f,h] i fun a f=>aq 0 a fun g=>aq 1 a fun a=>aB b fun h=>aa 1 h fun h=>aF f h g fun _ f=>ea 0 a (.int .i64 0) fun a=>ao a (R (.tuple #[(.pointer none),(.int .i64 3)]) f) (aB b fun a=>aa 1 a fun a=>ak f a fun a=>aB b fun g=>aa 3 g fun g=>aa 2 g fun g=>ak f g fun g=>ab 56 #[a,(.int .i64 0),g] f fun a f=>aq 0 a fun g=>aq 1 a fun a=>ea 0 a (.int .i64 0) fun h=>ao h (R (.tuple #[(.pointer none),a]) f) (aB b fun a=>aa 2 a fun a=>ak f a fun a=>aB b fun h=>aa 3 h fun h=>aa 3 h fun h=>ak f h fun i=>ab 57 #[a,g] f fun a f=> (ak f h fun g=>g=i)∧ea 0 a i fun a=>ao a (R (.tuple #[(.pointer none),(.int .i64 7)]) f) (R (.tuple #[b,(.int .i64 0)]) f))))∧ab 53 #[d] c fun a c=>aq 0 a fun d=>aq 1 a fun a=>dW a (.int .u64 0) fun a=>ao a (ab 54 #[d] c fun a d=>aq 0 a fun f=>aq 1 a fun a=>bs d 71 (.agg #[(.int .u32 0),(.int .u32 0),(.int .i64 0),(.int .u32 0),(.bool false)]) fun d g=>aC g 5 d f fun _ f=>e7 a fun a=>ao a (R (.tuple #[(.pointer none),(.int .i64 3)]) f) (aE f 5 d fun a=>aB b fun b=>aa 3 b fun b=>aC f 5 b a fun _ a=>e a)) (e c))))):ab 21 #[a] H0 R:=bD 0x103a002a5021b41a15156450412111102011101d2303a53a6301f0427fff531121111011101f23002a52a0181a445191315543042111ffff53111ffe511110110002a233059002a52a318a52a7a292c33123045a003a52a37a002a54a02a53a632a Tryz.func21 h
theorem wH.vc (a:Value) (h:
 bs H0 71 (.agg #[(.int .u32 0),(.int .u32 0),(.int .i64 0),(.int .u32 0),(.bool false)]) fun b c=>cu 3 a (.pointer none) fun d=>ao d (aT [(.int .u32 0),(.int .u32 0),(.int .i64 0),(.int .u32 0),(.bool false)] [] fun d=>aC c 5 b d fun _ d=>aE d 5 b fun e=>R e d) (aB a fun a=>aa 3 a fun a=>aE c 5 a fun a=>aC c 5 b a fun _ a=>aE a 5 b fun b=>R b a)):ab 22 #[a] H0 R:=bD 0x105a002a52a31a Tryz.func22 h
theorem yh.vc (a b c:Value) (h:
 cu 3 a (.pointer none) fun d=>ao d (R (.tuple #[(str []),(.int .i64 1)]) H0) (aB a fun a=>aa 1 a fun a=>ak H0 a fun a=>ab 56 #[a,b,c] H0 fun a b=>aq 0 a fun c=>aq 1 a fun a=>R (.tuple #[c,a]) b)):ab 23 #[a,b,c] H0 R:=bD 0x101ba002a52a32a Tryz.func23 h
theorem uh.vc (a b:Value) (h:
 ab 58 #[a,(.bool false)] H0 fun c d=>ea 0 c (.int .i64 0) fun e=>ao e (R c d) (aX b fun c=>ab 59 #[a] d fun d e=>dW c d fun c=>ao c (R (.int .i64 15) e) (aB a fun c=>aa 1 c fun c=>ak e c fun c=>ab 60 #[c,b] e fun c d=>ea 0 c (.int .i64 0) fun e=>ao e (ab 61 #[a,c] d fun c e=>R c e) (aB a fun c=>aa 1 c fun c=>ak d c fun c=>ab 62 #[c] d fun c d=>ea 0 c (.int .i64 0) fun e=>ao e (ab 61 #[a,c] d fun c e=>R c e) (aB a fun c=>aa 3 c fun c=>aE d 5 c fun c=>bs d 71 (.agg #[(.int .u32 0),(.int .u32 0),(.int .i64 0),(.int .u32 0),(.bool false)]) fun d e=>aC e 5 d c fun _ c=>aa 2 d fun e=>ak c e fun f=>aX b fun g=>aG f g fun g=>aB a fun h=>aa 2 h fun h=>ak c h fun h=>aa 3 d fun i=>ak c i fun i=>aa 2 d fun j=>ab 63 #[h,i,b] c fun b c=> (ak c e fun e=>e=f)∧aF c j g fun _ c=>aa 3 d fun e=>aF c e b fun _ b=>aE b 5 d fun c=>ab 64 #[a,c] b fun a b=>R a b))))):ab 24 #[a,b] H0 R:=bD 0x104a031e4111c11d51c0411238bf57fc8501011102101029236a004a52a6a3004a52a7a3001a55a3002a52a3a31a Tryz.func24 h
theorem ui.vc (a:Value) (h:
 ab 65 #[a,(.bool false),(.func (.func 66) #[] #[])] H0 fun a b=>R a b):ab 25 #[a] H0 R:=bD 0x103a1a Tryz.func25 h
theorem wI.vc (a:Value) (h:
 ab 65 #[a,(.bool true),(.func (.func 102) #[] #[])] H0 fun a b=>R a b):ab 47 #[a] H0 R:=bD 0x103a1a Tryz.func47 h
theorem HC.vc (a:Value) (h:
 bs H0 71 (.agg #[(.int .u32 0),(.int .u32 0),(.int .i64 0),(.int .u32 0),(.bool false)]) fun b c=>aX a fun d=>ea 0 d (.int .i64 21) fun d=>ao d (aT [(.int .u32 0),(.int .u32 0),(.int .i64 0),(.int .u32 0),(.bool false)] [] fun d=>aC c 5 b d fun _ d=>aE d 5 b fun e=>R (.tuple #[e,(.bool false)]) d) (a7 a (some (.int .i64 8)) (some (.int .i64 16)) fun d=>ab 109 #[d] c fun c d=> ∃e:Value→ai→Prop,(∀ (_:Env) (f:Value) (g:ai),e f g→aE g 5 f fun h=>aE g 5 f fun i=>ab 110 #[i] g fun g i=> (aE i 5 f fun f=>f=h)∧cu 1 g a fun f=>aC i 5 b h fun _ g=>aE g 5 b fun b=>R (.tuple #[b,f]) g)∧a7 a none (some (.int .i64 4)) fun b=>a7 a (some (.int .i64 4)) (some (.int .i64 8)) fun f=>jU c (.int .u64 4194304) fun c=>bm .i64 c fun c=>a7 a (some (.int .i64 16)) (some (.int .i64 20)) fun g=>bO a (.int .i64 20) fun a=>cu 0 a (.int .u8 1) fun a=> (ab 109 #[b] d fun h i=>bm .u32 h fun h=> (ab 109 #[f] i fun j k=>bm .u32 j fun j=> (ab 109 #[g] k fun l m=>bm .u32 l fun l=>aT [(.int .u32 0),(.int .u32 0),(.int .i64 0),(.int .u32 0),(.bool false)] [(0,1,h),(1,1,j),(2,1,c),(3,1,l),(4,1,a)] fun l=>bs m 71 (.agg #[(.int .u32 0),(.int .u32 0),(.int .i64 0),(.int .u32 0),(.bool false)]) fun m n=>aC n 5 m l fun _ l=>e m l)∧(bs k 71 (.agg #[(.int .u32 0),(.int .u32 0),(.int .i64 0),(.int .u32 0),(.bool false)]) fun k l=>ab 109 #[g] l fun l m=>bm .u32 l fun l=>aT [(.int .u32 0),(.int .u32 0),(.int .i64 0),(.int .u32 0),(.bool false)] [(0,1,h),(1,1,j),(2,1,c),(3,1,l),(4,1,a)] fun j=>aC m 5 k j fun _ j=>e k j))∧(bs i 71 (.agg #[(.int .u32 0),(.int .u32 0),(.int .i64 0),(.int .u32 0),(.bool false)]) fun i j=>ab 109 #[f] j fun j k=>bm .u32 j fun j=>ab 109 #[g] k fun k l=>bm .u32 k fun k=>aT [(.int .u32 0),(.int .u32 0),(.int .i64 0),(.int .u32 0),(.bool false)] [(0,1,h),(1,1,j),(2,1,c),(3,1,k),(4,1,a)] fun h=>aC l 5 i h fun _ h=>e i h))∧(bs d 71 (.agg #[(.int .u32 0),(.int .u32 0),(.int .i64 0),(.int .u32 0),(.bool false)]) fun d h=>ab 109 #[b] h fun b h=>bm .u32 b fun b=>ab 109 #[f] h fun f h=>bm .u32 f fun f=>ab 109 #[g] h fun g h=>bm .u32 g fun g=>aT [(.int .u32 0),(.int .u32 0),(.int .i64 0),(.int .u32 0),(.bool false)] [(0,1,b),(1,1,f),(2,1,c),(3,1,g),(4,1,a)] fun a=>aC h 5 d a fun _ a=>e d a))):ab 54 #[a] H0 R:=bD 0x1003440121352042751e5010072302c52a521d42642242b502c52a521d42642b502c52a521d42b5032a421d432643224331f4518424420420211011c9ef51011016f51011102d22a705205144a003a53a32a Tryz.func54 h
theorem wJ.vc (a b:Value) (h:
 cu 3 a (.pointer none) fun c=>ao c (R (.int .i64 1) H0) (aB a fun c=>aa 8 c fun c=>ak H0 c fun c=>d_ c (fun c=>e7 b fun b=>bZ b (fun b=>aB a fun a=>aa 3 a fun a=>aa 4 a fun a=>ak H0 a fun a=>b a H0) H0 fun a b=> ∀_:Env,c a b) H0 fun a b=> ∀_:Env,ao a (R (.int .i64 16) b) (R (.int .i64 0) b))):ab 58 #[a,b] H0 R:=bD 0x101a001a501f51e01d0518472354425041301a53a631a Tryz.func58 h
theorem yi.vc (a:Value) (h:
 cu 3 a (.pointer none) fun b=>d_ b (fun b=>aB a fun c=>aa 3 c fun c=>aa 4 c fun c=>ak H0 c fun c=>b c H0) H0 fun b c=> ∀_:Env,ao b (R (.int .i64 0) c) (aB a fun a=>aa 1 a fun a=>ak c a fun a=>ab 111 #[a] c fun a b=>R a b)):ab 59 #[a] H0 R:=bD 0x106a001a50180534223041331a Tryz.func59 h
theorem pf.vc (a b:Value) (h:
 ea 0 b (.int .i64 0) fun c=>ao c (aB a fun a=>aa 8 a fun a=>aF H0 a (.bool true) fun _ a=>R b a) (R b H0)):ab 61 #[a,b] H0 R:=bD 0x102a04952a31a Tryz.func61 h
theorem Ay.vc (a b:Value) (h:
 bs H0 71 b fun b c=>aB a fun d=>aa 0 d fun d=>ak c d fun e=>aE c 5 b fun f=>ab 110 #[f] c fun c f=> (ak f d fun d=>d=e)∧ab 114 #[e,c] f fun c d=> ∃e:ai→Prop,(∀ (_:Env) (f:ai),e f→ab 61 #[a,c] f fun f g=>R f g)∧cu 0 c (.int .i64 0) fun c=>ao c (aE d 5 b fun b=>aB a fun a=>aa 3 a fun a=>aC d 5 a b fun _ a=>e a) (e d)):ab 64 #[a,b] H0 R:=bD 0x104a05952a51d104026431515041210111018232a Tryz.func64 h
theorem uj.vc (a b c:Value) (h:
 ab 58 #[a,b] H0 fun b d=>ea 0 b (.int .i64 0) fun e=>ao e (R b d) (aB a fun b=>aa 3 b fun b=>aE d 5 b fun b=>bs d 71 (.agg #[(.int .u32 0),(.int .u32 0),(.int .i64 0),(.int .u32 0),(.bool false)]) fun d e=>aC e 5 d b fun _ b=>jk Tryz.prog Tryz.C c [d] b fun _ b=>aE b 5 d fun c=>ab 64 #[a,c] b fun a b=>R a b)):ab 65 #[a,b,c] H0 R:=bD 0x104a2a6a002a52a4a31a Tryz.func65 h
theorem qH.vc (a:Value) (h:
 aB a fun a=>aa 4 a fun a=>aF H0 a (.bool true) fun _ a=>R (.tuple #[]) a):ab 66 #[a] H0 R:=bD 0x149 Tryz.func66 h
theorem ry.vc (a:Value) (h:
 aB a fun b=>aa 1 b fun b=>ak H0 b fun b=>aG b (.int .u32 1) fun b=>aB a fun a=>aa 1 a fun a=>aF H0 a b fun _ a=>R (.tuple #[]) a):ab 102 #[a] H0 R:=bD 0x1189 Tryz.func102 h
theorem wK.vc (a:Value) (h:
 bs H0 71 a fun a b=> ∃c:Value→ai→Prop,(∀ (_:Env) (d:Value) (e:ai),c d e→aa 0 a fun f=>ak e f fun f=>bm .u64 f fun f=>aa 1 a fun g=>ak e g fun h=>bm .u64 h fun i=>aa 2 a fun j=>ak e j fun k=>bm .u64 k fun l=>aa 3 a fun m=>ak e m fun n=>bm .u64 n fun o=>ab 118 #[f,(.int .i64 4)] e fun e f=> (ak f g fun g=>g=h)∧(ak f j fun g=>g=k)∧(ak f m fun g=>g=n)∧ab 118 #[i,(.int .i64 4)] f fun f g=> (ak g j fun h=>h=k)∧(ak g m fun h=>h=n)∧aG e f fun e=>ab 118 #[l,(.int .i64 8)] g fun f g=> (ak g m fun h=>h=n)∧aG e f fun e=>ab 118 #[o,(.int .i64 4)] g fun f g=>aG e f fun e=>ab 118 #[d,(.int .i64 1)] g fun d f=>aG e d fun d=>R d f)∧aa 4 a fun a=>ak b a fun a=>ao a (c (.int .u64 1) b) (c (.int .u64 0) b)):ab 110 #[a] H0 R:=bD 0x10032c422941d51f11c11851f1a2711f1a53312b531e43194344304122fdfbff5023dfbff511027bff51101211011102f2301952a23103141a2a Tryz.func110 h
theorem Tf.vc (a:Value) (h:
 bs H0 40 (.agg #[(.int .i64 0),(.int .i64 0),(.int .i64 0),(.int .i64 0),(.int .i64 0),(.int .i64 0)]) fun b c=>cq a (.int .i64 0) fun d=>ao d (aT [(.int .i64 0),(.int .i64 0),(.int .i64 0),(.int .i64 0),(.int .i64 0),(.int .i64 0)] [] fun d=>aC c 6 b d fun _ d=>aE d 6 b fun e=>R (.tuple #[e,(.bool false)]) d) (rh a (.int .i64 43200) fun d=>l8 a (.int .i64 43200) fun a=>rh a (.int .i64 1800) fun e=>rh a (.int .i64 30) fun f=>l8 f (.int .i64 60) fun f=>l8 a (.int .i64 30) fun a=>qE a (.int .i64 2) fun a=>aT [(.int .i64 0),(.int .i64 0),(.int .i64 0),(.int .i64 0),(.int .i64 0),(.int .i64 0)] [(0,1,(.int .i64 1980)),(1,1,(.int .i64 1)),(2,1,(.int .i64 1)),(3,1,e),(4,1,f),(5,1,a)] fun a=>bs c 40 (.agg #[(.int .i64 0),(.int .i64 0),(.int .i64 0),(.int .i64 0),(.int .i64 0),(.int .i64 0)]) fun c e=>aC e 6 c a fun _ a=> ∃e:Value→ai→Prop,(∀ (_:Env) (f:Value) (g:ai),e f g→aa 0 c fun h=>ak g h fun h=>dW h (.int .i64 2107) fun h=>ao h (aT [(.int .i64 0),(.int .i64 0),(.int .i64 0),(.int .i64 0),(.int .i64 0),(.int .i64 0)] [] fun h=>aC g 6 b h fun _ h=>aE h 6 b fun i=>R (.tuple #[i,(.bool false)]) h) (∃ (h:Value→ai→Prop) (i:Value→ai→Nat),h f g∧∀ (_:Env) (f:Value) (g:ai),h f g→aa 0 c fun j=>ak g j fun j=>aa 1 c fun k=>ak g k fun k=>ab 73 #[j,k] g fun j k=>lB f j fun j=>ao j (aa 0 c fun j=>ak k j fun j=>aa 1 c fun l=>ak k l fun l=>ab 73 #[j,l] k fun j l=>bY f j fun j=>aa 1 c fun m=>ak l m fun m=>aG m (.int .i64 1) fun m=>aa 1 c fun n=>aF l n m fun _ l=>h j l∧i j l<i f g) (aa 2 c fun g=>ak k g fun g=>aG g f fun f=>aa 2 c fun g=>aF k g f fun _ f=>aE f 6 c fun g=>aC f 6 b g fun _ f=>aE f 6 b fun b=>R (.tuple #[b,(.bool true)]) f)))∧∃ (b:Value→ai→Prop) (f:Value→ai→Nat),b d a∧∀ (_:Env) (a:Value) (d:ai),b a d→aa 0 c fun g=>ak d g fun g=>vk g (.int .i64 2107) fun g=>ao g (aa 0 c fun g=>ak d g fun g=>ab 73 #[g,(.int .i64 2)] d fun g h=>aG (.int .i64 337) g fun g=>cq a g fun i=>ao i (e a h) (bY a g fun g=>aa 0 c fun i=>ak h i fun i=>aG i (.int .i64 1) fun i=>aa 0 c fun c=>aF h c i fun _ c=>b g c∧f g c<f a d)) (e a d))):ab 29 #[a] H0 R:=bD 0x103a6a5918a60057a32958042041763003a53a3594a0053a35a60053a32828020430417628280204304141ba6a003a52a32a Tryz.func29 h
theorem Nu.vc (a b:Value) (h:
 ∃c:Value→ai→Prop,(∀ (_:Env) (d:Value) (e:ai),c d e→ao d (R (.int .i64 30) e) (cu 0 b (.int .i64 2) fun d=>ao d (ab 127 #[a] e fun a d=>ao a (R (.int .i64 29) d) (R (.int .i64 28) d)) (cq b (.int .i64 1) fun a=>d_ a (fun a=>dW b (.int .i64 12) fun d=>a d e) e fun a d=> ∀_:Env,ao a (R (.int .i64 0) d) (R (.int .i64 31) d))))∧cu 0 b (.int .i64 4) fun a=>ao a (c a H0) (cu 0 b (.int .i64 6) fun a=>ao a (c a H0) (cu 0 b (.int .i64 9) fun a=>ao a (c a H0) (cu 0 b (.int .i64 11) fun a=>c a H0)))):ab 73 #[a,b] H0 R:=bD 0x101a001a505023422304133001a001a52a352a01a529052a052a052a461061461a31a Tryz.func73 h
theorem Az.vc (a:Value) (h:
 bs H0 40 a fun a b=>aa 0 a fun c=>ak b c fun c=>lB c (.int .i64 1980) fun c=>bZ c (fun c=>aa 0 a fun d=>ak b d fun d=>vk d (.int .i64 2107) fun d=>c d b) b fun b c=> ∀_:Env,bZ b (fun b=>aa 2 a fun d=>ak c d fun d=>lB d (.int .i64 1) fun d=>b d c) c fun b c=> ∀_:Env,bZ b (fun b=>aa 2 a fun d=>ak c d fun e=>aa 0 a fun f=>ak c f fun f=>aa 1 a fun g=>ak c g fun g=>ab 73 #[f,g] c fun f g=> (ak g d fun d=>d=e)∧vk e f fun d=>b d g) c fun b c=> ∀_:Env,bZ b (fun b=>aa 3 a fun d=>ak c d fun d=>lB d (.int .i64 0) fun d=>b d c) c fun b c=> ∀_:Env,bZ b (fun b=>aa 3 a fun d=>ak c d fun d=>cq d (.int .i64 24) fun d=>b d c) c fun b c=> ∀_:Env,bZ b (fun b=>aa 4 a fun d=>ak c d fun d=>lB d (.int .i64 0) fun d=>b d c) c fun b c=> ∀_:Env,bZ b (fun b=>aa 4 a fun d=>ak c d fun d=>cq d (.int .i64 60) fun d=>b d c) c fun b c=> ∀_:Env,bZ b (fun b=>aa 5 a fun d=>ak c d fun d=>lB d (.int .i64 0) fun d=>b d c) c fun b c=> ∀_:Env,bZ b (fun b=>aa 5 a fun d=>ak c d fun d=>cq d (.int .i64 60) fun d=>b d c) c fun b c=> ∀_:Env,bZ b (fun b=>aa 5 a fun a=>ak c a fun a=>l8 a (.int .i64 2) fun a=>cu 0 a (.int .i64 0) fun a=>b a c) c fun a b=> ∀_:Env,R a b):ab 94 #[a] H0 R:=bD 0x1007b57a046e46d26d56c036946826855f035c45b25b55a034f44e24e54d034a449249548033d43c23c53b033842f22f52e02d51f12c161e41d21d51c0319418218570344324041111111111111111111111111111111111111123ebffff513ffff513ffff511111111111111107c232a Tryz.func94 h
theorem Nv.vc (a:Value) (h:
 l8 a (.int .i64 4) fun b=>cu 0 b (.int .i64 0) fun b=>bZ b (fun b=>l8 a (.int .i64 100) fun c=>ea 0 c (.int .i64 0) fun c=>d_ c (fun c=>l8 a (.int .i64 400) fun a=>cu 0 a (.int .i64 0) fun a=>c a H0) H0 fun a c=> ∀_:Env,b a c) H0 fun a b=> ∀_:Env,R a b):ab 127 #[a] H0 R:=bD 0x1001d51c01b031847244432404131a Tryz.func127 h
theorem AA.vc (a:Value) (h:
 bs H0 40 a fun a b=>aE b 6 a fun c=>ab 94 #[c] b fun b c=>e7 b fun b=>ao b (R (.tuple #[(.int .u64 0),(.int .u64 0),(.bool false)]) c) (aa 2 a fun b=>ak c b fun b=>aa 1 a fun d=>ak c d fun d=>jv d (.int .u64 5) fun d=>cx .or b d fun b=>aa 0 a fun d=>ak c d fun d=>bY d (.int .i64 1980) fun d=>jv d (.int .u64 9) fun d=>cx .or b d fun b=>bm .u64 b fun b=>aa 5 a fun d=>ak c d fun d=>rh d (.int .i64 2) fun d=>aa 4 a fun e=>ak c e fun e=>jv e (.int .u64 5) fun e=>cx .or d e fun d=>aa 3 a fun a=>ak c a fun a=>jv a (.int .u64 11) fun a=>cx .or d a fun a=>bm .u64 a fun a=>R (.tuple #[b,a,(.bool true)]) c)):ab 197 #[a] H0 R:=bD 0x1003b04127fff511fff888851107f888851101101211102110103b23003a53a34a Tryz.func197 h
theorem HD.vc (a b:Value) (h:
 bs H0 40 (.agg #[(.int .i64 0),(.int .i64 0),(.int .i64 0),(.int .i64 0),(.int .i64 0),(.int .i64 0)]) fun c d=>lB a (.int .u64 65536) fun e=>d_ e (fun e=>lB b (.int .u64 65536) fun f=>e f d) d fun d e=> ∀_:Env,ao d (aT [(.int .i64 0),(.int .i64 0),(.int .i64 0),(.int .i64 0),(.int .i64 0),(.int .i64 0)] [] fun d=>aC e 6 c d fun _ d=>aE d 6 c fun f=>R (.tuple #[f,(.bool false)]) d) (bm .i64 a fun a=>bm .i64 b fun b=>mo a (.int .u64 9) fun d=>aG d (.int .i64 1980) fun d=>mo a (.int .u64 5) fun f=>cx .and f (.int .i64 15) fun f=>cx .and a (.int .i64 31) fun a=>mo b (.int .u64 11) fun g=>mo b (.int .u64 5) fun h=>cx .and h (.int .i64 63) fun h=>cx .and b (.int .i64 31) fun b=>qE b (.int .i64 2) fun b=>aT [(.int .i64 0),(.int .i64 0),(.int .i64 0),(.int .i64 0),(.int .i64 0),(.int .i64 0)] [(0,1,d),(1,1,f),(2,1,a),(3,1,g),(4,1,h),(5,1,b)] fun a=>bs e 40 (.agg #[(.int .i64 0),(.int .i64 0),(.int .i64 0),(.int .i64 0),(.int .i64 0),(.int .i64 0)]) fun b d=>aC d 6 b a fun _ a=>aE a 6 b fun d=>ab 94 #[d] a fun a d=>e7 a fun a=>ao a (aT [(.int .i64 0),(.int .i64 0),(.int .i64 0),(.int .i64 0),(.int .i64 0),(.int .i64 0)] [] fun a=>aC d 6 c a fun _ a=>aE a 6 c fun e=>R (.tuple #[e,(.bool false)]) a) (aE d 6 b fun a=>aC d 6 c a fun _ a=>aE a 6 c fun b=>R (.tuple #[b,(.bool true)]) a))):ab 262 #[a,b] H0 R:=bD 0x103a003a53a32ba6a003a5050234223041332a Tryz.func262 h
theorem strings_Join.vc (a b:Value) (h:
 bV a fun c=>cu 0 c (.int .i64 0) fun d=>ao d (R (str []) H0) (cu 0 c (.int .i64 1) fun c=>ao c (aI 1 a (.int .i64 0) fun c=>ak H0 c fun c=>R c H0) (∃c:Value→ai→Prop,(∀ (_:Env) (d:Value) (e:ai),c d e→bV a fun f=> ∃ (g:Value→Value→ai→Prop) (h:Value→Value→ai→Nat),g d (.int .i64 0) e∧∀ (_:Env) (d e:Value) (i:ai),g d e i→cq e f fun f=>ao f (aI 1 a e fun f=>ak i f fun f=> ∃j:ai→Prop,(∀ (_:Env) (k:ai),j k→aX f fun l=>aG d l fun l=>aG e (.int .i64 1) fun m=>g l m k∧h l m k<h d e i)∧aX f fun e=>bY (.int .i64 9223372036854775807) d fun f=>dW e f fun e=>ao e (False) (j i)) (bs i 153 (.agg #[(.pointer none),(.slice none 0 0)]) fun e f=>ab 74 #[e,d] f fun _ d=>aI 1 a (.int .i64 0) fun f=>ak d f fun f=>ab 75 #[e,f] d fun _ d=>fg 1 a (some (.int .i64 1)) none fun f=>bV f fun g=> ∃ (h:Value→ai→Prop) (i:Value→ai→Nat),h (.int .i64 0) d∧∀ (_:Env) (d:Value) (j:ai),h d j→cq d g fun g=>ao g (aI 1 f d fun f=>ak j f fun f=>ab 75 #[e,b] j fun _ g=>ab 75 #[e,f] g fun _ f=>aG d (.int .i64 1) fun g=>h g f∧i g f<i d j) (ab 76 #[e] j fun d e=>R d e)))∧aX b fun d=>dW d (.int .i64 0) fun d=>ao d (∃d:ai→Prop,(∀ (_:Env) (e:ai),d e→aX b fun f=>bV a fun g=>bY g (.int .i64 1) fun g=>qE f g fun f=>aG (.int .i64 0) f fun f=>c f e)∧aX b fun b=>bV a fun a=>bY a (.int .i64 1) fun a=>rh (.int .i64 9223372036854775807) a fun a=>lB b a fun a=>ao a (False) (d H0)) (c (.int .i64 0) H0)))):ab 30 #[a,b] H0 R:=bD 0x102a29292a3a6300531a186e01a201891764a34a2a1a295902955a55d1043a6300531a1e490105304b052763a3019902957a72f10453a2a1e05205141a004a52a01a52a62a31a Tryz.func30 h
theorem strings_Repeat.vc (a b:Value) (h:
 cu 0 b (.int .i64 0) fun c=>ao c (R (str []) H0) (cu 0 b (.int .i64 1) fun c=>ao c (R a H0) (∃c:ai→Prop,(∀ (_:Env) (d:ai),c d→aX a fun e=>bm .u64 e fun e=>bm .u64 b fun f=>ab 105 #[e,f] d fun d e=>aq 0 d fun f=>aq 1 d fun d=> ∃g:ai→Prop,(∀ (_:Env) (h:ai),g h→bm .i64 d fun i=>aX a fun j=>cu 0 j (.int .i64 0) fun j=>ao j (R (str []) h) (∃j:ai→Prop,(∀ (_:Env) (k:ai),j k→∃l:Value→ai→Prop,(∀ (_:Env) (m:Value) (n:ai),l m n→bs n 153 (.agg #[(.pointer none),(.slice none 0 0)]) fun n o=>ab 74 #[n,i] o fun _ o=>ab 75 #[n,a] o fun _ o=> ∃ (p:ai→Prop) (q:ai→Nat),p o∧∀ (_:Env) (o:ai),p o→ab 100 #[n] o fun r s=>cq r i fun r=>ao r (ab 100 #[n] s fun r t=>bY i r fun r=>ab 100 #[n] t fun t u=>jU r t fun r=>jU r m fun m=>ab 76 #[n] u fun r t=>a7 r none (some m) fun m=>ab 75 #[n,m] t fun _ m=>p m∧q m<q o) (ab 76 #[n] s fun m n=>R m n))∧dW i (.int .i64 8192) fun m=>ao m (aX a fun m=>rh (.int .i64 8192) m fun m=>aX a fun n=>qE m n fun m=>cu 0 m (.int .i64 0) fun n=>ao n (aX a fun n=>l n k) (l m k)) (l i k))∧bO a (.int .i64 0) fun k=> ∃l:Value→ai→Prop,(∀ (_:Env) (m:Value) (n:ai),l m n→ao m (vk i (.int .i64 128) fun m=>bZ m (fun m=>ab 106 #[(str [32,32,32,32,32,32,32,32,32,32,32,32,32,32,32,32,32,32,32,32,32,32,32,32,32,32,32,32,32,32,32,32,32,32,32,32,32,32,32,32,32,32,32,32,32,32,32,32,32,32,32,32,32,32,32,32,32,32,32,32,32,32,32,32,32,32,32,32,32,32,32,32,32,32,32,32,32,32,32,32,32,32,32,32,32,32,32,32,32,32,32,32,32,32,32,32,32,32,32,32,32,32,32,32,32,32,32,32,32,32,32,32,32,32,32,32,32,32,32,32,32,32,32,32,32,32,32,32]),a] n fun o p=>m o p) n fun m o=> ∀_:Env,ao m (a7 (str [32,32,32,32,32,32,32,32,32,32,32,32,32,32,32,32,32,32,32,32,32,32,32,32,32,32,32,32,32,32,32,32,32,32,32,32,32,32,32,32,32,32,32,32,32,32,32,32,32,32,32,32,32,32,32,32,32,32,32,32,32,32,32,32,32,32,32,32,32,32,32,32,32,32,32,32,32,32,32,32,32,32,32,32,32,32,32,32,32,32,32,32,32,32,32,32,32,32,32,32,32,32,32,32,32,32,32,32,32,32,32,32,32,32,32,32,32,32,32,32,32,32,32,32,32,32,32,32]) none (some i) fun m=>R m o) (vk i (.int .i64 128) fun m=>bZ m (fun m=>ab 106 #[(str [45,45,45,45,45,45,45,45,45,45,45,45,45,45,45,45,45,45,45,45,45,45,45,45,45,45,45,45,45,45,45,45,45,45,45,45,45,45,45,45,45,45,45,45,45,45,45,45,45,45,45,45,45,45,45,45,45,45,45,45,45,45,45,45,45,45,45,45,45,45,45,45,45,45,45,45,45,45,45,45,45,45,45,45,45,45,45,45,45,45,45,45,45,45,45,45,45,45,45,45,45,45,45,45,45,45,45,45,45,45,45,45,45,45,45,45,45,45,45,45,45,45,45,45,45,45,45,45]),a] o fun p q=>m p q) o fun m o=> ∀_:Env,ao m (a7 (str [45,45,45,45,45,45,45,45,45,45,45,45,45,45,45,45,45,45,45,45,45,45,45,45,45,45,45,45,45,45,45,45,45,45,45,45,45,45,45,45,45,45,45,45,45,45,45,45,45,45,45,45,45,45,45,45,45,45,45,45,45,45,45,45,45,45,45,45,45,45,45,45,45,45,45,45,45,45,45,45,45,45,45,45,45,45,45,45,45,45,45,45,45,45,45,45,45,45,45,45,45,45,45,45,45,45,45,45,45,45,45,45,45,45,45,45,45,45,45,45,45,45,45,45,45,45,45,45]) none (some i) fun m=>R m o) (vk i (.int .i64 64) fun m=>bZ m (fun m=>ab 106 #[(str [48,48,48,48,48,48,48,48,48,48,48,48,48,48,48,48,48,48,48,48,48,48,48,48,48,48,48,48,48,48,48,48,48,48,48,48,48,48,48,48,48,48,48,48,48,48,48,48,48,48,48,48,48,48,48,48,48,48,48,48,48,48,48,48]),a] o fun p q=>m p q) o fun m o=> ∀_:Env,ao m (a7 (str [48,48,48,48,48,48,48,48,48,48,48,48,48,48,48,48,48,48,48,48,48,48,48,48,48,48,48,48,48,48,48,48,48,48,48,48,48,48,48,48,48,48,48,48,48,48,48,48,48,48,48,48,48,48,48,48,48,48,48,48,48,48,48,48]) none (some i) fun m=>R m o) (vk i (.int .i64 128) fun m=>bZ m (fun m=>ab 106 #[(str [61,61,61,61,61,61,61,61,61,61,61,61,61,61,61,61,61,61,61,61,61,61,61,61,61,61,61,61,61,61,61,61,61,61,61,61,61,61,61,61,61,61,61,61,61,61,61,61,61,61,61,61,61,61,61,61,61,61,61,61,61,61,61,61,61,61,61,61,61,61,61,61,61,61,61,61,61,61,61,61,61,61,61,61,61,61,61,61,61,61,61,61,61,61,61,61,61,61,61,61,61,61,61,61,61,61,61,61,61,61,61,61,61,61,61,61,61,61,61,61,61,61,61,61,61,61,61,61]),a] o fun p q=>m p q) o fun m o=> ∀_:Env,ao m (a7 (str [61,61,61,61,61,61,61,61,61,61,61,61,61,61,61,61,61,61,61,61,61,61,61,61,61,61,61,61,61,61,61,61,61,61,61,61,61,61,61,61,61,61,61,61,61,61,61,61,61,61,61,61,61,61,61,61,61,61,61,61,61,61,61,61,61,61,61,61,61,61,61,61,61,61,61,61,61,61,61,61,61,61,61,61,61,61,61,61,61,61,61,61,61,61,61,61,61,61,61,61,61,61,61,61,61,61,61,61,61,61,61,61,61,61,61,61,61,61,61,61,61,61,61,61,61,61,61,61]) none (some i) fun m=>R m o) (vk i (.int .i64 64) fun m=>bZ m (fun m=>ab 106 #[(str [9,9,9,9,9,9,9,9,9,9,9,9,9,9,9,9,9,9,9,9,9,9,9,9,9,9,9,9,9,9,9,9,9,9,9,9,9,9,9,9,9,9,9,9,9,9,9,9,9,9,9,9,9,9,9,9,9,9,9,9,9,9,9,9]),a] o fun a p=>m a p) o fun a m=> ∀_:Env,ao a (a7 (str [9,9,9,9,9,9,9,9,9,9,9,9,9,9,9,9,9,9,9,9,9,9,9,9,9,9,9,9,9,9,9,9,9,9,9,9,9,9,9,9,9,9,9,9,9,9,9,9,9,9,9,9,9,9,9,9,9,9,9,9,9,9,9,9]) none (some i) fun a=>R a m) (j m)))))) (j n))∧cu 0 k (.int .u8 32) fun a=>ao a (l a h) (cu 0 k (.int .u8 45) fun a=>ao a (l a h) (cu 0 k (.int .u8 48) fun a=>ao a (l a h) (cu 0 k (.int .u8 61) fun a=>ao a (l a h) (cu 0 k (.int .u8 9) fun a=>l a h))))))∧dW f (.int .u64 0) fun a=>d_ a (fun a=>dW d (.int .u64 9223372036854775807) fun d=>a d e) e fun a d=> ∀_:Env,ao a (False) (g d))∧cq b (.int .i64 0) fun a=>ao a (False) (c H0)))):ab 50 #[a,b] H0 R:=bD 0x102a497a60053a31c1cc01a207632a2a1a003952a7a52a1b1ae0182018142a0003a506550234223041303a506550234223041303a506550234223041303a506550234223041303a50655023422304136529052a052a052a052a55b105b1462a6c4c04204001a53a33a0295050234223041363d1041ba02952a229104002a52a01a52a61a31a Tryz.func50 h
theorem fU.vc (a b:Value) (h:
 ab 128 #[a] H0 fun _ c=>aB a fun d=>aa 1 d fun d=>ak c d fun d=>bj c 5 1 1 [(.int .u8 0)] d b fun c d=>aB a fun a=>aa 1 a fun a=>aF d a c fun _ a=>aX b fun b=>R (.tuple #[b,.nilIface]) a):ab 75 #[a,b] H0 R:=bD 0x104a1aa2a2a Tryz.func75 h
theorem qI.vc (a:Value) (h:
 aB a fun a=>aa 1 a fun a=>ak H0 a fun a=>bV a fun a=>R a H0):ab 100 #[a] H0 R:=bD 0x106a1a Tryz.func100 h
theorem strings_HasPrefix.vc (a b:Value) (h:
 ab 152 #[a,b] H0 fun a b=>R a b):ab 106 #[a,b] H0 R:=bD 0x104a1a Tryz.func106 h
theorem strings_HasSuffix.vc (a b:Value) (h:
 ab 189 #[a,b] H0 fun a b=>R a b):ab 136 #[a,b] H0 R:=bD 0x104a1a Tryz.func136 h
theorem oD.vc (a:Value) (h:
 aB a fun b=>aa 0 b fun b=>aF H0 b (.pointer none) fun _ b=>aB a fun a=>aa 1 a fun a=>aF b a (.slice none 0 0) fun _ a=>R (.tuple #[]) a):ab 174 #[a] H0 R:=bD 0x1494a Tryz.func174 h
theorem strings_ContainsFunc.vc (a b:Value) (h:
 ab 237 #[a,b] H0 fun a b=>lB a (.int .i64 0) fun a=>R a b):ab 193 #[a,b] H0 R:=bD 0x105a1a Tryz.func193 h
theorem uk.vc (a b:Value) (h:
 ab 238 #[a,b,(.int .i64 0)] H0 fun a b=>R a b):ab 195 #[a,b] H0 R:=bD 0x104a1a Tryz.func195 h
theorem um.vc (a b c:Value) (h:
 bs H0 9 a fun a d=>bs d 9 b fun b d=>bs d 3 c fun c d=>R (.func (.func 264) #[] #[b,a,c]) d):ab 238 #[a,b,c] H0 R:=bD 0x102a4a Tryz.func238 h
theorem lH.vc (a b:Value) (h:
 ab 128 #[a] H0 fun _ c=>aB a fun d=>aa 1 d fun d=>ak c d fun d=>aY c 5 1 [(.int .u8 0)] [(0,1,b)] fun b c=>bj c 5 1 1 [(.int .u8 0)] d b fun b c=>aB a fun a=>aa 1 a fun a=>aF c a b fun _ a=>R .nilIface a):ab 258 #[a,b] H0 R:=bD 0x101a1ba2a1a Tryz.func258 h
end
section
variable {H:ai} {R:Value→ai→Prop}
structure T6 where
 (y m d h n s:Int)
deriving DecidableEq
abbrev T6.cells (t:T6):Array Value:= #[.int .i64 t.y,.int .i64 t.m,.int .i64 t.d,.int .i64 t.h,.int .i64 t.n,.int .i64 t.s]
abbrev T6.v (t:T6):Value:= .agg t.cells
def T6.obj (t:T6):Obj:= .cells t.cells 40 (0,0)
def T6.zero:T6:= ⟨0,0,0,0,0,0⟩
def RY (y:Int):Bool:=decide (y.tmod 4=0∧(y.tmod 100≠0∨y.tmod 400=0))
def ei (y m:Int):Int:=if m=4∨m=6∨m=9∨m=11 then 30 else if m=2 then (if RY y then 29 else 28) else if m<1∨12<m then 0 else 31
def j0 (t:T6):Bool:=decide (1980≤t.y∧t.y≤2107∧1≤t.d∧t.d≤ei t.y t.m∧0≤t.h∧t.h<24∧0≤t.n∧t.n<60∧0≤t.s∧t.s<60∧t.s.tmod 2=0)
theorem KJ {y:Int} (h:R (.bool (RY y)) H):ab 127 #[.int .i64 y] H R:=by
 refine Nv.vc _ _ _ ?_;simp only [jz,ne_eq,Int.reduceEq,not_false_eq_true,bc,true_and,cA,fC,ki,HA,qe];exact fun _=>h
theorem qi {y m:Int} (h:R (.int .i64 (ei y m)) H):ab 73 #[.int .i64 y,.int .i64 m] H R:=by
 refine Nu.vc _ _ _ _ ?_;refine⟨fun v H' =>v= .bool (decide (m=4∨m=6∨m=9∨m=11))∧H' =H,?_,?_⟩
 ·rintro _ _ _ ⟨rfl,rfl⟩
  simp only [a8,aN,fC,ki,bc];refine av (fun hc=>?_) (fun hc=>?_)
  ·rw [ei,if_pos hc] at h;exact h
  rw [ei,if_neg hc] at h;refine av (fun hc=>?_) (fun hc=>?_)
  ·rw [if_pos hc] at h
   refine KJ ?_;refine cy (fun hl=>?_) (fun hl=>?_)
   ·rw [hl] at h;exact h
   ·rw [hl] at h;exact h
  rw [if_neg hc] at h
  intros
  refine av (fun hc=>?_) (fun hc=>?_)
  ·rw [if_pos hc] at h;exact h
  ·rw [if_neg hc] at h;exact h
 ·simp only [and_true,bc]
  refine av (fun hc=>?_) (fun hc=>?_)
  ·simp [hc]
  refine av (fun hc=>?_) (fun hc=>?_)
  ·simp [hc]
  refine av (fun hc=>?_) (fun hc=>?_)
  ·simp [hc]
  simp [*]
theorem qj {t:T6} (h: ∀H',Ext H H' →R (.bool (j0 t)) H'):ab 94 #[t.v] H R:=by
 refine Az.vc _ _ _ ?_;refine eW fun H1 s1 e1 b1=>?_;have b1:H1[H.size]? =some t.obj:=b1;have h:=h H1 e1;simp only [ae,al,agL,oY b1,agB,kp,ags,dP,jy,qe,agI]
 intros
 refine dM (d:=decide (t.d≤ei t.y t.m)) (fun _=>?_) ?_
 ·refine qi ?_
  simp only [oY b1,agI,agB,and_true,kp]
 simp only [qe,oY b1,agI,agB,dP,jy,aN,jz,ne_eq,Int.reduceEq,not_false_eq_true,bc,true_and]
 intros
 refine JF ?_ h;rw [j0,ahm];simp only [decide_eq_true_eq,agk]
 constructor<;>intro h<;>simp only [h,and_self,true_and,and_true]
def n8 (t:T6):Int:=IntKind.u64.wrap (bitsOf .or .i64 (bitsOf .or .i64 t.d (IntKind.i64.wrap (t.m*2 ^ 5))) (IntKind.i64.wrap (IntKind.i64.wrap (t.y - 1980)*2 ^ 9)))
def n9 (t:T6):Int:=IntKind.u64.wrap (bitsOf .or .i64 (bitsOf .or .i64 (IntKind.i64.wrap (t.s.tdiv 2)) (IntKind.i64.wrap (t.n*2 ^ 5))) (IntKind.i64.wrap (t.h*2 ^ 11)))
theorem HE {t:T6} (h: ∀H',Ext H H' →R (if j0 t then .tuple #[.int .u64 (n8 t),.int .u64 (n9 t),.bool true] else .tuple #[.int .u64 0,.int .u64 0,.bool false]) H'):ab 197 #[t.v] H R:=by
 refine AA.vc _ _ _ ?_;refine eW fun H1 s1 e1 b1=>?_;have b1:H1[H.size]? =some t.obj:=b1;rw [cK b1 (by rfl)];refine qj fun H2 e2=>?_;have b2:=e2.fZ b1;have h:=h H2 (e1.trans e2);simp only [ae,al,ags,oY b2,agI,agB,eB,Int.reduceLE,true_and,ug,ne_eq,Int.reduceEq,not_false_eq_true,cd,bR,agL,aZ,db];refine cy (fun hg=>?_) (fun hg=>?_)
 ·rw [if_neg (by simpa using hg)] at h;exact h
 ·rw [if_pos (by simpa using hg)] at h
  exact h
def Ut (d n:Int):T6:= ⟨d/512+1980,d/32%16,d%32,n/2048,n/32%64,n%32*2⟩
def PQ (d n:Int):Bool:=decide (d<65536∧n<65536) && j0 (Ut d n)
theorem EI {d n:Int} (hd:0≤d) (hn:0≤n) (h: ∀H',Ext H H' →R (.tuple #[(if PQ d n then Ut d n else T6.zero).v,.bool (PQ d n)]) H'):ab 262 #[.int .u64 d,.int .u64 n] H R:=by
 refine HD.vc _ _ _ _ ?_;refine eW fun H1 s1 e1 b1=>?_;have b1:H1[H.size]? =some T6.zero.obj:=b1;simp only [dP,bz,eE,ags,agi,agt,Nat.reduceAdd,Nat.reduceLeDiff,true_and,bR,cd,mc,kG,ag1,List.fD,dd,eh,kj,Int.reduceLE,az,ahx,ahp,sG,fC,ki]
 intros
 refine av (fun hc=>?_) (fun hc=>?_)
 ·refine cL b1 (by rfl) (by rfl) (by rfl) fun H2 _ u2=>?_
  rw [cK u2.at_ (by rfl)];have h:=h H2 (u2.ext e1 (aga _));rw [show PQ d n=false by simp [PQ];omega] at h;exact h
 have Ym:d<65536:=by omega
 have Vs:n<65536:=by omega
 have f9:d.fdiv (2 ^ (min (9:Int).toNat IntKind.i64.bits))=d/512:=by rw [aiw _ (by decide)];rfl
 have f5:d.fdiv (2 ^ (min (5:Int).toNat IntKind.i64.bits))=d/32:=by rw [aiw _ (by decide)];rfl
 have g11:n.fdiv (2 ^ (min (11:Int).toNat IntKind.i64.bits))=n/2048:=by rw [aiw _ (by decide)];rfl
 have g5:n.fdiv (2 ^ (min (5:Int).toNat IntKind.i64.bits))=n/32:=by rw [aiw _ (by decide)];rfl
 simp only [ba (show -9223372036854775808≤d by omega) (show d≤9223372036854775807 by omega),ba (show -9223372036854775808≤n by omega) (show n≤9223372036854775807 by omega),f9,f5,g11,g5];rw [nx (k:=4) (m:=15) (by decide) rfl,nx (k:=5) (m:=31) (by decide) rfl,nx (k:=6) (m:=63) (by decide) rfl,nx (k:=5) (m:=31) (by decide) rfl,ba (by omega) (by omega),ba (by omega) (by omega)];refine eW fun H2 s2 e2 b2=>?_;have b2:H2[H1.size]? =some T6.zero.obj:=b2;refine cL b2 (by rfl) (by rfl) (by rfl) fun H3 _ u3=>?_;have b3:H3[H1.size]? =some (Ut d n).obj:=u3.at_;have a3:=u3.sI (e2.fZ b1) (by omega);have e3:Ext H H3:=u3.ext (e1.trans e2) (by omega);rw [cK b3 (by rfl)];refine qj (t:=Ut d n) fun H4 e4=>?_;have a4:=e4.fZ a3;have b4:=e4.fZ b3;simp only [db];refine cy (fun hg=>?_) (fun hg=>?_)
 ·refine cL a4 (by rfl) (by rfl) (by rfl) fun H5 _ u5=>?_
  rw [cK u5.at_ (by rfl)];have h:=h H5 (u5.ext (e3.trans e4) (aga _));rw [show PQ d n=false by simp [PQ];intros;simpa using hg] at h;exact h
 ·rw [cK b4 (by rfl)]
  refine cL a4 (by rfl) (by rfl) (by rfl) fun H5 _ u5=>?_;rw [cK u5.at_ (by rfl)];have h:=h H5 (u5.ext (e3.trans e4) (aga _));rw [show PQ d n=true by simp [PQ];exact⟨⟨by omega,by omega⟩,by simpa using hg⟩] at h;exact h
def gq (y:Int):Int:=337+ei y 2
def gR:Nat→Int→Int→Int × Int
 |0,y,d=> (y,d)
 |k+1,y,d=>if d<gq y then (y,d) else gR k (y+1) (d - gq y)
def oe:Nat→Int→Int→Int→Int × Int
 |0,_,m,d=> (m,d)
 |k+1,y,m,d=>if ei y m≤d then oe k y (m+1) (d - ei y m) else (m,d)
def pg:Nat→Int→Int→Int
 |0,y,m=>ei y m
 |k+1,y,m=>ei y m+pg k y (m+1)
def RZ (n:Int):Option T6:=
 if n<0 then none else
 if 2107< (gR 128 1980 (n/43200)).1 then none else
 some ⟨(gR 128 1980 (n/43200)).1,(oe 11 (gR 128 1980 (n/43200)).1 1 (gR 128 1980 (n/43200)).2).1,1+ (oe 11 (gR 128 1980 (n/43200)).1 1 (gR 128 1980 (n/43200)).2).2,
  n%43200/1800,n%43200/30%60,n%43200%30*2⟩
theorem EJ (y:Int):28≤ei y 2∧ei y 2≤29:=by
 simp only [ei];simp;split<;>decide
theorem Nw {y m:Int} (h1:1≤m) (h2:m≤12):28≤ei y m∧ei y m≤31:=by
 unfold ei
 split
 ·decide
 ·split
  ·split<;>decide
  ·rw [if_neg (by omega)];decide
theorem EK (y:Int):pg 11 y 1=gq y:=by
 simp only [pg,gq,ei]
 simp
 split<;>rfl
set_option maxHeartbeats 1000000 in
theorem Qz {n:Int} (hn:n≤9223372036854775807) (h: ∀H',Ext H H' →R (.tuple #[((RZ n).getD T6.zero).v,.bool (RZ n).isSome]) H'):ab 29 #[.int .i64 n] H R:=by
 refine Tf.vc _ _ _ ?_;refine eW fun H1 s1 e1 b1=>?_;have b1:H1[H.size]? =some T6.zero.obj:=b1;simp only [bz,eE,kG,ag1,agi,agt,ags,Nat.reduceAdd,Nat.reduceLeDiff,List.fD,dd,ahx,eh,ahp,true_and,jz,ne_eq,Int.reduceEq,not_false_eq_true,mc,ug,sG,aN];refine av (fun hc=>?_) (fun hc=>?_)
 ·refine cL b1 (by rfl) (by rfl) (by rfl) fun H2 _ u2=>?_
  rw [cK u2.at_ (by rfl)];have h:=h H2 (u2.ext e1 (aga _));rw [RZ,if_pos hc] at h;exact h
 have Bg:0≤n:=by omega
 rw [RZ,if_neg hc] at h;have q1:n.tdiv 43200=n/43200:=aix Bg;have q2:n.tmod 43200=n%43200:=ahy Bg;have q3: (n%43200).tdiv 1800=n%43200/1800:=aix (by omega);have q4: (n%43200).tdiv 30=n%43200/30:=aix (by omega);have q5: (n%43200/30).tmod 60=n%43200/30%60:=ahy (by omega);have q6: (n%43200).tmod 30=n%43200%30:=ahy (by omega);simp only [q1,q2,q3,q4,ba (show -9223372036854775808≤n/43200 by omega) (show n/43200≤9223372036854775807 by omega),ba (show -9223372036854775808≤n%43200/1800 by omega) (show n%43200/1800≤9223372036854775807 by omega),ba (show -9223372036854775808≤n%43200/30 by omega) (show n%43200/30≤9223372036854775807 by omega),q5,q6,ba (show -9223372036854775808≤n%43200%30*2 by omega) (show n%43200%30*2≤9223372036854775807 by omega)];generalize hA:n%43200/1800=A at*;generalize hB:n%43200/30%60=B at*;generalize hC:n%43200%30*2=C at*;refine eW fun H2 s2 e2 b2=>?_;have b2:H2[H1.size]? =some T6.zero.obj:=b2;refine cL b2 (by rfl) (by rfl) (by rfl) fun H3 _ u3=>?_;have b3:H3[H1.size]? =some (T6.obj ⟨1980,1,1,A,B,C⟩):=u3.at_;have a3:H3[H.size]? =some T6.zero.obj:=u3.sI (e2.fZ b1) (by omega);have e3:Ext H H3:=u3.ext (e1.trans e2) (by omega);have df:H.size≠H1.size:=by omega
 have hle:H.size≤H1.size:=by omega
 generalize H1.size=c at*;generalize hb:H.size=b at*;clear u3 b2 e2 s2 e1 s1 b1 q1 q2 q3 q4 q5 q6;generalize hD:n/43200=D at*;refine⟨fun v H' => ∃y d,v= .int .i64 d∧H'[c]? =some (T6.obj ⟨y,1,1,A,B,C⟩)∧H'[b]? =some T6.zero.obj∧Ext H H' ∧gR 128 1980 D= (y,d)∧(2107<y∨d<gq y)∧0≤d∧d≤D,?_,?_⟩
 ·rintro _ _ H4 ⟨y,d,rfl,c4,b4,e4,hy,hd,GU,PR⟩
  rw [hy] at h
  dsimp only at h
  simp only [ae,al,ags,agL];refine gF c4 rfl ?_;simp only [a8];refine av (fun f_=>?_) (fun f_=>?_)
  ·refine cL b4 (by rfl) (by rfl) (by rfl) fun H5 _ u5=>?_
   rw [cK u5.at_ (by rfl)];have h:=h H5 (u5.ext e4 (by omega));rw [if_pos f_] at h;exact h
  rw [if_neg f_] at h;have cF:d<pg 11 y 1:=by rw [EK];omega
  refine⟨fun v H' => ∃ (m e:Int) (k:Nat),v= .int .i64 e∧H'[c]? =some (T6.obj ⟨y,m,1,A,B,C⟩)∧H'[b]? =some T6.zero.obj∧Ext H H' ∧m+k=12∧1≤m∧oe k y m e=oe 11 y 1 d∧0≤e∧e<pg k y m∧e≤D,fun v _=>match v with| .int _ e=>e.toNat|_=>0,⟨1,d,11,rfl,c4,b4,e4,by omega,by omega,rfl,GU,cF,PR⟩,?_⟩;rintro _ _ H5 ⟨m,e,k,rfl,c5,b5,e5,hk,hm,Uu,Xf,GV,PI⟩;have hdm:=Nw (y:=y) hm (show m≤12 by omega);refine gF c5 rfl ?_;simp only [];refine gF c5 rfl ?_;refine qi ?_;simp only [dP];refine av (fun Ar=>?_) (fun Ar=>?_)
  ·refine gF c5 rfl ?_
   simp only [];refine gF c5 rfl ?_;refine qi ?_;simp only [aZ];rw [ba (by omega) (by omega)];refine gF c5 rfl ?_;simp only [az];rw [ba (by omega) (by omega)];refine gn c5 (by simp [T6.cells]) rfl fun H6 _ u6=>?_
   match k,hk,Uu,GV with
   |0,hk,Uu,GV=>simp only [pg] at GV;omega
   |k+1,hk,Uu,GV=>
    simp only [pg] at GV;simp only [oe,if_pos Ar] at Uu;exact⟨⟨m+1,e - ei y m,k,rfl,u6.at_,u6.sI b5 (by omega),u6.ext e5 (by omega),by omega,by omega,Uu,by omega,by omega,by omega⟩,by show (_:Int).toNat< (_:Int).toNat;omega⟩
  ·have hf:oe 11 y 1 d= (m,e):=by
    rw [←Uu]
    cases k with
    |zero=>rfl
    |succ k=>simp only [oe,if_neg Ar]
   rw [hf] at h;refine gF c5 rfl ?_;simp only [az];rw [ba (by omega) (by omega)];refine gn c5 (by simp [T6.cells]) rfl fun H6 _ u6=>?_;have c6:H6[c]? =some (T6.obj ⟨y,m,1+e,A,B,C⟩):=u6.at_;rw [cK c6 (by rfl)];refine cL (u6.sI b5 (by omega)) (by rfl) (by rfl) (by rfl) fun H7 _ u7=>?_;rw [cK u7.at_ (by rfl)];have h:=h H7 (u7.ext (u6.ext e5 (by omega)) (by omega));exact h
 ·refine⟨fun v H' => ∃ (y d:Int) (k:Nat),v= .int .i64 d∧H'[c]? =some (T6.obj ⟨y,1,1,A,B,C⟩)∧H'[b]? =some T6.zero.obj∧Ext H H' ∧y+k=2108∧1980≤y∧gR k y d=gR 128 1980 D∧0≤d∧d≤D,fun v _=>match v with| .int _ e=>e.toNat|_=>0,⟨1980,D,128,rfl,b3,a3,e3,by omega,by omega,rfl,by omega,by omega⟩,?_⟩
  rintro _ _ H4 ⟨y,d,k,rfl,c4,b4,e4,hk,hy,KK,GU,PR⟩;have h2:=EJ y;simp only [ae,al,agL];refine gF c4 rfl ?_;simp only [kp];refine av (fun f_=>?_) (fun f_=>?_)
  ·refine gF c4 rfl ?_
   refine qi ?_;simp only [az,aZ,aN];rw [ba (by omega) (by omega)]
   match k,hk,KK with
   |0,hk,KK=>omega
   |k+1,hk,KK=>
    have KK: (if d<gq y then (y,d) else gR k (y+1) (d - gq y))=gR 128 1980 D:=KK;refine av (fun Ar=>?_) (fun Ar=>?_)
    ·rw [if_pos (show d<gq y from Ar)] at KK
     exact⟨y,d,rfl,c4,b4,e4,KK.symm,.inr Ar,GU,PR⟩
    ·rw [if_neg (show ¬d<gq y from Ar)] at KK
     rw [ba (by omega) (by omega)];refine gF c4 rfl ?_;simp only [az];rw [ba (by omega) (by omega)];refine gn c4 (by simp [T6.cells]) rfl fun H6 _ u6=>?_;exact⟨⟨y+1,d - (337+ei y 2),k,rfl,u6.at_,u6.sI b4 (by omega),u6.ext e4 (by omega),by omega,by omega,KK,by omega,by omega⟩,by show (_:Int).toNat< (_:Int).toNat;omega⟩
  ·match k,hk,KK with
   |0,hk,KK=>exact⟨y,d,rfl,c4,b4,e4,KK.symm,.inl (by omega),GU,PR⟩
   |k+1,hk,KK=>omega
end
end Go.Proofs.YtpcgccdmmoggmaaGreatDoor
namespace Go.Proofs
open Go.Shelf
section
open Go.RowKit in
open Go.RowKit in
open Go.RowKit in
open Go.RowKit in
def Tryz.vD:Go.Shelf.Ren:= ⟨fun|156=>30|165=>74|166=>75|169=>76|240=>128|241=>129|276=>178|277=>179|n=>n,fun|31=>60|9=>9|3=>3|4=>4|0=>0|20=>20|72=>153|76=>156|70=>151|37=>82|75=>155|127=>200|164=>256|5=>5|80=>149|n=>n,fun|n=>n⟩
theorem Tryz.JJ:Go.Proofs.Lays.n156 Tryz.prog Tryz.vD:= {
 mixed:=by kernel_rfl
 f156:=Tryz.func30.trans (congrArg some (by kernel_rfl))
 f165:=Tryz.func74.trans (congrArg some (by kernel_rfl))
 f166:=Tryz.func75.trans (congrArg some (by kernel_rfl))
 f169:=Tryz.func76.trans (congrArg some (by kernel_rfl))
 f240:=Tryz.func128.trans (congrArg some (by kernel_rfl))
 f241:=Tryz.func129.trans (congrArg some (by kernel_rfl))
 f276:=Tryz.func178.trans (congrArg some (by kernel_rfl))
 f277:=Tryz.func179.trans (congrArg some (by kernel_rfl))
 t0:=Tryz.underlying0
 a0:=Tryz.isAgg0
 z0:=Tryz.sizeOf0
 v0:=Tryz.zeroValue0
 t3:=Tryz.underlying3
 a3:=Tryz.isAgg3
 z3:=Tryz.sizeOf3
 v3:=Tryz.zeroValue3
 t4:=Tryz.underlying4
 a4:=Tryz.isAgg4
 z4:=Tryz.sizeOf4
 v4:=Tryz.zeroValue4
 t9:=Tryz.underlying9
 a9:=Tryz.isAgg9
 z9:=Tryz.sizeOf9
 v9:=Tryz.zeroValue9
 t20:=Tryz.underlying20
 a20:=Tryz.isAgg20
 z20:=Tryz.sizeOf20
 v20:=Tryz.zeroValue20
 t31:=Tryz.underlying60
 a31:=Tryz.isAgg60
 z31:=Tryz.sizeOf60
 v31:=Tryz.zeroValue60
 t37:=Tryz.underlying82
 a37:=Tryz.isAgg82
 z37:=Tryz.sizeOf82
 v37:=Tryz.zeroValue82
 t70:=Tryz.underlying151
 a70:=Tryz.isAgg151
 z70:=Tryz.sizeOf151
 v70:=Tryz.zeroValue151
 t72:=Tryz.underlying153
 a72:=Tryz.isAgg153
 z72:=Tryz.sizeOf153
 v72:=Tryz.zeroValue153
 t75:=Tryz.underlying155
 a75:=Tryz.isAgg155
 z75:=Tryz.sizeOf155
 v75:=Tryz.zeroValue155
 t76:=Tryz.underlying156
 a76:=Tryz.isAgg156
 z76:=Tryz.sizeOf156
 v76:=Tryz.zeroValue156
 t127:=Tryz.underlying200
 a127:=Tryz.isAgg200
 z127:=Tryz.sizeOf200
 v127:=Tryz.zeroValue200
 t164:=Tryz.underlying256
 a164:=Tryz.isAgg256
 z164:=Tryz.sizeOf256
 v164:=Tryz.zeroValue256}
theorem Tryz.lO:Builder.Extra Tryz.prog Tryz.vD:= {
 sizeBuilder:=by kernel_rfl
 liesBuilder:=by kernel_rfl
 t5:=Tryz.underlying5
 a5:=Tryz.isAgg5
 z5:=Tryz.sizeOf5
 v5:=Tryz.zeroValue5
 infoByte:=by kernel_rfl
 cellsByte:=by kernel_rfl
 sizeByte:=by kernel_rfl
 neB5:=by decide}
open Go.RowKit in
theorem Tryz.strings_Join_none (a:Option Addr) (c:Nat) (sep:ByteArray) (w:World):
  Calls Tryz.prog 30 #[.slice a 0 c,.string sep] w fun e w' =>e= .returned (.string ⟨#[]⟩)∧w' =w:=Any.strings_Join_none Tryz.JJ Tryz.lO a c sep w
open Go.RowKit in
theorem Tryz.strings_Join (bk o c:Nat) (xs:List ByteArray) (sep:ByteArray) (w:World) (jw: ∀ (j:Nat) x,xs[j]? =some x→w.cell? ⟨bk,o+j,none⟩=some (.string x)) (U4:bk<w.heap.size) (hN:xs.length≤140737488355328) (x_:xs.length≤c) (hlen: (Lib.join (xs.map (·.data.toList)) sep.data.toList).length≤140737488355328):
  Calls Tryz.prog 30 #[.slice (some ⟨bk,o,none⟩) xs.length c,.string sep] w fun e w' =>e= .returned (.string ⟨(Lib.join (xs.map (·.data.toList)) sep.data.toList).toArray⟩)∧Below w.heap.size w w' :=Any.strings_Join Tryz.JJ Tryz.lO bk o c xs sep w jw U4 hN x_ hlen
open Go.RowKit Go.Lib in
open Go.RowKit Go.Lib in
open Go.RowKit Go.Lib in
open Go.RowKit Go.Lib in
open Go.RowKit Go.Lib in
def Tryz.EL:Go.Shelf.Ren:= ⟨fun|143=>266|219=>283|217=>301|225=>302|224=>303|267=>304|266=>313|314=>314|n=>n,fun|9=>9|3=>3|4=>4|5=>5|46=>171|146=>217|51=>42|n=>n,fun|1=>1|n=>n⟩
theorem Tryz.QA:Go.Proofs.Lays.n143 Tryz.prog Tryz.EL:= {
 mixed:=by kernel_rfl
 f143:=Tryz.func266.trans (congrArg some (by kernel_rfl))
 f217:=Tryz.func301.trans (congrArg some (by kernel_rfl))
 f219:=Tryz.func283.trans (congrArg some (by kernel_rfl))
 f224:=Tryz.func303.trans (congrArg some (by kernel_rfl))
 f225:=Tryz.func302.trans (congrArg some (by kernel_rfl))
 f266:=Tryz.func313.trans (congrArg some (by kernel_rfl))
 f267:=Tryz.func304.trans (congrArg some (by kernel_rfl))
 f314:=Tryz.func314.trans (congrArg some (by kernel_rfl))
 t3:=Tryz.underlying3
 a3:=Tryz.isAgg3
 z3:=Tryz.sizeOf3
 v3:=Tryz.zeroValue3
 t4:=Tryz.underlying4
 a4:=Tryz.isAgg4
 z4:=Tryz.sizeOf4
 v4:=Tryz.zeroValue4
 t5:=Tryz.underlying5
 a5:=Tryz.isAgg5
 z5:=Tryz.sizeOf5
 v5:=Tryz.zeroValue5
 t9:=Tryz.underlying9
 a9:=Tryz.isAgg9
 z9:=Tryz.sizeOf9
 v9:=Tryz.zeroValue9
 t46:=Tryz.underlying171
 a46:=Tryz.isAgg171
 z46:=Tryz.sizeOf171
 v46:=Tryz.zeroValue171
 t51:=Tryz.underlying42
 a51:=Tryz.isAgg42
 z51:=Tryz.sizeOf42
 v51:=Tryz.zeroValue42
 t146:=Tryz.underlying217
 a146:=Tryz.isAgg217
 z146:=Tryz.sizeOf217
 v146:=Tryz.zeroValue217
 g1:=by kernel_rfl}
open Go.RowKit Go.Lib in
theorem Tryz.strings_Index_one (s:ByteArray) (c:UInt8) (w:World):
  Calls Tryz.prog 266 #[.string s,.string ⟨#[c]⟩] w fun e w' =>e= .returned (.int .i64 (Lib.indexByte s.data.toList c))∧w' =w:=Any.strings_Index_one Tryz.QA s c w
open Go.RowKit Go.Lib in
def Tryz.Cz:Go.Shelf.Ren:= ⟨fun|17=>193|15=>237|20=>263|n=>n,fun|9=>9|23=>273|4=>4|3=>3|0=>0|21=>21|n=>n,fun|n=>n⟩
theorem Tryz.Nx:Go.Proofs.LaysGw.n17 Tryz.prog Tryz.Cz:= {
 mixed:=by kernel_rfl
 f15:=Tryz.func237.trans (congrArg some (by kernel_rfl))
 f17:=Tryz.func193.trans (congrArg some (by kernel_rfl))
 f20:=Tryz.func263.trans (congrArg some (by kernel_rfl))
 t0:=Tryz.underlying0
 a0:=Tryz.isAgg0
 z0:=Tryz.sizeOf0
 v0:=Tryz.zeroValue0
 i0:=by kernel_rfl
 t3:=Tryz.underlying3
 a3:=Tryz.isAgg3
 z3:=Tryz.sizeOf3
 v3:=Tryz.zeroValue3
 i3:=by kernel_rfl
 t4:=Tryz.underlying4
 a4:=Tryz.isAgg4
 z4:=Tryz.sizeOf4
 v4:=Tryz.zeroValue4
 i4:=by kernel_rfl
 t9:=Tryz.underlying9
 a9:=Tryz.isAgg9
 z9:=Tryz.sizeOf9
 v9:=Tryz.zeroValue9
 i9:=by kernel_rfl
 t21:=Tryz.underlying21
 a21:=Tryz.isAgg21
 z21:=Tryz.sizeOf21
 v21:=Tryz.zeroValue21
 i21:=by kernel_rfl
 t23:=Tryz.underlying273
 a23:=Tryz.isAgg273
 z23:=Tryz.sizeOf273
 v23:=Tryz.zeroValue273
 i23:=by kernel_rfl}
open Go.RowKit Go.Lib in
theorem Tryz.strings_ContainsFunc (g:Nat) (lb:Array Value) (eg: ∀args w,(callFunc g args).run Tryz.prog w= .ok (.enter g args) w) (p:Nat→Bool) (s:ByteArray) (w:World) (hp:PredAt Tryz.prog g lb encR p w):
  Calls Tryz.prog 193 #[.string s,.func (.func g) #[] lb] w fun e w' =>e= .returned (.bool (decide (0≤Lib.idxFunc p true s)))∧Below w.heap.size w w' :=Any.strings_ContainsFunc Tryz.Nx g lb eg p s w hp
def Tryz.vE:Go.Shelf.Ren:= ⟨fun|105=>50|212=>105|99=>106|165=>74|166=>75|170=>100|169=>76|263=>150|264=>151|206=>152|240=>128|241=>129|276=>178|277=>179|n=>n,fun|9=>9|3=>3|4=>4|20=>20|0=>0|46=>171|109=>178|5=>5|72=>153|76=>156|51=>42|146=>217|53=>41|148=>219|70=>151|37=>82|75=>155|127=>200|164=>256|80=>149|n=>n,fun|n=>n⟩
theorem Tryz.QB:Go.Proofs.Lays.n105 Tryz.prog Tryz.vE:= {
 mixed:=by kernel_rfl
 f99:=Tryz.func106.trans (congrArg some (by kernel_rfl))
 f105:=Tryz.func50.trans (congrArg some (by kernel_rfl))
 f165:=Tryz.func74.trans (congrArg some (by kernel_rfl))
 f166:=Tryz.func75.trans (congrArg some (by kernel_rfl))
 f169:=Tryz.func76.trans (congrArg some (by kernel_rfl))
 f170:=Tryz.func100.trans (congrArg some (by kernel_rfl))
 f206:=Tryz.func152.trans (congrArg some (by kernel_rfl))
 f212:=Tryz.func105.trans (congrArg some (by kernel_rfl))
 f240:=Tryz.func128.trans (congrArg some (by kernel_rfl))
 f241:=Tryz.func129.trans (congrArg some (by kernel_rfl))
 f263:=Tryz.func150.trans (congrArg some (by kernel_rfl))
 f264:=Tryz.func151.trans (congrArg some (by kernel_rfl))
 f276:=Tryz.func178.trans (congrArg some (by kernel_rfl))
 f277:=Tryz.func179.trans (congrArg some (by kernel_rfl))
 t0:=Tryz.underlying0
 a0:=Tryz.isAgg0
 z0:=Tryz.sizeOf0
 v0:=Tryz.zeroValue0
 t3:=Tryz.underlying3
 a3:=Tryz.isAgg3
 z3:=Tryz.sizeOf3
 v3:=Tryz.zeroValue3
 t4:=Tryz.underlying4
 a4:=Tryz.isAgg4
 z4:=Tryz.sizeOf4
 v4:=Tryz.zeroValue4
 t5:=Tryz.underlying5
 a5:=Tryz.isAgg5
 z5:=Tryz.sizeOf5
 v5:=Tryz.zeroValue5
 t9:=Tryz.underlying9
 a9:=Tryz.isAgg9
 z9:=Tryz.sizeOf9
 v9:=Tryz.zeroValue9
 t20:=Tryz.underlying20
 a20:=Tryz.isAgg20
 z20:=Tryz.sizeOf20
 v20:=Tryz.zeroValue20
 t37:=Tryz.underlying82
 a37:=Tryz.isAgg82
 z37:=Tryz.sizeOf82
 v37:=Tryz.zeroValue82
 t46:=Tryz.underlying171
 a46:=Tryz.isAgg171
 z46:=Tryz.sizeOf171
 v46:=Tryz.zeroValue171
 t51:=Tryz.underlying42
 a51:=Tryz.isAgg42
 z51:=Tryz.sizeOf42
 v51:=Tryz.zeroValue42
 t53:=Tryz.underlying41
 a53:=Tryz.isAgg41
 z53:=Tryz.sizeOf41
 v53:=Tryz.zeroValue41
 t70:=Tryz.underlying151
 a70:=Tryz.isAgg151
 z70:=Tryz.sizeOf151
 v70:=Tryz.zeroValue151
 t72:=Tryz.underlying153
 a72:=Tryz.isAgg153
 z72:=Tryz.sizeOf153
 v72:=Tryz.zeroValue153
 t75:=Tryz.underlying155
 a75:=Tryz.isAgg155
 z75:=Tryz.sizeOf155
 v75:=Tryz.zeroValue155
 t76:=Tryz.underlying156
 a76:=Tryz.isAgg156
 z76:=Tryz.sizeOf156
 v76:=Tryz.zeroValue156
 t109:=Tryz.underlying178
 a109:=Tryz.isAgg178
 z109:=Tryz.sizeOf178
 v109:=Tryz.zeroValue178
 t127:=Tryz.underlying200
 a127:=Tryz.isAgg200
 z127:=Tryz.sizeOf200
 v127:=Tryz.zeroValue200
 t146:=Tryz.underlying217
 a146:=Tryz.isAgg217
 z146:=Tryz.sizeOf217
 v146:=Tryz.zeroValue217
 t148:=Tryz.underlying219
 a148:=Tryz.isAgg219
 z148:=Tryz.sizeOf219
 v148:=Tryz.zeroValue219
 t164:=Tryz.underlying256
 a164:=Tryz.isAgg256
 z164:=Tryz.sizeOf256
 v164:=Tryz.zeroValue256}
theorem Tryz.sN:Builder.Extra Tryz.prog Tryz.vE:= {
 sizeBuilder:=by kernel_rfl
 liesBuilder:=by kernel_rfl
 t5:=Tryz.underlying5
 a5:=Tryz.isAgg5
 z5:=Tryz.sizeOf5
 v5:=Tryz.zeroValue5
 infoByte:=by kernel_rfl
 cellsByte:=by kernel_rfl
 sizeByte:=by kernel_rfl
 neB5:=by decide}
open Go.RowKit Go.Lib in
open Go.RowKit Go.Lib in
open Go.RowKit Go.Lib in
open Go.RowKit Go.Lib in
open Go.RowKit Go.Lib in
theorem Tryz.strings_Repeat (s:ByteArray) (c:Nat) (w:World) (hc:c≤9223372036854775807) (hlen:s.size*c≤140737488355328):
  Calls Tryz.prog 50 #[.string s,.int .i64 c] w fun e w' =>e= .returned (.string ⟨(Lib.repeatL s.data.toList c).toArray⟩)∧Below w.heap.size w w' :=Any.strings_Repeat Tryz.QB Tryz.sN s c w hc hlen
def Tryz.uo:Go.Shelf.Ren:= ⟨fun|6=>244|15=>271|14=>270|28=>293|29=>294|20=>285|21=>286|22=>287|23=>288|24=>289|25=>290|26=>291|27=>292|46=>307|47=>308|48=>309|49=>310|50=>311|57=>318|n=>n,fun|22=>59|24=>3|25=>150|3=>3|39=>171|0=>0|53=>42|55=>41|4=>4|46=>371|45=>370|50=>305|5=>5|9=>9|66=>389|70=>393|76=>402|77=>326|n=>n,fun|n=>n⟩
theorem Tryz.R0:Go.Proofs.SlLaysF.n6 Tryz.prog Tryz.uo:= {
 mixed:=by kernel_rfl
 f6:= ⟨Tryz.f244.name,by decide,Tryz.func244.trans (congrArg some (by kernel_rfl))⟩
 f14:= ⟨Tryz.f270.name,by decide,Tryz.func270.trans (congrArg some (by kernel_rfl))⟩
 f15:=Tryz.func271.trans (congrArg some (by kernel_rfl))
 f20:= ⟨Tryz.f285.name,by decide,Tryz.func285.trans (congrArg some (by kernel_rfl))⟩
 f21:= ⟨Tryz.f286.name,by decide,Tryz.func286.trans (congrArg some (by kernel_rfl))⟩
 f22:= ⟨Tryz.f287.name,by decide,Tryz.func287.trans (congrArg some (by kernel_rfl))⟩
 f23:= ⟨Tryz.f288.name,by decide,Tryz.func288.trans (congrArg some (by kernel_rfl))⟩
 f24:= ⟨Tryz.f289.name,by decide,Tryz.func289.trans (congrArg some (by kernel_rfl))⟩
 f25:= ⟨Tryz.f290.name,by decide,Tryz.func290.trans (congrArg some (by kernel_rfl))⟩
 f26:= ⟨Tryz.f291.name,by decide,Tryz.func291.trans (congrArg some (by kernel_rfl))⟩
 f27:= ⟨Tryz.f292.name,by decide,Tryz.func292.trans (congrArg some (by kernel_rfl))⟩
 f28:=Tryz.func293.trans (congrArg some (by kernel_rfl))
 f29:=Tryz.func294.trans (congrArg some (by kernel_rfl))
 f46:= ⟨Tryz.f307.name,by decide,Tryz.func307.trans (congrArg some (by kernel_rfl))⟩
 f47:=Tryz.func308.trans (congrArg some (by kernel_rfl))
 f48:=Tryz.func309.trans (congrArg some (by kernel_rfl))
 f49:= ⟨Tryz.f310.name,by decide,Tryz.func310.trans (congrArg some (by kernel_rfl))⟩
 f50:= ⟨Tryz.f311.name,by decide,Tryz.func311.trans (congrArg some (by kernel_rfl))⟩
 f57:= ⟨Tryz.f318.name,by decide,Tryz.func318.trans (congrArg some (by kernel_rfl))⟩
 t0:=Tryz.underlying0
 a0:=Tryz.isAgg0
 z0:=Tryz.sizeOf0
 v0:=Tryz.zeroValue0
 t3:=Tryz.underlying3
 a3:=Tryz.isAgg3
 z3:=Tryz.sizeOf3
 v3:=Tryz.zeroValue3
 t4:=Tryz.underlying4
 a4:=Tryz.isAgg4
 z4:=Tryz.sizeOf4
 v4:=Tryz.zeroValue4
 t5:=Tryz.underlying5
 a5:=Tryz.isAgg5
 z5:=Tryz.sizeOf5
 v5:=Tryz.zeroValue5
 t9:=Tryz.underlying9
 a9:=Tryz.isAgg9
 z9:=Tryz.sizeOf9
 v9:=Tryz.zeroValue9
 t22:=Tryz.underlying59
 a22:=Tryz.isAgg59
 z22:=Tryz.sizeOf59
 v22:=Tryz.zeroValue59
 a24:=Tryz.isAgg3
 z24:=Tryz.sizeOf3
 t25:=Tryz.underlying150
 a25:=Tryz.isAgg150
 z25:=Tryz.sizeOf150
 v25:=Tryz.zeroValue150
 t39:=Tryz.underlying171
 a39:=Tryz.isAgg171
 z39:=Tryz.sizeOf171
 v39:=Tryz.zeroValue171
 t45:=Tryz.underlying370
 a45:=Tryz.isAgg370
 z45:=Tryz.sizeOf370
 v45:=Tryz.zeroValue370
 t46:=Tryz.underlying371
 a46:=Tryz.isAgg371
 z46:=Tryz.sizeOf371
 v46:=Tryz.zeroValue371
 t50:=Tryz.underlying305
 a50:=Tryz.isAgg305
 z50:=Tryz.sizeOf305
 v50:=Tryz.zeroValue305
 t53:=Tryz.underlying42
 a53:=Tryz.isAgg42
 z53:=Tryz.sizeOf42
 v53:=Tryz.zeroValue42
 t55:=Tryz.underlying41
 a55:=Tryz.isAgg41
 z55:=Tryz.sizeOf41
 v55:=Tryz.zeroValue41
 t66:=Tryz.underlying389
 a66:=Tryz.isAgg389
 z66:=Tryz.sizeOf389
 v66:=Tryz.zeroValue389
 t70:=Tryz.underlying393
 a70:=Tryz.isAgg393
 z70:=Tryz.sizeOf393
 v70:=Tryz.zeroValue393
 t76:=Tryz.underlying402
 a76:=Tryz.isAgg402
 z76:=Tryz.sizeOf402
 v76:=Tryz.zeroValue402
 t77:=Tryz.underlying326
 a77:=Tryz.isAgg326
 z77:=Tryz.sizeOf326
 v77:=Tryz.zeroValue326}
end
end Go.Proofs
namespace Go.Vc
open Go
section
def cH (l:List (List UInt8)):List Value:=l.map fun s=>str s
theorem eY (l:List (List UInt8)): (cH l).length=l.length:=by simp [cH]
theorem qk {l:List (List UInt8)} {i:Nat} (h:i<l.length): (cH l)[i]? =some (str l[i]):=by unfold cH;rw [agu,agb h];rfl
theorem nB (l m:List (List UInt8)):cH (l++m)=cH l++cH m:=by simp [cH]
end
end Go.Vc
namespace Go.Proofs.YtpcgccdmmoggmaaGreatDoor
open Go Go.Vc Go.Proofs Go.RowKit
section
variable {H:ai} {R:Value→ai→Prop} {v:Value}
theorem nC {P:Program} {f:FuncId} {args:Array Value} {r:Value} (h: ∀w:World,w.heap=H→Calls P f args w fun e w' =>e= .returned r∧Below w.heap.size w w') (hk: ∀H',Ext H H' →R r H'):fP P f args H R:=
 fun w hw=> (h w hw).mono fun e w' ⟨he,hb⟩=> ⟨r,he,⟨hb.os,hb.output,hb.tape,fun h=>h.elim⟩,hk _ ⟨by rw [←hw];exact hb.size,fun k hk=>by rw [←hw] at hk ⊢;exact hb.block k hk⟩⟩
theorem vF {P:Program} {f:FuncId} {args:Array Value} {r:Value} (h: ∀w:World,w.heap=H→Calls P f args w fun e w' =>e= .returned r∧w' =w) (hk:R r H):fP P f args H R:=
 fun w hw=> (h w hw).mono fun e w' ⟨he,hb⟩=> ⟨r,he,by rw [hb];exact b0.refl w,by rw [hb,hw];exact hk⟩
theorem lP {s:List UInt8} {c:Nat} (hc:c≤9223372036854775807) (hlen:s.length*c≤140737488355328) (hk: ∀H',Ext H H' →R (str (Lib.repeatL s c)) H'):ab 50 #[str s,.int .i64 (c:Int)] H R:=
 nC (fun w hw=>Tryz.strings_Repeat ⟨s.toArray⟩ c w hc (by show s.toArray.size*c≤_;rw [ag1];exact hlen)) hk
theorem lg (b:UInt8): ∀c,Lib.repeatL [b] c=List.replicate c b
 |0=>rfl
 |c+1=>by rw [Lib.repeatL,lg b c];rfl
theorem Bi (L:List (List UInt8)):Lib.join L []=L.flatten:=by
 unfold Lib.join
 induction L with
 |nil=>rfl
 |cons x L ih=>
  cases L with
  |nil=>simp [List.intercalate]
  |cons y L=>
   rw [List.intercalate] at ih ⊢;simp only [List.intersperse,ag0,agn] at ih ⊢;rw [ih]
theorem KL {L:List (List UInt8)} (hs:Sl H v 1 (cH L)) (hN:L.length≤140737488355328) (hlen:L.flatten.length≤140737488355328) (hk: ∀H',Ext H H' →R (str L.flatten) H'):ab 30 #[v,str []] H R:=by
 have hx: (L.map fun s:List UInt8=> (⟨s.toArray⟩:ByteArray)).map (fun x=>x.data.toList)=L:=by
  rw [ah5];exact(ahs (fun s _=>rfl)).trans (List.map_id _)
 by_cases h0:L= []
 ·subst h0
  rcases hs with ⟨rfl,_⟩ | ⟨a,m,cap,rfl,hm,x_,hc⟩
  ·exact vF (fun w hw=>Tryz.strings_Join_none none 0 ⟨#[]⟩ w) (hk H (Ext.refl H))
  ·have MA:m=0:=by simp [cH] at hm;omega
   subst MA;exact vF (fun w hw=>Tryz.strings_Join_none (some a) cap ⟨#[]⟩ w) (hk H (Ext.refl H))
 rcases hs with ⟨rfl,h1⟩ | ⟨a,m,cap,rfl,hm,x_,hc⟩
 ·exact absurd (List.map_eq_nil_iff.1 h1) h0
 rw [eY,agh] at hm;subst hm;have hl:0<L.length:=List.length_pos_iff.2 h0;have eD: ∀ (i:Nat) (h:i<L.length),cellAt H (a.add i)=some (str L[i]):=fun i h=>hc i _ (qk h);obtain⟨bk,o,sp⟩:=a;have Ky:sp=none:=by
  have:=eD 0 hl
  cases sp with
  |none=>rfl
  |some x=>
   exfalso
   unfold cellAt Addr.add at this
   revert this
   simp only
   split<;>simp
 subst Ky;refine nC (r:=str L.flatten) (fun w hw=>?_) hk;have U4:bk<w.heap.size:=by
  have:=eD 0 hl;rw [hw];unfold cellAt at this;rcases ag6 bk H.size with g|g
  ·exact g
  ·rw [show (Addr.add ⟨bk,o,none⟩ 0).block=bk from rfl,ahH g] at this
   cases this
 have Vt:=Tryz.strings_Join bk o cap (L.map fun s:List UInt8=> (⟨s.toArray⟩:ByteArray)) ⟨#[]⟩ w (fun j x hj=>by
  rw [agu] at hj
  cases Yn:L[j]? with
  |none=>rw [Yn] at hj;cases hj
  |some t=>
   rw [Yn] at hj;obtain⟨g1,g2⟩:=agD.1 Yn;have:=eD j g1;rw [←hw,al] at this;have e:x= ⟨t.toArray⟩:=by simpa using hj.symm
   rw [e,←g2];exact this) U4 (by rw [agw];exact hN) (by rw [agw];exact x_) (by rw [hx];show (Lib.join L []).length≤_;rw [Bi];exact hlen)
 rw [agw,hx,show ((⟨#[]⟩:ByteArray).data.toList)= [] from rfl,Bi] at Vt;exact Vt
end
end Go.Proofs.YtpcgccdmmoggmaaGreatDoor
namespace Go.Vc
open Go
section
theorem sO {a b:Nat} (ha:a<4294967296) (hb:b<4294967296):bitsOf .xor .u32 (a:Int) (b:Int)= ((a ^^^ b:Nat):Int):=by
 have cF:a ^^^ b<2 ^ 32:=ahK (by simpa using ha) (by simpa using hb);have e: ((BitVec.ofInt 32 (a:Int)) ^^^ (BitVec.ofInt 32 (b:Int))).toNat=a ^^^ b:=by
  rw [ai8,agY,agY,agZ,agZ,agp (by omega),agp (by omega)]
 show IntKind.u32.wrap ((((BitVec.ofInt 32 (a:Int)) ^^^ (BitVec.ofInt 32 (b:Int))).toNat:Nat):Int)=_;rw [e,Cr (by omega) (by omega)]
theorem QD {a b:Nat} (ha:a<4294967296) (hb:b<4294967296):bitsOf .and .u32 (a:Int) (b:Int)= ((a &&& b:Nat):Int):=by
 have cF:a &&& b<2 ^ 32:=Nat.lt_of_le_of_lt Nat.and_le_left (by omega);have e: ((BitVec.ofInt 32 (a:Int)) &&& (BitVec.ofInt 32 (b:Int))).toNat=a &&& b:=by
  rw [ajp,agY,agY,agZ,agZ,agp (by omega),agp (by omega)]
 show IntKind.u32.wrap ((((BitVec.ofInt 32 (a:Int)) &&& (BitVec.ofInt 32 (b:Int))).toNat:Nat):Int)=_;rw [e,Cr (by omega) (by omega)]
end
section
def aU (v n:Nat):List Bool:= (List.range n).map fun i=>v.testBit i
def gr:List Bool→Nat
 | []=>0
 |b::l=>b.toNat+2*gr l
def toBits (l:List UInt8):List Bool:=l.flatMap fun b=>aU b.toNat 8
theorem aR (v n:Nat): (aU v n).length=n:=by simp [aU]
theorem rz (v:Nat):aU v 0= []:=rfl
theorem KM {v n i:Nat} (h:i<n): (aU v n)[i]? =some (v.testBit i):=by simp [aU,aho h]
theorem KN {v w n:Nat} (h: ∀i,i<n→v.testBit i=w.testBit i):aU v n=aU w n:=by
 unfold aU;apply ahs;intro i hi;exact h i (aiy.1 hi)
theorem kK (v n:Nat):aU (v%2 ^ n) n=aU v n:=KN fun i hi=>by rw [Nat.testBit_mod_two_pow];simp [hi]
theorem jD (v m n:Nat):aU v (m+n)=aU v m++aU (v/2 ^ m) n:=by
 unfold aU;rw [List.range_add,agU,ah5]
 congr 1
 apply ahs;intro i _;simp only [Function.comp];rw [Nat.testBit_div_two_pow,ahQ]
theorem rA (v n:Nat):aU v (n+1)=v.testBit 0::aU (v/2) n:=by
 rw [ahQ,jD];rfl
theorem yj {a v m n:Nat} (h:a<2 ^ m):aU (a+v*2 ^ m) (m+n)=aU a m++aU v n:=by
 rw [jD];have h1: (a+v*2 ^ m) /2 ^ m=v:=by
  rw [Nat.add_mul_div_right _ _ (aib m),Nat.div_eq_of_lt h,ags]
 have h2:aU (a+v*2 ^ m) m=aU a m:=by
  rw [←kK,Nat.add_mul_mod_self_right,kK]
 rw [h1,h2]
theorem vG: ∀ (l m:List Bool),gr (l++m)=gr l+2 ^ l.length*gr m
 | [],m=>by simp [gr]
 |b::l,m=>by
  rw [ahd,gr,gr,vG l m,agi,agW,Nat.mul_add,←ah8,agT 2 (2 ^ l.length),ahR]
theorem gu: ∀ (n v:Nat),gr (aU v n)=v%2 ^ n
 |0,v=>by simp [aU,gr,aiz]
 |n+1,v=>by
  rw [rA,gr,gu n,aiA,agW,agT (2 ^ n) 2,ai9];rcases aiB v with h|h<;>simp [h]
theorem sP: ∀ (l:List Bool),gr l<2 ^ l.length
 | []=>by simp [gr]
 |b::l=>by
  have:=sP l;rw [gr,agi,agW]
  cases b<;>simp<;>omega
theorem rB: ∀ (l:List Bool),aU (gr l) l.length=l
 | []=>rfl
 |b::l=>by
  rw [agi,rA,gr]
  congr 1
  ·rw [aiA];cases b<;>simp<;>omega
  ·rw [show (b.toNat+2*gr l) /2=gr l by cases b<;>simp<;>omega,rB l]
theorem bA (l:List UInt8): (toBits l).length=8*l.length:=by
 induction l with
 |nil=>rfl
 |cons b l ih=>unfold toBits at ih ⊢;rw [ahL,af9,ih,aR,agi];omega
theorem dG (l m:List UInt8):toBits (l++m)=toBits l++toBits m:=by unfold toBits;rw [ajH]
theorem lQ (b:UInt8) (l:List UInt8):toBits (b::l)=aU b.toNat 8++toBits l:=rfl
theorem yk (b:UInt8):toBits [b]=aU b.toNat 8:=by rw [lQ];simp [toBits]
def bG:List Bool→List UInt8
 |a::b::c::d::e::f::g::h::l=>UInt8.ofNat (gr [a,b,c,d,e,f,g,h])::bG l
 |_=> []
theorem qW {l:List Bool} (h:l.length<8):bG l= []:=by
 match l,h with
 | [],_=>rfl
 | [_],_=>rfl
 | [_,_],_=>rfl
 | [_,_,_],_=>rfl
 | [_,_,_,_],_=>rfl
 | [_,_,_,_,_],_=>rfl
 | [_,_,_,_,_,_],_=>rfl
 | [_,_,_,_,_,_,_],_=>rfl
 |_::_::_::_::_::_::_::_::_,h=>simp at h;omega
theorem nD {x l:List Bool} (h:x.length=8):bG (x++l)=UInt8.ofNat (gr x)::bG l:=by
 match x,h with
 | [a,b,c,d,e,f,g,i],_=>rfl
theorem KO (b:UInt8):UInt8.ofNat (gr (aU b.toNat 8))=b:=by
 rw [gu,agp b.toNat_lt]
 simp
theorem lh: ∀ (l:List UInt8) (r:List Bool),r.length<8→bG (toBits l++r)=l
 | [],r,h=>qW h
 |b::l,r,h=>by
  rw [lQ,agc,nD (aR _ _),KO,lh l r h]
theorem oh (l:List UInt8):bG (toBits l)=l:=by
 have:=lh l [] (by decide)
 rwa [agy] at this
theorem lj: ∀ (n:Nat) (l:List Bool),l.length=8*n→toBits (bG l)=l
 |0,l,h=>by
  have:l= []:=ajP (by omega);subst this;rfl
 |n+1,l,h=>by
  have e:l=l.take 8++l.drop 8:= (agE 8 l).symm;have h8: (l.take 8).length=8:=by rw [age];omega
  rw [e,nD h8,lQ,lj n _ (by rw [agl];omega)]
  congr 1
  rw [aiL,agp (by have:=sP (l.take 8);rw [h8] at this;exact this)];have:=rB (l.take 8);rw [h8] at this;exact this
theorem j1: ∀ (n:Nat) (l:List Bool),l.length/8=n→(bG l).length=n
 |0,l,h=>by rw [qW (by omega)];rfl
 |n+1,l,h=>by
  have e:l=l.take 8++l.drop 8:= (agE 8 l).symm;rw [e,nD (by rw [age];omega),agi,j1 n _ (by rw [agl];omega)]
theorem sQ {a v n:Nat} (h:a<2 ^ n):a|||v*2 ^ n=a+v*2 ^ n:=by
 rw [aiq,agT v,←ajs h,ahQ]
theorem uq {a b:Nat} (ha:a<18446744073709551616) (hb:b<18446744073709551616):bitsOf .or .u64 (a:Int) (b:Int)= ((a|||b:Nat):Int):=by
 have cF:a|||b<2 ^ 64:=Nat.or_lt_two_pow (by simpa using ha) (by simpa using hb)
 have e: ((BitVec.ofInt 64 (a:Int)) ||| (BitVec.ofInt 64 (b:Int))).toNat=a|||b:=by
  rw [ajr,agY,agY,agZ,agZ,agp (by omega),agp (by omega)]
 show IntKind.u64.wrap ((((BitVec.ofInt 64 (a:Int)) ||| (BitVec.ofInt 64 (b:Int))).toNat:Nat):Int)=_;rw [e,cR (by omega) (by omega)]
theorem CA {a b:Nat} (ha:a<18446744073709551616) (hb:b<18446744073709551616):bitsOf .and .u64 (a:Int) (b:Int)= ((a &&& b:Nat):Int):=by
 have cF:a &&& b<2 ^ 64:=Nat.lt_of_le_of_lt Nat.and_le_left (by omega);have e: ((BitVec.ofInt 64 (a:Int)) &&& (BitVec.ofInt 64 (b:Int))).toNat=a &&& b:=by
  rw [ajp,agY,agY,agZ,agZ,agp (by omega),agp (by omega)]
 show IntKind.u64.wrap ((((BitVec.ofInt 64 (a:Int)) &&& (BitVec.ofInt 64 (b:Int))).toNat:Nat):Int)=_;rw [e,cR (by omega) (by omega)]
theorem ym {v n:Nat} (hv:v<18446744073709551616) (hn:n≤32):bitsOf .and .u64 (v:Int) (IntKind.u64.wrap (IntKind.u64.wrap (1*2 ^ min ((n:Int)).toNat IntKind.u64.bits) - 1))= ((v%2 ^ n:Nat):Int):=by
 have e:IntKind.u64.wrap (IntKind.u64.wrap (1*2 ^ min ((n:Int)).toNat IntKind.u64.bits) - 1)= ((2 ^ n - 1:Nat):Int):=by
  rw [show min ((n:Int)).toNat IntKind.u64.bits=n by show min ((n:Int)).toNat 64=n;omega];have hp: (2:Nat) ^ n≤2 ^ 32:=agA (by decide) hn;have h1:1≤(2:Nat) ^ n:=ajq;rw [show (1:Int)*2 ^ n= ((2 ^ n:Nat):Int) by rw [Int.one_mul,aia];rfl];generalize (2:Nat) ^ n=P at hp h1 ⊢;rw [cR (n:= (P:Int)) (by omega) (by omega),cR (by omega) (by omega)];omega
 have hp: (2:Nat) ^ n≤2 ^ 32:=agA (by decide) hn;rw [e,CA hv (by omega),ajM]
theorem JK {v n:Nat} (h:v*2 ^ n<18446744073709551616) (hn:n≤64):IntKind.u64.wrap ((v:Int)*2 ^ min ((n:Int)).toNat IntKind.u64.bits)= ((v*2 ^ n:Nat):Int):=by
 rw [show min ((n:Int)).toNat IntKind.u64.bits=n by show min ((n:Int)).toNat 64=n;omega];rw [show (v:Int)*2 ^ n= ((v*2 ^ n:Nat):Int) by rw [Int.natCast_mul,aia];rfl];exact cR (by omega) (by omega)
theorem JL {k:IntKind} {v n:Nat} (hn:n≤k.bits): ((v:Nat):Int).fdiv (2 ^ min ((n:Int)).toNat k.bits)= ((v/2 ^ n:Nat):Int):=by
 rw [show min ((n:Int)).toNat k.bits=n by rw [af_];omega];rw [aiw _ (Int.le_of_lt (aip (by decide))),show ((2:Int) ^ n)= ((2 ^ n:Nat):Int) by rw [aia];rfl,←Int.natCast_ediv]
theorem iX {n m j:Nat} (h:m=j): ((n:Nat):Int).fdiv (2 ^ m)= ((n/2 ^ j:Nat):Int):=by
 subst h;rw [aiw _ (Int.le_of_lt (aip (by decide))),show ((2:Int) ^ m)= ((2 ^ m:Nat):Int) by rw [aia];rfl,←Int.natCast_ediv]
theorem sR {v:Nat}:Value.int .u8 (IntKind.u8.wrap (v:Int))=bX (UInt8.ofNat (v%256)):=by
 unfold bX;rw [JE,aiL,show v%256%2 ^ 8=v%256 by omega]
 congr 1
theorem qX {v n:Nat} (h:8≤n):aU v n=toBits [UInt8.ofNat (v%256)]++aU (v/2 ^ 8) (n - 8):=by
 rw [yk,aiL,show v%256%2 ^ 8=v%2 ^ 8 by omega,kK]
 conv=>lhs;rw [show n=8+ (n - 8) by omega]
 rw [jD]
end
section
def aQ (n:Nat) (k:Nat):List UInt8:= (List.range k).map fun i=>UInt8.ofNat (n/256 ^ i%256)
def ji:List UInt8→Nat
 | []=>0
 |b::l=>b.toNat+256*ji l
theorem ay (n k:Nat): (aQ n k).length=k:=by simp [aQ]
theorem ur (n k:Nat):aQ n (k+1)=aQ n k++ [UInt8.ofNat (n/256 ^ k%256)]:=by
 unfold aQ;rw [aiC,agU];rfl
theorem CB: ∀ (l:List UInt8),ji l<256 ^ l.length
 | []=>by simp [ji]
 |b::l=>by
  have:=CB l;have hb:b.toNat<256:=b.toNat_lt;rw [ji,agi,agW];omega
theorem yn {l:List UInt8} (h:l.length≤8):ji l<18446744073709551616:=by
 have h1:=CB l;have h2:256 ^ l.length≤256 ^ 8:=agA (by decide) h;have h3: (256:Nat) ^ 8=18446744073709551616:=by decide
 omega
theorem KP {s:List UInt8} {j:Nat} (h:j<s.length):ji (s.drop j)=s[j].toNat+256*ji (s.drop (j+1)):=by
 rw [ag4 h];rfl
end
end Go.Vc
