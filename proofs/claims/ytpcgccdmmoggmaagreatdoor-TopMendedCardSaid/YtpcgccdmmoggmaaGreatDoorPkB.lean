/- Part 2 of the proof of RowTopMended: what it is built on, in the order of its needs. -/
import Derived.Test.YtpcgccdmmoggmaaGreatDoorPkA
import Derived.Below
import Derived.ChangeAlike
import Derived.ProofKit
import Derived.OpenShut
import Derived.ShutString
import Derived.Deep.Slices
import Derived.Deep.Fields
import Derived.ChangeSame
import Derived.MapKept
import Derived.Laws.IdiomRangeMap
import Derived.Test.YtpcgccdmmoggmaaGreatDoorProg
import Derived.KernelRfl
import Derived.Shelf.Strings.Builder1
import Derived.Shelf.Strings.OnBuilder
import Derived.Shelf.Strings.Search1
import Derived.Shelf.Strings.Search2
import Derived.Shelf.Strings.Search3
import Derived.Shelf.GgClosure.StringsIndexFuncTop
import Derived.Shelf.Strings.Repeat
import Derived.Shelf.SlSortCmp.Whole1
import Derived.Shelf.Unicode.ValidAny
set_option linter.unusedSimpArgs false
set_option linter.unusedVariables false
namespace Go.Vc
open Go
section
section
variable {K:Value→Prop} {x x' y y' z z' :Value}
variable {H H' :ak}
variable {KE:Value→ak→Prop}
theorem bX {b: (Value→ak→Prop)→Prop} (h:b KE):dC (.bool true) b H KE:= ⟨KE,fun _ _ h=>h,(fun h=>by cases h),fun _=>h⟩
theorem fH {b: (Value→ak→Prop)→Prop}:dC (.bool false) b H KE=KE (.bool false) H:=by
 apply propext;constructor
 ·rintro⟨J,h1,h2,_⟩;exact h1 _ _ (h2 rfl)
 ·intro h;exact⟨KE,fun _ _ h=>h,fun _=>h,(fun h=>by cases h)⟩
theorem HG {b: (Value→ak→Prop)→Prop}:lk (.bool true) b H KE=KE (.bool true) H:=by
 apply propext;constructor
 ·rintro⟨J,h1,h2,_⟩;exact h1 _ _ (h2 rfl)
 ·intro h;exact⟨KE,fun _ _ h=>h,fun _=>h,(fun h=>by cases h)⟩
theorem bh {b: (Value→ak→Prop)→Prop} (h:b KE):lk (.bool false) b H KE:= ⟨KE,fun _ _ h=>h,(fun h=>by cases h),fun _=>h⟩
theorem ox {a d:Bool}:dC (.bool a) (fun J=>J (.bool d) H) H KE=KE (.bool (a && d)) H:=by
 apply propext;cases a
 ·rw [fH];rfl
 ·constructor
  ·rintro⟨J,h1,_,h2⟩;exact h1 _ _ (h2 rfl)
  ·intro h;exact bX h
theorem kA {a d:Bool}:lk (.bool a) (fun J=>J (.bool d) H) H KE=KE (.bool (a||d)) H:=by
 apply propext;cases a
 ·constructor
  ·rintro⟨J,h1,_,h2⟩;exact h1 _ _ (h2 rfl)
  ·intro h;exact bh h
 ·rw [HG];rfl
theorem kn {a d:Bool} {b: (Value→ak→Prop)→Prop} (hb:a=true→b (fun v H' =>v= .bool d∧H' =H)) (h:KE (.bool (a && d)) H):dC (.bool a) b H KE:=by
 refine⟨fun v H' =>v= .bool (a && d)∧H' =H,fun v H' h' =>by rw [h'.1,h'.2];exact h,fun ha=>by rw [ha];exact⟨rfl,rfl⟩,fun ha=>?_⟩;have:=hb ha;subst ha;exact this
theorem oy {a d:Bool} {b: (Value→ak→Prop)→Prop} (hb:a=false→b (fun v H' =>v= .bool d∧H' =H)) (h:KE (.bool (a||d)) H):lk (.bool a) b H KE:=by
 refine⟨fun v H' =>v= .bool (a||d)∧H' =H,fun v H' h' =>by rw [h'.1,h'.2];exact h,fun ha=>by rw [ha];exact⟨rfl,rfl⟩,fun ha=>?_⟩;have:=hb ha;subst ha;exact this
theorem Ca {b:Bool} {A B:Prop}:ar (.bool b) A B= ((b=true→A)∧(b=false→B)):=rfl
theorem aH {A B:Prop}:ar (.bool true) A B=A:=by simp [Ca]
theorem ao {A B:Prop}:ar (.bool false) A B=B:=by simp [Ca]
end
theorem au (b o n:Nat): (⟨b,o,none⟩:Addr).add n= ⟨b,o+n,none⟩:=by
 unfold Addr.add;split
 ·rename_i h;subst h;rfl
 ·rfl
theorem e_ {H:ak} {b o:Nat} {cs:Array Value} {t:TypeId} {fr:Nat × Nat} (h:H[b]? =some (.cells cs t fr)):cellAt H ⟨b,o,none⟩=cs[o]? :=by
 simp [cellAt,h]
theorem NR {H:ak} {b o:Nat} {cs:Array Value} {t:TypeId} {fr:Nat × Nat} {v:Value} {K:Value→Prop} (h:H[b]? =some (.cells cs t fr)) (hv:cs[o]? =some v) (hk:K v):al H (.pointer (some ⟨b,o,none⟩)) K:=by
 simp only [al,e_ h,hv];exact hk
theorem lQ {H:ak} {b o:Nat} {l:List Value} {t:TypeId} {fr:Nat × Nat} {v:Value} {K:Value→Prop} (h:H[b]? =some (.cells l.toArray t fr)) (hv:l[o]? =some v) (hk:K v):al H (.pointer (some ⟨b,o,none⟩)) K:=
 NR h (by rw [akr];exact hv) hk
theorem vd {H:ak} {b o:Nat} {l:List Value} {t:TypeId} {fr:Nat × Nat} {K:Value→Prop} (h:H[b]? =some (.cells l.toArray t fr)):al H (.pointer (some ⟨b,o,none⟩)) K=match l[o]? with
  |some v=>K v
  |none=>False:=by
 simp only [al,e_ h,akr]
 cases l[o]? <;>rfl
theorem ba {H:ak} {a:Addr} {v:Value} {K:Value→Prop} (h:cellAt H a=some v):al H (.pointer (some a)) K=K v:=by
 simp only [al,h]
theorem zb {H:ak} {b o:Nat} {cs:Array Value} {t:TypeId} {fr:Nat × Nat} {v:Value} (h:H[b]? =some (.cells cs t fr)):setAt H ⟨b,o,none⟩ v=H.setIfInBounds b (.cells (cs.setIfInBounds o v) t fr):=by
 unfold setAt;apply alz;intro j;rw [alK,al2]
 by_cases hj:b=j
 ·subst hj
  have hl:b<H.size:=by
   rcases akz b H.size with h' |h'
   ·exact h'
   ·simp [aln h'] at h
  simp [hl] at h ⊢
  simp [h]
 ·simp [hj]
theorem Cb {H:ak} {b o:Nat} {cs:Array Value} {t:TypeId} {v:Value} {K:Value→ak→Prop} (h:H[b]? =some (.cells cs t (0,0))) (ho:o<cs.size) (hv:aL v=true):
  aE H (.pointer (some ⟨b,o,none⟩)) v K=K undef (H.setIfInBounds b (.cells (cs.setIfInBounds o v) t (0,0))):=by
 have hc:cellAt H ⟨b,o,none⟩=some cs[o]:=by rw [e_ h];simp [ho]
 have hf:frozenAt H ⟨b,o,none⟩=false:=by simp [frozenAt,h]
 simp only [aE,jF,au,akp,hc,hf,cond_false,hv,cond_true,zb h]
theorem bw {H:ak} {b:Nat} {o:Obj} (h:H[b]? =some o):b<H.size:= (alL.1 h).1
theorem cB {H:ak} {b:Nat} {o:Obj} (h:b<H.size): (H.setIfInBounds b o)[b]? =some o:=by simp [h]
theorem dW {H:ak} {b c:Nat} {o:Obj} (h:b≠c): (H.setIfInBounds b o)[c]? =H[c]? :=by simp [al2,h]
theorem cR {H:ak} {o:Obj}: (H.push o)[H.size]? =some o:=by simp
theorem lA {H:ak} {b:Nat} {o:Obj} (h:b<H.size): (H.push o)[b]? =H[b]? :=by rw [am1,if_neg (by omega)]
theorem bH {n:Int} (h0: -9223372036854775808≤n) (h1:n≤9223372036854775807):IntKind.i64.wrap n=n:=by
 simp [IntKind.wrap,IntKind.bits,IntKind.signed];omega
theorem wu8 {n:Int} (h0:0≤n) (h1:n≤255):IntKind.u8.wrap n=n:=by
 simp [IntKind.wrap,IntKind.bits,IntKind.signed];omega
theorem TT {n:Int} (h0:0≤n) (h1:n≤4294967295):IntKind.u32.wrap n=n:=by
 simp [IntKind.wrap,IntKind.bits,IntKind.signed];omega
theorem eX {n:Int} (h0:0≤n) (h1:n≤18446744073709551615):IntKind.u64.wrap n=n:=by
 simp [IntKind.wrap,IntKind.bits,IntKind.signed];omega
theorem Mz (n:Int):IntKind.u8.wrap n=n%256:=by simp [IntKind.wrap,IntKind.bits,IntKind.signed]
theorem xO (l:List UInt8): (ByteArray.mk l.toArray).size=l.length:=by simp [ByteArray.size]
end
section
theorem vU {p q:Prop} [Decidable p] [Decidable q]: (decide p && decide q)=decide (p∧q):=by simp
theorem qk {p q:Prop} [Decidable p] [Decidable q]: (decide p||decide q)=decide (p∨q):=by simp
theorem xP {n:Nat}: (n≤n)=True:=by simp
theorem List.kB {α:Type} {l:List α}:l.toArray.toList=l:=rfl
theorem ax {p:Prop} [Decidable p] {A B:Prop} (h1:p→A) (h2: ¬p→B):ar (.bool (decide p)) A B:= ⟨fun h=>h1 (by simpa using h),fun h=>h2 (by simpa using h)⟩
theorem fI {b:Bool} {A B:Prop} (h1:b=true→A) (h2:b=false→B):ar (.bool b) A B:= ⟨h1,h2⟩
end
section
theorem set_set {H:ak} {b:Nat} {o o' :Obj}: (H.setIfInBounds b o).setIfInBounds b o' =H.setIfInBounds b o' :=by simp
theorem ve {H:ak} {b o:Nat} {cs:Array Value} {t:TypeId} {fr:Nat × Nat} (h:H[b]? =some (.cells cs t fr)): ∀n,o+n≤cs.size→ix H ⟨b,o,none⟩ n=some ((cs.toList.drop o).take n)
 |0,_=>by simp [ix]
 |n+1,hn=>by
  have eF:o+n<cs.size:=by omega
  have ih:=ve (o:=o) (cs:=cs) (t:=t) (fr:=fr) h n (by omega);simp only [ix,ih,au,e_ h,am3 eF];rw [akq,ak7]
  simp [eF]
theorem eh {H:ak} {b n:Nat} {cs:Array Value} {t:TypeId} {fr:Nat × Nat} {K:Value→Prop} (h:H[b]? =some (.cells cs t fr)) (hn:cs.size=n):aF H n (.pointer (some ⟨b,0,none⟩)) K=K (.agg cs):=by
 subst hn;simp only [aF,ve (o:=0) (cs:=cs) (t:=t) (fr:=fr) h cs.size (by omega)]
 congr 2
 rw [ako,←Array.length_toList,aj8]
end
section
structure Ext (H H' :ak):Prop where
 size:H.size≤H'.size
 get: ∀i,i<H.size→H'[i]? =H[i]?
theorem Ext.refl (H:ak):Ext H H:= ⟨ajR _,fun _ _=>rfl⟩
theorem Ext.trans {A B C:ak} (h:Ext A B) (k:Ext B C):Ext A C:= ⟨akk h.size k.size,fun i hi=> (k.get i (akO hi h.size)).trans (h.get i hi)⟩
theorem Ext.push {A H:ak} {o:Obj} (h:Ext A H):Ext A (H.push o):= ⟨by have:=h.size;simp;omega,fun i hi=>by
 have:=h.size;rw [am1,if_neg (by omega)];exact h.get i hi⟩
theorem Ext.set {A H:ak} {b:Nat} {o:Obj} (h:Ext A H) (hb:A.size≤b):Ext A (H.setIfInBounds b o):= ⟨by have:=h.size;simpa using this,fun i hi=>by
 rw [dW (by omega)];exact h.get i hi⟩
theorem Ext.ll {A H:ak} {b:Nat} {o:Obj} (h:Ext A H) (hb:A[b]? =some o):H[b]? =some o:=by rw [h.get b (bw hb)];exact hb
theorem HH {H:ak} {b:Nat} {o:Obj} (hb:H[b]? =some o):H.setIfInBounds b o=H:=by
 apply alz;intro j;rw [al2]
 by_cases hj:b=j
 ·subst hj;simp [bw hb];exact(alL.1 hb).2.symm
 ·simp [hj]
theorem t_ {n:Int} {k:Nat} {m:Int} (hk:k≤62) (hm:m=2 ^ k - 1):bitsOf .and .i64 n m=n%2 ^ k:=by
 subst hm;have hp: (2:Nat) ^ k≤2 ^ 62:=akd (by omega) hk;have h1: ((BitVec.ofInt 64 n) &&& (BitVec.ofInt 64 ((2:Int) ^ k - 1))).toNat= ((n%18446744073709551616).toNat) %2 ^ k:=by
  rw [am4,BitVec.toNat_ofInt,BitVec.toNat_ofInt];have e: ((((2:Int) ^ k - 1) % ((2 ^ 64:Nat):Int)).toNat)=2 ^ k - 1:=by
   have h0: (0:Int)≤(2:Int) ^ k - 1:=by
    have: (1:Int)≤2 ^ k:=by exact_mod_cast am5
    omega
   have h2: (2:Int) ^ k - 1< ((2 ^ 64:Nat):Int):=by
    have: ((2:Int) ^ k)= ((2 ^ k:Nat):Int):=by norm_cast
    rw [this];omega
   rw [Int.emod_eq_of_lt h0 h2];have: ((2:Int) ^ k)= ((2 ^ k:Nat):Int):=by norm_cast
   rw [this];omega
  rw [e,ans]
  rfl
 have h3: ((n%18446744073709551616).toNat) %2 ^ k= (n%2 ^ k).toNat:=by
  have hd: ((2:Int) ^ k) ∣18446744073709551616:=by
   have: (18446744073709551616:Int)=2 ^ k*2 ^ (64 - k):=by rw [←Int.pow_add];rw [show k+ (64 - k)=64 by omega];rfl
   rw [this];exact Int.dvd_mul_right _ _
  have h4: (n%18446744073709551616) %2 ^ k=n%2 ^ k:=Int.emod_emod_of_dvd _ hd;have h5:0≤n%18446744073709551616:=alC _ (by decide);have NS: (0:Int)≤n%2 ^ k:=alC _ (Int.ne_of_gt (al5 (by decide)));apply Int.ofNat.inj;show (((n%18446744073709551616).toNat%2 ^ k:Nat):Int)= (((n%2 ^ k).toNat:Nat):Int);rw [Int.natCast_emod,alc h5,alc NS,←h4,alP]
  rfl
 show IntKind.i64.wrap ((((BitVec.ofInt 64 n) &&& (BitVec.ofInt 64 ((2:Int) ^ k - 1))).toNat:Nat):Int)=n%2 ^ k;rw [h1,h3];have NS: (0:Int)≤n%2 ^ k:=alC _ (Int.ne_of_gt (al5 (by decide)));have eF:n% (2:Int) ^ k<2 ^ k:=al6 _ (al5 (by decide));have D8: ((2:Int) ^ k)≤4611686018427387904:=by
  have: ((2:Int) ^ k)= ((2 ^ k:Nat):Int):=by norm_cast
  rw [this];omega
 rw [alc NS];exact bH (by omega) (by omega)
section
variable {K:Value→Prop} {KE:Value→ak→Prop} {H:ak} {k k' :IntKind} {a b:Int} {s t:ByteArray} {p q:Bool} {x y:Value}
theorem aA {ad:Addr}:aB (.pointer (some ad)) K=K (.pointer (some ad)):=rfl
theorem aC:aK (.int k a) (.int k b) K=K (.int k (k.wrap (a+b))):=propext ⟨fun h=>h.2,fun h=> ⟨rfl,h⟩⟩
theorem bE:dJ (.int k a) (.int k b) K=K (.int k (k.wrap (a - b))):=propext ⟨fun h=>h.2,fun h=> ⟨rfl,h⟩⟩
theorem vf:xF (.int k a) (.int k b) K=K (.int k (k.wrap (a*b))):=propext ⟨fun h=>h.2,fun h=> ⟨rfl,h⟩⟩
theorem Ky:aK (.string s) (.string t) K= (s.size+t.size≤9223372036854775807∧K (str (kI s++kI t))):=rfl
theorem Kz:A1 (.int k a) (.int k b) K= (b≠0∧K (.int k (k.wrap (a.tdiv b)))):=propext ⟨fun h=>h.2,fun h=> ⟨rfl,h⟩⟩
theorem sD:uN (.int k a) (.int k b) K= (b≠0∧K (.int k (a.tmod b))):=propext ⟨fun h=>h.2,fun h=> ⟨rfl,h⟩⟩
theorem dF {o:BinOp}:dR o (.int k a) (.int k b) K=K (.int k (bitsOf o k a b)):=propext ⟨fun h=>h.2,fun h=> ⟨rfl,h⟩⟩
theorem jg:ou (.int k a) (.int k' b) K= (0≤b∧K (.int k (k.wrap (a*2 ^ (min b.toNat k.bits))))):=rfl
theorem ql:sQ (.int k a) (.int k' b) K= (0≤b∧K (.int k (a.fdiv (2 ^ (min b.toNat k.bits))))):=rfl
theorem aQ:ec (.int k a) (.int k b) K=K (.bool (decide (a<b))):=propext ⟨fun h=>h.2,fun h=> ⟨rfl,h⟩⟩
theorem qw:z_ (.int k a) (.int k b) K=K (.bool (decide (a≤b))):=propext ⟨fun h=>h.2,fun h=> ⟨rfl,h⟩⟩
theorem bU:ka (.int k a) (.int k b) K=K (.bool (decide (b<a))):=propext ⟨fun h=>h.2,fun h=> ⟨rfl,h⟩⟩
theorem iU:rS (.int k a) (.int k b) K=K (.bool (decide (b≤a))):=propext ⟨fun h=>h.2,fun h=> ⟨rfl,h⟩⟩
theorem bj:eA 0 (.int k a) (.int k b) K=K (.bool (decide (a=b))):=by simp [eA,rf]
theorem mP:ld 0 (.int k a) (.int k b) K=K (.bool (decide (a≠b))):=by simp [ld,rf]
theorem Zi:eA 1 (.string s) (.string t) K=K (.bool (decide (kI s=kI t))):=rfl
theorem Vi:ld 1 (.string s) (.string t) K=K (.bool (decide (kI s≠kI t))):=by simp [ld,rf]
theorem Zj:ld 2 (.bool p) (.bool q) K=K (.bool (decide (p≠q))):=by simp [ld,rf]
theorem iA {ad}:eA 3 (.pointer (some ad)) (.pointer none) K=K (.bool false):=rfl
theorem Cc {ad}:ld 3 (.pointer (some ad)) (.pointer none) K=K (.bool true):=rfl
theorem Qx {n c m d}:eA 4 (.slice none n c) (.slice none m d) K=K (.bool true):=rfl
theorem Qy {ad n c m d}:eA 4 (.slice (some ad) n c) (.slice none m d) K=K (.bool false):=rfl
theorem fc:jV (.bool p) K=K (.bool !p):=rfl
theorem Qz:P2 (.int k a) K=K (.int k (bitsOf .xor k (if k.signed then -1 else k.max) a)):=rfl
theorem eH:cA k (.int k' a) K=K (.int k (k.wrap a)):=rfl
theorem qm:np (.int k a) (.int k b) K=K (.int k (min a b)):=propext ⟨fun h=>h.2,fun h=> ⟨rfl,h⟩⟩
theorem KA:J7 (.int k a) (.int k b) K=K (.int k (max a b)):=propext ⟨fun h=>h.2,fun h=> ⟨rfl,h⟩⟩
theorem ag {o:Nat} {ad:Addr}:aa o (.pointer (some ad)) K=K (.pointer (some (ad.add o))):=rfl
theorem NT {o:Nat} {l:List Value}:tX o (.agg l.toArray) K=match l[o]? with|some v=>K v|none=>False:=rfl
theorem mI {o:Nat} {l:List Value}:av o (.tuple l.toArray) K=match l[o]? with|some v=>K v|none=>False:=rfl
theorem lR {n m:Nat} {ad:Addr}:gO n m (.pointer (some ad)) (.int k a) K= (0≤a∧a< (n:Int)∧K (.pointer (some (ad.add (a.toNat*m))))):=rfl
theorem vg {n c m:Nat} {ad:Addr}:aN m (.slice (some ad) n c) (.int k a) K= (0≤a∧a< (n:Int)∧K (.pointer (some (ad.add (a.toNat*m))))):=rfl
theorem dU:dc (.string s) (.int k a) K= (0≤a∧a< ((kI s).length:Int)∧K (.int .u8 (((kI s).getD a.toNat 0).toNat:Int))):=rfl
theorem Cd {n c:Nat} {Kb:Nat→Nat→Prop}:kj n c none none Kb=Kb 0 n:=rfl
theorem rp {n c:Nat} {Kb:Nat→Nat→Prop}:kj n c (some (.int k a)) none Kb= (0≤a∧a≤(n:Int)∧Kb a.toNat n):=rfl
theorem f_ {n c:Nat} {Kb:Nat→Nat→Prop}:kj n c none (some (.int k b)) Kb= (0≤b∧b≤(c:Int)∧Kb 0 b.toNat):=rfl
theorem ua {n c:Nat} {Kb:Nat→Nat→Prop}:kj n c (some (.int k a)) (some (.int k' b)) Kb= (0≤b∧b≤(c:Int)∧0≤a∧a≤b∧Kb a.toNat b.toNat):=rfl
theorem sZ {lo hi:Option Value}:bt (.string s) lo hi K=kj (kI s).length (kI s).length lo hi fun l h=>K (str (((kI s).drop l).take (h - l))):=rfl
theorem pA {m n c:Nat} {ad:Option Addr} {lo hi:Option Value}:lj m (.slice ad n c) lo hi K=kj n c lo hi fun l h=>K (.slice (if c=l then ad else ad.map (·.add (l*m))) (h - l) (c - l)):=rfl
theorem HI {m n:Nat} {ad:Addr} {lo hi:Option Value}:wV n m (.pointer (some ad)) lo hi K=kj n n lo hi fun l h=>K (.slice (some (if n=l then ad else ad.add (l*m))) (h - l) (n - l)):=rfl
theorem xQ:bc (.string s) K=K (.int .i64 ((kI s).length:Int)):=rfl
theorem vh {ad:Option Addr} {n c:Nat}:dh (.slice ad n c) K=K (.int .i64 (n:Int)):=rfl
theorem FV {ad:Option Addr} {n c:Nat}:J8 (.slice ad n c) K=K (.int .i64 (c:Int)):=rfl
theorem bG {l:List Value}:aZ l [] K=K (.agg l.toArray):=rfl
theorem fV {l:List Value} {o m:Nat} {v:Value} {r:List (Nat × Nat × Value)}:aZ l ((o,m,v)::r) K= (v.cells.size=m∧o+m≤l.length∧aZ (pH l o v.cells.toList) r K):=rfl
theorem oD:Value.cells (.int k a)= #[(.int k a)]:=rfl
theorem EI:Value.cells (.string s)= #[(.string s)]:=rfl
theorem kJ {u}:Value.cells (.agg u)=u:=rfl
end
theorem eN (cs:List Value) (o:Nat) (v:Value) (r:List Value):pH cs o (v::r)=pH (cs.set o v) (o+1) r:=rfl
theorem iq (cs:List Value) (o:Nat):pH cs o []=cs:=rfl
theorem HJ (l:List Value): ∀ (cs:List Value) (o:Nat),(pH cs o l).length=cs.length:=by
 induction l with
 |nil=>intros;rfl
 |cons v r ih=>intro cs o;rw [eN,ih,akT]
theorem xR (l:List Value): ∀ (a c:List Value),c.length=l.length→pH (a++c) a.length l=a++l:=by
 induction l with
 |nil=>
  intro a c h;have:c= []:=by simpa using h
  subst this;rfl
 |cons v r ih=>
  intro a c h
  match c,h with
  |x::c,h=>
   rw [eN,show (a++x::c).set a.length v= (a++ [v])++c by simp,show a.length+1= (a++ [v]).length by simp,ih (a++ [v]) c (by simpa using h)]
   simp
theorem w3 {b o:Nat} {t:TypeId}: ∀ (l:List Value) (H:ak) (cs:Array Value) (i:Nat),H[b]? =some (.cells cs t (0,0))→l.all aL=true→o+i+l.length≤cs.size→
  jF H ⟨b,o,none⟩ i l=some (H.setIfInBounds b (.cells (pH cs.toList (o+i) l).toArray t (0,0)))
 | [],H,cs,i,h,_,_=>by simp only [jF,iq];rw [HH h]
 |v::r,H,cs,i,h,hv,hs=>by
  have w5:aL v=true:=by simp only [amH,aj3] at hv;exact hv.1
  have HK:r.all aL=true:=by simp only [amH,aj3] at hv;exact hv.2
  have hs' :o+i+ (r.length+1)≤cs.size:=by simpa using hs
  have hc:cellAt H ⟨b,o+i,none⟩=some cs[o+i]:=by rw [e_ h];simp
  have hf:frozenAt H ⟨b,o+i,none⟩=false:=by simp [frozenAt,h]
  simp only [jF,au,hc,hf,cond_false,w5,cond_true,zb h];rw [w3 r _ (cs.setIfInBounds (o+i) v) (i+1) (cB (bw h)) HK (by simp;omega),set_set,eN]
  simp [aly]
theorem HL {H:ak} {b n:Nat} {cs vs:Array Value} {t:TypeId} {K:Value→ak→Prop} (h:H[b]? =some (.cells cs t (0,0))) (hn:cs.size=n) (hv:vs.size=n) (ha:vs.toList.all aL=true):
  aG H n (.pointer (some ⟨b,0,none⟩)) (.agg vs) K=K undef (H.setIfInBounds b (.cells vs t (0,0))):=by
 have e:=xR vs.toList [] cs.toList (by simp [hn,hv]);simp only [aj4,aj7] at e;simp only [aG,kJ,hv,w3 (o:=0) vs.toList H cs 0 h ha (by simp;omega),e,true_and]
def Vj (H:ak) (v:Value) (H' :ak):Prop:=v= .bool true∧Ext H H'
end
section
structure G8 (b:Nat) (o:Obj) (H H' :ak):Prop where
 size:H.size≤H'.size
 at_:H'[b]? =some o
 ne: ∀i,i<H.size→i≠b→H'[i]? =H[i]?
theorem G8.A5 {b c:Nat} {o o' :Obj} {H H' :ak} (h:G8 b o H H') (hc:H[c]? =some o') (hn:c≠b):H'[c]? =some o' := (h.ne c (bw hc) hn).trans hc
theorem G8.ext {A H H' :ak} {b:Nat} {o:Obj} (h:G8 b o H H') (hE:Ext A H) (hb:A.size≤b):Ext A H' :=
 ⟨akk hE.size h.size,fun i hi=> (h.ne i (akO hi hE.size) (by omega)).trans (hE.get i hi)⟩
theorem G8.set {H:ak} {b:Nat} {o:Obj} (hb:b<H.size):G8 b o H (H.setIfInBounds b o):= ⟨by simp,cB hb,fun i _ hn=>dW (ak6 hn)⟩
theorem G8.trans {A B C:ak} {b:Nat} {o o' :Obj} (h:G8 b o A B) (k:G8 b o' B C):G8 b o' A C:=
 ⟨akk h.size k.size,k.at_,fun i hi hn=> (k.ne i (akO hi h.size) hn).trans (h.ne i hi hn)⟩
theorem G8.refl {A:ak} {b:Nat} {o:Obj} (h:A[b]? =some o):G8 b o A A:= ⟨ajR _,h,fun _ _ _=>rfl⟩
section
variable {KE:Value→ak→Prop} {H:ak} {b o n:Nat} {cs vs:Array Value} {t:TypeId} {v:Value}
theorem lB (h:H[b]? =some (.cells cs t (0,0))) (ho:o<cs.size) (hv:aL v=true) (hk: ∀H',H'.size=H.size→G8 b (.cells (cs.setIfInBounds o v) t (0,0)) H H' →KE undef H'):aE H (.pointer (some ⟨b,o,none⟩)) v KE:=by
 rw [Cb h ho hv];exact hk _ (by simp) (G8.set (bw h))
theorem ei (h:H[b]? =some (.cells cs t (0,0))) (hn:cs.size=n) (hv:vs.size=n) (ha:vs.toList.all aL=true) (hk: ∀H',H'.size=H.size→G8 b (.cells vs t (0,0)) H H' →KE undef H'):aG H n (.pointer (some ⟨b,0,none⟩)) (.agg vs) KE:=by
 rw [HL h hn hv ha];exact hk _ (by simp) (G8.set (bw h))
theorem jY {e:TypeId} (hk: ∀H',H'.size=H.size+1→Ext H H' →H'[H.size]? =some (.cells v.cells e (0,0))→KE (.pointer (some ⟨H.size,0,none⟩)) H'):cd H e v KE:=
 hk _ (by simp) (Ext.refl _).push cR
end
end
section
section
variable {H:ak} {KE:Value→ak→Prop} {a d:Bool}
theorem KB:dC (.bool a) (fun J=> ∀_:Env,J (.bool d) H) H KE=KE (.bool (a && d)) H:=by
 refine Eq.trans ?_ (ox (H:=H) (KE:=KE) (a:=a) (d:=d));unfold dC;simp only [forall_const]
theorem MA {R:Value→ak→Prop} {b:Bool} (e:a=b) (h:R (.bool b) H):R (.bool a) H:=by rw [e];exact h
end
end
section
theorem FW {a c:Int} {k:Nat} (ha:0≤a) (Wj:a<2 ^ k) (hc:0≤c) (hb:c*2 ^ k+a≤9223372036854775807):bitsOf .or .i64 a (c*2 ^ k)=c*2 ^ k+a:=by
 obtain⟨a',rfl⟩:=Int.eq_ofNat_of_zero_le ha;obtain⟨c',rfl⟩:=Int.eq_ofNat_of_zero_le hc;have ha3:a' <2 ^ k:=by exact_mod_cast Wj
 have hp: (c' :Int)*2 ^ k= ((c' *2 ^ k:Nat):Int):=by rw [Int.natCast_mul,alP];rfl
 rw [hp] at hb ⊢;have YX:c' *2 ^ k+a' ≤9223372036854775807:=by
  generalize c' *2 ^ k=z at hb;omega
 have e: ((BitVec.ofInt 64 (a' :Int)) ||| (BitVec.ofInt 64 ((c' *2 ^ k:Nat):Int))).toNat=c' *2 ^ k+a' :=by
  rw [am6,akC,akC,akD,akD,aj_ (by omega),aj_ (by omega),al7,akE c',am7 ha3]
 show IntKind.i64.wrap ((((BitVec.ofInt 64 (a' :Int)) ||| (BitVec.ofInt 64 ((c' *2 ^ k:Nat):Int))).toNat:Nat):Int)=_;rw [e,bH (by omega) (by omega)]
 rfl
end
end Go.Vc
namespace Go.Vc
open Go Go.RowKit
section
theorem QA [Go.Vc.Mode] {P:Program} {f:FuncId} {args:Array Value} {w:World} (h:ab P f args w.heap (Vj w.heap)):Calls P f args w fun e w' =>e= .returned (.bool true)∧∃D5 :World,w'.Alike D5 ∧Below w.heap.size w D5 :=
 (h w rfl).mono fun e w' ⟨v,he,hr,hv,hx⟩=> ⟨by rw [he,hv],{w' with tape:=w.tape},⟨rfl,rfl,rfl⟩,⟨hr.os,rfl,hr.output,hx.size,fun k hk=>hx.get k hk⟩⟩
def FX (k:IntKind) (H:ak) (a:Option Addr) (len cap:Nat) (zs:List Int):Prop:=
 (a=none∧len=0∧cap=0∧zs= [])∨
 ∃x,a=some x∧len≤cap∧cap≤maxLen∧zs.length=cap∧(∀i,i<zs.length→cellAt H (x.add i)=some (.int k (zs.getD i 0)))∧∀n∈zs,(Lit.int k n).wf=true
theorem Zk {n:Int} (h: (Lit.int .i64 n).wf=true): -9223372036854775808≤n∧n≤9223372036854775807:=by
 simpa [Lit.wf,IntKind.min,IntKind.max,IntKind.signed,IntKind.bits] using h
theorem Ce {H H' :ak} {a:Addr} {v:Value} (h:Ext H H') (hc:cellAt H a=some v):cellAt H' a=some v:=by
 unfold cellAt at hc ⊢;have hl:a.block<H.size:=by
  rcases akz a.block H.size with h' |h'
  ·exact h'
  ·rw [aln h'] at hc;cases hc
 rw [h.get _ hl];exact hc
theorem FX.read {k:IntKind} {H H' :ak} {a:Option Addr} {len cap:Nat} {zs:List Int} (hr:FX k H a len cap zs) (hx:Ext H H') {i:Int} (h0:0≤i) (h1:i< (len:Int)) {K:Value→Prop}:
  (K (.int k (zs.getD i.toNat 0)))→aN 1 (.slice a len cap) (.int .i64 i) fun x=>al H' x K:=by
 intro hk;rcases hr with ⟨_,rfl,_⟩ | ⟨x,rfl,hl,_,hz,hc,_⟩
 ·omega
 ·rw [vg]
  refine⟨h0,h1,?_⟩;rw [aj0,ba (Ce hx (hc i.toNat (by omega)))];exact hk
theorem FX.wf {k:IntKind} {H:ak} {a:Option Addr} {len cap:Nat} {zs:List Int} (hr:FX k H a len cap zs) {i:Nat} (h1:i<len): (Lit.int k (zs.getD i 0)).wf=true:=by
 rcases hr with ⟨_,rfl,_⟩ | ⟨x,rfl,hl,_,hz,hc,hw⟩
 ·omega
 ·rw [ajX,ajV (by omega)]
  exact hw _ (ajZ _)
end
end Go.Vc
namespace Go.Vc
open Go Go.ChangeShapes Go.WideShapes Go.Deep Go.RowKit
section
def Wk:TypeDesc→Value→Prop
 | .int k,v=> ∃n,v= .int k n∧(Lit.int k n).wf=true
 | .bool,v=> ∃b,v= .bool b
 | .string,v=> ∃l,v=str l∧l.length≤maxLen
 |_,_=>True
def w6 (ds:List TypeDesc) (c:Nat→Option Value):Prop:= ∀ (j:Nat) (d:TypeDesc),ds[j]? =some d→∃v,c j=some v∧Wk d v
def qO (ds:List TypeDesc) (H:ak) (a:Option Addr) (len cap:Nat):Prop:=
 (a=none∧len=0∧cap=0)∨
 ∃x,a=some x∧len≤cap∧cap≤maxLen∧∀i,i<len→w6 ds fun j=>cellAt H (x.add (i*ds.length+j))
def EJ (P:Program) (fs:List Field):List TypeDesc:=fs.map fun f=> (P.underlying f.type).getD .bool
section
variable {H:Type} {enc:TypeId × Value→H} {P:Program} {w:World} {base:Nat} {spare:Nat→Bool} {held:Bool}
theorem Wl {t:TypeId} {d:TypeDesc} {v:Value} {n:Nat} {y:DataW H × List MemPlace} (hu:P.underlying t=some d) (h:DataW.trod enc P w base spare held n t [v]=some y):Wk d v:=by
 unfold Wk
 split
 ·obtain⟨m,he,_,hw⟩:=DataW.trod_int hu h
  simp only [alk,and_true] at he;exact⟨m,he,hw⟩
 ·obtain⟨b,he,_⟩:=DataW.trod_bool hu h
  simp only [alk,and_true] at he;exact⟨b,he⟩
 ·obtain⟨s,he,_,hl⟩:=DataW.trod_string hu h
  simp only [alk,and_true] at he;refine⟨kI s,by rw [he,Tu],?_⟩;have e: (kI s).length=s.size:=rfl;rw [e];exact hl
 ·trivial
theorem take_one {cs:List Value} {j:Nat} (h:j<cs.length): (cs.drop j).take 1= [cs[j]'h]:=by
 rw [akN h];rfl
theorem TU {t:TypeId} {fs:Array Field} {cs:List Value} {fuel:Nat} {x:DataW H × List MemPlace} (ht:P.underlying t=some (.struct fs)) (qn:oneCellFields P fs=true) (hC:P.cellsOf t=fs.size)
  (qC:fs.toList.all (fun f=> (P.underlying f.type).isSome)=true) (h:DataW.trod enc P w base spare held fuel t cs=some x):cs.length=fs.size∧w6 (EJ P fs.toList) fun j=>cs[j]? :=by
 obtain⟨ys,n',Zl,hy,hlen,G9,hf⟩:=DataW.trod_struct ht h;refine⟨hlen.trans hC,fun j d hj=>?_⟩;unfold EJ at hj;rw [ake,Array.getElem?_toList] at hj
 cases Yr:fs[j]? with
 |none=>rw [Yr] at hj;cases hj
 |some f=>
  rw [Yr] at hj;simp only [alI,ajY] at hj;have MB:j<fs.size:= (alL.1 Yr).1;obtain⟨ho,hk⟩:=hone_of qn j f Yr;have h1:=hf j f Yr;have hl:j<cs.length:=by omega
  rw [ho,hk,take_one hl,ajV (show j<ys.length by omega)] at h1;have hs: (P.underlying f.type).isSome=true:=alA.1 qC f (by
   have:= (alL.1 Yr);obtain⟨h1,h2⟩:=this;rw [←h2];simp)
  obtain⟨d',Zm⟩:=Option.isSome_iff_exists.1 hs;rw [Zm] at hj;simp only [alo] at hj;subst hj;exact⟨cs[j],ajV hl,Wl Zm h1⟩
theorem FY {t e:TypeId} {fs:Array Field} {fuel:Nat} {a:Option Addr} {len cap:Nat} {x:DataW H × List MemPlace} (ht:P.underlying t=some (.slice e)) (he:P.underlying e=some (.struct fs)) (qn:oneCellFields P fs=true) (hC:P.cellsOf e=fs.size)
  (qC:fs.toList.all (fun f=> (P.underlying f.type).isSome)=true) {ds:List TypeDesc} (Wm:EJ P fs.toList=ds) (h:DataW.trod enc P w base spare held fuel t [.slice a len cap]=some x):qO ds w.heap a len cap:=by
 subst Wm;rcases open_slice ht h with ⟨h0,_⟩ | ⟨a',agM,Wn,m,n,D,Pl,PK,hb,hl,hm,hmm,hx,hi⟩
 ·simp only [alk,Value.slice.injEq,and_true] at h0
  exact .inl h0
 ·simp only [alk,Value.slice.injEq,and_true] at PK
  obtain⟨rfl,rfl,rfl⟩:=PK;refine .inr ⟨a',rfl,hl,hm,fun i KC=>?_⟩;have him:i<m:=by rw [hmm];split<;>omega
  obtain⟨HM,hc,Y7⟩:=hi i him;have hF:=TU he qn hC qC Y7;obtain⟨_,iz,ji⟩:=World.cells?_some hc;intro j d hj;obtain⟨v,hv,hk⟩:=hF.2 j d hj;have MB:j<HM.length:= (aku.1 hv).1;refine⟨v,?_,hk⟩;have ji:=ji j (by omega);have hv:HM[j]? =some v:=hv;show cellAt w.heap (a'.add (i* (EJ P fs.toList).length+j))=some v;rw [←hv,←ji,Go.Deep.add_add,hC];have: (EJ P fs.toList).length=fs.size:=by simp [EJ]
  rw [this]
  rfl
end
end
end Go.Vc
namespace Go.Vc
open Go
section
theorem xS (a:Addr) (m n:Nat): (a.add m).add n=a.add (m+n):=by
 unfold Addr.add
 by_cases hm:m=0
 ·subst hm;simp
 ·by_cases hn:n=0
  ·subst hn;simp [hm]
  ·have:m+n≠0:=by omega
   simp [hm,hn,this,aly]
def Reads (H:ak) (a:Addr) (l:List Value):Prop:= ∀ (i:Nat) (v:Value),l[i]? =some v→cellAt H (a.add i)=some v
theorem Reads.cells {H:ak} {a:Addr} {l:List Value} (h:Reads H a l): ∀n,n≤l.length→ix H a n=some (l.take n)
 |0,_=>by simp [ix]
 |n+1,hn=>by
  have eF:n<l.length:=by omega
  simp only [ix,h.cells n (by omega),h n l[n] (ajV eF)];rw [akq,ajV eF]
  rfl
theorem Reads.all {H:ak} {a:Addr} {l:List Value} (h:Reads H a l):ix H a l.length=some l:=by rw [h.cells _ (ajR _),aj8]
theorem Reads.ext {H H' :ak} {a:Addr} {l:List Value} (h:Reads H a l) (hx:Ext H H'):Reads H' a l:=fun i v hv=>Ce hx (h i v hv)
theorem Reads.part {H:ak} {a:Addr} {l:List Value} (h:Reads H a l) (o n:Nat):Reads H (a.add o) ((l.drop o).take n):=fun i v hv=>by
 rw [xS];rw [alQ] at hv
 split at hv
 ·rw [ak7] at hv;exact h _ _ hv
 ·cases hv
def Sl (H:ak) (v:Value) (sz:Nat) (l:List Value):Prop:=
 (v= .slice none 0 0∧l= [])∨∃a n cap,v= .slice (some a) n cap∧l.length=n*sz∧n≤cap∧Reads H a l
theorem Sl.ext {H H' :ak} {v:Value} {sz:Nat} {l:List Value} (h:Sl H v sz l) (hx:Ext H H'):Sl H' v sz l:=by
 rcases h with h| ⟨a,n,cap,h1,h2,h3,h4⟩
 ·exact .inl h
 ·exact .inr ⟨a,n,cap,h1,h2,h3,h4.ext hx⟩
theorem Sl.len {H:ak} {v:Value} {sz:Nat} {l:List Value} {K:Value→Prop} (h:Sl H v sz l) {n:Nat} (hn:l.length=n*sz) (hz:0<sz) (hk:K (.int .i64 (n:Int))):dh v K:=by
 rcases h with ⟨rfl,rfl⟩ | ⟨a,m,cap,rfl,h2,h3,h4⟩
 ·rw [vh]
  have:n=0:=by
   rcases alR n with h|h
   ·exact h
   ·have:=alN h hz
    simp only [aj7] at hn;omega
  subst this;exact hk
 ·rw [vh]
  rw [h2] at hn;rw [alS hz hn];exact hk
theorem Sl.mu {H:ak} {v:Value} {sz:Nat} {l:List Value} (h:Sl H v sz l) {n:Nat} (hn:l.length=n*sz) (hz:0<sz):Go.Vc.mu v=some n:=by
 rcases h with ⟨rfl,rfl⟩ | ⟨a,m,cap,rfl,h2,h3,h4⟩
 ·have:n=0:=by
   rcases alR n with h|h
   ·exact h
   ·have:=alN h hz
    simp only [aj7] at hn;omega
  subst this;rfl
 ·rw [h2] at hn
  rw [alS hz hn];rfl
theorem Sl.cellsOf {H:ak} {v:Value} {sz:Nat} {l:List Value} (h:Sl H v sz l):Go.Vc.cellsOf H sz v=some l:=by
 rcases h with ⟨rfl,rfl⟩ | ⟨a,m,cap,rfl,h2,h3,h4⟩
 ·rfl
 ·show ix H a (m*sz)=some l
  rw [←h2];exact h4.all
theorem Reads.load {H:ak} {a:Addr} {l:List Value} {v:Value} {K:Value→Prop} (h:Reads H a l) (hv:l[0]? =some v) (hk:K v):al H (.pointer (some a)) K:=by
 have:=h 0 v hv;have e:a.add 0=a:=by simp [Addr.add]
 rw [e] at this;rw [ba this];exact hk
theorem Reads.loadAt {H:ak} {a:Addr} {l:List Value} {v:Value} {o:Nat} {K:Value→Prop} (h:Reads H a l) (hv:l[o]? =some v) (hk:K v):al H (.pointer (some (a.add o))) K:=by
 rw [ba (h o v hv)];exact hk
theorem Reads.kf {H:ak} {a:Addr} {l:List Value} {n:Nat} {K:Value→Prop} (h:Reads H a l) (hn:l.length=n) (hk:K (.agg l.toArray)):aF H n (.pointer (some a)) K:=by
 subst hn;simp only [aF,h.all];exact hk
def FZ (fr:Nat × Nat) (n:Nat):Prop:=fr= (0,0)∨n≤fr.1
structure ab9 (H:ak) (b:Nat) (sz n cap:Nat) (l sp:List Value):Prop where
 ll: ∃t fr,H[b]? =some (.cells (l++sp).toArray t fr)∧FZ fr (cap*sz)
 len:l.length=n*sz
 cap_: (l++sp).length=cap*sz
def pB (H:ak) (v:Value) (sz:Nat) (l:List Value):Prop:=
 (v= .slice none 0 0∧l= [])∨∃b n cap sp,v= .slice (some ⟨b,0,none⟩) n cap∧ab9 H b sz n cap l sp
def aV:Value→Option Nat
 | .slice (some a) _ _=>some a.block
 |_=>none
theorem pB.sl {H:ak} {v:Value} {sz:Nat} {l:List Value} (hz:0<sz) (h:pB H v sz l):Sl H v sz l:=by
 rcases h with h| ⟨b,n,cap,sp,rfl,⟨t,fr,hb,_⟩,hl,hc⟩
 ·exact .inl h
 ·refine .inr ⟨_,n,cap,rfl,hl,?_,fun i v hv=>?_⟩
  ·rw [ajQ] at hc
   exact Nat.le_of_mul_le_mul_right (by omega) hz
  ·rw [au,aj6,e_ hb,akr,akx (aku.1 hv).1]
   exact hv
theorem pB.ext {H H' :ak} {v:Value} {sz:Nat} {l:List Value} (h:pB H v sz l) (hx:Ext H H'):pB H' v sz l:=by
 rcases h with h| ⟨b,n,cap,sp,rfl,⟨t,fr,hb,hf⟩,hl,hc⟩
 ·exact .inl h
 ·exact .inr ⟨b,n,cap,sp,rfl,⟨⟨t,fr,hx.ll hb,hf⟩,hl,hc⟩⟩
theorem pB.other {H H' :ak} {v:Value} {sz:Nat} {l:List Value} {b' :Option Nat} (h:pB H v sz l) (hx: ∀i,i<H.size→b' ≠some i→H'[i]? =H[i]?) (hb:aV v≠b' ∨aV v=none):pB H' v sz l:=by
 rcases h with h| ⟨b,n,cap,sp,rfl,⟨t,fr,Ta,hf⟩,hl,hc⟩
 ·exact .inl h
 ·refine .inr ⟨b,n,cap,sp,rfl,⟨⟨t,fr,?_,hf⟩,hl,hc⟩⟩
  rw [hx b (bw Ta) (by
   rcases hb with hb|hb
   ·exact fun e=>hb (by simp [aV,e])
   ·simp [aV] at hb)]
  exact Ta
theorem pB.lt {H:ak} {v:Value} {sz:Nat} {l:List Value} (h:pB H v sz l) {b:Nat} (hb:aV v=some b):b<H.size:=by
 rcases h with ⟨rfl,_⟩ | ⟨b',n,cap,sp,rfl,⟨t,fr,Ta,hf⟩,hl,hc⟩
 ·simp [aV] at hb
 ·simp only [aV,ajY] at hb
  subst hb;exact bw Ta
theorem mQ {b:Nat} {t:TypeId} {fr:Nat × Nat} {N:Nat} (hf:FZ fr N): ∀ (l:List Value) (H:ak) (o i:Nat) (cs:List Value),H[b]? =some (.cells cs.toArray t fr)→l.all aL=true→o+i+l.length≤cs.length→cs.length=N→
  jF H ⟨b,o,none⟩ i l=some (H.setIfInBounds b (.cells (pH cs (o+i) l).toArray t fr))
 | [],H,o,i,cs,h,_,_,_=>by simp only [jF,iq];rw [HH h]
 |v::r,H,o,i,cs,h,hv,hs,hN=>by
  have w5:aL v=true:=by simp only [amH,aj3] at hv;exact hv.1
  have HK:r.all aL=true:=by simp only [amH,aj3] at hv;exact hv.2
  have hs' :o+i+ (r.length+1)≤cs.length:=by simpa using hs
  have hc:cellAt H ⟨b,o+i,none⟩=some (cs[o+i]'(by omega)):=by rw [e_ h,akr,ajV]
  have QB:frozenAt H ⟨b,o+i,none⟩=false:=by
   obtain⟨lo,hi⟩:=fr;simp only [frozenAt,h];rcases hf with hf|hf
   ·simp only [ak4] at hf
    obtain⟨rfl,rfl⟩:=hf
    simp
   ·have: ¬lo≤o+i:=by simp only at hf;omega
    simp [this]
  simp only [jF,au,hc,QB,cond_false,w5,cond_true,zb h];rw [show (Array.setIfInBounds cs.toArray (o+i) v)= (cs.set (o+i) v).toArray by simp];rw [mQ hf r _ o (i+1) (cs.set (o+i) v) (cB (bw h)) HK (by simp;omega) (by simpa using hN),set_set,eN]
  simp [aly]
theorem s8 (l:List Value): ∀ (a c:List Value),l.length≤c.length→pH (a++c) a.length l=a++l++c.drop l.length:=by
 induction l with
 |nil=>intro a c _;simp [iq]
 |cons v r ih=>
  intro a c h
  match c,h with
  |x::c,h=>
   rw [eN,show (a++x::c).set a.length v= (a++ [v])++c by simp,show a.length+1= (a++ [v]).length by simp,ih (a++ [v]) c (by simpa using h)]
   simp
theorem kC (z:List Value): ∀n,(jG z n).length=n*z.length
 |0=>by simp [jG]
 |n+1=>by rw [jG,ajQ,kC z n,alJ,alw]
theorem pB.append {H:ak} {v x:Value} {sz bytes m n:Nat} {e:TypeId} {zero l new:List Value} {K:Value→ak→Prop} (h:pB H v sz l) (hz:0<sz) (hzero:zero.length=sz) (hlen:mu x=some m) (mi:cellsOf H sz x=some new)
  (hl:l.length=n*sz) (hm:new.length=m*sz) (qn:new.all aL=true) (pK:2* (n+m)*bytes≤281474976710656)
  (hk: ∀v' H',pB H' v' sz (l++new)→(∀i,i<H.size→aV v≠some i→H'[i]? =H[i]?)→H.size≤H'.size→(aV v' =aV v∨aV v' =some H.size)→K v' H'):bg H e sz bytes zero v x K:=by
 rcases h with ⟨rfl,rfl⟩ | ⟨b,n',cap,sp,rfl,⟨t,fr,hb,hf⟩,FN,hc⟩
 ·have EK:n=0:=by
   rcases alR n with h|h
   ·exact h
   ·have:=alN h hz
    simp only [aj7] at hl;omega
  subst EK;simp only [bg,hlen,mi];refine⟨fun hle=>?_,fun eF=>?_⟩
  ·have JZ:m=0:=by omega
   subst JZ;have:new= []:=by simpa using hm
   subst this;exact hk _ H (.inl ⟨rfl,rfl⟩) (fun _ _ _=>rfl) (ajR _) (.inl rfl)
  ·refine⟨by simpa using pK,?_⟩
   simp only [cellsOf,aj4];intro c hc;refine hk _ _ (.inr ⟨H.size,0+m,c,jG zero (c - (0+m)),rfl,⟨⟨e,(0,0),cR,.inl rfl⟩,by simpa using hm,?_⟩⟩) (fun i hi _=>lA hi) (by simp) (.inr rfl);simp only [aj4];rw [ajQ,kC,hm,hzero,←akJ]
   congr 1;omega
 ·have Wo:n' =n:=alS hz (FN.symm.trans hl)
  subst Wo;simp only [bg,hlen,mi];refine⟨fun hle=>?_,fun eF=>?_⟩
  ·have D7:new.length≤sp.length:=by
    rw [ajQ] at hc;have:=akZ sz hle;rw [akJ] at this;omega
   simp only [au,aj6];rw [mQ hf new H (n' *sz) 0 (l++sp) hb qn (by rw [ajQ];omega) hc];simp only [akp];rw [←FN,s8 new l sp D7];refine hk _ _ (.inr ⟨b,n' +m,cap,sp.drop new.length,rfl,⟨⟨t,fr,cB (bw hb),hf⟩,?_,?_⟩⟩) (fun i hi d_=>?_) (by simp) (.inl rfl)
   ·rw [ajQ,FN,hm,akJ]
   ·rw [ajQ,ajQ,aj1]
    rw [ajQ] at hc;omega
   ·exact dW (by intro e;subst e;simp [aV] at d_)
  ·refine⟨pK,?_⟩
   have hr:cellsOf H sz (.slice (some ⟨b,0,none⟩) n' cap)=some l:=by
    have:= (pB.sl hz (.inr ⟨b,n',cap,sp,rfl,⟨⟨t,fr,hb,hf⟩,FN,hc⟩⟩:pB H (.slice (some ⟨b,0,none⟩) n' cap) sz l)).cellsOf;exact this
   rw [hr];intro c lz;refine hk _ _ (.inr ⟨H.size,n' +m,c,jG zero (c - (n' +m)),rfl,⟨⟨e,(0,0),cR,.inl rfl⟩,?_,?_⟩⟩) (fun i hi _=>lA hi) (by simp) (.inr rfl)
   ·rw [ajQ,FN,hm,akJ]
   ·rw [ajQ,ajQ,kC,FN,hm,hzero,←akJ,←akJ]
    congr 1;omega
theorem pB.TV {H:ak} {v x:Value} {sz bytes n:Nat} {e:TypeId} {zero l:List Value} {K:Value→ak→Prop} (h:pB H v sz l) (hz:0<sz) (hzero:zero.length=sz) (hx:x.cells.size=sz) (qn:x.cells.toList.all aL=true)
  (hl:l.length=n*sz) (pK:2* (n+1)*bytes≤281474976710656)
  (hk: ∀v' H',pB H' v' sz (l++x.cells.toList)→(∀i,i<H.size→aV v≠some i→H'[i]? =H[i]?)→H.size≤H'.size→(∀k,aV v' =some k→aV v=some k∨H.size≤k)→K v' H'):
  aX H e 1 zero [(0,sz,x)] fun y H1=>bg H1 e sz bytes zero v y K:=by
 have hp:pH zero 0 x.cells.toList=x.cells.toList:=by
  have:=xR x.cells.toList [] zero (by simp [hzero,hx])
  simpa using this
 simp only [aX,fV,bG,hp,kJ];refine⟨hx,by omega,?_⟩;have e1:Ext H (H.push (.cells x.cells.toList.toArray e)):= (Ext.refl H).push;have hr:Reads (H.push (.cells x.cells.toList.toArray e)) ⟨H.size,0,none⟩ x.cells.toList:=fun i w hw=>by
  rw [au,aj6,e_ cR,akr];exact hw
 have hc:Go.Vc.cellsOf (H.push (.cells x.cells.toList.toArray e)) sz (.slice (some ⟨H.size,0,none⟩) 1 1)=some x.cells.toList:=by
  have:=hr.all;rw [show x.cells.toList.length=1*sz by simp [hx]] at this;exact this
 refine pB.append (h.ext e1) hz hzero (m:=1) rfl hc hl (by simp [hx]) qn pK fun v' H' ho hi hs hb=>?_;refine hk v' H' ho (fun i KC d_=>?_) (by rw [am8] at hs;omega) (fun k mw =>?_)
 ·rw [hi i (by rw [am8];omega) d_];exact lA KC
 ·rcases hb with hb|hb
  ·left;rw [←hb];exact mw
  ·right;rw [hb,ajY,am8] at mw;omega
theorem Cf {A H H' :ak} {v:Value} (hx:Ext A H) (hv: ∀k,aV v=some k→A.size≤k) (hi: ∀i,i<H.size→aV v≠some i→H'[i]? =H[i]?) (hs:H.size≤H'.size):Ext A H' :=
 ⟨akk hx.size hs,fun i KC=>by
  have:=hx.size;rw [hi i (by omega) (fun e=>by have:=hv i e;omega)];exact hx.get i KC⟩
theorem wK: ∀l:List UInt8,bytesOf (l.map cY)=some l
 | []=>rfl
 |b::r=>by
  simp only [akU,bytesOf,wK r]
  congr 2
  simp
theorem Sl.str {H:ak} {v:Value} {l:List UInt8} {K:Value→Prop} (h:Sl H v 1 (l.map cY)) (hk:K (str l)):qi H v K:=by
 rcases h with ⟨rfl,hl⟩ | ⟨a,n,cap,rfl,h2,h3,h4⟩
 ·have:l= []:=by simpa using hl
  subst this;exact hk
 ·simp only [aka,aj0] at h2
  simp only [qi];have:=h4.all;rw [aka,h2] at this;rw [this];simp only [wK];exact hk
theorem Sl.cut {H:ak} {v:Value} {sz:Nat} {l:List Value} {K:Value→Prop} (h:Sl H v sz l) (hz:0<sz) {n lo hi:Nat} (hn:l.length=n*sz) (h1:lo≤hi) (h2:hi≤n) (hk: ∀v',Sl H v' sz ((l.drop (lo*sz)).take ((hi - lo)*sz))→K v') {x y:Option Value}
  (hx:x=some (.int .i64 (lo:Int))∨(x=none∧lo=0)) (hy:y=some (.int .i64 (hi:Int))∨(y=none∧hi=n)):lj sz v x y K:=by
 have hc: ∀ (c:Nat) (Kb:Nat→Nat→Prop),n≤c→Kb lo hi→kj n c x y Kb:=by
  intro c Kb hnc hk;rcases hx with rfl| ⟨rfl,rfl⟩<;>rcases hy with rfl| ⟨rfl,rfl⟩
  ·rw [ua];exact⟨by omega,by omega,by omega,by omega,by simpa using hk⟩
  ·rw [rp];exact⟨by omega,by omega,by simpa using hk⟩
  ·rw [f_];exact⟨by omega,by omega,by simpa using hk⟩
  ·rw [Cd];exact hk
 rcases h with ⟨rfl,rfl⟩ | ⟨a,m,cap,rfl,hm,Cg,hr⟩
 ·have EK:n=0:=by
   rcases alR n with h|h
   ·exact h
   ·have:=alN h hz
    simp only [aj7] at hn;omega
  subst EK;have:hi=0:=by omega
  subst this;have:lo=0:=by omega
  subst this;rw [pA];refine hc 0 _ (ajR _) ?_;exact hk _ (.inl ⟨by simp,by simp⟩)
 ·have hmn:=alS hz (hm.symm.trans hn)
  subst hmn;rw [pA];refine hc cap _ Cg ?_;refine hk _ (.inr ⟨if cap=lo then a else a.add (lo*sz),hi - lo,cap - lo,by split<;>rfl,?_,by omega,?_⟩)
  ·rw [ajW,aj1,hm]
   have: (hi - lo)*sz≤m*sz - lo*sz:=by
    rw [←Nat.sub_mul];exact akZ sz (by omega)
   omega
  ·split
   ·rename_i he
    subst he;have:hi - cap=0:=by omega
    rw [this,al8,alT];intro i w hw;simp at hw
   ·exact hr.part _ _
theorem pB.store {H:ak} {v x:Value} {l:List Value} {K:Value→ak→Prop} (h:pB H v 1 l) (hx:aL x=true) {i:Int} (h0:0≤i) (h1:i< (l.length:Int))
  (hk: ∀H',pB H' v 1 (l.set i.toNat x)→(∀j,j<H.size→aV v≠some j→H'[j]? =H[j]?)→H'.size=H.size→K undef H'):aN 1 v (.int .i64 i) fun p=>aE H p x K:=by
 rcases h with ⟨rfl,rfl⟩ | ⟨b,n,cap,sp,rfl,⟨t,fr,hb,hf⟩,hl,hc⟩
 ·simp only [aj7] at h1;omega
 ·rw [vg]
  refine⟨h0,by omega,?_⟩;rw [aj0,au,aj6];have eF:i.toNat< (l++sp).length:=by rw [ajQ];omega
  have hs:=mQ hf [x] H i.toNat 0 (l++sp) hb (by simp [hx]) (by simp only [aj2,aj7];omega) hc;simp only [aE,hs,akp,eN,iq];refine hk _ (.inr ⟨b,n,cap,sp,rfl,⟨⟨t,fr,?_,hf⟩,by simpa using hl,by simpa using hc⟩⟩) (fun j hj d_=>dW (by intro e;subst e;simp [aV] at d_)) (by simp);rw [cB (bw hb),amI _ _ (by omega)]
theorem QD {H:ak} {e:TypeId} {bytes:Nat} {z:Value} {n:Int} {K:Value→ak→Prop} (h0:0≤n) (hb: (bytes:Int)*n≤281474976710656) (hn:n≤9223372036854775807)
  (hk: ∀v H',pB H' v 1 (List.replicate n.toNat z)→Ext H H' →H'.size=H.size+1→aV v=some H.size→K v H'):gP H e bytes [z] (.int .i64 n) (.int .i64 n) K:=by
 have hr: ∀k,jG [z] k=List.replicate k z:=by
  intro k
  induction k with
  |zero=>rfl
  |succ k ih=>rw [jG,ih];rfl
 simp only [gP];refine⟨h0,al9 _,hb,hn,?_⟩;rw [hr];exact hk _ _ (.inr ⟨H.size,n.toNat,n.toNat,[],rfl,⟨⟨e,(0,0),by rw [akb];exact cR,.inl rfl⟩,by simp,by simp⟩⟩) (Ext.refl H).push (by simp) rfl
theorem KD {H:ak} {e:TypeId} {sz:Nat} {zero:List Value} {x:Value} {K:Value→ak→Prop} (hzero:zero.length=sz) (hx:x.cells.size=sz)
  (hk: ∀y H',Sl H' y sz x.cells.toList→Ext H H' →aV y=some H.size→K y H'):aX H e 1 zero [(0,sz,x)] K:=by
 have hp:pH zero 0 x.cells.toList=x.cells.toList:=by
  have:=xR x.cells.toList [] zero (by simp [hzero,hx])
  simpa using this
 simp only [aX,fV,bG,hp,kJ];refine⟨hx,by omega,?_⟩;refine hk _ _ (.inr ⟨_,1,1,rfl,by simp [hx],ajR _,fun i w hw=>?_⟩) (Ext.refl H).push ?_
 ·rw [au,aj6,e_ cR,akr];exact hw
 ·rfl
theorem Sl.other {H H' :ak} {v:Value} {sz:Nat} {l:List Value} {b' :Option Nat} (h:Sl H v sz l) (hx: ∀i,i<H.size→b' ≠some i→H'[i]? =H[i]?) (hb:aV v≠b' ∨aV v=none):Sl H' v sz l:=by
 rcases h with h| ⟨a,n,cap,rfl,h1,h2,h3⟩
 ·exact .inl h
 ·refine .inr ⟨a,n,cap,rfl,h1,h2,fun i w hw=>?_⟩
  have hc:=h3 i w hw;have G7: (a.add i).block=a.block:=by unfold Addr.add;split<;>rfl
  unfold cellAt at hc ⊢;rw [G7] at hc ⊢;have hl:a.block<H.size:=by
   rcases akz a.block H.size with h' |h'
   ·exact h'
   ·rw [aln h'] at hc;cases hc
  rw [hx a.block hl (by
   rcases hb with hb|hb
   ·exact fun e=>hb (by rw [e];rfl)
   ·simp [aV] at hb)]
  exact hc
structure A6 (sz:Nat) (H0 H:ak) (a b:Value) (la lb:List Value):Prop where
 oa:pB H a sz la
 ob:pB H b sz lb
 ext:Ext H0 H
 fa: ∀k,aV a=some k→H0.size≤k
 fb: ∀k,aV b=some k→H0.size≤k
 sep: ∀k,aV a=some k→aV b≠some k
theorem A6.symm {sz:Nat} {H0 H:ak} {a b:Value} {la lb:List Value} (h:A6 sz H0 H a b la lb):A6 sz H0 H b a lb la:=
 ⟨h.ob,h.oa,h.ext,h.fb,h.fa,fun k hk mw =>h.sep k mw hk⟩
theorem A6.more {sz:Nat} {H0 H H' :ak} {a b:Value} {la lb:List Value} (h:A6 sz H0 H a b la lb) (hx:Ext H H'):A6 sz H0 H' a b la lb:=
 ⟨h.oa.ext hx,h.ob.ext hx,h.ext.trans hx,h.fa,h.fb,h.sep⟩
theorem A6.step {sz:Nat} {H0 H H' :ak} {a b a' :Value} {la lb la' :List Value} (h:A6 sz H0 H a b la lb) (o:pB H' a' sz la') (hi: ∀i,i<H.size→aV a≠some i→H'[i]? =H[i]?) (hs:H.size≤H'.size) (hk:aV a' =aV a∨aV a' =some H.size):A6 sz H0 H' a' b la' lb:=by
 refine⟨o,h.ob.other hi ?_,Cf h.ext h.fa hi hs,fun k e=>?_,h.fb,fun k e e' =>?_⟩
 ·cases hb:aV b with
  |none=>exact .inr rfl
  |some k=>exact .inl fun e=>h.sep k e.symm hb
 ·rcases hk with hk|hk
  ·exact h.fa k (hk ▸ e)
  ·rw [hk,ajY] at e;have:=h.ext.size;omega
 ·rcases hk with hk|hk
  ·exact h.sep k (hk ▸ e) e'
  ·rw [hk,ajY] at e;have:=h.ob.lt e';omega
theorem A6.append {sz bytes n:Nat} {H0 H:ak} {a b y:Value} {la lb new zero:List Value} {e:TypeId} {K:Value→ak→Prop} (h:A6 sz H0 H a b la lb) (hz:0<sz) (hzero:zero.length=sz) (hy:Sl H y sz new) (hn:new.length=1*sz) (qn:new.all aL=true)
  (hl:la.length=n*sz) (pK:2* (n+1)*bytes≤281474976710656) (hk: ∀a' H',A6 sz H0 H' a' b (la++new) lb→(∀i,i<H.size→aV a≠some i→H'[i]? =H[i]?)→K a' H'):bg H e sz bytes zero a y K:=
 pB.append h.oa hz hzero (hy.mu hn hz) hy.cellsOf hl hn qn pK fun a' H' o i s k=>hk a' H' (h.step o i s k) i
end
section
theorem s_ {n:Nat}: ∀ (L:List (List Value)),(∀r∈L,r.length=n)→L.flatten.length=L.length*n
 | [],_=>by simp
 |u::L,hl=>by
  have hu:=hl u (by simp);rw [akP,ajQ,s_ L (fun r hr=>hl r (by simp [hr])),hu,aj2,alJ];omega
theorem HN {n:Nat} (hn:0<n): ∀ (L:List (List Value)) (k:Nat) (v:Value),(∀r∈L,r.length=n)→L.flatten[k]? =some v→∃r,L[k/n]? =some r∧r[k%n]? =some v
 | [],k,v,_,h=>by simp at h
 |u::L,k,v,hl,h=>by
  have hu:=hl u (by simp);rw [akP] at h
  by_cases hk:k<n
  ·rw [akx (by omega)] at h
   exact⟨u,by rw [Nat.div_eq_of_lt hk];rfl,by rw [aj_ hk];exact h⟩
  ·rw [akB (by omega),hu] at h
   obtain⟨r,h1,h2⟩:=HN hn L (k - n) v (fun r hr=>hl r (by simp [hr])) h;refine⟨r,?_,?_⟩
   ·rw [Nat.div_eq_sub_div hn (by omega)];exact h1
   ·rw [Nat.mod_eq_sub_mod (by omega)];exact h2
theorem QE {n:Nat} {ds:List TypeDesc} (Wm:ds.length=n) {c:Nat→Option Value} (h:w6 ds c): ∃r:List Value,r.length=n∧w6 ds (fun j=>r[j]?)∧∀j,j<n→r[j]? =c j:=by
 refine⟨(List.range n).map fun j=> (c j).getD undef,by simp,?_,?_⟩
 ·intro j d hj
  have eF:j<n:=by rw [←Wm];exact(aku.1 hj).1
  obtain⟨v,hv,hk⟩:=h j d hj;exact⟨v,by simp [ake,ak8 eF,hv],hk⟩
 ·intro j hj
  obtain⟨v,hv,_⟩:=h j _ (ajV (by omega))
  simp [ake,ak8 hj,hv]
theorem qO.rows {ds:List TypeDesc} {H:ak} {a:Option Addr} {len cap:Nat} (h:qO ds H a len cap) (hn:0<ds.length):
  ∃L:List (List Value),L.length=len∧len≤maxLen∧(∀r∈L,r.length=ds.length)∧(∀r∈L,w6 ds fun j=>r[j]?)∧Sl H (.slice a len cap) ds.length L.flatten:=by
 rcases h with ⟨rfl,rfl,rfl⟩ | ⟨x,rfl,hl,hm,hf⟩
 ·exact⟨[],rfl,akj _,by simp,by simp,.inl ⟨rfl,rfl⟩⟩
 ·have key: ∀m,m≤len→∃L:List (List Value),L.length=m∧(∀r∈L,r.length=ds.length)∧(∀r∈L,w6 ds fun j=>r[j]?)∧∀i r,L[i]? =some r→∀j,j<ds.length→r[j]? =cellAt H (x.add (i*ds.length+j)):=by
   intro m
   induction m with
   |zero=>intro _;exact⟨[],rfl,by simp,by simp,by simp⟩
   |succ m ih=>
    intro hm;obtain⟨L,h1,h2,h3,h4⟩:=ih (by omega);obtain⟨r,A3,tR,KF⟩:=QE rfl (hf m (by omega));refine⟨L++ [r],by simp [h1],?_,?_,?_⟩
    ·intro s hs;rcases akg.1 hs with hs|hs
     ·exact h2 s hs
     ·simp only [akt] at hs;subst hs;exact A3
    ·intro s hs;rcases akg.1 hs with hs|hs
     ·exact h3 s hs
     ·simp only [akt] at hs;subst hs;exact tR
    ·intro i s hs j hj
     by_cases hi:i<m
     ·rw [akx (by omega)] at hs
      exact h4 i s hs j hj
     ·rw [akB (by omega)] at hs
      have MC:i=m:=by
       rcases akz m i with h' |h'
       ·rw [akc (by simp;omega)] at hs;cases hs
       ·omega
      subst MC;rw [h1,ali,akl,ajY] at hs;subst hs;exact KF j hj
  obtain⟨L,h1,h2,h3,h4⟩:=key len (ajR _);refine⟨L,h1,by omega,h2,h3,.inr ⟨x,len,cap,rfl,by rw [s_ L h2,h1],hl,fun k v hv=>?_⟩⟩;obtain⟨r,A3,tR⟩:=HN hn L k v h2 hv;have:=h4 _ r A3 (k%ds.length) (alb _ hn);rw [tR] at this;rw [this]
  congr 2
  rw [akE];exact(Nat.div_add_mod k ds.length).symm
end
section
structure Keys (α:Type) (kind:Nat) where
 κ:α→Value
 dec:DecidableEq α
 eq: ∀a b:α,rf kind (κ a) (κ b)=some (@decide (a=b) (dec a b))
def vV (k:IntKind):Keys Int 0:= ⟨.int k,inferInstance,fun a b=>by simp [rf]⟩
def strKeys:Keys (List UInt8) 1:= ⟨fun l=>str l,inferInstance,fun a b=>by simp [rf]⟩
theorem Keys.inj {α:Type} {kind:Nat} (κ:Keys α kind) {a b:α} (h:κ.κ a=κ.κ b):a=b:=by
 have h1:=κ.eq a b;rw [h,κ.eq b b,@decide_eq_true (b=b) (κ.dec b b) rfl] at h1;simp only [ajY] at h1;exact @of_decide_eq_true (a=b) (κ.dec a b) h1.symm
def fS {α:Type} {kind:Nat} (κ:Keys α kind) (H:ak) (r:Nat) (m:α→Option Value):Prop:=
 ∃ (es:Array MapEntry) (clock:Nat) (ks:List α),H[r]? =some (.map es clock)∧MapKept.Stamped es clock∧es.toList.map (·.key)=ks.map κ.κ∧ks.Nodup∧
  (∀ (j:Nat) (e:MapEntry) (k:α),es.toList[j]? =some e→ks[j]? =some k→m k=some e.val)∧∀k,k∉ks→m k=none
section
variable {α:Type} {kind:Nat} {κ:Keys α kind}
theorem xT {k:α}: ∀ (l:List MapEntry) (ks:List α) (i:Nat),l.map (·.key)=ks.map κ.κ→k∉ks→qv kind (κ.κ k) l i=some none
 | [],ks,i,_,_=>rfl
 |e::l,[],i,h,_=>by simp at h
 |e::l,a::ks,i,h,hk=>by
  simp only [akU,alk] at h;have d_:k≠a:=fun e=>hk (by simp [e]);have hd: @decide (k=a) (κ.dec k a)=false:=by
   cases TW:κ.dec k a with
   |isTrue ht=>exact absurd ht d_
   |isFalse hf=>rfl
  simp only [qv,h.1,κ.eq,hd];exact xT l ks (i+1) h.2 (fun h' =>hk (by simp [h']))
theorem vW {k:α}: ∀ (l:List MapEntry) (ks:List α) (i:Nat),l.map (·.key)=ks.map κ.κ→k∈ks→∃ (j:Nat) (e:MapEntry),l[j]? =some e∧ks[j]? =some k∧qv kind (κ.κ k) l i=some (some (i+j,e.val))
 | [],[],i,_,hk=>by simp at hk
 | [],a::ks,i,h,_=>by simp at h
 |e::l,[],i,h,_=>by simp at h
 |e::l,a::ks,i,h,hk=>by
  simp only [akU,alk] at h
  by_cases he:k=a
  ·subst he
   have hd: @decide (k=k) (κ.dec k k)=true:=by
    cases TW:κ.dec k k with
    |isTrue ht=>rfl
    |isFalse hf=>exact absurd rfl hf
   refine⟨0,e,rfl,rfl,?_⟩;show (match rf kind (κ.κ k) e.key with|some true=>some (some (i,e.val)) |some false=>qv kind (κ.κ k) l (i+1) |none=>none)=_;rw [h.1,κ.eq,hd]
   rfl
  ·have hd: @decide (k=a) (κ.dec k a)=false:=by
    cases TW:κ.dec k a with
    |isTrue ht=>exact absurd ht he
    |isFalse hf=>rfl
   obtain⟨j,e',h1,h2,h3⟩:=vW l ks (i+1) h.2 (by
    rcases aj5.1 hk with h' |h'
    ·exact absurd h' he
    ·exact h')
   refine⟨j+1,e',h1,h2,?_⟩;simp only [qv,h.1,κ.eq,hd];rw [h3,show i+1+j=i+ (j+1) by omega]
variable {H:ak} {r:Nat} {m:α→Option Value}
theorem fS.ext {H' :ak} (h:fS κ H r m) (hx:Ext H H'):fS κ H' r m:=by
 obtain⟨es,c,ks,h1,h2⟩:=h;exact⟨es,c,ks,hx.ll h1,h2⟩
theorem fS.A5 {H' :ak} (h:fS κ H r m) (hx:H'[r]? =H[r]?):fS κ H' r m:=by
 obtain⟨es,c,ks,h1,h2⟩:=h;exact⟨es,c,ks,hx.trans h1,h2⟩
theorem fS.lt (h:fS κ H r m):r<H.size:=by
 obtain⟨es,c,ks,h1,h2⟩:=h;exact bw h1
theorem fS.lookup (h:fS κ H r m) {k:α} {zero:Value} {ok:Bool} {K:Value→Prop} (hk:K (bif ok then .tuple #[(m k).getD zero,.bool (m k).isSome] else (m k).getD zero)):mE H kind zero ok (.map (some r)) (κ.κ k) K:=by
 obtain⟨es,c,ks,h1,ff,h2,h3,h4,h5⟩:=h
 by_cases hm:k∈ks
 ·obtain⟨j,e,g1,g2,g3⟩:=vW (κ:=κ) es.toList ks 0 h2 hm
  simp only [mE,sR,h1,g3];rw [h4 j e k g1 g2] at hk;exact hk
 ·simp only [mE,sR,h1,xT (κ:=κ) es.toList ks 0 h2 hm]
  rw [h5 k hm] at hk;exact hk
def xU (κ:Keys α kind) (m:α→Option Value) (k:α) (v:Option Value):α→Option Value:=fun x=>if @decide (x=k) (κ.dec x k)=true then v else m x
theorem ta (k:α) (v:Option Value):xU κ m k v k=v:=by
 unfold xU;rw [if_pos]
 cases TW:κ.dec k k with
 |isTrue ht=>rfl
 |isFalse hf=>exact absurd rfl hf
theorem qE {k x:α} (v:Option Value) (h:x≠k):xU κ m k v x=m x:=by
 unfold xU;rw [if_neg]
 cases TW:κ.dec x k with
 |isTrue ht=>exact absurd ht h
 |isFalse hf=>exact Bool.false_ne_true
theorem vZ {ks:List α} (h:ks.Nodup) {i j:Nat} {k:α} (hi:ks[i]? =some k) (hj:ks[j]? =some k):i=j:=by
 exact(List.getElem?_inj (aku.1 hi).1 h).1 (hi.trans hj.symm)
theorem EL {β γ:Type} (f:β→γ) (l:List β) (j:Nat): (l.eraseIdx j).map f= (l.map f).eraseIdx j:=by
 apply akV;intro i;simp only [ake,amm]
 split<;>rfl
theorem fS.set (h:fS κ H r m) {k:α} {v:Value} {KE:Value→ak→Prop} (hk: ∀H',fS κ H' r (xU κ m k (some v))→H'.size=H.size→(∀i,i≠r→H'[i]? =H[i]?)→KE undef H'):nA H kind (.map (some r)) (κ.κ k) v KE:=by
 have hr:=h.lt;obtain⟨es,c,ks,h1,ff,h2,h3,h4,h5⟩:=h
 by_cases hm:k∈ks
 ·obtain⟨j,e,g1,g2,g3⟩:=vW (κ:=κ) es.toList ks 0 h2 hm
  rw [aj6] at g3;simp only [nA,h1,g3];refine hk _ ⟨_,c,ks,cB hr,?_,?_,h3,?_,?_⟩ (by simp) (fun i hi=>dW (ak6 hi))
  ·refine MapKept.stamped_modify ff j _ (fun _ _=>rfl) (fun e' _ Yo =>?_)
   have h1' :es[j]? =some e:=by rw [←Array.getElem?_toList];exact g1
   rw [h1',ajY] at Yo;subst Yo;have: (ks.map κ.κ)[j]? =some (κ.κ k):=by simp [g2]
   rw [←h2,ake,g1] at this;simp only [alI,ajY] at this;exact this.symm
  ·rw [←h2]
   apply akV;intro i;simp only [Array.toList_modify,ake,List.getElem?_modify]
   by_cases MD:j=i
   ·subst MD
    rw [g1];have: (ks.map κ.κ)[j]? =some (κ.κ k):=by simp [g2]
    rw [←h2,ake,g1] at this;simp only [alI,ajY] at this
    simp [this]
   ·simp only [if_neg MD];cases es.toList[i]? <;>rfl
  ·intro i e' k' he mw
   rw [Array.toList_modify,List.getElem?_modify] at he
   by_cases MD:j=i
   ·subst MD
    rw [g2,ajY] at mw;subst mw;rw [ta];rw [g1] at he
    simp at he
    rw [←he]
   ·have d_:k' ≠k:=fun e=>MD (vZ h3 g2 (e ▸ mw))
    rw [qE _ d_];have:es.toList[i]? =some e' :=by
     simp only [if_neg MD] at he
     cases hh:es.toList[i]? with
     |none=>rw [hh] at he;cases he
     |some x=>rw [hh] at he;simpa using he
    exact h4 i e' k' this mw
  ·intro x hx
   rw [qE _ (show x≠k from fun e=>hx (by rw [e];exact hm))];exact h5 x hx
 ·simp only [nA,h1,xT (κ:=κ) es.toList ks 0 h2 hm]
  refine hk _ ⟨_,c+1,ks++ [k],cB hr,MapKept.stamped_push ff (fun x hx e=>hm (by
   have h' :x.key∈es.toList.map (fun y=>y.key):=akn.2 ⟨x,hx,rfl⟩;rw [h2,e] at h';obtain⟨a,ha,hae⟩:=akn.1 h';rw [←κ.inj hae];exact ha)),by simp [h2],?_,?_,?_⟩ (by simp) (fun i hi=>dW (ak6 hi))
  ·rw [List.nodup_append]
   exact⟨h3,by simp,fun a ha b hb=>by simp only [akt] at hb;subst hb;intro e;exact hm (e ▸ ha)⟩
  ·have hlen:es.toList.length=ks.length:=by have:=congrArg List.length h2;simpa using this
   intro i e' k' he mw;rw [Array.toList_push] at he
   by_cases hi:i<ks.length
   ·rw [akx (by omega)] at he mw
    have d_:k' ≠k:=fun e=>hm (e ▸ akK mw);rw [qE _ d_];exact h4 i e' k' he mw
   ·rw [akB (by omega)] at he mw
    have MC:i=ks.length:=by
     rcases akz ks.length i with h' |h'
     ·rw [akc (by simp;omega)] at mw;cases mw
     ·omega
    subst MC;rw [ali,akl,ajY] at mw;rw [hlen,ali,akl,ajY] at he;subst mw;rw [ta,←he]
  ·intro x hx
   have:x≠k:=fun e=>hx (by simp [e]);rw [qE _ this];exact h5 x (fun h' =>hx (by simp [h']))
theorem fS.delete (h:fS κ H r m) {k:α} {KE:Value→ak→Prop} (hk: ∀H',fS κ H' r (xU κ m k none)→H'.size=H.size→(∀i,i≠r→H'[i]? =H[i]?)→KE (.tuple #[]) H'):rT H kind (.map (some r)) (κ.κ k) KE:=by
 have hr:=h.lt;obtain⟨es,c,ks,h1,ff,h2,h3,h4,h5⟩:=h
 by_cases hm:k∈ks
 ·obtain⟨j,e,g1,g2,g3⟩:=vW (κ:=κ) es.toList ks 0 h2 hm
  rw [aj6] at g3;have hj:j<es.size:=by have:= (aku.1 g1).1;simpa using this
  simp only [rT,h1,g3];have he: (es.eraseIdxIfInBounds j).toList=es.toList.eraseIdx j:=by
   rw [Array.eraseIdxIfInBounds,dif_pos hj]
   simp
  refine hk _ ⟨_,c,ks.eraseIdx j,cB hr,MapKept.stamped_erase ff j,?_,h3.eraseIdx j,?_,?_⟩ (by simp) (fun i hi=>dW (ak6 hi))
  ·rw [he,EL,h2,←EL]
  ·intro i e' k' hi mw
   rw [he,amm] at hi;rw [amm] at mw;have KG: ∃i',i' ≠j∧es.toList[i']? =some e' ∧ks[i']? =some k' :=by
    by_cases MD:i<j
    ·rw [if_pos MD] at hi mw;exact⟨i,by omega,hi,mw⟩
    ·rw [if_neg MD] at hi mw;exact⟨i+1,by omega,hi,mw⟩
   obtain⟨i',ab_,q1,q2⟩:=KG;have d_:k' ≠k:=fun e=>ab_ (vZ h3 (e ▸ q2) g2);rw [qE _ d_];exact h4 i' e' k' q1 q2
  ·intro x hx
   by_cases Vk:x=k
   ·subst Vk;exact ta _ _
   ·rw [qE _ Vk]
    refine h5 x (fun lf=>hx ?_);obtain⟨i,hi⟩:=al_ lf;have MD:i≠j:=fun e=>by subst e;rw [g2,ajY] at hi;exact Vk hi.symm
    rw [List.mem_iff_getElem?]
    by_cases eF:i<j
    ·exact⟨i,by rw [amm,if_pos eF];exact hi⟩
    ·exact⟨i - 1,by rw [amm,if_neg (by omega),show i - 1+1=i by omega];exact hi⟩
 ·simp only [rT,h1,xT (κ:=κ) es.toList ks 0 h2 hm]
  refine hk H ⟨es,c,ks,h1,ff,h2,h3,fun j e k' he mw =>?_,fun x hx=>?_⟩ rfl (fun _ _=>rfl)
  ·rw [qE _ (show k' ≠k from fun e=>hm (by rw [←e];exact akK mw))];exact h4 j e k' he mw
  ·by_cases Vk:x=k
   ·subst Vk;exact ta _ _
   ·rw [qE _ Vk];exact h5 x hx
theorem fS.clear (h:fS κ H r m) {KE:Value→ak→Prop} (hk: ∀H',fS κ H' r (fun _=>none)→H'.size=H.size→(∀i,i≠r→H'[i]? =H[i]?)→KE (.tuple #[]) H'):vP H (.map (some r)) KE:=by
 have hr:=h.lt;obtain⟨es,c,ks,h1,ff,h2,h3,h4,h5⟩:=h;simp only [vP,h1];exact hk _ ⟨#[],c,[],cB hr,MapKept.stamped_empty _,rfl,amJ,by simp,fun _ _=>rfl⟩ (by simp) (fun i hi=>dW (ak6 hi))
theorem vi (κ:Keys α kind) {KE:Value→ak→Prop} (hk: ∀H',fS κ H' H.size (fun _=>none)→Ext H H' →H'.size=H.size+1→KE (.map (some H.size)) H'):uY H KE:=
 hk _ ⟨#[],0,[],cR,MapKept.stamped_empty _,rfl,amJ,by simp,fun _ _=>rfl⟩ (Ext.refl H).push (by simp)
theorem fS.len (h:fS κ H r m) {K:Value→Prop} (hk: ∀ks:List α,ks.Nodup→(∀k,k∈ks↔(m k).isSome=true)→K (.int .i64 (ks.length:Int))):Mm H (.map (some r)) K:=by
 obtain⟨es,c,ks,h1,ff,h2,h3,h4,h5⟩:=h;have hl:es.size=ks.length:=by have:=congrArg List.length h2;simpa using this
 simp only [Mm,h1,hl];refine hk ks h3 fun k=> ⟨fun hm=>?_,fun hm=>?_⟩
 ·obtain⟨j,hj⟩:=al_ hm
  have MB:= (aku.1 hj).1;have he:es.toList[j]? =some (es.toList[j]'(by simp;omega)):=ajV _;rw [h4 j _ k he hj];rfl
 ·rcases Classical.em (k∈ks) with h' |h'
  ·exact h'
  ·rw [h5 k h'] at hm;cases hm
def Iter {α:Type} {kind:Nat} (κ:Keys α kind) (H:ak) (it r:Nat) (m:α→Option Value) (done:List α):Prop:=
 ∃ (es:Array MapEntry) (clock:Nat) (ks:List α) (seen:Array Nat) (c0:Nat),H[it]? =some (.mapIter (some r) clock seen c0)∧clock≤c0∧H[r]? =some (.map es clock)∧MapKept.Stamped es clock∧
  es.toList.map (·.key)=ks.map κ.κ∧ks.Nodup∧
  (∀ (j:Nat) (e:MapEntry) (k:α),es.toList[j]? =some e→ks[j]? =some k→m k=some e.val)∧(∀k,k∉ks→m k=none)∧done.Nodup∧
  (∀ (j:Nat) (e:MapEntry) (k:α),es.toList[j]? =some e→ks[j]? =some k→(seen.contains e.born=true↔k∈done))∧(∀k,k∈done→k∈ks)∧
  ∀k,done.getLast? =some k→c0=clock∧∃ (j:Nat) (e:MapEntry),es.toList[j]? =some e∧ks[j]? =some k∧seen.back? =some e.born
def Ch (H:ak) (it:Nat):Nat:=match H[it]? with
 |some (.mapIter (some r) _ seen _)=> (match H[r]? with
  |some (.map es _)=> (leftOf es seen).size
  |_=>0)
 |_=>0
theorem Iter.map {it:Nat} {done:List α} (h:Iter κ H it r m done):fS κ H r m:=by
 obtain⟨es,clock,ks,seen,c0,g1,g2,g3,g4,g5,g6,g7,g8,g9,g10,g11⟩:=h;exact⟨es,clock,ks,g3,g4,g5,g6,g7,g8⟩
theorem Iter.lt {it:Nat} {done:List α} (h:Iter κ H it r m done):it<H.size:=by
 obtain⟨es,clock,ks,seen,c0,g1,_⟩:=h;exact bw g1
theorem Iter.A5 {it:Nat} {done:List α} {H' :ak} (h:Iter κ H it r m done) (h1:H'[it]? =H[it]?) (h2:H'[r]? =H[r]?):Iter κ H' it r m done:=by
 obtain⟨es,clock,ks,seen,c0,g1,g2,g3,g4⟩:=h;exact⟨es,clock,ks,seen,c0,h1.trans g1,g2,h2.trans g3,g4⟩
def QF (P:Program) (t:TypeId):Bool:=match P.underlying t with
 |some (.map _ _)=>true
 |_=>false
theorem fS.range [Go.Vc.Mode] {P:Program} (h:fS κ H r m) {t:TypeId} (ht:QF P t=true) {K:Value→ak→Prop} (hk: ∀H',Ext H H' →H'.size=H.size+1→Iter κ H' H.size r m []→K (.pointer (some ⟨H.size,0,none⟩)) H'):DZ H P (Instr.range t (.map (some r))) K:=by
 obtain⟨es,c,ks,h1,ff,h2,h3,h4,h5⟩:=h;intro w hw;subst hw;obtain⟨k,e,ht⟩: ∃k e,P.underlying t=some (.map k e):=by
  unfold QF at ht
  split at ht
  ·exact⟨_,_,by assumption⟩
  ·cases ht
 rw [run_range_map w t k e r es c ht h1];have hx:Ext w.heap (w.heap.push (.mapIter (some r) c #[] c)):= (Ext.refl _).push;refine⟨⟨rfl,rfl,rfl,fun _=>by first|exact ajR _|exact akh _⟩,hk _ hx (by simp) ⟨es,c,ks,#[],c,cR,ajR _,hx.ll h1,ff,h2,h3,h4,h5,amJ,?_,by simp,by simp⟩⟩;intro j e k _ _
 simp
theorem filter_none {α:Type} {p:α→Bool} {L:Array α} (h: (L.filter p).size=0): ∀x∈L.toList,p x=false:=by
 intro x hx;have h2:L.filter p= #[]:=ant h;rw [anu] at h2;have:=h2 x (Array.mem_toList_iff.1 hx)
 simpa using this
theorem Iter.next [Go.Vc.Mode] {P:Program} {it:Nat} {done:List α} (h:Iter κ H it r m done) {ty:TypeId} {K:Value→ak→Prop} (Zn: (∀k,(m k).isSome=true→k∈done)→K (.tuple #[.bool false]) H)
  (hk: ∀k v H',k∉done→m k=some v→Iter κ H' it r m (done++ [k])→(∀i,i≠it→H'[i]? =H[i]?)→H'.size=H.size→Ch H' it<Ch H it→K (.tuple #[.bool true,κ.κ k,v]) H'):DZ H P (Instr.next (.pointer (some ⟨it,0,none⟩)) false ty) K:=by
 have eF:=h.lt;obtain⟨es,clock,ks,seen,c0,g1,g2,g3,g4,g5,g6,g7,g8,g9,g10,g11,g12⟩:=h;have hlen:es.size=ks.length:=by have:=congrArg List.length g5;simpa using this
 intro w hw;subst hw;have hold:=g4.1;simp only [Instr.next,getObj,Sem.run_bind,Sem.run,g1,g3,Result.andThen,next_test_false seen es clock c0 hold g2,akS,if_false];have Zo:Array.filter (fun e=> !seen.contains e.born) es=leftOf es seen:=rfl;rw [Zo];have A7: ∀x∈(leftOf es seen).toList,x.born<clock:=fun x hx=>hold x (mem_left hx).1;have e1: (leftOf es seen).filter (fun x=>decide (x.born<clock))=leftOf es seen:=Array.filter_eq_self.2 (fun x hx=>by simpa using A7 x (by simpa using hx));have e2: (leftOf es seen).filter (fun x=>decide (x.born≥clock))= #[]:=by
  rw [anu];intro x hx;have:=A7 x (by simpa using hx)
  simp
  omega
 simp only [e1,e2,Array.append_empty]
 by_cases h0: (leftOf es seen).size=0
 ·have hL:leftOf es seen= #[]:=ant h0
  rw [hL]
  simp [choose,Sem.run,Question.forced]
  refine⟨⟨rfl,rfl,rfl,fun _=>by first|exact ajR _|exact akh _⟩,Zn fun k hk=>?_⟩;rcases Classical.em (k∈ks) with hm|hm
  ·obtain⟨j,hj⟩:=al_ hm
   have MB:= (aku.1 hj).1;have he:es.toList[j]? =some (es.toList[j]'(by simp;omega)):=ajV _;have DS:=filter_none h0 (es.toList[j]'(by simp;omega)) (ajZ _);simp only [Bool.not_eq_false'] at DS;exact(g10 j _ k he hj).1 DS
  ·rw [g8 k hm] at hk;cases hk
 ·have d_: (leftOf es seen).isEmpty=false:=by simp [Array.isEmpty,h0]
  simp only [d_,akS,if_false,Array.empty_append,Array.size_map];have hch: ∃ (j:Nat) (w1:World),j< (leftOf es seen).size∧(w1.Alike w∧w1.tape=w.tape∧w.drawn≤w1.drawn)∧(choose (Question.mapNext (leftOf es seen).size)).run P w= .ok j w1:=by
   by_cases hf: (leftOf es seen).size≤1
   ·exact⟨0,w,by omega,⟨⟨rfl,rfl,rfl⟩,rfl,ajR _⟩,by simp [choose,Sem.run,Question.forced,hf]⟩
   ·exact⟨_,w.drew,alb _ (by omega),⟨⟨rfl,rfl,rfl⟩,rfl,akh _⟩,by
     simp only [choose,Sem.run,Question.forced,decide_eq_true_eq,hf,if_false,Question.cut]
     rfl⟩
  obtain⟨j,w1,hj,⟨ze,htp,hdr⟩,jc⟩:=hch;have Wp: (setObj it (.mapIter (some r) clock (seen.push (leftOf es seen)[j].born) clock)).run P w1= .ok () {w1 with heap:=w1.heap.setIfInBounds it (.mapIter (some r) clock (seen.push (leftOf es seen)[j].born) clock)}:=by
   simp only [setObj,Sem.run];rw [ze.1,g1]
  simp only [jc,Array.getElem?_map,am3 hj,alI,Sem.run_bind,Wp,Result.andThen];have lf: (leftOf es seen)[j]∈(leftOf es seen).toList:=by simp
  have Wq:=mem_left lf;obtain⟨j',NI⟩:=al_ Wq.1;have acb:j' <ks.length:=by have:= (aku.1 NI).1;simp at this;omega
  have TK:ks[j']? =some ks[j']:=ajV acb;have Ws: (leftOf es seen)[j].key=κ.κ ks[j']:=by
   have h' : (es.toList.map (·.key))[j']? =some (leftOf es seen)[j].key:=by rw [ake,NI];rfl
   rw [g5,ake,TK] at h'
   simpa using h'.symm
  have Zp:ks[j'] ∉done:=fun hd=>by
   have:= (g10 j' _ _ NI TK).2 hd;rw [Wq.2] at this;cases this
  refine⟨⟨by rw [ze.2.1],by rw [ze.2.2],by rw [htp],fun _=>hdr⟩,?_⟩;show K (.tuple #[.bool true,(leftOf es seen)[j].key,(leftOf es seen)[j].val]) (w1.heap.setIfInBounds it _);rw [Ws,ze.1];have Zq:it≠r:=fun e=>by subst e;rw [g1] at g3;cases g3
  refine hk ks[j'] _ _ Zp (g7 j' _ _ NI TK) ⟨es,clock,ks,_,clock,cB eF,ajR _,(dW Zq).trans g3,g4,g5,g6,g7,g8,?_,?_,?_,?_⟩ (fun i hi=>dW (ak6 hi)) (by simp) ?_
  ·rw [List.nodup_append]
   exact⟨g9,by simp,fun a ha b hb=>by simp only [akt] at hb;subst hb;intro e;exact Zp (e ▸ ha)⟩
  ·intro i e k he mw
   rw [contains_push,ak5,g10 i e k he mw,akg,akt,beq_iff_eq]
   constructor
   ·rintro(h' |h')
    ·exact .inl h'
    ·right
     have:=born_inj g4.2.1 (akK he) Wq.1 h';subst this;have hii:i=j' :=by
      have hn:es.toList.Nodup:=by
       have:=g4.2.1;exact List.Pairwise.of_map (f:=fun x:MapEntry=>x.born) (fun a b hab e=>hab (by rw [e])) this
      exact vZ hn he NI
     subst hii;rw [TK,ajY] at mw;exact mw.symm
   ·rintro(h' |h')
    ·exact .inl h'
    ·right
     rw [h'] at mw;have hii:=vZ g6 mw TK;subst hii;rw [he,ajY] at NI;rw [NI]
  ·intro k mw
   rcases akg.1 mw with h' |h'
   ·exact g11 k h'
   ·simp only [akt] at h';rw [h'];exact ajZ _
  ·intro k mw
   rw [List.getLast?_concat,ajY] at mw;subst mw;exact⟨rfl,j',_,NI,TK,by simp⟩
  ·simp only [Ch,cB eF,dW Zq,g3,g1]
   exact left_shrinks es seen _ lf
theorem Iter.entry [Go.Vc.Mode] {P:Program} {it:Nat} {done:List α} {k:α} {v:Value} (h:Iter κ H it r m (done++ [k])) (hv:m k=some v) {K:Value→ak→Prop} (hk:K (.tuple #[κ.κ k,v]) H):DZ H P (Instr.entry (.pointer (some ⟨it,0,none⟩))) K:=by
 obtain⟨es,clock,ks,seen,c0,g1,g2,g3,g4,g5,g6,g7,g8,g9,g10,g11,g12⟩:=h;obtain⟨rfl,j,e,h1,h2,h3⟩:=g12 k (by simp);intro w hw;subst hw;have hf:es.find? (·.born==e.born)=some e:=by rw [←Array.find?_toList];exact find_born e es.toList g4.2.1 (akK h1)
 simp only [Instr.entry,getObj,Sem.run_bind,Sem.run,g1,g3,Result.andThen,h3,bne_self_eq_false,akS,if_false,hf];have Ws:e.key=κ.κ k:=by
  have h' : (es.toList.map (·.key))[j]? =some e.key:=by rw [ake,h1];rfl
  rw [g5,ake,h2] at h'
  simpa using h'.symm
 have HO:e.val=v:=by
  have:=g7 j e k h1 h2;rw [hv,ajY] at this;exact this.symm
 refine⟨⟨rfl,rfl,rfl,fun _=>by first|exact ajR _|exact akh _⟩,?_⟩;rw [Ws,HO];exact hk
end
end
section
theorem Bo {l m:List Value} (h:l.toArray=m.toArray):l=m:=by simpa using congrArg Array.toList h
def qo (H:ak) (b o:Nat) (cs:List Value):Prop:= ∃ (pre post:List Value) (t:TypeId),pre.length=o∧H[b]? =some (.cells (pre++cs++post).toArray t (0,0))
structure oG (b o n:Nat) (F F' :Nat→Prop) (H H' :ak):Prop where
 size:H.size≤H'.size
 ne: ∀i,i<H.size→i≠b→¬F i→H'[i]? =H[i]?
 ll: ∀ (cs:List Value) (t:TypeId) (fr:Nat × Nat),H[b]? =some (.cells cs.toArray t fr)→∃HM :List Value,H'[b]? =some (.cells HM.toArray t fr)∧HM.length=cs.length∧∀j,(j<o∨o+n≤j)→HM[j]? =cs[j]?
 new: ∀k,F' k→F k∨H.size≤k
abbrev none_:Nat→Prop:=fun _=>False
abbrev rP (v:Value):Nat→Prop:=fun k=>aV v=some k
theorem oG.refl {b o n:Nat} {F:Nat→Prop} {H:ak}:oG b o n F F H H:= ⟨ajR _,fun _ _ _ _=>rfl,fun cs t fr h=> ⟨cs,h,rfl,fun _ _=>rfl⟩,fun k h=> .inl h⟩
theorem oG.trans {b o n:Nat} {F F' F'' :Nat→Prop} {H H' Zr :ak} (h:oG b o n F F' H H') (k:oG b o n F' F'' H' Zr):oG b o n F F'' H Zr :=
 ⟨akk h.size k.size,fun i hi hb hF=> (k.ne i (akO hi h.size) hb (fun e=>by
   rcases h.new i e with h' |h'
   ·exact hF h'
   ·omega)).trans (h.ne i hi hb hF),fun cs t fr hc=>by
  obtain⟨c1,h1,h2,h3⟩:=h.ll cs t fr hc;obtain⟨c2,g1,g2,g3⟩:=k.ll c1 t fr h1;exact⟨c2,g1,g2.trans h2,fun j hj=> (g3 j hj).trans (h3 j hj)⟩,fun i hi=>by
  rcases k.new i hi with h' |h'
  ·exact h.new i h'
  ·right;have:=h.size;omega⟩
theorem oG.VX {b o n:Nat} {F F' G G' :Nat→Prop} {H H' :ak} (h:oG b o n F F' H H') (h1: ∀k,F k→G k) (h2: ∀k,G' k→F' k∨G k∨H.size≤k):oG b o n G G' H H' :=
 ⟨h.size,fun i hi hb hG=>h.ne i hi hb (fun e=>hG (h1 i e)),h.ll,fun k hk=>by
  rcases h2 k hk with h' |h' |h'
  ·rcases h.new k h' with Wt |Wt
   ·exact .inl (h1 k Wt)
   ·exact .inr Wt
  ·exact .inl h'
  ·exact .inr h'⟩
theorem oG.any {b o n:Nat} {G:Nat→Prop} {H H' :ak} (h:oG b o n none_ none_ H H'):oG b o n G G H H' :=h.VX (fun _ h=>h.elim) (fun _ h=> .inr (.inl h))
theorem oG.wide {b o n o' n' :Nat} {F F' :Nat→Prop} {H H' :ak} (h:oG b o n F F' H H') (h1:o' ≤o) (h2:o+n≤o' +n'):oG b o' n' F F' H H' :=
 ⟨h.size,h.ne,fun cs t fr hc=>by
  obtain⟨c1,g1,g2,g3⟩:=h.ll cs t fr hc;exact⟨c1,g1,g2,fun j hj=>g3 j (by omega)⟩,h.new⟩
theorem oG.ext {A H H' :ak} {b o n:Nat} {F F' :Nat→Prop} (h:oG b o n F F' H H') (hx:Ext A H) (hb:A.size≤b) (hF: ∀k,F k→A.size≤k):Ext A H' ∧∀k,F' k→A.size≤k:=
 ⟨⟨akk hx.size h.size,fun i hi=> (h.ne i (akO hi hx.size) (by omega) (fun e=>by have:=hF i e;omega)).trans (hx.get i hi)⟩,fun k hk=>by
  rcases h.new k hk with h' |h'
  ·exact hF k h'
  ·have:=hx.size;omega⟩
theorem oG.A5 {b o n c:Nat} {F F' :Nat→Prop} {H H' :ak} {ob:Obj} (h:oG b o n F F' H H') (hc:H[c]? =some ob) (h1:c≠b) (h2: ¬F c):H'[c]? =some ob:= (h.ne c (bw hc) h1 h2).trans hc
theorem oG.sl {b o n sz:Nat} {F F' :Nat→Prop} {H H' :ak} {v:Value} {l:List Value} (h:oG b o n F F' H H') (hs:Sl H v sz l) (h1:aV v≠some b) (h2: ∀k,aV v=some k→¬F k):Sl H' v sz l:=by
 rcases hs with hs| ⟨a,m,cap,rfl,h3,h4,h5⟩
 ·exact .inl hs
 ·refine .inr ⟨a,m,cap,rfl,h3,h4,fun i w hw=>?_⟩
  have hc:=h5 i w hw;have G7: (a.add i).block=a.block:=by unfold Addr.add;split<;>rfl
  unfold cellAt at hc ⊢;rw [G7] at hc ⊢;have hl:a.block<H.size:=by
   rcases akz a.block H.size with h' |h'
   ·exact h'
   ·rw [aln h'] at hc;cases hc
  rw [h.ne a.block hl (fun e=>h1 (by rw [←e];rfl)) (h2 a.block rfl)];exact hc
theorem oG.own {b o n sz:Nat} {F F' :Nat→Prop} {H H' :ak} {v:Value} {l:List Value} (h:oG b o n F F' H H') (hs:pB H v sz l) (h1:aV v≠some b) (h2: ∀k,aV v=some k→¬F k):pB H' v sz l:=by
 rcases hs with hs| ⟨c,m,cap,sp,rfl,⟨t,fr,hc,hf⟩,h3,h4⟩
 ·exact .inl hs
 ·exact .inr ⟨c,m,cap,sp,rfl,⟨⟨t,fr,h.A5 hc (fun e=>h1 (by rw [←e];rfl)) (h2 c rfl),hf⟩,h3,h4⟩⟩
theorem qo.lt {H:ak} {b o:Nat} {cs:List Value} (h:qo H b o cs):b<H.size:=by obtain⟨_,_,_,_,h⟩:=h;exact bw h
theorem qo.ext {H H' :ak} {b o:Nat} {cs:List Value} (h:qo H b o cs) (hx:Ext H H'):qo H' b o cs:=by
 obtain⟨p,q,t,h1,h2⟩:=h;exact⟨p,q,t,h1,hx.ll h2⟩
theorem qo.same {H H' :ak} {b o:Nat} {cs:List Value} (h:qo H b o cs) (hx:H'[b]? =H[b]?):qo H' b o cs:=by
 obtain⟨p,q,t,h1,h2⟩:=h;exact⟨p,q,t,h1,hx.trans h2⟩
theorem qo.cell {H:ak} {b o k:Nat} {cs:List Value} {v:Value} (h:qo H b o cs) (hk:cs[k]? =some v):cellAt H ⟨b,o+k,none⟩=some v:=by
 obtain⟨p,q,t,h1,h2⟩:=h;subst h1;have hl:= (aku.1 hk).1;rw [e_ h2,akr,ajT,akB (by omega),akx (by omega),show p.length+k - p.length=k by omega,hk]
theorem qo.cell0 {H:ak} {b o:Nat} {cs:List Value} {v:Value} (h:qo H b o cs) (hk:cs[0]? =some v):cellAt H ⟨b,o,none⟩=some v:=h.cell (k:=0) hk
theorem qo.part {H:ak} {b o:Nat} {x y z:List Value} (h:qo H b o (x++y++z)):qo H b (o+x.length) y:=by
 obtain⟨p,q,t,h1,h2⟩:=h;exact⟨p++x,z++q,t,by simp [h1],by rw [h2];simp [ajT]⟩
theorem qo.whole {H H' :ak} {b o:Nat} {x y y' z:List Value} {F F' :Nat→Prop} (h:qo H b o (x++y++z)) (hc:oG b (o+x.length) y.length F F' H H') (hy:qo H' b (o+x.length) y') (hl:y'.length=y.length):qo H' b o (x++y' ++z):=by
 obtain⟨p,q,t,h1,h2⟩:=h;obtain⟨c,g1,g2,g3⟩:=hc.ll _ _ _ h2;obtain⟨p',q',t',k1,k2⟩:=hy;rw [g1] at k2;simp only [ajY,Obj.cells.injEq] at k2;obtain⟨k2,k3,-⟩:=k2;have k2:=Bo k2;subst k3;refine⟨p,q,t,h1,?_⟩;rw [g1]
 congr 2
 subst h1;rw [k2] at g2 g3 ⊢;have e1:p' =p++x:=by
  apply akV;intro j
  by_cases hj:j<p'.length
  ·have:=g3 j (.inl (by omega))
   rw [ajT p',akx hj] at this;rw [this,show p++ (x++y++z)++q= (p++x)++ (y++z++q) by simp [ajT],akx (by simp;omega)]
  ·rw [akc (by omega),akc (by simp;omega)]
 have e2:q' =z++q:=by
  apply akV;intro j;have:=g3 (p.length+x.length+y.length+j) (.inr (by omega));rw [akB (by simp;omega),show p.length+x.length+y.length+j - (p' ++y').length=j by simp;omega] at this;rw [this,show p++ (x++y++z)++q= (p++x++y)++ (z++q) by simp [ajT],akB (by simp;omega)]
  congr 1
  simp;omega
 rw [e1,e2]
 simp [ajT]
theorem qo.all {H:ak} {b:Nat} {cs:List Value} {t:TypeId} (h:H[b]? =some (.cells cs.toArray t (0,0))):qo H b 0 cs:= ⟨[],[],t,rfl,by simpa using h⟩
theorem qo.Wu {H H' :ak} {b n:Nat} {cs HM :List Value} {t:TypeId} {F F' :Nat→Prop} (h:H[b]? =some (.cells cs.toArray t (0,0))) (hc:oG b 0 n F F' H H') (hy:qo H' b 0 HM) (hl:HM.length=cs.length):H'[b]? =some (.cells HM.toArray t (0,0)):=by
 obtain⟨c,g1,g2,g3⟩:=hc.ll _ _ _ h;obtain⟨p',q',t',k1,k2⟩:=hy;have:p' = []:=by simpa using k1
 subst this;rw [g1] at k2;simp only [ajY,Obj.cells.injEq,aj4] at k2;obtain⟨k2,k3,-⟩:=k2;have k2:=Bo k2;subst k3;have hq:q' = []:=by
  have:=congrArg List.length k2;rw [ajQ] at this;apply anv;omega
 subst hq;rw [g1,k2,akb]
section
variable {H:ak} {KE:Value→ak→Prop} {b o k:Nat} {cs:List Value} {v:Value}
theorem ME {p q:List Value} {v:Value} (hk:k<cs.length): (p++cs++q).set (p.length+k) v=p++cs.set k v++q:=by
 rw [ajT,amK _ _ (by omega),show p.length+k - p.length=k by omega,amI _ _ hk,ajT]
theorem ko {n:Nat} {F:Nat→Prop} (h:qo H b o cs) (hn:n=cs.length) (hk:k<cs.length) (hv:aL v=true) (hK: ∀H',H'.size=H.size→qo H' b o (cs.set k v)→oG b o n F F H H' →KE undef H'):aE H (.pointer (some ⟨b,o+k,none⟩)) v KE:=by
 obtain⟨p,q,t,h1,h2⟩:=h;subst h1;rw [Cb h2 (by simp;omega) hv];have hb:=bw h2;have e: ((p++cs++q).toArray.setIfInBounds (p.length+k) v)= (p++cs.set k v++q).toArray:=by rw [ama,ME hk]
 rw [e];refine hK _ (by simp) ⟨p,q,t,rfl,cB hb⟩ ⟨by simp,fun i hi d_ _=>dW (ak6 d_),fun c t' fr hc=>?_,fun k h=> .inl h⟩;rw [h2] at hc;simp only [ajY,Obj.cells.injEq] at hc;obtain⟨hc,rfl,rfl⟩:=hc;have hc:=Bo hc;subst hc;refine⟨_,cB hb,by simp,fun j hj=>?_⟩;rw [←ME hk,amn (by omega)]
theorem mR {n:Nat} {F:Nat→Prop} (h:qo H b o cs) (hn:n=cs.length) (hk:0<cs.length) (hv:aL v=true) (hK: ∀H',H'.size=H.size→qo H' b o (cs.set 0 v)→oG b o n F F H H' →KE undef H'):aE H (.pointer (some ⟨b,o,none⟩)) v KE:=
 ko (k:=0) h hn hk hv hK
end
theorem pB.acf {H:ak} {v:Value} {l:List Value} {K:Value→Prop} (h:pB H v 1 l) (hk: ∀v',pB H v' 1 []→aV v' =aV v→K v'):lj 1 v none (some (.int .i64 0)) K:=by
 rcases h with ⟨rfl,rfl⟩ | ⟨b,n,cap,sp,rfl,⟨t,fr,hb,hf⟩,hl,hc⟩
 ·rw [pA,f_]
  exact⟨by decide,by decide,hk _ (.inl ⟨by simp,rfl⟩) rfl⟩
 ·rw [pA,f_]
  refine⟨by decide,by omega,?_⟩;have e: (if cap=0 then (some ⟨b,0,none⟩:Option Addr) else Option.map (fun x:Addr=>x.add (0*1)) (some (⟨b,0,none⟩:Addr)))=some ⟨b,0,none⟩:=by
   split
   ·rfl
   ·simp [Addr.add]
  rw [e];exact hk _ (.inr ⟨b,0,cap,l++sp,rfl,⟨⟨t,fr,by rw [aj4];exact hb,hf⟩,by simp,by rw [aj4];exact hc⟩⟩) rfl
theorem aT {a b:List UInt8} {K:Value→Prop} (h:a.length+b.length≤9223372036854775807) (hk:K (str (a++b))):aK (str a) (str b) K:=by
 rw [Ky,cn,cn,xO,xO];exact⟨h,hk⟩
section
variable {K:Value→Prop} {b o n:Nat} {k k' :IntKind} {a c:Int} {l:List UInt8} {p:Bool}
theorem aj (h:K (.pointer (some ⟨b,o+n,none⟩))):aa n (.pointer (some ⟨b,o,none⟩)) K:=by rw [ag,au];exact h
theorem cC (h:K (.int k (k.wrap a))):cA k (.int k' a) K:=h
theorem aJ (h:K (.int .i64 (l.length:Int))):bc (str l) K:=by rw [xQ,cn];exact h
theorem aI {ad:Addr} (h:K (.pointer (some ad))):aB (.pointer (some ad)) K:=h
theorem kp (h:K (.bool !p)):jV (.bool p) K:=h
theorem pC {m:List UInt8} (h:K (.bool (decide (l≠m)))):ld 1 (str l) (str m) K:=by rw [Vi,cn,cn];exact h
theorem pD {m:List UInt8} (h:K (.bool (decide (l=m)))):eA 1 (str l) (str m) K:=by rw [Zi,cn,cn];exact h
theorem ai {vs:List Value} {v:Value} {i:Nat} (hv:vs[i]? =some v) (h:K v):av i (.tuple vs.toArray) K:=by rw [mI,hv];exact h
theorem bz {x y:Option Value} {lo hi:Nat} (hx:x=some (.int .i64 (lo:Int))∨(x=none∧lo=0)) (hy:y=some (.int .i64 (hi:Int))∨(y=none∧hi=l.length)) (h1:lo≤hi) (h2:hi≤l.length) (h:K (str ((l.drop lo).take (hi - lo)))):bt (str l) x y K:=by
 rw [sZ,cn];rcases hx with rfl| ⟨rfl,rfl⟩<;>rcases hy with rfl| ⟨rfl,rfl⟩
 ·rw [ua];exact⟨by omega,by omega,by omega,by omega,by simpa using h⟩
 ·rw [rp];exact⟨by omega,by omega,by simpa using h⟩
 ·rw [f_];exact⟨by omega,by omega,by simpa using h⟩
 ·rw [Cd];exact h
theorem NU {H:ak} {t:TypeId} {fr:Nat × Nat} {cs:Array Value} (h:H[b]? =some (.cells cs t fr)) (hn:cs.size=n) (hk:K (.agg cs)):aF H n (.pointer (some ⟨b,0,none⟩)) K:=by rw [eh h hn];exact hk
end
end
section
structure ir where
 eL:Nat→Prop
 holds:ak→Prop
 frame: ∀ {H H' :ak},holds H→(∀k,eL k→H'[k]? =H[k]?)→holds H'
 lt: ∀ {H:ak} {k:Nat},holds H→eL k→k<H.size
inductive It where
 |sl (v:Value) (sz:Nat) (l:List Value)
 |box (b:Nat) (cs:List Value) (t:TypeId)
 |ay (T:ir)
def It.eL:It→Nat→Prop
 | .sl v _ _=>fun k=>aV v=some k
 | .box b _ _=>fun k=>b=k
 | .ay T=>T.eL
def It.holds (H:ak):It→Prop
 | .sl v sz l=>0<sz∧pB H v sz l
 | .box b cs t=>H[b]? =some (.cells cs.toArray t (0,0))
 | .ay T=>T.holds H
theorem It.frame {H H' :ak} {i:It} (h:i.holds H) (hf: ∀k,i.eL k→H'[k]? =H[k]?):i.holds H' :=by
 cases i with
 |sl v sz l=>
  refine⟨h.1,?_⟩;rcases h.2 with h| ⟨b,n,cap,sp,rfl,⟨t,fr,hb,hfr⟩,hl,hc⟩
  ·exact .inl h
  ·exact .inr ⟨b,n,cap,sp,rfl,⟨⟨t,fr,(hf b rfl).trans hb,hfr⟩,hl,hc⟩⟩
 |box b cs t=>exact(hf b rfl).trans h
 |ay T=>exact T.frame h hf
theorem It.lt {H:ak} {i:It} {k:Nat} (h:i.holds H) (hf:i.eL k):k<H.size:=by
 cases i with
 |sl v sz l=>exact h.2.lt hf
 |box b cs t=>cases hf;exact bw h
 |ay T=>exact T.lt h hf
structure aw (H0 H:ak) (L:List It):Prop where
 ext:Ext H0 H
 ok: ∀i∈L,i.holds H
 new: ∀i∈L,∀k,i.eL k→H0.size≤k
 G_:L.Pairwise fun i j=> ∀k,i.eL k→¬j.eL k
variable {H0 H H' :ak} {L L' M:List It} {i i' :It}
theorem aw.start:aw H H []:= ⟨Ext.refl H,by simp,by simp,List.Pairwise.nil⟩
theorem aw.more (o:aw H0 H L) (hx:Ext H H'):aw H0 H' L:=
 ⟨o.ext.trans hx,fun i hi=>It.frame (o.ok i hi) fun k hk=>hx.get k (It.lt (o.ok i hi) hk),o.new,o.G_⟩
theorem aw.add (o:aw H0 H L) (hx:Ext H H') (hi:i.holds H') (hf: ∀k,i.eL k→H.size≤k):aw H0 H' (i::L):=by
 have o' :=o.more hx;refine⟨o'.ext,?_,?_,aki.2 ⟨fun j hj k hk mw =>?_,o.G_⟩⟩
 ·intro j hj;rcases aj5.1 hj with rfl|hj
  ·exact hi
  ·exact o'.ok j hj
 ·intro j hj;rcases aj5.1 hj with rfl|hj
  ·intro k hk;have:=hf k hk;have:=o.ext.size;omega
  ·exact o.new j hj
 ·have:=hf k hk;have:=It.lt (o.ok j hj) mw;omega
inductive bd (i i' :It):List It→List It→Prop
 |here {L:List It}:bd i i' (i::L) (i' ::L)
 |there {j:It} {L L' :List It}:bd i i' L L' →bd i i' (j::L) (j::L')
theorem bd.mem: ∀ {L L' :List It},bd i i' L L' →i∈L
 |_,_,.here=>ajP
 |_,_,.there h=>ajO _ h.mem
theorem bd.Wv : ∀ {L L' :List It},bd i i' L L' →∀j∈L',j=i' ∨j∈L
 |_,_,.here,j,hj=>by
  rcases aj5.1 hj with h|h
  ·exact .inl h
  ·exact .inr (ajO _ h)
 |_,_,.there h,j,hj=>by
  rcases aj5.1 hj with h' |h'
  ·subst h';exact .inr ajP
  ·rcases h.Wv j h' with Wt |Wt
   ·exact .inl Wt
   ·exact .inr (ajO _ Wt)
theorem bd.G_ {n:Nat} (hf: ∀k,i'.eL k→i.eL k∨n≤k): ∀ {L L' :List It},bd i i' L L' →(∀j∈L,∀k,j.eL k→k<n)→L.Pairwise (fun i j=> ∀k,i.eL k→¬j.eL k)→L'.Pairwise (fun i j=> ∀k,i.eL k→¬j.eL k)
 |_,_,.here,hn,hd=>by
  rw [aki] at hd ⊢;refine⟨fun j hj k hk mw =>?_,hd.2⟩;rcases hf k hk with h|h
  ·exact hd.1 j hj k h mw
  ·have:=hn j (ajO _ hj) k mw;omega
 |_,_,.there (j:=j) h,hn,hd=>by
  rw [aki] at hd ⊢;refine⟨fun x hx k hk mw =>?_,h.G_ hf (fun x hx=>hn x (ajO _ hx)) hd.2⟩;rcases h.Wv x hx with rfl|hx
  ·rcases hf k mw with h' |h'
   ·exact hd.1 i h.mem k hk h'
   ·have:=hn j ajP k hk;omega
  ·exact hd.1 x hx k hk mw
theorem bd.rest {P:It→Prop} (hp:P i'): ∀ {L L' :List It},bd i i' L L' →(∀j∈L,(∀k,i.eL k→¬j.eL k)→P j)→L.Pairwise (fun i j=> ∀k,i.eL k→¬j.eL k)→∀j∈L',P j
 |_,_,.here,hn,hd,j,hj=>by
  rw [aki] at hd;rcases aj5.1 hj with rfl|hj
  ·exact hp
  ·exact hn j (ajO _ hj) (hd.1 j hj)
 |_,_,.there (j:=j') h,hn,hd,j,hj=>by
  rw [aki] at hd;rcases aj5.1 hj with rfl|hj
  ·exact hn j ajP (fun k hk mw =>hd.1 i h.mem k mw hk)
  ·exact h.rest hp (fun x hx=>hn x (ajO _ hx)) hd.2 j hj
theorem aw.nq (o:aw H0 H L) (r:bd i i' L L') (hs:H.size≤H'.size) (d_: ∀k,k<H.size→¬i.eL k→H'[k]? =H[k]?) (hi:i'.holds H') (hf: ∀k,i'.eL k→i.eL k∨H.size≤k):aw H0 H' L' :=by
 have A7:=r.mem;refine⟨⟨akk o.ext.size hs,fun k hk=>?_⟩,?_,?_,r.G_ (n:=H.size) hf (fun j hj k hk=>It.lt (o.ok j hj) hk) o.G_⟩
 ·rw [d_ k (akO hk o.ext.size) (fun h=>by have:=o.new i A7 k h;omega)]
  exact o.ext.get k hk
 ·refine r.rest hi (fun j hj hd=>It.frame (o.ok j hj) fun k hk=>d_ k (It.lt (o.ok j hj) hk) fun h=>hd k h hk) o.G_
 ·intro j hj k hk
  rcases r.Wv j hj with rfl|hj
  ·rcases hf k hk with h|h
   ·exact o.new i A7 k h
   ·have:=o.ext.size;omega
  ·exact o.new j hj k hk
inductive bu (i:It):List It→List It→Prop
 |here {L:List It}:bu i (i::L) L
 |there {j:It} {L M:List It}:bu i L M→bu i (j::L) (j::M)
theorem bu.perm: ∀ {L M:List It},bu i L M→(i::M).Perm L
 |_,_,.here=>amo _
 |_,_,.there h=> (List.Perm.swap ..).trans (h.perm.cons _)
theorem aw.perm (o:aw H0 H L) (hs:L'.Perm L):aw H0 H L' :=
 ⟨o.ext,fun i hi=>o.ok i (hs.mem_iff.1 hi),fun i hi=>o.new i (hs.mem_iff.1 hi),by
  refine(hs.symm.pairwise_iff ?_).1 o.G_;intro a b hab k hk mw;exact hab k mw hk⟩
theorem aw.front (o:aw H0 H L) (s:bu i L M):aw H0 H (i::M):=o.perm s.perm
inductive dV:List It→List It→Prop
 |nil {L:List It}:dV [] L
 |cons {i:It} {L L' M:List It}:bu i L M→dV L' M→dV (i::L') L
theorem dV.perm: ∀ {L' L:List It},dV L' L→∃M,(L' ++M).Perm L
 |_,L,.nil=> ⟨L,amo _⟩
 |_,_,.cons s h=>by
  obtain⟨M,hM⟩:=h.perm;exact⟨M,(hM.cons _).trans s.perm⟩
theorem aw.arr (o:aw H0 H L) (s:dV L' L):aw H0 H L' :=by
 obtain⟨M,hM⟩:=s.perm;have o' :=o.perm hM;exact⟨o'.ext,fun i hi=>o'.ok i (ald _ hi),fun i hi=>o'.new i (ald _ hi),(amL.1 o'.G_).1⟩
inductive aY:List It→List It→Prop
 |refl {L:List It}:aY L L
 |cons {i:It} {L' M L:List It}:bu i L M→aY L' M→aY (i::L') L
theorem aY.perm: ∀ {L' L:List It},aY L' L→L'.Perm L
 |_,_,.refl=>amo _
 |_,_,.cons s t=> (t.perm.cons _).trans s.perm
theorem aw.fW (o:aw H0 H L) (s:aY L' L):aw H0 H L' :=o.perm s.perm
theorem aw.sl {v:Value} {sz:Nat} {l:List Value} (o:aw H0 H L) (h:It.sl v sz l∈L):Sl H v sz l:= (o.ok _ h).2.sl (o.ok _ h).1
theorem aw.Ww {v:Value} {sz:Nat} {l:List Value} (o:aw H0 H L) (h:It.sl v sz l∈L) {k:Nat} (hk:aV v=some k):H0.size≤k:=o.new _ h k hk
theorem aw.own {v:Value} {sz:Nat} {l:List Value} (o:aw H0 H L) (h:It.sl v sz l∈L):pB H v sz l:= (o.ok _ h).2
theorem aw.ll {b:Nat} {cs:List Value} {t:TypeId} (o:aw H0 H L) (h:It.box b cs t∈L):H[b]? =some (.cells cs.toArray t (0,0)):=o.ok _ h
theorem aw.ay {T:ir} (o:aw H0 H L) (h:It.ay T∈L):T.holds H:=o.ok _ h
theorem aw.pick (o:aw H0 H L) (hs:L'.Sublist L):aw H0 H L' :=
 ⟨o.ext,fun i hi=>o.ok i (hs.subset hi),fun i hi=>o.new i (hs.subset hi),o.G_.sublist hs⟩
theorem aw.call {L2:List It} (o:aw H0 H L) (c:aw H H' L2):aw H0 H' (L2++L):=by
 have o' :=o.more c.ext;refine⟨o'.ext,?_,?_,amL.2 ⟨c.G_,o.G_,fun a ha b hb k hk mw =>?_⟩⟩
 ·intro i hi;rcases akg.1 hi with h|h
  ·exact c.ok i h
  ·exact o'.ok i h
 ·intro i hi;rcases akg.1 hi with h|h
  ·intro k hk;have:=c.new i h k hk;have:=o.ext.size;omega
  ·exact o.new i h
 ·have:=c.new a ha k hk;have:=It.lt (o.ok b hb) mw;omega
theorem Sl.frame {v:Value} {sz:Nat} {l:List Value} (h:Sl H v sz l) (hf: ∀k,aV v=some k→H'[k]? =H[k]?):Sl H' v sz l:=by
 rcases h with h| ⟨a,n,cap,rfl,h1,h2,h3⟩
 ·exact .inl h
 ·refine .inr ⟨a,n,cap,rfl,h1,h2,fun i w hw=>?_⟩
  have hc:=h3 i w hw;have G7: (a.add i).block=a.block:=by unfold Addr.add;split<;>rfl
  unfold cellAt at hc ⊢;rw [G7] at hc ⊢;rw [hf a.block rfl];exact hc
theorem Sl.lt {v:Value} {sz:Nat} {l:List Value} {k:Nat} (h:Sl H v sz l) (hl:l≠ []) (hk:aV v=some k):k<H.size:=by
 rcases h with ⟨rfl,h⟩ | ⟨a,n,cap,rfl,h1,h2,h3⟩
 ·exact absurd h hl
 ·cases l with
  |nil=>exact absurd rfl hl
  |cons x l=>
   have hc:=h3 0 x rfl;have G7: (a.add 0).block=a.block:=by unfold Addr.add;split<;>rfl
   simp only [aV,ajY] at hk;subst hk;unfold cellAt at hc;rw [G7] at hc;rcases akz a.block H.size with h' |h'
   ·exact h'
   ·rw [aln h'] at hc;cases hc
section
variable {K:Value→ak→Prop} {KV:Value→Prop} {e:TypeId} {sz:Nat}
theorem aw.QG (o:aw H0 H L) (sz:Nat) (hz:0<sz) (hk: ∀y H',aw H0 H' (.sl y sz []::L)→K y H'):aX H e 0 [] [] K:=by
 simp only [aX,bG,kJ];exact hk _ _ (o.add (Ext.refl H).push ⟨hz,.inr ⟨H.size,0,0,[],rfl,⟨⟨e,(0,0),cR,.inl rfl⟩,by simp,by simp⟩⟩⟩ (fun j hj=>by simp only [It.eL,aV,ajY] at hj;omega))
theorem aw.build (o:aw H0 H L) {n:Nat} {zero vs:List Value} {parts:List (Nat × Nat × Value)} (sz:Nat) (hz:0<sz) (HO: ∀K' :Value→Prop,K' (.agg vs.toArray)→aZ zero parts K') (hn:vs.length=n*sz)
  (hk: ∀y H',aw H0 H' (.sl y sz vs::L)→K y H'):aX H e n zero parts K:=by
 refine HO _ ?_;simp only [kJ];exact hk _ _ (o.add (Ext.refl H).push ⟨hz,.inr ⟨H.size,n,n,[],rfl,⟨⟨e,(0,0),by rw [akb];exact cR,.inl rfl⟩,hn,by simpa using hn⟩⟩⟩ (fun j hj=>by simp only [It.eL,aV,ajY] at hj;omega))
theorem aw.ej (o:aw H0 H L) {zero:List Value} {x:Value} (hz:0<sz) (hzero:zero.length=sz) (hx:x.cells.size=sz) (hk: ∀y H',aw H0 H' (.sl y sz x.cells.toList::L)→K y H'):aX H e 1 zero [(0,sz,x)] K:=by
 refine o.build sz hz (vs:=x.cells.toList) (fun K' hK=>?_) (by simp [hx]) hk;have hp:pH zero 0 x.cells.toList=x.cells.toList:=by
  have:=xR x.cells.toList [] zero (by simp [hzero,hx])
  simpa using this
 rw [fV,bG,hp];exact⟨hx,by omega,hK⟩
theorem HP (z:List Value): ∀n,jG z n= (List.replicate n z).flatten
 |0=>rfl
 |n+1=>by rw [jG,HP z n,List.replicate_succ,akP]
theorem HQ (z:Value): ∀n,jG [z] n=List.replicate n z
 |0=>rfl
 |n+1=>by rw [jG,HQ z n];rfl
theorem aw.make (o:aw H0 H L) {bytes:Nat} {z:List Value} {n:Int} (hz:0<z.length) (h0:0≤n) (hb: (bytes:Int)*n≤281474976710656) (hn:n≤9223372036854775807)
  (hk: ∀y H',aw H0 H' (.sl y z.length (jG z n.toNat)::L)→K y H'):gP H e bytes z (.int .i64 n) (.int .i64 n) K:=by
 simp only [gP];refine⟨h0,al9 _,hb,hn,?_⟩;exact hk _ _ (o.add (Ext.refl H).push ⟨hz,.inr ⟨H.size,n.toNat,n.toNat,[],rfl,⟨⟨e,(0,0),by rw [akb];exact cR,.inl rfl⟩,by rw [kC],by simp [kC]⟩⟩⟩ (fun j hj=>by simp only [It.eL,aV,ajY] at hj;omega))
theorem aw.xV (o:aw H0 H L) {bytes:Nat} {z:Value} {n:Int} (h0:0≤n) (hb: (bytes:Int)*n≤281474976710656) (hn:n≤9223372036854775807)
  (hk: ∀y H',aw H0 H' (.sl y 1 (List.replicate n.toNat z)::L)→K y H'):gP H e bytes [z] (.int .i64 n) (.int .i64 n) K:=by
 refine o.make (by simp) h0 hb hn fun y H' o' =>?_;rw [HQ] at o';exact hk y H' o'
theorem aw.append (o:aw H0 H L) {v x:Value} {bytes m n:Nat} {zero l new:List Value} (lf:bu (.sl v sz l) L M) (hzero:zero.length=sz) (hx:Sl H x sz new)
  (hl:l.length=n*sz) (hm:new.length=m*sz) (qn:new.all aL=true) (pK:2* (n+m)*bytes≤281474976710656)
  (hk: ∀v' H',aw H0 H' (.sl v' sz (l++new)::M)→K v' H'):bg H e sz bytes zero v x K:=by
 have o1:=o.front lf;obtain⟨hz,ho⟩:=o1.ok _ ajP;refine pB.append ho hz hzero (hx.mu hm hz) hx.cellsOf hl hm qn pK fun v' H' o' hi hs hb=>?_;refine hk v' H' (o1.nq bd.here hs (fun k hk hf=>hi k hk hf) ⟨hz,o'⟩ fun k hk=>?_);simp only [It.eL] at hk ⊢;rcases hb with hb|hb
 ·left;rw [←hb];exact hk
 ·right;rw [hb,ajY] at hk;omega
theorem aw.app (o:aw H0 H L) {v x z:Value} {bytes:Nat} {l new:List Value} (lf:bu (.sl v 1 l) L M) (hx:Sl H x 1 new)
  (qn:new.all aL=true) (pK:2* (l.length+new.length)*bytes≤281474976710656)
  (hk: ∀v' H',aw H0 H' (.sl v' 1 (l++new)::M)→K v' H'):bg H e 1 bytes [z] v x K:=
 o.append lf rfl hx (aj0 _).symm (aj0 _).symm qn pK hk
theorem Sl.one {v:Value} {l:List Value} (h:Sl H v sz l):aL v=true:=by
 rcases h with ⟨rfl,_⟩ | ⟨a,m,cap,rfl,_⟩<;>rfl
theorem aU {l:List Value} {o:Nat} {v:Value} {r:List (Nat × Nat × Value)} (hv:aL v=true) (ho:o<l.length) (h:aZ (l.set o v) r KV):aZ l ((o,1,v)::r) KV:=by
 rw [fV,cells_one hv];exact⟨rfl,by omega,by simpa [eN,iq] using h⟩
theorem all_cons {x:Value} {l:List Value} (hx:aL x=true) (hl:l.all aL=true): (x::l).all aL=true:=by simp [hx,hl]
theorem fJ {a b x y:Value} (hx:aL x=true) (hy:aL y=true) (h:KV (.agg #[x,y])):aZ [a,b] [(0,1,x),(1,1,y)] KV:=
 aU hx (by simp) (aU hy (by simp) h)
theorem eY {a b c x y z:Value} (hx:aL x=true) (hy:aL y=true) (hz:aL z=true) (h:KV (.agg #[x,y,z])):aZ [a,b,c] [(0,1,x),(1,1,y),(2,1,z)] KV:=
 aU hx (by simp) (aU hy (by simp) (aU hz (by simp) h))
def At (v:Value) (j:Nat) (p:Value):Prop:= ∃a n cap,v= .slice (some a) n cap∧p= .pointer (some (a.add j))
theorem Sl.at_ {v:Value} {l:List Value} (h:Sl H v sz l) {n:Nat} (hn:l.length=n*sz) (hz:0<sz) {i:Int} (h0:0≤i) (h1:i< (n:Int)) (hk: ∀p,At v (i.toNat*sz) p→KV p):aN sz v (.int .i64 i) KV:=by
 rcases h with ⟨rfl,rfl⟩ | ⟨a,m,cap,rfl,h2,h3,h4⟩
 ·have:=alN (show 0<n by omega) hz
  simp only [aj7] at hn;omega
 ·rw [h2] at hn
  have hmn:=alS hz hn;rw [vg];exact⟨h0,by omega,hk _ ⟨a,m,cap,rfl,rfl⟩⟩
theorem At.field {v p:Value} {j f:Nat} (h:At v j p) (hk: ∀q,At v (j+f) q→KV q):aa f p KV:=by
 obtain⟨a,n,cap,rfl,rfl⟩:=h;rw [ag];exact hk _ ⟨a,n,cap,rfl,by rw [xS]⟩
theorem At.load {v p w:Value} {j:Nat} {l:List Value} (h:At v j p) (hs:Sl H v sz l) (hw:l[j]? =some w) (hk:KV w):al H p KV:=by
 obtain⟨a,n,cap,rfl,rfl⟩:=h;rcases hs with ⟨h,rfl⟩ | ⟨a',m,Wn,h,h2,h3,h4⟩
 ·simp at hw
 ·cases h
  rw [ba (h4 j w hw)];exact hk
theorem At.kf {v p:Value} {j n:Nat} {l ws:List Value} (h:At v j p) (hs:Sl H v sz l) (hw: (l.drop j).take n=ws) (hn:ws.length=n) (hk:KV (.agg ws.toArray)):aF H n p KV:=by
 obtain⟨a,c,cap,rfl,rfl⟩:=h;rcases hs with ⟨h,rfl⟩ | ⟨a',m,Wn,h,h2,h3,h4⟩
 ·simp at hw
  subst hw;simp only [aj7] at hn;subst hn;exact hk
 ·cases h
  subst hw;exact(h4.part j n).kf hn hk
theorem Ci {l sp new:List Value} {b j:Nat} {t:TypeId} {fr:Nat × Nat} {N:Nat} (hf:FZ fr N) (hb:H[b]? =some (.cells (l++sp).toArray t fr)) (qn:new.all aL=true) (hj:j+new.length≤l.length) (hN: (l++sp).length=N):
  jF H ⟨b,j,none⟩ 0 new=some (H.setIfInBounds b (.cells (pH l j new++sp).toArray t fr)):=by
 rw [mQ hf new H j 0 (l++sp) hb qn (by rw [ajQ];omega) hN]
 congr 4
 rw [akp];have KH:l=l.take j++l.drop j:= (akf j l).symm;have hlj: (l.take j).length=j:=by rw [ajW];omega
 have e1:=s8 new (l.take j) (l.drop j++sp) (by rw [ajQ,aj1];omega);have e2:=s8 new (l.take j) (l.drop j) (by rw [aj1];omega);rw [hlj] at e1 e2;rw [←ajT,akf] at e1;rw [akf] at e2;rw [e1,e2,ajT (List.take j l++new),akH (by rw [aj1];omega)]
theorem aw.put (o:aw H0 H L) {v p:Value} {j:Nat} {l new:List Value} (h:At v j p) (lf:It.sl v sz l∈L) (hj:j+new.length≤l.length) (qn:new.all aL=true)
  (vj:bd (.sl v sz l) (.sl v sz (pH l j new)) L L'): ∃a H',p= .pointer (some a)∧jF H a 0 new=some H' ∧aw H0 H' L' ∧H'.size=H.size:=by
 obtain⟨hz,ho⟩:=o.ok _ lf;obtain⟨a,n,cap,rfl,rfl⟩:=h;rcases ho with ⟨h,rfl⟩ | ⟨b,n',Wn,sp,h,⟨t,fr,hb,hf⟩,hl,hc⟩
 ·cases h
 ·cases h
  refine⟨_,H.setIfInBounds b (.cells (pH l j new++sp).toArray t fr),rfl,?_,?_,?_⟩
  ·rw [au,aj6];exact Ci hf hb qn hj hc
  ·refine o.nq vj (by simp) (fun k hk d_=>dW (by intro e;subst e;exact d_ rfl)) ⟨hz,.inr ⟨b,n,cap,sp,rfl,⟨⟨t,fr,cB (bw hb),hf⟩,?_,?_⟩⟩⟩ (fun k hk=> .inl hk)
   ·rw [HJ];exact hl
   ·rw [ajQ,HJ,←ajQ];exact hc
  ·simp
theorem aw.store (o:aw H0 H L) {v p x:Value} {j:Nat} {l:List Value} (h:At v j p) (lf:It.sl v sz l∈L) (hj:j<l.length) (hx:aL x=true)
  (vj:bd (.sl v sz l) (.sl v sz (l.set j x)) L L') (hk: ∀H',aw H0 H' L' →H'.size=H.size→K undef H'):aE H p x K:=by
 obtain⟨a,H',rfl,hs,o',u0⟩:=o.put (new:= [x]) h lf (by simp;omega) (by simp [hx]) (by rw [eN,iq];exact vj);simp only [aE,hs];exact hk H' o' u0
theorem aw.Wx (o:aw H0 H L) {v p:Value} {vs:List Value} {j n:Nat} {l:List Value} (h:At v j p) (lf:It.sl v sz l∈L) (hn:vs.length=n) (hj:j+n≤l.length) (hx:vs.all aL=true)
  (vj:bd (.sl v sz l) (.sl v sz (pH l j vs)) L L') (hk: ∀H',aw H0 H' L' →H'.size=H.size→K undef H'):aG H n p (.agg vs.toArray) K:=by
 subst hn;obtain⟨a,H',rfl,hs,o',u0⟩:=o.put (new:=vs) h lf hj hx vj;simp only [aG,kJ,hs];exact⟨by simp,hk H' o' u0⟩
theorem aw.box (o:aw H0 H L) {v:Value} (hk: ∀b H',aw H0 H' (.box b v.cells.toList e::L)→b=H.size→K (.pointer (some ⟨b,0,none⟩)) H'):cd H e v K:=
 hk _ _ (o.add (Ext.refl H).push (show _=_ from cR) (fun j hj=>by simp only [It.eL] at hj;omega)) rfl
theorem aw.az (o:aw H0 H L) {b f:Nat} {cs:List Value} {t:TypeId} {w:Value} (lf:It.box b cs t∈L) (hw:cs[f]? = .some w) (hk:KV w):al H (.pointer (some ⟨b,f,none⟩)) KV:=
 lQ (o.ll lf) hw hk
theorem aw.bC (o:aw H0 H L) {b n:Nat} {cs:List Value} {t:TypeId} (lf:It.box b cs t∈L) (hn:cs.length=n) (hk:KV (.agg cs.toArray)):aF H n (.pointer (some ⟨b,0,none⟩)) KV:=
 NU (o.ll lf) (by simpa using hn) hk
theorem aw.bK (o:aw H0 H L) {b f:Nat} {cs:List Value} {t:TypeId} {x:Value} (lf:It.box b cs t∈L) (hf:f<cs.length) (hx:aL x=true)
  (vj:bd (.box b cs t) (.box b (cs.set f x) t) L L') (hk: ∀H',aw H0 H' L' →H'.size=H.size→K undef H'):aE H (.pointer (some ⟨b,f,none⟩)) x K:=by
 refine lB (o.ll lf) (by simpa using hf) hx fun H' hs u=>hk H' (o.nq vj u.size (fun k hk d_=>u.ne k hk (fun e=>d_ e.symm)) ?_ (fun k hk=> .inl hk)) hs;show _=_;rw [u.at_,ama]
theorem aw.bW (o:aw H0 H L) {b n:Nat} {cs vs:List Value} {t:TypeId} (lf:It.box b cs t∈L) (hn:cs.length=n) (hv:vs.length=n) (hx:vs.all aL=true)
  (vj:bd (.box b cs t) (.box b vs t) L L') (hk: ∀H',aw H0 H' L' →H'.size=H.size→K undef H'):aG H n (.pointer (some ⟨b,0,none⟩)) (.agg vs.toArray) K:=by
 refine ei (o.ll lf) (by simpa using hn) (by simpa using hv) (by simpa using hx) fun H' hs u=>hk H' (o.nq vj u.size (fun k hk d_=>u.ne k hk (fun e=>d_ e.symm)) ?_ (fun k hk=> .inl hk)) hs;exact u.at_
end
end
end Go.Vc
namespace Go.Proofs
open Go Go.Vc
section
def Tryz.C:List Nat:= [2,3,4,5,6,7,8,9,10,11,12,13,14,15,16,17,18,19,20,21,22,23,24,25,26,27,28,29,30,31,32,33,34,35,36,37,38,39,40,41,42,43,44,45,46,47,48,49,50,51,52,53,54,55,56,57,58,59,60,61,62,63,64,65,66,67,68,69,70,71,72,73,74,75,76,77,78,79,80,81,82,83,84,85,86,87,88,89,90,91,92,93,94,95,96,97,98,99,100,101,102,103,104,105,106,107,108,109,110,111,112,113,114,115,116,117,118,119,120,121,122,123,124,125,126,127,128,129,130,131,132,133,134,135,136,137,138,139,140,141,142,143,144,145,146,147,148,149,150,151,152,153,154,155,156,157,158,159,160,161,162,163,164,165,166,167,168,169,170,171,172,173,174,175,176,177,180,181,182,183,184,185,186,187,188,189,190,191,192,193,194,195,196,197,198,199,200,201,202,203,204,205,206,207,208,209,210,211,212,213,214,215,216,217,218,219,220,221,222,223,224,225,226,227,228,229,230,231,232,233,234,235,236,237,238,239,240,241,242,243,244,245,246,247,248,249,250,251,252,253,254,255,256,257,258,259,260,261,262,263,264,265,266,267,268,269,270,271,272,273,274,275,276,277,278,279,280,281,282,283,284,285,286,287,288,289,290,291,292,293,294,295,296,297,298,299,300,301,303,304,305,306,307,308,309,310,311,312,314,315,316,317,318,319,320,321,322,323,350]
theorem Tryz.mixed:Tryz.prog.follows .mixedOrders=true:=by kernel_rfl
set_option maxRecDepth 100000 in
theorem Tryz.tc:nG Tryz.prog Tryz.C:=by
 have key: ∀f∈Tryz.C,∀ (args:Array Value) (w:World),(callFunc f args).run Tryz.prog w= .ok (.enter f args) w:=by
  unfold Tryz.C
  repeat(refine List.forall_mem_cons.2 ⟨fun _ _=>rfl,?_⟩)
  exact fun _ h=>absurd h am9
 exact fun f hf=>key f (sX.1 hf)
theorem Tryz.vc [Go.Vc.Mode] {f:FuncId} {fn:Func} (an:cF) {args:List Value} {H:ak} {R:Value→ak→Prop} {r:Prop} (hf:Tryz.prog.funcs[f]? =some fn) (hk:My Tryz.prog fn an args.length=true) (e:Ty Tryz.prog Tryz.C fn an args H R=r) (h:r):ab Tryz.prog f args.toArray H R:=TS Tryz.tc Tryz.mixed an hf hk e h
end
end Go.Proofs
namespace Go.Proofs.YtpcgccdmmoggmaaGreatDoor
open Go Go.Vc Go.Proofs
section
set_option maxHeartbeats 4000000
set_option maxRecDepth 100000
variable [Go.Vc.Mode] (H0:ak) (R:Value→ak→Prop)
def gQ.an:cF:= (.seq (.aq (.op 0 [] .nil)) (.seq (.aq (ae 0 8 .nil)) (.seq (.aq (ae 0 10 .nil)) (.seq (.aq (ae 0 11 .nil)) (.cut [] (ef 31 40 []) (.seq (.aq (ae 0 2 .nil)) (.cond (.seq (.aq (ae 0 13 .nil)) (.seq (.iG [0,0,2,6,14,0,32,96,224,480,0,2046,4095,8191,16383,32767] (ae 0 16 .nil)) (.aq (ae 0 12 .nil)))) .leaf)) (.seq (.block (.seq (.aq (ae 0 3 .nil)) (.cond (.seq (.aq (ae 0 2 .nil)) .leaf) (.seq (.aq (ae 0 7 .nil)) (.cond (.seq (.aq (.op 0 [] .nil)) .leaf) .leaf))))) (.seq (.aq (ae 0 9 .nil)) (.seq (.iG [0,1,3,7,0,16,48,112,240,511,1023,2047,4095] (ae 0 13 .nil)) (.seq (.aq (ae 0 11 .nil)) (.seq (.aq (ae 0 4 .nil)) (.seq (.seq (.aq (ae 0 6 (.dQ 5 (ae 6 5 .nil) 11 .nil))) (.cond (.seq (.aq (.op 0 [] .nil)) .leaf) .leaf)) (.seq (.aq (.op 0 [] .nil)) .leaf))))))))))))
def gQ.res (p0:Value):Prop:=
 aB p0 fun x8=>
 aa 1 x8 fun x9=>
 al H0 x9 fun cI=>
 bc cI fun cf=>
 ab Tryz.prog 140 #[p0,cf] H0 fun cJ a_=>
 aB p0 fun cx=>
 aa 19 cx fun cj=>
 al a_ cj fun cS=>
 bc cJ fun c_=>
 aK cS c_ fun dj=>
 aB p0 fun cT=>
 aa 19 cT fun dG=>
 aE a_ dG dj fun _ bf=>
 aB p0 fun cX=>
 aa 18 cX fun dq=>
 al bf dq fun cZ=>
 ab Tryz.prog 124 #[cZ,cJ] bf fun dK aO=>
 av 0 dK fun dt=>
 av 1 dK fun cU=>
 ∃qg:ak→Prop,(∀_:Env,∀br:ak,qg br→
 ld 0 cU (.int .i64 0) fun wL=>
 ar wL
 (R cU br)
 (aB p0 fun F0=>
 aa 18 F0 fun A8=>
 al br A8 fun uV=>
 ab Tryz.prog 125 #[uV] br fun Bp cm=>
 jV Bp fun A9=>
 ar A9
 (R (.int .i64 2) cm)
 (aB p0 fun F1=>
 aa 18 F1 fun KI=>
 al cm KI fun A_=>
 ab Tryz.prog 126 #[A_] cm fun xW cq=>
 aB p0 fun Cj=>
 aa 1 Cj fun KJ=>
 aE cq KJ xW fun _ cG=>
 aB p0 fun PL=>
 aa 3 PL fun Td=>
 al cG Td fun QH=>
 aB p0 fun TX=>
 aa 1 TX fun J0=>
 al cG J0 fun QI=>
 bc QI fun QJ=>
 dJ QH QJ fun Te=>
 aB p0 fun D9=>
 aa 3 D9 fun F2=>
 aE cG F2 Te fun _ eI=>
 aB p0 fun QK=>
 aa 18 QK fun Wy=>
 al eI Wy fun KK=>
 ab Tryz.prog 142 #[KK] eI fun QL bI=>
 cA .u64 QL fun NV=>
 aB p0 fun Wz=>
 aa 5 Wz fun NW=>
 aa 7 NW fun D_=>
 aE bI D_ NV fun _ dD=>
 aB p0 fun Ba=>
 aa 2 Ba fun QM=>
 aE dD QM (.int .i64 2) fun _ bZ=>
 aB p0 fun WA=>
 aa 5 WA fun HR=>
 aF bZ 12 HR fun QO=>
 ab Tryz.prog 139 #[QO] bZ fun KL cK=>
 dC KL (fun zf=>
 aB p0 fun HS=>
 aa 17 HS fun TY=>
 al cK TY fun QP=>
 jV QP fun QQ=>
 zf QQ cK) cK fun acg dw=> ∀_:Env,
 ar acg
 (R (.int .i64 8) dw)
 (R (.int .i64 0) dw))))∧
 ld 1 dt (str []) fun eo=>
 ar eo
 (aB p0 fun fF=>
 aa 5 fF fun fD=>
 aa 8 fD fun gJ=>
 al aO gJ fun im=>
 bc dt fun jJ=>
 cA .u64 jJ fun jK=>
 aK im jK fun jj=>
 aB p0 fun iV=>
 aa 5 iV fun ln=>
 aa 8 ln fun jk=>
 aE aO jk jj fun _ eM=>
 aB p0 fun lp=>
 aa 0 lp fun pM=>
 al eM pM fun nr=>
 aB p0 fun oh=>
 aa 5 oh fun qF=>
 aa 9 qF fun om=>
 al eM om fun nt=>
 ab Tryz.prog 63 #[nr,nt,dt] eM fun tS gN=>
 aB p0 fun lC=>
 aa 5 lC fun qp=>
 aa 9 qp fun pN=>
 aE gN pN tS fun _ gH=>
 aB p0 fun qG=>
 aa 23 qG fun td=>
 al gH td fun pO=>
 aZ [(.int .i64 0),(str []),(.int .i64 0),(.int .i64 0),(.int .i64 0),(.int .i64 0),(.int .i64 0),(.int .i64 0),(.int .u64 0),(.int .u64 0),(.int .u32 0),(.int .u64 0),(.bool false),(str [])] [(0,1,(.int .i64 2)),(13,1,dt)] fun qx=>
 aX gH 46 1 [(.int .i64 0),(str []),(.int .i64 0),(.int .i64 0),(.int .i64 0),(.int .i64 0),(.int .i64 0),(.int .i64 0),(.int .u64 0),(.int .u64 0),(.int .u32 0),(.int .u64 0),(.bool false),(str [])] [(0,14,qx)] fun sE fX=>
 bg fX 46 14 128 [(.int .i64 0),(str []),(.int .i64 0),(.int .i64 0),(.int .i64 0),(.int .i64 0),(.int .i64 0),(.int .i64 0),(.int .u64 0),(.int .u64 0),(.int .u32 0),(.int .u64 0),(.bool false),(str [])] pO sE fun vk iB=>
 aB p0 fun ub=>
 aa 23 ub fun uW=>
 aE iB uW vk fun _ gh=>
 qg gh)
 (qg aO)
theorem gQ.vc (p0:Value) (h:gQ.res H0 R p0):ab Tryz.prog 90 #[p0] H0 R:=Tryz.vc gQ.an Tryz.func90 (by kernel_rfl) (by kernel_rfl) h
def gj.an:cF:= (.seq (.aq (.op 0 [] .nil)) (.seq (.aq (ae 0 6 .nil)) (.seq (.iG [0,1,3,7,0,16,48,112,240,0,512,2032,4095,8191] (ae 0 14 .nil)) (.seq (.aq (ae 0 4 .nil)) (.seq (.block (.seq (.iG [0,1,3,7,0,16,48,112,240,511,1023,2047,2047,6143,16383,2047,2047,67583,231423,524287,1048575,2097151] (ae 0 8 (.op 8 [3] (ae 9 2 (.dQ 10 (ae 11 9 .nil) 20 (.op 21 [] .nil)))))) (.cond (.seq (.aq (.op 0 [] .nil)) .leaf) (.seq (.aq (ae 0 3 .nil)) (.cond (.seq (.aq (.op 0 [] .nil)) .leaf) (.seq (.iG [0,1,0,4,15,31] (ae 0 6 .nil)) (.cond (.seq (.aq (.op 0 [] .nil)) .leaf) (.seq (.aq (ae 0 5 .nil)) (.cond (.seq (.aq (.op 0 [] .nil)) .leaf) (.seq (.aq (ae 0 6 .nil)) (.cond (.seq (.aq (.op 0 [] .nil)) .leaf) .leaf))))))))))) (.seq (.aq (ae 0 4 .nil)) (.seq (.aq (ae 0 2 .nil)) (.seq (.aq (.op 0 [] .nil)) .leaf))))))))
def gj.res (p0:Value):Prop:=
 aB p0 fun x7=>
 aa 5 x7 fun x8=>
 aF H0 12 x8 fun x9=>
 ab Tryz.prog 97 #[x9] H0 fun cI a_=>
 aB p0 fun cJ=>
 aa 1 cJ fun cQ=>
 al a_ cQ fun cx=>
 aB p0 fun cS=>
 aa 1 cS fun cN=>
 al a_ cN fun c_=>
 bc c_ fun dj=>
 bc cI fun dG=>
 np dj dG fun da=>
 bt cx none (some da) fun db=>
 bc db fun dq=>
 np dq (.int .i64 8) fun cZ=>
 aB p0 fun dt=>
 aa 17 dt fun cU=>
 al a_ cU fun dX=>
 aB p0 fun dY=>
 aa 5 dY fun fF=>
 aF a_ 12 fF fun fD=>
 ab Tryz.prog 139 #[fD] a_ fun gJ bf=>
 (al bf cU fun r_=>
 r_=dX)∧
 ld 2 dX gJ fun im=>
 lk im (fun tT=>
 np cZ (.int .i64 4) fun jj=>
 bt db none (some jj) fun iV=>
 np cZ (.int .i64 4) fun kc=>
 bt cI none (some kc) fun jQ=>
 ld 1 iV jQ fun lp=>
 tT lp bf) bf fun pM bn=> ∀_:Env,
 ar pM
 (R (.int .i64 3) bn)
 (ec cZ (.int .i64 8) fun oh=>
 ar oh
 (R (.int .i64 2) bn)
 (bt db none (some (.int .i64 8)) fun nt=>
 bt cI none (some (.int .i64 8)) fun tS=>
 ld 1 nt tS fun lC=>
 ar lC
 (R (.int .i64 7) bn)
 (ab Tryz.prog 106 #[cI,db] bn fun oo br=>
 jV oo fun qG=>
 ar qG
 (R (.int .i64 3) br)
 (bc db fun te=>
 bc cI fun sE=>
 ec te sE fun vk=>
 ar vk
 (R (.int .i64 2) br)
 (bc cI fun uc=>
 ab Tryz.prog 140 #[p0,uc] br fun xX cm=>
 ab Tryz.prog 141 #[p0] cm fun zg cq=>
 R (.int .i64 0) cq)))))
theorem gj.vc (p0:Value) (h:gj.res H0 R p0):ab Tryz.prog 91 #[p0] H0 R:=Tryz.vc gj.an Tryz.func91 (by kernel_rfl) (by kernel_rfl) h
def fN.an:cF:= (.seq (.aq (.op 0 [] .nil)) (.seq (.iG [0,1,3,7,15,0,32,96,224,480,1023,2047] (ae 0 12 .nil)) (.seq (.seq (.iG [0,1,3,7,0,31,0,64,192,448,0,1984,4095] (ae 0 13 .nil)) (.cond (.seq (.aq (.op 0 [] .nil)) .leaf) .leaf)) (.seq (.aq (ae 0 3 .nil)) (.seq (.aq (ae 0 10 .nil)) (.seq (.seq (.aq (ae 0 5 .nil)) (.cond (.seq (.aq (.op 0 [] .nil)) .leaf) .leaf)) (.seq (.aq (ae 0 4 .nil)) (.seq (.aq (ae 0 11 .nil)) (.seq (.aq (.op 0 [] .nil)) .leaf)))))))))
def fN.res (p0:Value):Prop:=
 aB p0 fun x5=>
 aa 1 x5 fun x6=>
 al H0 x6 fun x7=>
 bc x7 fun x8=>
 aB p0 fun cI=>
 aa 22 cI fun cf=>
 al H0 cf fun cJ=>
 bc cJ fun cQ=>
 np x8 cQ fun cx=>
 aB p0 fun cS=>
 aa 1 cS fun cN=>
 al H0 cN fun c_=>
 bt c_ none (some cx) fun cT=>
 aB p0 fun da=>
 aa 22 da fun db=>
 al H0 db fun cX=>
 bt cX none (some cx) fun cZ=>
 ld 1 cT cZ fun c8=>
 ar c8
 (R (.int .i64 3) H0)
 (ab Tryz.prog 140 #[p0,cx] H0 fun cU a_=>
 aB p0 fun dY=>
 aa 22 dY fun fF=>
 al a_ fF fun fD=>
 bt fD (some cx) none fun im=>
 aB p0 fun iu=>
 aa 22 iu fun jJ=>
 aE a_ jJ im fun _ bf=>
 aB p0 fun jj=>
 aa 22 jj fun iV=>
 al bf iV fun ln=>
 ld 1 ln (str []) fun jk=>
 ar jk
 (R (.int .i64 2) bf)
 (aB p0 fun jQ=>
 aa 2 jQ fun lp=>
 aE bf lp (.int .i64 4) fun _ aO=>
 aB p0 fun qh=>
 aa 23 qh fun oh=>
 al aO oh fun qF=>
 aZ [(.int .i64 0),(str []),(.int .i64 0),(.int .i64 0),(.int .i64 0),(.int .i64 0),(.int .i64 0),(.int .i64 0),(.int .u64 0),(.int .u64 0),(.int .u32 0),(.int .u64 0),(.bool false),(str [])] [(0,1,(.int .i64 4))] fun om=>
 aX aO 46 1 [(.int .i64 0),(str []),(.int .i64 0),(.int .i64 0),(.int .i64 0),(.int .i64 0),(.int .i64 0),(.int .i64 0),(.int .u64 0),(.int .u64 0),(.int .u32 0),(.int .u64 0),(.bool false),(str [])] [(0,14,om)] fun nt bn=>
 bg bn 46 14 128 [(.int .i64 0),(str []),(.int .i64 0),(.int .i64 0),(.int .i64 0),(.int .i64 0),(.int .i64 0),(.int .i64 0),(.int .u64 0),(.int .u64 0),(.int .u32 0),(.int .u64 0),(.bool false),(str [])] qF nt fun nY br=>
 aB p0 fun tS=>
 aa 23 tS fun lC=>
 aE br lC nY fun _ cm=>
 R (.int .i64 0) cm))
theorem fN.vc (p0:Value) (h:fN.res H0 R p0):ab Tryz.prog 92 #[p0] H0 R:=Tryz.vc fN.an Tryz.func92 (by kernel_rfl) (by kernel_rfl) h
def gR.an:cF:= (.seq (.aq (.op 0 [] .nil)) (.seq (.aq (ae 0 7 .nil)) (.seq (.aq (ae 0 10 .nil)) (.seq (.aq (ae 0 9 .nil)) (.seq (.aq (ae 0 2 .nil)) .leaf)))))
def gR.res (p0 n1:Value):Prop:=
 aB p0 fun x7=>
 aa 1 x7 fun x8=>
 al H0 x8 fun x9=>
 bt x9 none (some n1) fun cf=>
 aB p0 fun cx=>
 aa 1 cx fun cj=>
 al H0 cj fun cS=>
 bt cS (some n1) none fun c_=>
 aB p0 fun dj=>
 aa 1 dj fun cT=>
 aE H0 cT c_ fun _ a_=>
 aB p0 fun da=>
 aa 3 da fun db=>
 al a_ db fun cX=>
 aK cX n1 fun cZ=>
 aB p0 fun c8=>
 aa 3 c8 fun dK=>
 aE a_ dK cZ fun _ bf=>
 R cf bf
theorem gR.vc (p0 n1:Value) (h:gR.res H0 R p0 n1):ab Tryz.prog 140 #[p0,n1] H0 R:=Tryz.vc gR.an Tryz.func140 (by kernel_rfl) (by kernel_rfl) h
def gm.an:cF:= (.seq (.iG [0,0,2,6,14,0,32,96,224,480,1022,2047,4095,8191] (ae 0 9 (.op 9 [4] (ae 10 4 .nil)))) (.seq (.aq (ae 0 8 .nil)) (.seq (.iG [0,0,2,6,14,0,32,96,224,480,992,2046,4095,8191,16383] (ae 0 10 (.op 10 [4] (ae 11 4 .nil)))) (.aq (ae 0 4 .nil)))))
def gm.res (p0:Value):Prop:=
 aB p0 fun x4=>
 aa 20 x4 fun x5=>
 al H0 x5 fun x6=>
 aB p0 fun x8=>
 aa 5 x8 fun x9=>
 aF H0 12 x9 fun cI=>
 aX H0 44 1 [(str []),(.int .i64 0),(.int .i64 0),(.int .i64 0),(.int .i64 0),(.int .i64 0),(.int .i64 0),(.int .u64 0),(.int .u64 0),(.int .u32 0),(.int .u64 0),(.bool false)] [(0,12,cI)] fun cf a_=>
 (al a_ x5 fun r_=>
 r_=x6)∧
 bg a_ 44 12 104 [(str []),(.int .i64 0),(.int .i64 0),(.int .i64 0),(.int .i64 0),(.int .i64 0),(.int .i64 0),(.int .u64 0),(.int .u64 0),(.int .u32 0),(.int .u64 0),(.bool false)] x6 cf fun cJ bf=>
 aB p0 fun cQ=>
 aa 20 cQ fun cx=>
 aE bf cx cJ fun _ aO=>
 aB p0 fun cN=>
 aa 3 cN fun c_=>
 al aO c_ fun dj=>
 aB p0 fun cT=>
 aa 4 cT fun dG=>
 aE aO dG dj fun _ bn=>
 aB p0 fun cX=>
 aa 23 cX fun dq=>
 al bn dq fun cZ=>
 aB p0 fun dK=>
 aa 5 dK fun dt=>
 aF bn 12 dt fun cU=>
 aZ [(.int .i64 0),(str []),(.int .i64 0),(.int .i64 0),(.int .i64 0),(.int .i64 0),(.int .i64 0),(.int .i64 0),(.int .u64 0),(.int .u64 0),(.int .u32 0),(.int .u64 0),(.bool false),(str [])] [(0,1,(.int .i64 3)),(1,12,cU)] fun dX=>
 aX bn 46 1 [(.int .i64 0),(str []),(.int .i64 0),(.int .i64 0),(.int .i64 0),(.int .i64 0),(.int .i64 0),(.int .i64 0),(.int .u64 0),(.int .u64 0),(.int .u32 0),(.int .u64 0),(.bool false),(str [])] [(0,14,dX)] fun eo br=>
 (al br dq fun r_=>
 r_=cZ)∧
 bg br 46 14 128 [(.int .i64 0),(str []),(.int .i64 0),(.int .i64 0),(.int .i64 0),(.int .i64 0),(.int .i64 0),(.int .i64 0),(.int .u64 0),(.int .u64 0),(.int .u32 0),(.int .u64 0),(.bool false),(str [])] cZ eo fun dY cm=>
 aB p0 fun fF=>
 aa 23 fF fun fD=>
 aE cm fD dY fun _ cq=>
 aB p0 fun im=>
 aa 2 im fun iu=>
 aE cq iu (.int .i64 0) fun _ cG=>
 R (.tuple #[]) cG
theorem gm.vc (p0:Value) (h:gm.res H0 R p0):ab Tryz.prog 141 #[p0] H0 R:=Tryz.vc gm.an Tryz.func141 (by kernel_rfl) (by kernel_rfl) h
def zh.an:cF:= (.seq (.aq (ae 0 2 .nil)) (.seq (.seq (.aq (ae 0 2 .nil)) (.cond (.seq (.aq (ae 0 3 .nil)) .leaf) .leaf)) (.seq (.aq (ae 0 6 .nil)) (.seq (.aq (ae 0 11 .nil)) (.cut [4] (4:: (7:: (ef 24 17 []))) (.block (.loop [4] (4:: (7:: (ef 24 17 []))) (.seq (.seq (.aq (ae 0 3 .nil)) (.cond .leaf .leaf)) (.block (.seq (.aq (ae 0 5 .nil)) (.seq (.seq (.aq (ae 0 3 .nil)) (.cond .leaf .leaf)) (.seq (.aq (ae 0 4 .nil)) (.aq (ae 0 5 .nil))))))))) (.seq (.seq (.aq (ae 0 3 .nil)) (.cond (.seq (.aq (ae 0 3 .nil)) .leaf) .leaf)) (.seq (.block (.loop [4] (4:: (ef 45 18 [])) (.seq (.seq (.aq (ae 0 7 .nil)) (.cond .leaf .leaf)) (.block (.seq (.aq (ae 0 8 .nil)) (.aq (ae 0 5 .nil))))))) (.seq (.aq (ae 0 6 .nil)) (.seq (.aq (ae 0 3 .nil)) .leaf)))))))))
def zh.res (n0:Value):Prop:=
 cd H0 40 (.agg #[(.int .i64 0),(.int .i64 0),(.int .i64 0),(.int .i64 0),(.int .i64 0),(.int .i64 0)]) fun x2 a_=>
 ec n0 (.int .i64 0) fun x9=>
 ar x9
 (aZ [(.int .i64 0),(.int .i64 0),(.int .i64 0),(.int .i64 0),(.int .i64 0),(.int .i64 0)] [] fun cI=>
 aG a_ 6 x2 cI fun _ bf=>
 aF bf 6 x2 fun r_3=>
 R (.tuple #[r_3,(.bool false)]) bf)
 (A1 n0 (.int .i64 43200) fun cJ=>
 uN n0 (.int .i64 43200) fun cx=>
 A1 cx (.int .i64 1800) fun cS=>
 A1 cx (.int .i64 30) fun c_=>
 uN c_ (.int .i64 60) fun dj=>
 uN cx (.int .i64 30) fun dG=>
 xF dG (.int .i64 2) fun da=>
 aZ [(.int .i64 0),(.int .i64 0),(.int .i64 0),(.int .i64 0),(.int .i64 0),(.int .i64 0)] [(0,1,(.int .i64 1980)),(1,1,(.int .i64 1)),(2,1,(.int .i64 1)),(3,1,cS),(4,1,dj),(5,1,da)] fun db=>
 cd a_ 40 (.agg #[(.int .i64 0),(.int .i64 0),(.int .i64 0),(.int .i64 0),(.int .i64 0),(.int .i64 0)]) fun t6 bn=>
 aG bn 6 t6 db fun _ br=>
 ∃qH:Value→ak→Prop,(∀_:Env,∀Vl:Value,∀cq:ak,qH Vl cq→
 aa 0 t6 fun jj=>
 al cq jj fun iV=>
 ka iV (.int .i64 2107) fun ln=>
 ar ln
 (aZ [(.int .i64 0),(.int .i64 0),(.int .i64 0),(.int .i64 0),(.int .i64 0),(.int .i64 0)] [] fun jk=>
 aG cq 6 x2 jk fun _ cG=>
 aF cG 6 x2 fun r_9=>
 R (.tuple #[r_9,(.bool false)]) cG)
 (∃ (KM:Value→ak→Prop) (QR:Value→ak→Nat),KM Vl cq∧
 ∀_:Env,∀Ck :Value,∀bZ:ak,KM Ck bZ→
 aa 0 t6 fun jQ=>
 al bZ jQ fun lp=>
 aa 1 t6 fun pM=>
 al bZ pM fun nr=>
 ab Tryz.prog 73 #[lp,nr] bZ fun qh cK=>
 rS Ck qh fun oh=>
 ar oh
 (aa 0 t6 fun om=>
 al cK om fun nt=>
 aa 1 t6 fun nY=>
 al cK nY fun tS=>
 ab Tryz.prog 73 #[nt,tS] cK fun lC dT=>
 dJ Ck lC fun qp=>
 aa 1 t6 fun pN=>
 al dT pN fun rZ=>
 aK rZ (.int .i64 1) fun oo=>
 aa 1 t6 fun qG=>
 aE dT qG oo fun _ dw=>
 KM qp dw∧QR qp dw<QR Ck bZ)
 (aa 2 t6 fun td=>
 al cK td fun pO=>
 aK pO Ck fun qx=>
 aa 2 t6 fun sE=>
 aE cK sE qx fun _ eM=>
 aF eM 6 t6 fun vk=>
 aG eM 6 x2 vk fun _ gN=>
 aF gN 6 x2 fun WB=>
 R (.tuple #[WB,(.bool true)]) gN)))∧
 ∃ (KN:Value→ak→Prop) (QS:Value→ak→Nat),KN cJ br∧
 ∀_:Env,∀v7 :Value,∀gh:ak,KN v7 gh→
 aa 0 t6 fun cX=>
 al gh cX fun dq=>
 z_ dq (.int .i64 2107) fun cZ=>
 ar cZ
 (aa 0 t6 fun c8=>
 al gh c8 fun dK=>
 ab Tryz.prog 73 #[dK,(.int .i64 2)] gh fun dt oH=>
 aK (.int .i64 337) dt fun cU=>
 ec v7 cU fun dY=>
 ar dY
 (qH v7 oH)
 (dJ v7 cU fun gJ=>
 aa 0 t6 fun im=>
 al oH im fun iu=>
 aK iu (.int .i64 1) fun jJ=>
 aa 0 t6 fun jK=>
 aE oH jK jJ fun _ lg=>
 KN gJ lg∧QS gJ lg<QS v7 gh))
 (qH v7 gh))
theorem zh.vc (n0:Value) (h:zh.res H0 R n0):ab Tryz.prog 29 #[n0] H0 R:=Tryz.vc zh.an Tryz.func29 (by kernel_rfl) (by kernel_rfl) h
def tf.an:cF:= (.seq (.aq (.op 0 [] .nil)) (.seq (.seq (.aq (.op 0 [] .nil)) (.block (.cut [6] (ef 6 5 []) (.seq (.aq (ae 0 2 .nil)) (.cond .leaf (.seq (.aq (ae 0 2 .nil)) (.cond .leaf (.seq (.aq (ae 0 2 .nil)) (.cond .leaf (.aq (ae 0 2 .nil)))))))) (.cond (.seq (.aq (.op 0 [] .nil)) .leaf) (.seq (.aq (ae 0 2 .nil)) (.cond (.seq (.seq (.aq (ae 0 2 .nil)) (.cond (.seq (.aq (.op 0 [] .nil)) .leaf) .leaf)) (.seq (.aq (.op 0 [] .nil)) .leaf)) .leaf)))))) (.seq (.seq (.aq (ae 0 3 (.dQ 2 (ae 3 2 .nil) 5 .nil))) (.cond (.seq (.aq (.op 0 [] .nil)) .leaf) .leaf)) (.seq (.aq (.op 0 [] .nil)) .leaf))))
def tf.res (vl sF:Value):Prop:=
 ∃jd:Value→ak→Prop,(∀_:Env,∀x6:Value,∀bf:ak,jd x6 bf→
 ar x6
 (R (.int .i64 30) bf)
 (eA 0 sF (.int .i64 2) fun cJ=>
 ar cJ
 (ab Tryz.prog 127 #[vl] bf fun cx aO=>
 ar cx
 (R (.int .i64 29) aO)
 (R (.int .i64 28) aO))
 (ec sF (.int .i64 1) fun cS=>
 lk cS (fun qg=>
 ka sF (.int .i64 12) fun dj=>
 qg dj bf) bf fun cT br=> ∀_:Env,
 ar cT
 (R (.int .i64 0) br)
 (R (.int .i64 31) br))))∧
 eA 0 sF (.int .i64 4) fun x7=>
 ar x7
 (jd x7 H0)
 (eA 0 sF (.int .i64 6) fun x8=>
 ar x8
 (jd x8 H0)
 (eA 0 sF (.int .i64 9) fun x9=>
 ar x9
 (jd x9 H0)
 (eA 0 sF (.int .i64 11) fun cI=>
 jd cI H0)))
theorem tf.vc (vl sF:Value) (h:tf.res H0 R vl sF):ab Tryz.prog 73 #[vl,sF] H0 R:=Tryz.vc tf.an Tryz.func73 (by kernel_rfl) (by kernel_rfl) h
def kK.an:cF:= (.seq (.aq (ae 0 2 .nil)) (.seq (.iG [0,1,3,7,15,31,63,127,255,511,1023,2047,4095,8191,16383,32767,16383,81919,16383,278527,999423,2097151,4194303,8388607,16777215,33554431,67108863,134217727,268435455,536870911,1073741823,2147483647,4294967295,8589934591,17179869183,34359738367,68719476735,137438953471,274877906943,549755813887,1099511627775,2199023255551,4398046511103,8796093022207,17592186044415,35184372088831,70368744177663,140737488355327,281474976710655,562949953421311,1125899906842623,2251799813685247,4503599627370495,9007199254740991,18014398509481983,36028797018963967,72057594037927935,144115188075855871,288230376151711743,576460752303423487] (ae 0 4 (.dQ 3 (ae 4 3 .nil) 7 (.op 8 [] (.dQ 8 (ae 9 3 .nil) 12 (.op 13 [] (.dQ 13 (ae 14 6 (.op 20 [15] (.op 21 [] .nil))) 22 (.op 23 [] (.dQ 23 (ae 24 3 .nil) 27 (.op 28 [] (.dQ 28 (ae 29 3 .nil) 32 (.op 33 [] (.dQ 33 (ae 34 3 .nil) 37 (.op 38 [] (.dQ 38 (ae 39 3 .nil) 42 (.op 43 [] (.dQ 43 (ae 44 3 .nil) 47 (.op 48 [] (.dQ 48 (ae 49 3 .nil) 52 (.op 53 [] (.dQ 53 (ae 54 4 .nil) 58 (.op 59 [] .nil)))))))))))))))))))))) .leaf))
def kK.res (t0:Value):Prop:=
 cd H0 40 t0 fun t1 a_=>
 aa 0 t1 fun x3=>
 al a_ x3 fun x4=>
 rS x4 (.int .i64 1980) fun x5=>
 dC x5 (fun uG=>
 aa 0 t1 fun x7=>
 al a_ x7 fun x8=>
 z_ x8 (.int .i64 2107) fun x9=>
 uG x9 a_) a_ fun cI aO=> ∀_:Env,
 dC cI (fun qg=>
 aa 2 t1 fun cJ=>
 al aO cJ fun cQ=>
 rS cQ (.int .i64 1) fun cx=>
 qg cx aO) aO fun cj br=> ∀_:Env,
 dC cj (fun qH=>
 aa 2 t1 fun cN=>
 al br cN fun c_=>
 aa 0 t1 fun dj=>
 al br dj fun cT=>
 aa 1 t1 fun dG=>
 al br dG fun da=>
 ab Tryz.prog 73 #[cT,da] br fun db cG=>
 (al cG cN fun r_=>
 r_=c_)∧
 z_ c_ db fun cX=>
 qH cX cG) br fun dq cq=> ∀_:Env,
 dC dq (fun F3=>
 aa 3 t1 fun c8=>
 al cq c8 fun dK=>
 rS dK (.int .i64 0) fun dt=>
 F3 dt cq) cq fun cU bI=> ∀_:Env,
 dC cU (fun rq=>
 aa 3 t1 fun eo=>
 al bI eo fun dY=>
 ec dY (.int .i64 24) fun fF=>
 rq fF bI) bI fun fD bZ=> ∀_:Env,
 dC fD (fun WC=>
 aa 4 t1 fun im=>
 al bZ im fun iu=>
 rS iu (.int .i64 0) fun jJ=>
 WC jJ bZ) bZ fun jK dT=> ∀_:Env,
 dC jK (fun acj=>
 aa 4 t1 fun iV=>
 al dT iV fun ln=>
 ec ln (.int .i64 60) fun jk=>
 acj jk dT) dT fun kc eM=> ∀_:Env,
 dC kc (fun ack=>
 aa 5 t1 fun lp=>
 al eM lp fun pM=>
 rS pM (.int .i64 0) fun nr=>
 ack nr eM) eM fun qh gH=> ∀_:Env,
 dC qh (fun WD=>
 aa 5 t1 fun qF=>
 al gH qF fun om=>
 ec om (.int .i64 60) fun nt=>
 WD nt gH) gH fun nY iB=> ∀_:Env,
 dC nY (fun WE=>
 aa 5 t1 fun lC=>
 al iB lC fun qp=>
 uN qp (.int .i64 2) fun pN=>
 eA 0 pN (.int .i64 0) fun rZ=>
 WE rZ iB) iB fun oo oH=> ∀_:Env,
 R oo oH
theorem kK.vc (t0:Value) (h:kK.res H0 R t0):ab Tryz.prog 94 #[t0] H0 R:=Tryz.vc kK.an Tryz.func94 (by kernel_rfl) (by kernel_rfl) h
def tg.an:cF:= (.seq (.aq (.op 0 [] .nil)) (.seq (.aq (ae 0 4 (.dQ 3 (ae 4 4 (.dQ 7 (ae 8 3 .nil) 11 .nil)) 12 (.op 13 [] .nil)))) .leaf))
def tg.res (vl:Value):Prop:=
 uN vl (.int .i64 4) fun x4=>
 eA 0 x4 (.int .i64 0) fun x5=>
 dC x5 (fun jd=>
 uN vl (.int .i64 100) fun x8=>
 ld 0 x8 (.int .i64 0) fun x9=>
 lk x9 (fun tT=>
 uN vl (.int .i64 400) fun cJ=>
 eA 0 cJ (.int .i64 0) fun cQ=>
 tT cQ H0) H0 fun cx bn=> ∀_:Env,
 jd cx bn) H0 fun cj bf=> ∀_:Env,
 R cj bf
theorem tg.vc (vl:Value) (h:tg.res H0 R vl):ab Tryz.prog 127 #[vl] H0 R:=Tryz.vc tg.an Tryz.func127 (by kernel_rfl) (by kernel_rfl) h
def kL.an:cF:= (.seq (.aq (ae 0 4 .nil)) (.seq (.seq (.aq (ae 0 3 .nil)) (.cond (.seq (.aq (ae 0 3 .nil)) .leaf) .leaf)) (.seq (.iG [0,1,0,4,12,31,0,64,192,448,1023,2047,0,4096,12288,0,32768,98304,258048,0,524288,1572864,4190208,8384512,4095,33554431,67108863] (ae 0 27 .nil)) .leaf)))
def kL.res (t0:Value):Prop:=
 cd H0 40 t0 fun t1 a_=>
 aF a_ 6 t1 fun x5=>
 ab Tryz.prog 94 #[x5] a_ fun x6 bf=>
 jV x6 fun x7=>
 ar x7
 (R (.tuple #[(.int .u64 0),(.int .u64 0),(.bool false)]) bf)
 (aa 2 t1 fun x8=>
 al bf x8 fun x9=>
 aa 1 t1 fun cI=>
 al bf cI fun cf=>
 ou cf (.int .u64 5) fun cJ=>
 dR .or x9 cJ fun cQ=>
 aa 0 t1 fun cx=>
 al bf cx fun cj=>
 dJ cj (.int .i64 1980) fun cS=>
 ou cS (.int .u64 9) fun cN=>
 dR .or cQ cN fun c_=>
 cA .u64 c_ fun dj=>
 aa 5 t1 fun cT=>
 al bf cT fun dG=>
 A1 dG (.int .i64 2) fun da=>
 aa 4 t1 fun db=>
 al bf db fun cX=>
 ou cX (.int .u64 5) fun dq=>
 dR .or da dq fun cZ=>
 aa 3 t1 fun c8=>
 al bf c8 fun dK=>
 ou dK (.int .u64 11) fun dt=>
 dR .or cZ dt fun cU=>
 cA .u64 cU fun dX=>
 R (.tuple #[dj,dX,(.bool true)]) bf)
theorem kL.vc (t0:Value) (h:kL.res H0 R t0):ab Tryz.prog 197 #[t0] H0 R:=Tryz.vc kL.an Tryz.func197 (by kernel_rfl) (by kernel_rfl) h
def oI.an:cF:= (.seq (.aq (ae 0 2 .nil)) (.seq (.seq (.aq (ae 0 3 (.dQ 2 (ae 3 2 .nil) 5 .nil))) (.cond (.seq (.aq (ae 0 3 .nil)) .leaf) .leaf)) (.seq (.aq (ae 0 6 .nil)) (.seq (.aq (ae 0 19 .nil)) (.seq (.seq (.aq (ae 0 3 .nil)) (.cond (.seq (.aq (ae 0 3 .nil)) .leaf) .leaf)) (.seq (.aq (ae 0 3 .nil)) .leaf))))))
def oI.res (HT HU:Value):Prop:=
 cd H0 40 (.agg #[(.int .i64 0),(.int .i64 0),(.int .i64 0),(.int .i64 0),(.int .i64 0),(.int .i64 0)]) fun x4 a_=>
 rS HT (.int .u64 65536) fun cI=>
 lk cI (fun uG=>
 rS HU (.int .u64 65536) fun cQ=>
 uG cQ a_) a_ fun cx aO=> ∀_:Env,
 ar cx
 (aZ [(.int .i64 0),(.int .i64 0),(.int .i64 0),(.int .i64 0),(.int .i64 0),(.int .i64 0)] [] fun cj=>
 aG aO 6 x4 cj fun _ bn=>
 aF bn 6 x4 fun QT=>
 R (.tuple #[QT,(.bool false)]) bn)
 (cA .i64 HT fun cN=>
 cA .i64 HU fun dj=>
 sQ cN (.int .u64 9) fun dG=>
 aK dG (.int .i64 1980) fun da=>
 sQ cN (.int .u64 5) fun cX=>
 dR .and cX (.int .i64 15) fun dq=>
 dR .and cN (.int .i64 31) fun c8=>
 sQ dj (.int .u64 11) fun dt=>
 sQ dj (.int .u64 5) fun dX=>
 dR .and dX (.int .i64 63) fun eo=>
 dR .and dj (.int .i64 31) fun fF=>
 xF fF (.int .i64 2) fun fD=>
 aZ [(.int .i64 0),(.int .i64 0),(.int .i64 0),(.int .i64 0),(.int .i64 0),(.int .i64 0)] [(0,1,da),(1,1,dq),(2,1,c8),(3,1,dt),(4,1,eo),(5,1,fD)] fun gJ=>
 cd aO 40 (.agg #[(.int .i64 0),(.int .i64 0),(.int .i64 0),(.int .i64 0),(.int .i64 0),(.int .i64 0)]) fun t8 cm=>
 aG cm 6 t8 gJ fun _ cq=>
 aF cq 6 t8 fun im=>
 ab Tryz.prog 94 #[im] cq fun iu cG=>
 jV iu fun jJ=>
 ar jJ
 (aZ [(.int .i64 0),(.int .i64 0),(.int .i64 0),(.int .i64 0),(.int .i64 0),(.int .i64 0)] [] fun jK=>
 aG cG 6 x4 jK fun _ eI=>
 aF eI 6 x4 fun QU=>
 R (.tuple #[QU,(.bool false)]) eI)
 (aF cG 6 t8 fun jj=>
 aG cG 6 x4 jj fun _ dD=>
 aF dD 6 x4 fun acm=>
 R (.tuple #[acm,(.bool true)]) dD))
theorem oI.vc (HT HU:Value) (h:oI.res H0 R HT HU):ab Tryz.prog 262 #[HT,HU] H0 R:=Tryz.vc oI.an Tryz.func262 (by kernel_rfl) (by kernel_rfl) h
def strings_Join.an:cF:= (.seq (.aq (.op 0 [] .nil)) (.seq (.seq (.aq (ae 0 2 .nil)) (.block (.seq (.aq (ae 0 2 .nil)) (.cond (.seq (.aq (.op 0 [] .nil)) .leaf) (.seq (.aq (ae 0 2 .nil)) (.cond (.seq (.aq (ae 0 4 .nil)) .leaf) .leaf)))))) (.seq (.aq (.op 0 [] .nil)) (.cut [5] (5:: (ef 20 19 [])) (.seq (.aq (ae 0 3 .nil)) (.cond (.cut [] (ef 23 8 []) (.seq (.aq (ae 0 7 .nil)) (.cond (.aq (ae 0 2 .nil)) .leaf)) (.aq (ae 0 9 .nil))) .leaf)) (.seq (.seq (.aq (ae 0 3 .nil)) (.block (.loop [5,41] (5:: (7:: (ef 41 15 []))) (.seq (.aq (.op 0 [] .nil)) (.seq (.cond .leaf .leaf) (.seq (.block (.seq (.aq (ae 0 3 .nil)) (.cut [] (ef 45 6 []) (.seq (.aq (ae 0 5 .nil)) (.cond (.aq (ae 0 2 .nil)) .leaf)) (.aq (ae 0 5 .nil))))) (.aq (ae 0 2 .nil)))))))) (.seq (.aq (.op 0 [] .nil)) (.seq (.aq (ae 0 2 .nil)) (.seq (.aq (ae 0 4 .nil)) (.seq (.seq (.aq (ae 0 4 .nil)) (.block (.loop [65] (10:: (ef 65 9 [])) (.seq (.aq (.op 0 [] .nil)) (.seq (.cond .leaf .leaf) (.seq (.block (.seq (.aq (ae 0 3 .nil)) (.seq (.aq (ae 0 2 .nil)) (.aq (ae 0 2 .nil))))) (.aq (ae 0 2 .nil)))))))) (.seq (.aq (ae 0 2 .nil)) .leaf))))))))))
def strings_Join.res (rr vm:Value):Prop:=
 dh rr fun cJ=>
 eA 0 cJ (.int .i64 0) fun cx=>
 ar cx
 (R (str []) H0)
 (eA 0 cJ (.int .i64 1) fun cS=>
 ar cS
 (aN 1 rr (.int .i64 0) fun c_=>
 al H0 c_ fun dj=>
 R dj H0)
 (∃jd:Value→ak→Prop,(∀_:Env,∀n5:Value,∀bf:ak,jd n5 bf→
 dh rr fun jK=>
 ∃ (v8:Value→Value→ak→Prop) (xY:Value→Value→ak→Nat),v8 n5 (.int .i64 0) bf∧
 ∀_:Env,∀Zs :Value,∀jj:Value,∀br:ak,v8 Zs jj br→
 ec jj jK fun iV=>
 ar iV
 (aN 1 rr jj fun ln=>
 al br ln fun jk=>
 ∃qH:ak→Prop,(∀_:Env,∀cq:ak,qH cq→
 bc jk fun om=>
 aK Zs om fun nt=>
 aK jj (.int .i64 1) fun nY=>
 v8 nt nY cq∧xY nt nY cq<xY Zs jj br)∧
 bc jk fun jQ=>
 dJ (.int .i64 9223372036854775807) Zs fun pM=>
 ka jQ pM fun nr=>
 ar nr
 (False)
 (qH br))
 (cd br 153 (.agg #[(.pointer none),(.slice none 0 0)]) fun b8 eI=>
 ab Tryz.prog 74 #[b8,Zs] eI fun lC bI=>
 aN 1 rr (.int .i64 0) fun pN=>
 al bI pN fun rZ=>
 ab Tryz.prog 75 #[b8,rZ] bI fun oo dD=>
 lj 1 rr (some (.int .i64 1)) none fun td=>
 dh td fun pO=>
 ∃ (KO:Value→ak→Prop) (QV:Value→ak→Nat),KO (.int .i64 0) dD∧
 ∀_:Env,∀te:Value,∀dT:ak,KO te dT→
 ec te pO fun qx=>
 ar qx
 (aN 1 td te fun sE=>
 al dT sE fun vk=>
 ab Tryz.prog 75 #[b8,vm] dT fun uW dw=>
 ab Tryz.prog 75 #[b8,vk] dw fun xX eM=>
 aK te (.int .i64 1) fun wL=>
 KO wL eM∧QV wL eM<QV te dT)
 (ab Tryz.prog 76 #[b8] dT fun zg gN=>
 R zg gN)))∧
 bc vm fun dG=>
 ka dG (.int .i64 0) fun da=>
 ar da
 (∃TZ:ak→Prop,(∀_:Env,∀fX:ak,TZ fX→
 bc vm fun dY=>
 dh rr fun fD=>
 dJ fD (.int .i64 1) fun gJ=>
 xF dY gJ fun im=>
 aK (.int .i64 0) im fun iu=>
 jd iu fX)∧
 bc vm fun cX=>
 dh rr fun cZ=>
 dJ cZ (.int .i64 1) fun c8=>
 A1 (.int .i64 9223372036854775807) c8 fun dK=>
 rS cX dK fun dt=>
 ar dt
 (False)
 (TZ H0))
 (jd (.int .i64 0) H0)))
theorem strings_Join.vc (rr vm:Value) (h:strings_Join.res H0 R rr vm):ab Tryz.prog 30 #[rr,vm] H0 R:=Tryz.vc strings_Join.an Tryz.func30 (by kernel_rfl) (by kernel_rfl) h
def strings_Repeat.an:cF:= (.seq (.aq (.op 0 [] .nil)) (.seq (.seq (.aq (.op 0 [] .nil)) (.block (.seq (.aq (ae 0 2 .nil)) (.cond (.seq (.aq (.op 0 [] .nil)) .leaf) (.seq (.aq (ae 0 2 .nil)) (.cond (.seq (.aq (ae 0 2 .nil)) .leaf) .leaf)))))) (.cut [] [17,18,19] (.seq (.aq (ae 0 2 .nil)) (.cond (.aq (ae 0 2 .nil)) .leaf)) (.seq (.aq (ae 0 11 .nil)) (.cut [] (ef 29 7 []) (.seq (.aq (ae 0 3 (.dQ 2 (ae 3 2 .nil) 5 .nil))) (.cond (.aq (ae 0 2 .nil)) .leaf)) (.seq (.aq (ae 0 3 .nil)) (.seq (.seq (.aq (ae 0 3 .nil)) (.cond (.seq (.aq (.op 0 [] .nil)) .leaf) .leaf)) (.cut [] (4:: (ef 41 53 [])) (.seq (.aq (ae 0 2 .nil)) (.block (.cut [43] (ef 43 6 []) (.seq (.aq (ae 0 2 .nil)) (.cond .leaf (.seq (.aq (ae 0 2 .nil)) (.cond .leaf (.seq (.aq (ae 0 2 .nil)) (.cond .leaf (.seq (.aq (ae 0 2 .nil)) (.cond .leaf (.aq (ae 0 2 .nil)))))))))) (.cond (.block (.seq (.aq (ae 0 3 (.dQ 2 (ae 3 2 .nil) 5 (.op 6 [] .nil)))) (.cond (.seq (.aq (ae 0 3 .nil)) .leaf) (.seq (.aq (ae 0 3 (.dQ 2 (ae 3 2 .nil) 5 (.op 6 [] .nil)))) (.cond (.seq (.aq (ae 0 3 .nil)) .leaf) (.seq (.aq (ae 0 3 (.dQ 2 (ae 3 2 .nil) 5 (.op 6 [] .nil)))) (.cond (.seq (.aq (ae 0 3 .nil)) .leaf) (.seq (.aq (ae 0 3 (.dQ 2 (ae 3 2 .nil) 5 (.op 6 [] .nil)))) (.cond (.seq (.aq (ae 0 3 .nil)) .leaf) (.seq (.aq (ae 0 3 (.dQ 2 (ae 3 2 .nil) 5 (.op 6 [] .nil)))) (.cond (.seq (.aq (ae 0 3 .nil)) .leaf) .leaf))))))))))) .leaf)))) (.seq (.aq (ae 0 2 .nil)) (.cut [8] (8:: (ef 95 12 [])) (.seq (.aq (ae 0 2 .nil)) (.cond (.seq (.aq (ae 0 7 .nil)) (.seq (.aq (ae 0 2 .nil)) (.cond (.aq (ae 0 3 .nil)) .leaf))) .leaf)) (.seq (.aq (.op 0 [] .nil)) (.seq (.aq (ae 0 2 .nil)) (.seq (.aq (ae 0 2 .nil)) (.seq (.block (.loop [] (10:: (ef 111 13 [])) (.seq (.seq (.aq (ae 0 3 .nil)) (.cond .leaf .leaf)) (.block (.seq (.aq (ae 0 7 .nil)) (.aq (ae 0 4 .nil))))))) (.seq (.aq (ae 0 2 .nil)) .leaf)))))))))))))))
def strings_Repeat.res (s0 w7:Value):Prop:=
 eA 0 w7 (.int .i64 0) fun cQ=>
 ar cQ
 (R (str []) H0)
 (eA 0 w7 (.int .i64 1) fun cj=>
 ar cj
 (R s0 H0)
 (∃jd:ak→Prop,(∀_:Env,∀bf:ak,jd bf→
 bc s0 fun da=>
 cA .u64 da fun db=>
 cA .u64 w7 fun dq=>
 ab Tryz.prog 105 #[db,dq] bf fun cZ aO=>
 av 0 cZ fun c8=>
 av 1 cZ fun dK=>
 ∃qg:ak→Prop,(∀_:Env,∀br:ak,qg br→
 cA .i64 dK fun im=>
 bc s0 fun jJ=>
 eA 0 jJ (.int .i64 0) fun jK=>
 ar jK
 (R (str []) br)
 (∃qH:ak→Prop,(∀_:Env,∀cq:ak,qH cq→
 ∃Tf:Value→ak→Prop,(∀_:Env,∀EM:Value,∀eI:ak,Tf EM eI→
 cd eI 153 (.agg #[(.pointer none),(.slice none 0 0)]) fun b9 bI=>
 ab Tryz.prog 74 #[b9,im] bI fun NV dD=>
 ab Tryz.prog 75 #[b9,s0] dD fun NW bZ=>
 ∃ (WG:ak→Prop) (Zt:ak→Nat),WG bZ∧
 ∀_:Env,∀dw:ak,WG dw→
 ab Tryz.prog 100 #[b9] dw fun D_ eM=>
 ec D_ im fun Ba=>
 ar Ba
 (ab Tryz.prog 100 #[b9] eM fun QW gN=>
 dJ im QW fun WA=>
 ab Tryz.prog 100 #[b9] gN fun HR gH=>
 np WA HR fun m_=>np m_ EM fun KL=>
 ab Tryz.prog 76 #[b9] gH fun HV fX=>
 bt HV none (some KL) fun HS=>
 ab Tryz.prog 75 #[b9,HS] fX fun TY iB=>
 WG iB∧Zt iB<Zt dw)
 (ab Tryz.prog 76 #[b9] eM fun QP gh=>
 R QP gh))∧
 ka im (.int .i64 8192) fun J0=>
 ar J0
 (bc s0 fun QJ=>
 A1 (.int .i64 8192) QJ fun Te=>
 bc s0 fun F2=>
 xF Te F2 fun T0=>
 eA 0 T0 (.int .i64 0) fun QK=>
 ar QK
 (bc s0 fun KK=>
 Tf KK cq)
 (Tf T0 cq))
 (Tf im cq))∧
 dc s0 (.int .i64 0) fun iV=>
 ∃Bb:Value→ak→Prop,(∀_:Env,∀ln:Value,∀lg:ak,Bb ln lg→
 ar ln
 (z_ im (.int .i64 128) fun oh=>
 dC oh (fun WH=>
 ab Tryz.prog 106 #[(str [32,32,32,32,32,32,32,32,32,32,32,32,32,32,32,32,32,32,32,32,32,32,32,32,32,32,32,32,32,32,32,32,32,32,32,32,32,32,32,32,32,32,32,32,32,32,32,32,32,32,32,32,32,32,32,32,32,32,32,32,32,32,32,32,32,32,32,32,32,32,32,32,32,32,32,32,32,32,32,32,32,32,32,32,32,32,32,32,32,32,32,32,32,32,32,32,32,32,32,32,32,32,32,32,32,32,32,32,32,32,32,32,32,32,32,32,32,32,32,32,32,32,32,32,32,32,32,32]),s0] lg fun nt nZ=>
 WH nt nZ) lg fun nY ru=> ∀_:Env,
 ar nY
 (bt (str [32,32,32,32,32,32,32,32,32,32,32,32,32,32,32,32,32,32,32,32,32,32,32,32,32,32,32,32,32,32,32,32,32,32,32,32,32,32,32,32,32,32,32,32,32,32,32,32,32,32,32,32,32,32,32,32,32,32,32,32,32,32,32,32,32,32,32,32,32,32,32,32,32,32,32,32,32,32,32,32,32,32,32,32,32,32,32,32,32,32,32,32,32,32,32,32,32,32,32,32,32,32,32,32,32,32,32,32,32,32,32,32,32,32,32,32,32,32,32,32,32,32,32,32,32,32,32,32]) none (some im) fun lC=>
 R lC ru)
 (z_ im (.int .i64 128) fun rZ=>
 dC rZ (fun acn=>
 ab Tryz.prog 106 #[(str [45,45,45,45,45,45,45,45,45,45,45,45,45,45,45,45,45,45,45,45,45,45,45,45,45,45,45,45,45,45,45,45,45,45,45,45,45,45,45,45,45,45,45,45,45,45,45,45,45,45,45,45,45,45,45,45,45,45,45,45,45,45,45,45,45,45,45,45,45,45,45,45,45,45,45,45,45,45,45,45,45,45,45,45,45,45,45,45,45,45,45,45,45,45,45,45,45,45,45,45,45,45,45,45,45,45,45,45,45,45,45,45,45,45,45,45,45,45,45,45,45,45,45,45,45,45,45,45]),s0] ru fun td HW=>
 acn td HW) ru fun pO tj=> ∀_:Env,
 ar pO
 (bt (str [45,45,45,45,45,45,45,45,45,45,45,45,45,45,45,45,45,45,45,45,45,45,45,45,45,45,45,45,45,45,45,45,45,45,45,45,45,45,45,45,45,45,45,45,45,45,45,45,45,45,45,45,45,45,45,45,45,45,45,45,45,45,45,45,45,45,45,45,45,45,45,45,45,45,45,45,45,45,45,45,45,45,45,45,45,45,45,45,45,45,45,45,45,45,45,45,45,45,45,45,45,45,45,45,45,45,45,45,45,45,45,45,45,45,45,45,45,45,45,45,45,45,45,45,45,45,45,45]) none (some im) fun qx=>
 R qx tj)
 (z_ im (.int .i64 64) fun ub=>
 dC ub (fun WI=>
 ab Tryz.prog 106 #[(str [48,48,48,48,48,48,48,48,48,48,48,48,48,48,48,48,48,48,48,48,48,48,48,48,48,48,48,48,48,48,48,48,48,48,48,48,48,48,48,48,48,48,48,48,48,48,48,48,48,48,48,48,48,48,48,48,48,48,48,48,48,48,48,48]),s0] tj fun xX HX=>
 WI xX HX) tj fun wL zi=> ∀_:Env,
 ar wL
 (bt (str [48,48,48,48,48,48,48,48,48,48,48,48,48,48,48,48,48,48,48,48,48,48,48,48,48,48,48,48,48,48,48,48,48,48,48,48,48,48,48,48,48,48,48,48,48,48,48,48,48,48,48,48,48,48,48,48,48,48,48,48,48,48,48,48]) none (some im) fun Bc=>
 R Bc zi)
 (z_ im (.int .i64 128) fun A8=>
 dC A8 (fun aco=>
 ab Tryz.prog 106 #[(str [61,61,61,61,61,61,61,61,61,61,61,61,61,61,61,61,61,61,61,61,61,61,61,61,61,61,61,61,61,61,61,61,61,61,61,61,61,61,61,61,61,61,61,61,61,61,61,61,61,61,61,61,61,61,61,61,61,61,61,61,61,61,61,61,61,61,61,61,61,61,61,61,61,61,61,61,61,61,61,61,61,61,61,61,61,61,61,61,61,61,61,61,61,61,61,61,61,61,61,61,61,61,61,61,61,61,61,61,61,61,61,61,61,61,61,61,61,61,61,61,61,61,61,61,61,61,61,61]),s0] zi fun A9 Ea=>
 aco A9 Ea) zi fun v_ F4=> ∀_:Env,
 ar v_
 (bt (str [61,61,61,61,61,61,61,61,61,61,61,61,61,61,61,61,61,61,61,61,61,61,61,61,61,61,61,61,61,61,61,61,61,61,61,61,61,61,61,61,61,61,61,61,61,61,61,61,61,61,61,61,61,61,61,61,61,61,61,61,61,61,61,61,61,61,61,61,61,61,61,61,61,61,61,61,61,61,61,61,61,61,61,61,61,61,61,61,61,61,61,61,61,61,61,61,61,61,61,61,61,61,61,61,61,61,61,61,61,61,61,61,61,61,61,61,61,61,61,61,61,61,61,61,61,61,61,61]) none (some im) fun F1=>
 R F1 F4)
 (z_ im (.int .i64 64) fun xW=>
 dC xW (fun WJ=>
 ab Tryz.prog 106 #[(str [9,9,9,9,9,9,9,9,9,9,9,9,9,9,9,9,9,9,9,9,9,9,9,9,9,9,9,9,9,9,9,9,9,9,9,9,9,9,9,9,9,9,9,9,9,9,9,9,9,9,9,9,9,9,9,9,9,9,9,9,9,9,9,9]),s0] F4 fun PM QY=>
 WJ PM QY) F4 fun PL Cl=> ∀_:Env,
 ar PL
 (bt (str [9,9,9,9,9,9,9,9,9,9,9,9,9,9,9,9,9,9,9,9,9,9,9,9,9,9,9,9,9,9,9,9,9,9,9,9,9,9,9,9,9,9,9,9,9,9,9,9,9,9,9,9,9,9,9,9,9,9,9,9,9,9,9,9]) none (some im) fun QH=>
 R QH Cl)
 (qH Cl))))))
 (qH lg))∧
 eA 0 iV (.int .u8 32) fun jk=>
 ar jk
 (Bb jk br)
 (eA 0 iV (.int .u8 45) fun kc=>
 ar kc
 (Bb kc br)
 (eA 0 iV (.int .u8 48) fun jQ=>
 ar jQ
 (Bb jQ br)
 (eA 0 iV (.int .u8 61) fun lp=>
 ar lp
 (Bb lp br)
 (eA 0 iV (.int .u8 9) fun pM=>
 Bb pM br))))))∧
 ka c8 (.int .u64 0) fun cU=>
 lk cU (fun acp=>
 ka dK (.int .u64 9223372036854775807) fun dY=>
 acp dY aO) aO fun fF QZ=> ∀_:Env,
 ar fF
 (False)
 (qg QZ))∧
 ec w7 (.int .i64 0) fun c_=>
 ar c_
 (False)
 (jd H0)))
theorem strings_Repeat.vc (s0 w7:Value) (h:strings_Repeat.res H0 R s0 w7):ab Tryz.prog 50 #[s0,w7] H0 R:=Tryz.vc strings_Repeat.an Tryz.func50 (by kernel_rfl) (by kernel_rfl) h
def b7.an:cF:= (.seq (.aq (ae 0 2 .nil)) (.seq (.aq (ae 0 2 .nil)) (.seq (.aq (ae 0 10 .nil)) (.seq (.aq (ae 0 4 .nil)) .leaf))))
def b7.res (b0 s1:Value):Prop:=
 ab Tryz.prog 128 #[b0] H0 fun x7 a_=>
 aB b0 fun cI=>
 aa 1 cI fun cf=>
 al a_ cf fun cJ=>
 bg a_ 5 1 1 [(.int .u8 0)] cJ s1 fun cx bf=>
 aB b0 fun cj=>
 aa 1 cj fun cS=>
 aE bf cS cx fun _ aO=>
 bc s1 fun c_=>
 R (.tuple #[c_,.nilIface]) aO
theorem b7.vc (b0 s1:Value) (h:b7.res H0 R b0 s1):ab Tryz.prog 75 #[b0,s1] H0 R:=Tryz.vc b7.an Tryz.func75 (by kernel_rfl) (by kernel_rfl) h
def fO.an:cF:= (.seq (.aq (.op 0 [] .nil)) (.seq (.aq (ae 0 6 .nil)) .leaf))
def fO.res (b0:Value):Prop:=
 aB b0 fun x4=>
 aa 1 x4 fun x5=>
 al H0 x5 fun x6=>
 dh x6 fun x7=>
 R x7 H0
theorem fO.vc (b0:Value) (h:fO.res H0 R b0):ab Tryz.prog 100 #[b0] H0 R:=Tryz.vc fO.an Tryz.func100 (by kernel_rfl) (by kernel_rfl) h
def strings_HasPrefix.an:cF:= (.seq (.aq (.op 0 [] .nil)) (.seq (.aq (ae 0 4 .nil)) .leaf))
def strings_HasPrefix.res (s0 nI:Value):Prop:=
 ab Tryz.prog 152 #[s0,nI] H0 fun x7 a_=>
 R x7 a_
theorem strings_HasPrefix.vc (s0 nI:Value) (h:strings_HasPrefix.res H0 R s0 nI):ab Tryz.prog 106 #[s0,nI] H0 R:=Tryz.vc strings_HasPrefix.an Tryz.func106 (by kernel_rfl) (by kernel_rfl) h
def strings_HasSuffix.an:cF:= (.seq (.aq (.op 0 [] .nil)) (.seq (.aq (ae 0 4 .nil)) .leaf))
def strings_HasSuffix.res (s0 nJ:Value):Prop:=
 ab Tryz.prog 189 #[s0,nJ] H0 fun x7 a_=>
 R x7 a_
theorem strings_HasSuffix.vc (s0 nJ:Value) (h:strings_HasSuffix.res H0 R s0 nJ):ab Tryz.prog 136 #[s0,nJ] H0 R:=Tryz.vc strings_HasSuffix.an Tryz.func136 (by kernel_rfl) (by kernel_rfl) h
def eO.an:cF:= (.seq (.aq (ae 0 4 .nil)) (.aq (ae 0 4 .nil)))
def eO.res (b0:Value):Prop:=
 aB b0 fun x3=>
 aa 0 x3 fun x4=>
 aE H0 x4 (.pointer none) fun _ a_=>
 aB b0 fun x6=>
 aa 1 x6 fun x7=>
 aE a_ x7 (.slice none 0 0) fun _ bf=>
 R (.tuple #[]) bf
theorem eO.vc (b0:Value) (h:eO.res H0 R b0):ab Tryz.prog 174 #[b0] H0 R:=Tryz.vc eO.an Tryz.func174 (by kernel_rfl) (by kernel_rfl) h
def strings_ContainsFunc.an:cF:= (.seq (.aq (.op 0 [] .nil)) (.seq (.aq (ae 0 5 .nil)) .leaf))
def strings_ContainsFunc.res (s0 f1:Value):Prop:=
 ab Tryz.prog 237 #[s0,f1] H0 fun x7 a_=>
 rS x7 (.int .i64 0) fun x8=>
 R x8 a_
theorem strings_ContainsFunc.vc (s0 f1:Value) (h:strings_ContainsFunc.res H0 R s0 f1):ab Tryz.prog 193 #[s0,f1] H0 R:=Tryz.vc strings_ContainsFunc.an Tryz.func193 (by kernel_rfl) (by kernel_rfl) h
def iH.an:cF:= (.seq (.aq (.op 0 [] .nil)) (.seq (.aq (ae 0 4 .nil)) .leaf))
def iH.res (s0 vm:Value):Prop:=
 ab Tryz.prog 238 #[s0,vm,(.int .i64 0)] H0 fun x7 a_=>
 R x7 a_
theorem iH.vc (s0 vm:Value) (h:iH.res H0 R s0 vm):ab Tryz.prog 195 #[s0,vm] H0 R:=Tryz.vc iH.an Tryz.func195 (by kernel_rfl) (by kernel_rfl) h
def iI.an:cF:= (.seq (.aq (ae 0 4 .nil)) (.seq (.aq (ae 0 2 .nil)) .leaf))
def iI.res (s0 vm xZ:Value):Prop:=
 cd H0 9 s0 fun s3 a_=>
 cd a_ 9 vm fun acq bf=>
 cd bf 3 xZ fun Q0 aO=>
 R (.func (.func 264) #[] #[acq,s3,Q0]) aO
theorem iI.vc (s0 vm xZ:Value) (h:iI.res H0 R s0 vm xZ):ab Tryz.prog 238 #[s0,vm,xZ] H0 R:=Tryz.vc iI.an Tryz.func238 (by kernel_rfl) (by kernel_rfl) h
def dM.an:cF:= (.seq (.aq (.op 0 [] .nil)) (.seq (.aq (ae 0 2 .nil)) (.seq (.aq (ae 0 11 .nil)) (.seq (.aq (.op 0 [] .nil)) .leaf))))
def dM.res (b0 c1:Value):Prop:=
 ab Tryz.prog 128 #[b0] H0 fun x6 a_=>
 aB b0 fun x9=>
 aa 1 x9 fun cI=>
 al a_ cI fun cf=>
 aX a_ 5 1 [(.int .u8 0)] [(0,1,c1)] fun cQ bf=>
 bg bf 5 1 1 [(.int .u8 0)] cf cQ fun cx aO=>
 aB b0 fun cj=>
 aa 1 cj fun cS=>
 aE aO cS cx fun _ bn=>
 R .nilIface bn
theorem dM.vc (b0 c1:Value) (h:dM.res H0 R b0 c1):ab Tryz.prog 258 #[b0,c1] H0 R:=Tryz.vc dM.an Tryz.func258 (by kernel_rfl) (by kernel_rfl) h
def bA.an:cF:= (.seq (.aq (.op 0 [] .nil)) (.seq (.seq (.aq (ae 0 5 .nil)) (.cond (.seq (.aq (.op 0 [] .nil)) .leaf) .leaf)) (.seq (.seq (.aq (ae 0 3 .nil)) (.block (.loop [13] (4:: (5:: (ef 13 13 []))) (.seq (.aq (.op 0 [] .nil)) (.seq (.cond .leaf .leaf) (.seq (.block (.seq (.aq (ae 0 2 .nil)) (.seq (.iG [0,0,3,7,0,0,48,112,255] (ae 0 9 .nil)) (.cond (.seq (.aq (.op 0 [] .nil)) .leaf) .leaf)))) (.aq (ae 0 2 .nil)))))))) (.seq (.aq (.op 0 [] .nil)) .leaf))))
def bA.res (Ys Zu:Value):Prop:=
 dh Ys fun x7=>
 dh Zu fun x9=>
 ld 0 x7 x9 fun cI=>
 ar cI
 (R (.bool false) H0)
 (dh Ys fun cJ=>
 ∃ (ep:Value→ak→Prop) (fE:Value→ak→Nat),ep (.int .i64 0) H0∧
 ∀_:Env,∀cQ:Value,∀aO:ak,ep cQ aO→
 ec cQ cJ fun cx=>
 ar cx
 (aN 8 Ys cQ fun c_=>
 aF aO 8 c_ fun dj=>
 aN 8 Zu cQ fun da=>
 aF aO 8 da fun db=>
 J6 [1,0,0,0,0,0,0,1] dj db fun cX=>
 ar cX
 (R (.bool false) aO)
 (aK cQ (.int .i64 1) fun dq=>
 ep dq aO∧fE dq aO<fE cQ aO))
 (R (.bool true) aO))
theorem bA.vc (Ys Zu:Value) (h:bA.res H0 R Ys Zu):ab Tryz.prog 40 #[Ys,Zu] H0 R:=Tryz.vc bA.an Tryz.func40 (by kernel_rfl) (by kernel_rfl) h
def cD.an:cF:= (.seq (.aq (.op 0 [] .nil)) (.seq (.seq (.aq (ae 0 2 .nil)) (.cond (.seq (.aq (.op 0 [] .nil)) .leaf) .leaf)) (.seq (.aq (ae 0 4 .nil)) .leaf)))
def cD.res (s0:Value):Prop:=
 eA 4 s0 (.slice none 0 0) fun x4=>
 ar x4
 (R (.slice none 0 0) H0)
 (aX H0 44 0 [] [] fun x5 a_=>
 bg a_ 44 12 104 [(str []),(.int .i64 0),(.int .i64 0),(.int .i64 0),(.int .i64 0),(.int .i64 0),(.int .i64 0),(.int .u64 0),(.int .u64 0),(.int .u32 0),(.int .u64 0),(.bool false)] x5 s0 fun x7 bf=>
 R x7 bf)
theorem cD.vc (s0:Value) (h:cD.res H0 R s0):ab Tryz.prog 101 #[s0] H0 R:=Tryz.vc cD.an Tryz.func101 (by kernel_rfl) (by kernel_rfl) h
end
section
set_option maxRecDepth 100000
variable {H:ak} {R:Value→ak→Prop}
structure T6 where
 (y m d h n s:Int)
deriving DecidableEq
abbrev T6.cells (t:T6):Array Value:= #[.int .i64 t.y,.int .i64 t.m,.int .i64 t.d,.int .i64 t.h,.int .i64 t.n,.int .i64 t.s]
abbrev T6.v (t:T6):Value:= .agg t.cells
def T6.obj (t:T6):Obj:= .cells t.cells 40 (0,0)
def T6.zero:T6:= ⟨0,0,0,0,0,0⟩
def Vm (y:Int):Bool:=decide (y.tmod 4=0∧(y.tmod 100≠0∨y.tmod 400=0))
def iW (y m:Int):Int:=if m=4∨m=6∨m=9∨m=11 then 30 else if m=2 then (if Vm y then 29 else 28) else if m<1∨12<m then 0 else 31
def pQ (t:T6):Bool:=decide (1980≤t.y∧t.y≤2107∧1≤t.d∧t.d≤iW t.y t.m∧0≤t.h∧t.h<24∧0≤t.n∧t.n<60∧0≤t.s∧t.s<60∧t.s.tmod 2=0)
theorem NX {y:Int} (h:R (.bool (Vm y)) H):ab Tryz.prog 127 #[.int .i64 y] H R:=by
 refine tg.vc _ _ _ ?_;unfold tg.res;simp only [sD,ne_eq,Int.reduceEq,not_false_eq_true,bj,true_and,mP,kA,qk,KB,vU];exact fun _=>h
theorem wa {y m:Int} (h:R (.int .i64 (iW y m)) H):ab Tryz.prog 73 #[.int .i64 y,.int .i64 m] H R:=by
 refine tf.vc _ _ _ _ ?_;unfold tf.res;refine⟨fun v H' =>v= .bool (decide (m=4∨m=6∨m=9∨m=11))∧H' =H,?_,?_⟩
 ·rintro _ _ _ ⟨rfl,rfl⟩
  simp only [bU,aQ,kA,qk,bj];refine ax (fun hc=>?_) (fun hc=>?_)
  ·rw [iW,if_pos hc] at h;exact h
  rw [iW,if_neg hc] at h;refine ax (fun hc=>?_) (fun hc=>?_)
  ·rw [if_pos hc] at h
   refine NX ?_;refine fI (fun hl=>?_) (fun hl=>?_)
   ·rw [hl] at h;exact h
   ·rw [hl] at h;exact h
  rw [if_neg hc] at h
  intros
  refine ax (fun hc=>?_) (fun hc=>?_)
  ·rw [if_pos hc] at h;exact h
  ·rw [if_neg hc] at h;exact h
 ·simp only [and_true,bj]
  refine ax (fun hc=>?_) (fun hc=>?_)
  ·simp [hc]
  refine ax (fun hc=>?_) (fun hc=>?_)
  ·simp [hc]
  refine ax (fun hc=>?_) (fun hc=>?_)
  ·simp [hc]
  simp [*]
theorem wc {t:T6} (h: ∀H',Ext H H' →R (.bool (pQ t)) H'):ab Tryz.prog 94 #[t.v] H R:=by
 refine kK.vc _ _ _ ?_;unfold kK.res;refine jY fun H1 s1 e1 b1=>?_;have b1:H1[H.size]? =some t.obj:=b1;have h:=h H1 e1;simp only [ag,au,akp,vd b1,akl,qw,aj6,iU,ox,vU,akm]
 intros
 refine kn (d:=decide (t.d≤iW t.y t.m)) (fun _=>?_) ?_
 ·refine wa ?_
  simp only [vd b1,akm,akl,and_true,qw]
 simp only [vU,vd b1,akm,akl,iU,ox,aQ,sD,ne_eq,Int.reduceEq,not_false_eq_true,bj,true_and]
 intros
 refine MA ?_ h;rw [pQ,ala];simp only [decide_eq_true_eq,aj3]
 constructor<;>intro h<;>simp only [h,and_self,true_and,and_true]
def uH (t:T6):Int:=IntKind.u64.wrap (bitsOf .or .i64 (bitsOf .or .i64 t.d (IntKind.i64.wrap (t.m*2 ^ 5))) (IntKind.i64.wrap (IntKind.i64.wrap (t.y - 1980)*2 ^ 9)))
def uI (t:T6):Int:=IntKind.u64.wrap (bitsOf .or .i64 (bitsOf .or .i64 (IntKind.i64.wrap (t.s.tdiv 2)) (IntKind.i64.wrap (t.n*2 ^ 5))) (IntKind.i64.wrap (t.h*2 ^ 11)))
theorem KP {t:T6} (h: ∀H',Ext H H' →R (if pQ t then .tuple #[.int .u64 (uH t),.int .u64 (uI t),.bool true] else .tuple #[.int .u64 0,.int .u64 0,.bool false]) H'):ab Tryz.prog 197 #[t.v] H R:=by
 refine kL.vc _ _ _ ?_;unfold kL.res;refine jY fun H1 s1 e1 b1=>?_;have b1:H1[H.size]? =some t.obj:=b1;rw [eh b1 (by rfl)];refine wc fun H2 e2=>?_;have b2:=e2.ll b1;have h:=h H2 (e1.trans e2);simp only [ag,au,aj6,vd b2,akm,akl,jg,Int.reduceLE,true_and,Kz,ne_eq,Int.reduceEq,not_false_eq_true,dF,eH,akp,bE,fc];refine fI (fun hg=>?_) (fun hg=>?_)
 ·rw [if_neg (by simpa using hg)] at h;exact h
 ·rw [if_pos (by simpa using hg)] at h
  exact h
def Yt (d n:Int):T6:= ⟨d/512+1980,d/32%16,d%32,n/2048,n/32%64,n%32*2⟩
def Tg (d n:Int):Bool:=decide (d<65536∧n<65536) && pQ (Yt d n)
theorem HY {d n:Int} (hd:0≤d) (hn:0≤n) (h: ∀H',Ext H H' →R (.tuple #[(if Tg d n then Yt d n else T6.zero).v,.bool (Tg d n)]) H'):ab Tryz.prog 262 #[.int .u64 d,.int .u64 n] H R:=by
 refine oI.vc _ _ _ _ ?_;unfold oI.res;refine jY fun H1 s1 e1 b1=>?_;have b1:H1[H.size]? =some T6.zero.obj:=b1;simp only [iU,bG,fV,aj6,aj2,aj7,Nat.reduceAdd,Nat.reduceLeDiff,true_and,eH,dF,vf,oD,akI,List.kB,eN,iq,ql,Int.reduceLE,aC,ak9,ak1,xP,kA,qk]
 intros
 refine ax (fun hc=>?_) (fun hc=>?_)
 ·refine ei b1 (by rfl) (by rfl) (by rfl) fun H2 _ u2=>?_
  rw [eh u2.at_ (by rfl)];have h:=h H2 (u2.ext e1 (ajR _));rw [show Tg d n=false by simp [Tg];omega] at h;exact h
 have Zv:d<65536:=by omega
 have MF:n<65536:=by omega
 have f9:d.fdiv (2 ^ (min (9:Int).toNat IntKind.i64.bits))=d/512:=by rw [amb _ (by decide)];rfl
 have f5:d.fdiv (2 ^ (min (5:Int).toNat IntKind.i64.bits))=d/32:=by rw [amb _ (by decide)];rfl
 have g11:n.fdiv (2 ^ (min (11:Int).toNat IntKind.i64.bits))=n/2048:=by rw [amb _ (by decide)];rfl
 have g5:n.fdiv (2 ^ (min (5:Int).toNat IntKind.i64.bits))=n/32:=by rw [amb _ (by decide)];rfl
 simp only [bH (show -9223372036854775808≤d by omega) (show d≤9223372036854775807 by omega),bH (show -9223372036854775808≤n by omega) (show n≤9223372036854775807 by omega),f9,f5,g11,g5];rw [t_ (k:=4) (m:=15) (by decide) rfl,t_ (k:=5) (m:=31) (by decide) rfl,t_ (k:=6) (m:=63) (by decide) rfl,t_ (k:=5) (m:=31) (by decide) rfl,bH (by omega) (by omega),bH (by omega) (by omega)];refine jY fun H2 s2 e2 b2=>?_;have b2:H2[H1.size]? =some T6.zero.obj:=b2;refine ei b2 (by rfl) (by rfl) (by rfl) fun H3 _ u3=>?_;have b3:H3[H1.size]? =some (Yt d n).obj:=u3.at_;have a3:=u3.A5 (e2.ll b1) (by omega);have e3:Ext H H3:=u3.ext (e1.trans e2) (by omega);rw [eh b3 (by rfl)];refine wc (t:=Yt d n) fun H4 e4=>?_;have a4:=e4.ll a3;have b4:=e4.ll b3;simp only [fc];refine fI (fun hg=>?_) (fun hg=>?_)
 ·refine ei a4 (by rfl) (by rfl) (by rfl) fun H5 _ u5=>?_
  rw [eh u5.at_ (by rfl)];have h:=h H5 (u5.ext (e3.trans e4) (ajR _));rw [show Tg d n=false by simp [Tg];intros;simpa using hg] at h;exact h
 ·rw [eh b4 (by rfl)]
  refine ei a4 (by rfl) (by rfl) (by rfl) fun H5 _ u5=>?_;rw [eh u5.at_ (by rfl)];have h:=h H5 (u5.ext (e3.trans e4) (ajR _));rw [show Tg d n=true by simp [Tg];exact⟨⟨by omega,by omega⟩,by simpa using hg⟩] at h;exact h
def lD (y:Int):Int:=337+iW y 2
def mj:Nat→Int→Int→Int × Int
 |0,y,d=> (y,d)
 |k+1,y,d=>if d<lD y then (y,d) else mj k (y+1) (d - lD y)
def uJ:Nat→Int→Int→Int→Int × Int
 |0,_,m,d=> (m,d)
 |k+1,y,m,d=>if iW y m≤d then uJ k y (m+1) (d - iW y m) else (m,d)
def vn:Nat→Int→Int→Int
 |0,y,m=>iW y m
 |k+1,y,m=>iW y m+vn k y (m+1)
def Vn (n:Int):Option T6:=
 if n<0 then none else
 if 2107< (mj 128 1980 (n/43200)).1 then none else
 some ⟨(mj 128 1980 (n/43200)).1,(uJ 11 (mj 128 1980 (n/43200)).1 1 (mj 128 1980 (n/43200)).2).1,1+ (uJ 11 (mj 128 1980 (n/43200)).1 1 (mj 128 1980 (n/43200)).2).2,
  n%43200/1800,n%43200/30%60,n%43200%30*2⟩
theorem HZ (y:Int):28≤iW y 2∧iW y 2≤29:=by
 simp only [iW];simp;split<;>decide
theorem Q1 {y m:Int} (h1:1≤m) (h2:m≤12):28≤iW y m∧iW y m≤31:=by
 unfold iW
 split
 ·decide
 ·split
  ·split<;>decide
  ·rw [if_neg (by omega)];decide
theorem H_ (y:Int):vn 11 y 1=lD y:=by
 simp only [vn,lD,iW]
 simp
 split<;>rfl
set_option maxHeartbeats 1000000 in
theorem T1 {n:Int} (hn:n≤9223372036854775807) (h: ∀H',Ext H H' →R (.tuple #[((Vn n).getD T6.zero).v,.bool (Vn n).isSome]) H'):ab Tryz.prog 29 #[.int .i64 n] H R:=by
 refine zh.vc _ _ _ ?_;unfold zh.res;refine jY fun H1 s1 e1 b1=>?_;have b1:H1[H.size]? =some T6.zero.obj:=b1;simp only [bG,fV,oD,akI,aj2,aj7,aj6,Nat.reduceAdd,Nat.reduceLeDiff,List.kB,eN,ak9,iq,ak1,true_and,sD,ne_eq,Int.reduceEq,not_false_eq_true,vf,Kz,xP,aQ];refine ax (fun hc=>?_) (fun hc=>?_)
 ·refine ei b1 (by rfl) (by rfl) (by rfl) fun H2 _ u2=>?_
  rw [eh u2.at_ (by rfl)];have h:=h H2 (u2.ext e1 (ajR _));rw [Vn,if_pos hc] at h;exact h
 have EK:0≤n:=by omega
 rw [Vn,if_neg hc] at h;have q1:n.tdiv 43200=n/43200:=amp EK;have q2:n.tmod 43200=n%43200:=ale EK;have q3: (n%43200).tdiv 1800=n%43200/1800:=amp (by omega);have q4: (n%43200).tdiv 30=n%43200/30:=amp (by omega);have q5: (n%43200/30).tmod 60=n%43200/30%60:=ale (by omega);have q6: (n%43200).tmod 30=n%43200%30:=ale (by omega);simp only [q1,q2,q3,q4,bH (show -9223372036854775808≤n/43200 by omega) (show n/43200≤9223372036854775807 by omega),bH (show -9223372036854775808≤n%43200/1800 by omega) (show n%43200/1800≤9223372036854775807 by omega),bH (show -9223372036854775808≤n%43200/30 by omega) (show n%43200/30≤9223372036854775807 by omega),q5,q6,bH (show -9223372036854775808≤n%43200%30*2 by omega) (show n%43200%30*2≤9223372036854775807 by omega)];generalize hA:n%43200/1800=A at*;generalize hB:n%43200/30%60=B at*;generalize hC:n%43200%30*2=C at*;refine jY fun H2 s2 e2 b2=>?_;have b2:H2[H1.size]? =some T6.zero.obj:=b2;refine ei b2 (by rfl) (by rfl) (by rfl) fun H3 _ u3=>?_;have b3:H3[H1.size]? =some (T6.obj ⟨1980,1,1,A,B,C⟩):=u3.at_;have a3:H3[H.size]? =some T6.zero.obj:=u3.A5 (e2.ll b1) (by omega);have e3:Ext H H3:=u3.ext (e1.trans e2) (by omega);have d_:H.size≠H1.size:=by omega
 have hle:H.size≤H1.size:=by omega
 generalize H1.size=c at*;generalize hb:H.size=b at*;clear u3 b2 e2 s2 e1 s1 b1 q1 q2 q3 q4 q5 q6;generalize hD:n/43200=D at*;refine⟨fun v H' => ∃y d,v= .int .i64 d∧H'[c]? =some (T6.obj ⟨y,1,1,A,B,C⟩)∧H'[b]? =some T6.zero.obj∧Ext H H' ∧mj 128 1980 D= (y,d)∧(2107<y∨d<lD y)∧0≤d∧d≤D,?_,?_⟩
 ·rintro _ _ H4 ⟨y,d,rfl,c4,b4,e4,hy,hd,Ha,WK⟩
  rw [hy] at h
  dsimp only at h
  simp only [ag,au,aj6,akp];refine lQ c4 rfl ?_;simp only [bU];refine ax (fun lz=>?_) (fun lz=>?_)
  ·refine ei b4 (by rfl) (by rfl) (by rfl) fun H5 _ u5=>?_
   rw [eh u5.at_ (by rfl)];have h:=h H5 (u5.ext e4 (by omega));rw [if_pos lz] at h;exact h
  rw [if_neg lz] at h;have eF:d<vn 11 y 1:=by rw [H_];omega
  refine⟨fun v H' => ∃ (m e:Int) (k:Nat),v= .int .i64 e∧H'[c]? =some (T6.obj ⟨y,m,1,A,B,C⟩)∧H'[b]? =some T6.zero.obj∧Ext H H' ∧m+k=12∧1≤m∧uJ k y m e=uJ 11 y 1 d∧0≤e∧e<vn k y m∧e≤D,fun v _=>match v with| .int _ e=>e.toNat|_=>0,⟨1,d,11,rfl,c4,b4,e4,by omega,by omega,rfl,Ha,eF,WK⟩,?_⟩;rintro _ _ H5 ⟨m,e,k,rfl,c5,b5,e5,hk,hm,DT,WL,J1,Qn⟩;have hdm:=Q1 (y:=y) hm (show m≤12 by omega);refine lQ c5 rfl ?_;simp only [];refine lQ c5 rfl ?_;refine wa ?_;simp only [iU];refine ax (fun DU=>?_) (fun DU=>?_)
  ·refine lQ c5 rfl ?_
   simp only [];refine lQ c5 rfl ?_;refine wa ?_;simp only [bE];rw [bH (by omega) (by omega)];refine lQ c5 rfl ?_;simp only [aC];rw [bH (by omega) (by omega)];refine lB c5 (by simp [T6.cells]) rfl fun H6 _ u6=>?_
   match k,hk,DT,J1 with
   |0,hk,DT,J1=>simp only [vn] at J1;omega
   |k+1,hk,DT,J1=>
    simp only [vn] at J1;simp only [uJ,if_pos DU] at DT;exact⟨⟨m+1,e - iW y m,k,rfl,u6.at_,u6.A5 b5 (by omega),u6.ext e5 (by omega),by omega,by omega,DT,by omega,by omega,by omega⟩,by show (_:Int).toNat< (_:Int).toNat;omega⟩
  ·have hf:uJ 11 y 1 d= (m,e):=by
    rw [←DT]
    cases k with
    |zero=>rfl
    |succ k=>simp only [uJ,if_neg DU]
   rw [hf] at h;refine lQ c5 rfl ?_;simp only [aC];rw [bH (by omega) (by omega)];refine lB c5 (by simp [T6.cells]) rfl fun H6 _ u6=>?_;have c6:H6[c]? =some (T6.obj ⟨y,m,1+e,A,B,C⟩):=u6.at_;rw [eh c6 (by rfl)];refine ei (u6.A5 b5 (by omega)) (by rfl) (by rfl) (by rfl) fun H7 _ u7=>?_;rw [eh u7.at_ (by rfl)];have h:=h H7 (u7.ext (u6.ext e5 (by omega)) (by omega));exact h
 ·refine⟨fun v H' => ∃ (y d:Int) (k:Nat),v= .int .i64 d∧H'[c]? =some (T6.obj ⟨y,1,1,A,B,C⟩)∧H'[b]? =some T6.zero.obj∧Ext H H' ∧y+k=2108∧1980≤y∧mj k y d=mj 128 1980 D∧0≤d∧d≤D,fun v _=>match v with| .int _ e=>e.toNat|_=>0,⟨1980,D,128,rfl,b3,a3,e3,by omega,by omega,rfl,by omega,by omega⟩,?_⟩
  rintro _ _ H4 ⟨y,d,k,rfl,c4,b4,e4,hk,hy,NY,Ha,WK⟩;have h2:=HZ y;simp only [ag,au,akp];refine lQ c4 rfl ?_;simp only [qw];refine ax (fun lz=>?_) (fun lz=>?_)
  ·refine lQ c4 rfl ?_
   refine wa ?_;simp only [aC,bE,aQ];rw [bH (by omega) (by omega)]
   match k,hk,NY with
   |0,hk,NY=>omega
   |k+1,hk,NY=>
    have NY: (if d<lD y then (y,d) else mj k (y+1) (d - lD y))=mj 128 1980 D:=NY;refine ax (fun DU=>?_) (fun DU=>?_)
    ·rw [if_pos (show d<lD y from DU)] at NY
     exact⟨y,d,rfl,c4,b4,e4,NY.symm,.inr DU,Ha,WK⟩
    ·rw [if_neg (show ¬d<lD y from DU)] at NY
     rw [bH (by omega) (by omega)];refine lQ c4 rfl ?_;simp only [aC];rw [bH (by omega) (by omega)];refine lB c4 (by simp [T6.cells]) rfl fun H6 _ u6=>?_;exact⟨⟨y+1,d - (337+iW y 2),k,rfl,u6.at_,u6.A5 b4 (by omega),u6.ext e4 (by omega),by omega,by omega,NY,by omega,by omega⟩,by show (_:Int).toNat< (_:Int).toNat;omega⟩
  ·match k,hk,NY with
   |0,hk,NY=>exact⟨y,d,rfl,c4,b4,e4,NY.symm,.inl (by omega),Ha,WK⟩
   |k+1,hk,NY=>omega
end
end Go.Proofs.YtpcgccdmmoggmaaGreatDoor
namespace Go.Proofs
open Go.Shelf
section
open Go.RowKit in
open Go.RowKit in
open Go.RowKit in
open Go.RowKit in
def Tryz.An:Go.Shelf.Ren:= ⟨fun|156=>30|165=>74|166=>75|169=>76|240=>128|241=>129|276=>178|277=>179|n=>n,fun|31=>60|9=>9|3=>3|4=>4|0=>0|20=>20|72=>153|76=>156|70=>151|37=>82|75=>155|127=>200|164=>256|5=>5|80=>149|n=>n,fun|n=>n⟩
theorem Tryz.MG:Go.Proofs.Lays.n156 Tryz.prog Tryz.An:= {
 mixed:=by kernel_rfl
 f156:=Tryz.func30.trans (congrArg some (by kernel_rfl))
 f165:=Tryz.func74.trans (congrArg some (by kernel_rfl))
 f166:=Tryz.func75.trans (congrArg some (by kernel_rfl))
 f169:=Tryz.func76.trans (congrArg some (by kernel_rfl))
 f240:=Tryz.func128.trans (congrArg some (by kernel_rfl))
 f241:=Tryz.func129.trans (congrArg some (by kernel_rfl))
 f276:=Tryz.func178.trans (congrArg some (by kernel_rfl))
 f277:=Tryz.func179.trans (congrArg some (by kernel_rfl))
 t0:=Tryz.underlying0
 a0:=Tryz.isAgg0
 z0:=Tryz.sizeOf0
 v0:=Tryz.zeroValue0
 t3:=Tryz.underlying3
 a3:=Tryz.isAgg3
 z3:=Tryz.sizeOf3
 v3:=Tryz.zeroValue3
 t4:=Tryz.underlying4
 a4:=Tryz.isAgg4
 z4:=Tryz.sizeOf4
 v4:=Tryz.zeroValue4
 t9:=Tryz.underlying9
 a9:=Tryz.isAgg9
 z9:=Tryz.sizeOf9
 v9:=Tryz.zeroValue9
 t20:=Tryz.underlying20
 a20:=Tryz.isAgg20
 z20:=Tryz.sizeOf20
 v20:=Tryz.zeroValue20
 t31:=Tryz.underlying60
 a31:=Tryz.isAgg60
 z31:=Tryz.sizeOf60
 v31:=Tryz.zeroValue60
 t37:=Tryz.underlying82
 a37:=Tryz.isAgg82
 z37:=Tryz.sizeOf82
 v37:=Tryz.zeroValue82
 t70:=Tryz.underlying151
 a70:=Tryz.isAgg151
 z70:=Tryz.sizeOf151
 v70:=Tryz.zeroValue151
 t72:=Tryz.underlying153
 a72:=Tryz.isAgg153
 z72:=Tryz.sizeOf153
 v72:=Tryz.zeroValue153
 t75:=Tryz.underlying155
 a75:=Tryz.isAgg155
 z75:=Tryz.sizeOf155
 v75:=Tryz.zeroValue155
 t76:=Tryz.underlying156
 a76:=Tryz.isAgg156
 z76:=Tryz.sizeOf156
 v76:=Tryz.zeroValue156
 t127:=Tryz.underlying200
 a127:=Tryz.isAgg200
 z127:=Tryz.sizeOf200
 v127:=Tryz.zeroValue200
 t164:=Tryz.underlying256
 a164:=Tryz.isAgg256
 z164:=Tryz.sizeOf256
 v164:=Tryz.zeroValue256}
theorem Tryz.r4:Builder.Extra Tryz.prog Tryz.An:= {
 sizeBuilder:=by kernel_rfl
 liesBuilder:=by kernel_rfl
 t5:=Tryz.underlying5
 a5:=Tryz.isAgg5
 z5:=Tryz.sizeOf5
 v5:=Tryz.zeroValue5
 infoByte:=by kernel_rfl
 cellsByte:=by kernel_rfl
 sizeByte:=by kernel_rfl
 neB5:=by decide}
open Go.RowKit in
theorem Tryz.strings_Join_none (a:Option Addr) (c:Nat) (sep:ByteArray) (w:World):
  Calls Tryz.prog 30 #[.slice a 0 c,.string sep] w fun e w' =>e= .returned (.string ⟨#[]⟩)∧w' =w:=Any.strings_Join_none Tryz.MG Tryz.r4 a c sep w
open Go.RowKit in
theorem Tryz.strings_Join (bk o c:Nat) (xs:List ByteArray) (sep:ByteArray) (w:World) (mi: ∀ (j:Nat) x,xs[j]? =some x→w.cell? ⟨bk,o+j,none⟩=some (.string x)) (Y5:bk<w.heap.size) (hN:xs.length≤140737488355328) (Cg:xs.length≤c) (hlen: (Lib.join (xs.map (·.data.toList)) sep.data.toList).length≤140737488355328):
  Calls Tryz.prog 30 #[.slice (some ⟨bk,o,none⟩) xs.length c,.string sep] w fun e w' =>e= .returned (.string ⟨(Lib.join (xs.map (·.data.toList)) sep.data.toList).toArray⟩)∧Below w.heap.size w w' :=Any.strings_Join Tryz.MG Tryz.r4 bk o c xs sep w mi Y5 hN Cg hlen
open Go.RowKit Go.Lib in
open Go.RowKit Go.Lib in
open Go.RowKit Go.Lib in
open Go.RowKit Go.Lib in
open Go.RowKit Go.Lib in
def Tryz.Ia:Go.Shelf.Ren:= ⟨fun|143=>266|219=>283|217=>301|225=>302|224=>303|267=>304|266=>313|314=>314|n=>n,fun|9=>9|3=>3|4=>4|5=>5|46=>171|146=>217|51=>42|n=>n,fun|1=>1|n=>n⟩
theorem Tryz.T3:Go.Proofs.Lays.n143 Tryz.prog Tryz.Ia:= {
 mixed:=by kernel_rfl
 f143:=Tryz.func266.trans (congrArg some (by kernel_rfl))
 f217:=Tryz.func301.trans (congrArg some (by kernel_rfl))
 f219:=Tryz.func283.trans (congrArg some (by kernel_rfl))
 f224:=Tryz.func303.trans (congrArg some (by kernel_rfl))
 f225:=Tryz.func302.trans (congrArg some (by kernel_rfl))
 f266:=Tryz.func313.trans (congrArg some (by kernel_rfl))
 f267:=Tryz.func304.trans (congrArg some (by kernel_rfl))
 f314:=Tryz.func314.trans (congrArg some (by kernel_rfl))
 t3:=Tryz.underlying3
 a3:=Tryz.isAgg3
 z3:=Tryz.sizeOf3
 v3:=Tryz.zeroValue3
 t4:=Tryz.underlying4
 a4:=Tryz.isAgg4
 z4:=Tryz.sizeOf4
 v4:=Tryz.zeroValue4
 t5:=Tryz.underlying5
 a5:=Tryz.isAgg5
 z5:=Tryz.sizeOf5
 v5:=Tryz.zeroValue5
 t9:=Tryz.underlying9
 a9:=Tryz.isAgg9
 z9:=Tryz.sizeOf9
 v9:=Tryz.zeroValue9
 t46:=Tryz.underlying171
 a46:=Tryz.isAgg171
 z46:=Tryz.sizeOf171
 v46:=Tryz.zeroValue171
 t51:=Tryz.underlying42
 a51:=Tryz.isAgg42
 z51:=Tryz.sizeOf42
 v51:=Tryz.zeroValue42
 t146:=Tryz.underlying217
 a146:=Tryz.isAgg217
 z146:=Tryz.sizeOf217
 v146:=Tryz.zeroValue217
 g1:=by kernel_rfl}
open Go.RowKit Go.Lib in
theorem Tryz.strings_Index_one (s:ByteArray) (c:UInt8) (w:World):
  Calls Tryz.prog 266 #[.string s,.string ⟨#[c]⟩] w fun e w' =>e= .returned (.int .i64 (Lib.indexByte s.data.toList c))∧w' =w:=Any.strings_Index_one Tryz.T3 s c w
open Go.RowKit Go.Lib in
def Tryz.F5:Go.Shelf.Ren:= ⟨fun|17=>193|15=>237|20=>263|n=>n,fun|9=>9|23=>273|4=>4|3=>3|0=>0|21=>21|n=>n,fun|n=>n⟩
theorem Tryz.Q2:Go.Proofs.LaysGw.n17 Tryz.prog Tryz.F5:= {
 mixed:=by kernel_rfl
 f15:=Tryz.func237.trans (congrArg some (by kernel_rfl))
 f17:=Tryz.func193.trans (congrArg some (by kernel_rfl))
 f20:=Tryz.func263.trans (congrArg some (by kernel_rfl))
 t0:=Tryz.underlying0
 a0:=Tryz.isAgg0
 z0:=Tryz.sizeOf0
 v0:=Tryz.zeroValue0
 i0:=by kernel_rfl
 t3:=Tryz.underlying3
 a3:=Tryz.isAgg3
 z3:=Tryz.sizeOf3
 v3:=Tryz.zeroValue3
 i3:=by kernel_rfl
 t4:=Tryz.underlying4
 a4:=Tryz.isAgg4
 z4:=Tryz.sizeOf4
 v4:=Tryz.zeroValue4
 i4:=by kernel_rfl
 t9:=Tryz.underlying9
 a9:=Tryz.isAgg9
 z9:=Tryz.sizeOf9
 v9:=Tryz.zeroValue9
 i9:=by kernel_rfl
 t21:=Tryz.underlying21
 a21:=Tryz.isAgg21
 z21:=Tryz.sizeOf21
 v21:=Tryz.zeroValue21
 i21:=by kernel_rfl
 t23:=Tryz.underlying273
 a23:=Tryz.isAgg273
 z23:=Tryz.sizeOf273
 v23:=Tryz.zeroValue273
 i23:=by kernel_rfl}
open Go.RowKit Go.Lib in
theorem Tryz.strings_ContainsFunc (g:Nat) (lb:Array Value) (eg: ∀args w,(callFunc g args).run Tryz.prog w= .ok (.enter g args) w) (p:Nat→Bool) (s:ByteArray) (w:World) (hp:PredAt Tryz.prog g lb encR p w):
  Calls Tryz.prog 193 #[.string s,.func (.func g) #[] lb] w fun e w' =>e= .returned (.bool (decide (0≤Lib.idxFunc p true s)))∧Below w.heap.size w w' :=Any.strings_ContainsFunc Tryz.Q2 g lb eg p s w hp
def Tryz.Ao:Go.Shelf.Ren:= ⟨fun|105=>50|212=>105|99=>106|165=>74|166=>75|170=>100|169=>76|263=>150|264=>151|206=>152|240=>128|241=>129|276=>178|277=>179|n=>n,fun|9=>9|3=>3|4=>4|20=>20|0=>0|46=>171|109=>178|5=>5|72=>153|76=>156|51=>42|146=>217|53=>41|148=>219|70=>151|37=>82|75=>155|127=>200|164=>256|80=>149|n=>n,fun|n=>n⟩
theorem Tryz.T4:Go.Proofs.Lays.n105 Tryz.prog Tryz.Ao:= {
 mixed:=by kernel_rfl
 f99:=Tryz.func106.trans (congrArg some (by kernel_rfl))
 f105:=Tryz.func50.trans (congrArg some (by kernel_rfl))
 f165:=Tryz.func74.trans (congrArg some (by kernel_rfl))
 f166:=Tryz.func75.trans (congrArg some (by kernel_rfl))
 f169:=Tryz.func76.trans (congrArg some (by kernel_rfl))
 f170:=Tryz.func100.trans (congrArg some (by kernel_rfl))
 f206:=Tryz.func152.trans (congrArg some (by kernel_rfl))
 f212:=Tryz.func105.trans (congrArg some (by kernel_rfl))
 f240:=Tryz.func128.trans (congrArg some (by kernel_rfl))
 f241:=Tryz.func129.trans (congrArg some (by kernel_rfl))
 f263:=Tryz.func150.trans (congrArg some (by kernel_rfl))
 f264:=Tryz.func151.trans (congrArg some (by kernel_rfl))
 f276:=Tryz.func178.trans (congrArg some (by kernel_rfl))
 f277:=Tryz.func179.trans (congrArg some (by kernel_rfl))
 t0:=Tryz.underlying0
 a0:=Tryz.isAgg0
 z0:=Tryz.sizeOf0
 v0:=Tryz.zeroValue0
 t3:=Tryz.underlying3
 a3:=Tryz.isAgg3
 z3:=Tryz.sizeOf3
 v3:=Tryz.zeroValue3
 t4:=Tryz.underlying4
 a4:=Tryz.isAgg4
 z4:=Tryz.sizeOf4
 v4:=Tryz.zeroValue4
 t5:=Tryz.underlying5
 a5:=Tryz.isAgg5
 z5:=Tryz.sizeOf5
 v5:=Tryz.zeroValue5
 t9:=Tryz.underlying9
 a9:=Tryz.isAgg9
 z9:=Tryz.sizeOf9
 v9:=Tryz.zeroValue9
 t20:=Tryz.underlying20
 a20:=Tryz.isAgg20
 z20:=Tryz.sizeOf20
 v20:=Tryz.zeroValue20
 t37:=Tryz.underlying82
 a37:=Tryz.isAgg82
 z37:=Tryz.sizeOf82
 v37:=Tryz.zeroValue82
 t46:=Tryz.underlying171
 a46:=Tryz.isAgg171
 z46:=Tryz.sizeOf171
 v46:=Tryz.zeroValue171
 t51:=Tryz.underlying42
 a51:=Tryz.isAgg42
 z51:=Tryz.sizeOf42
 v51:=Tryz.zeroValue42
 t53:=Tryz.underlying41
 a53:=Tryz.isAgg41
 z53:=Tryz.sizeOf41
 v53:=Tryz.zeroValue41
 t70:=Tryz.underlying151
 a70:=Tryz.isAgg151
 z70:=Tryz.sizeOf151
 v70:=Tryz.zeroValue151
 t72:=Tryz.underlying153
 a72:=Tryz.isAgg153
 z72:=Tryz.sizeOf153
 v72:=Tryz.zeroValue153
 t75:=Tryz.underlying155
 a75:=Tryz.isAgg155
 z75:=Tryz.sizeOf155
 v75:=Tryz.zeroValue155
 t76:=Tryz.underlying156
 a76:=Tryz.isAgg156
 z76:=Tryz.sizeOf156
 v76:=Tryz.zeroValue156
 t109:=Tryz.underlying178
 a109:=Tryz.isAgg178
 z109:=Tryz.sizeOf178
 v109:=Tryz.zeroValue178
 t127:=Tryz.underlying200
 a127:=Tryz.isAgg200
 z127:=Tryz.sizeOf200
 v127:=Tryz.zeroValue200
 t146:=Tryz.underlying217
 a146:=Tryz.isAgg217
 z146:=Tryz.sizeOf217
 v146:=Tryz.zeroValue217
 t148:=Tryz.underlying219
 a148:=Tryz.isAgg219
 z148:=Tryz.sizeOf219
 v148:=Tryz.zeroValue219
 t164:=Tryz.underlying256
 a164:=Tryz.isAgg256
 z164:=Tryz.sizeOf256
 v164:=Tryz.zeroValue256}
theorem Tryz.x_:Builder.Extra Tryz.prog Tryz.Ao:= {
 sizeBuilder:=by kernel_rfl
 liesBuilder:=by kernel_rfl
 t5:=Tryz.underlying5
 a5:=Tryz.isAgg5
 z5:=Tryz.sizeOf5
 v5:=Tryz.zeroValue5
 infoByte:=by kernel_rfl
 cellsByte:=by kernel_rfl
 sizeByte:=by kernel_rfl
 neB5:=by decide}
open Go.RowKit Go.Lib in
open Go.RowKit Go.Lib in
open Go.RowKit Go.Lib in
open Go.RowKit Go.Lib in
open Go.RowKit Go.Lib in
theorem Tryz.strings_Repeat (s:ByteArray) (c:Nat) (w:World) (hc:c≤9223372036854775807) (hlen:s.size*c≤140737488355328):
  Calls Tryz.prog 50 #[.string s,.int .i64 c] w fun e w' =>e= .returned (.string ⟨(Lib.repeatL s.data.toList c).toArray⟩)∧Below w.heap.size w w' :=Any.strings_Repeat Tryz.T4 Tryz.x_ s c w hc hlen
def Tryz.zj:Go.Shelf.Ren:= ⟨fun|6=>244|15=>271|14=>270|28=>293|29=>294|20=>285|21=>286|22=>287|23=>288|24=>289|25=>290|26=>291|27=>292|46=>307|47=>308|48=>309|49=>310|50=>311|57=>318|n=>n,fun|22=>59|24=>3|25=>150|3=>3|39=>171|0=>0|53=>42|55=>41|4=>4|46=>371|45=>370|50=>305|5=>5|9=>9|66=>389|70=>393|76=>402|77=>326|n=>n,fun|n=>n⟩
theorem Tryz.Vo:Go.Proofs.SlLaysF.n6 Tryz.prog Tryz.zj:= {
 mixed:=by kernel_rfl
 f6:= ⟨Tryz.f244.name,by decide,Tryz.func244.trans (congrArg some (by kernel_rfl))⟩
 f14:= ⟨Tryz.f270.name,by decide,Tryz.func270.trans (congrArg some (by kernel_rfl))⟩
 f15:=Tryz.func271.trans (congrArg some (by kernel_rfl))
 f20:= ⟨Tryz.f285.name,by decide,Tryz.func285.trans (congrArg some (by kernel_rfl))⟩
 f21:= ⟨Tryz.f286.name,by decide,Tryz.func286.trans (congrArg some (by kernel_rfl))⟩
 f22:= ⟨Tryz.f287.name,by decide,Tryz.func287.trans (congrArg some (by kernel_rfl))⟩
 f23:= ⟨Tryz.f288.name,by decide,Tryz.func288.trans (congrArg some (by kernel_rfl))⟩
 f24:= ⟨Tryz.f289.name,by decide,Tryz.func289.trans (congrArg some (by kernel_rfl))⟩
 f25:= ⟨Tryz.f290.name,by decide,Tryz.func290.trans (congrArg some (by kernel_rfl))⟩
 f26:= ⟨Tryz.f291.name,by decide,Tryz.func291.trans (congrArg some (by kernel_rfl))⟩
 f27:= ⟨Tryz.f292.name,by decide,Tryz.func292.trans (congrArg some (by kernel_rfl))⟩
 f28:=Tryz.func293.trans (congrArg some (by kernel_rfl))
 f29:=Tryz.func294.trans (congrArg some (by kernel_rfl))
 f46:= ⟨Tryz.f307.name,by decide,Tryz.func307.trans (congrArg some (by kernel_rfl))⟩
 f47:=Tryz.func308.trans (congrArg some (by kernel_rfl))
 f48:=Tryz.func309.trans (congrArg some (by kernel_rfl))
 f49:= ⟨Tryz.f310.name,by decide,Tryz.func310.trans (congrArg some (by kernel_rfl))⟩
 f50:= ⟨Tryz.f311.name,by decide,Tryz.func311.trans (congrArg some (by kernel_rfl))⟩
 f57:= ⟨Tryz.f318.name,by decide,Tryz.func318.trans (congrArg some (by kernel_rfl))⟩
 t0:=Tryz.underlying0
 a0:=Tryz.isAgg0
 z0:=Tryz.sizeOf0
 v0:=Tryz.zeroValue0
 t3:=Tryz.underlying3
 a3:=Tryz.isAgg3
 z3:=Tryz.sizeOf3
 v3:=Tryz.zeroValue3
 t4:=Tryz.underlying4
 a4:=Tryz.isAgg4
 z4:=Tryz.sizeOf4
 v4:=Tryz.zeroValue4
 t5:=Tryz.underlying5
 a5:=Tryz.isAgg5
 z5:=Tryz.sizeOf5
 v5:=Tryz.zeroValue5
 t9:=Tryz.underlying9
 a9:=Tryz.isAgg9
 z9:=Tryz.sizeOf9
 v9:=Tryz.zeroValue9
 t22:=Tryz.underlying59
 a22:=Tryz.isAgg59
 z22:=Tryz.sizeOf59
 v22:=Tryz.zeroValue59
 a24:=Tryz.isAgg3
 z24:=Tryz.sizeOf3
 t25:=Tryz.underlying150
 a25:=Tryz.isAgg150
 z25:=Tryz.sizeOf150
 v25:=Tryz.zeroValue150
 t39:=Tryz.underlying171
 a39:=Tryz.isAgg171
 z39:=Tryz.sizeOf171
 v39:=Tryz.zeroValue171
 t45:=Tryz.underlying370
 a45:=Tryz.isAgg370
 z45:=Tryz.sizeOf370
 v45:=Tryz.zeroValue370
 t46:=Tryz.underlying371
 a46:=Tryz.isAgg371
 z46:=Tryz.sizeOf371
 v46:=Tryz.zeroValue371
 t50:=Tryz.underlying305
 a50:=Tryz.isAgg305
 z50:=Tryz.sizeOf305
 v50:=Tryz.zeroValue305
 t53:=Tryz.underlying42
 a53:=Tryz.isAgg42
 z53:=Tryz.sizeOf42
 v53:=Tryz.zeroValue42
 t55:=Tryz.underlying41
 a55:=Tryz.isAgg41
 z55:=Tryz.sizeOf41
 v55:=Tryz.zeroValue41
 t66:=Tryz.underlying389
 a66:=Tryz.isAgg389
 z66:=Tryz.sizeOf389
 v66:=Tryz.zeroValue389
 t70:=Tryz.underlying393
 a70:=Tryz.isAgg393
 z70:=Tryz.sizeOf393
 v70:=Tryz.zeroValue393
 t76:=Tryz.underlying402
 a76:=Tryz.isAgg402
 z76:=Tryz.sizeOf402
 v76:=Tryz.zeroValue402
 t77:=Tryz.underlying326
 a77:=Tryz.isAgg326
 z77:=Tryz.sizeOf326
 v77:=Tryz.zeroValue326}
end
end Go.Proofs
namespace Go.Vc
open Go
section
set_option maxRecDepth 100000
def iC (l:List (List UInt8)):List Value:=l.map fun s=>str s
theorem oJ (l:List (List UInt8)): (iC l).length=l.length:=by simp [iC]
theorem EN {l:List (List UInt8)} {i:Nat} (h:i<l.length): (iC l)[i]? =some (str l[i]):=by unfold iC;rw [ake,ajV h];rfl
theorem nK (l m:List (List UInt8)):iC (l++m)=iC l++iC m:=by simp [iC]
end
end Go.Vc
namespace Go.Proofs.YtpcgccdmmoggmaaGreatDoor
open Go Go.Vc Go.Proofs Go.RowKit
section
set_option maxRecDepth 100000
variable {H:ak} {R:Value→ak→Prop} {v:Value}
theorem ud {P:Program} {f:FuncId} {args:Array Value} {r:Value} (h: ∀w:World,w.heap=H→Calls P f args w fun e w' =>e= .returned r∧Below w.heap.size w w') (hk: ∀H',Ext H H' →R r H'):ab P f args H R:=
 fun w hw=> (h w hw).mono fun e w' ⟨he,hb⟩=> ⟨r,he,⟨hb.os,hb.output,hb.tape,fun h=>h.elim⟩,hk _ ⟨by rw [←hw];exact hb.size,fun k hk=>by rw [←hw] at hk ⊢;exact hb.block k hk⟩⟩
theorem Ap {P:Program} {f:FuncId} {args:Array Value} {r:Value} (h: ∀w:World,w.heap=H→Calls P f args w fun e w' =>e= .returned r∧w' =w) (hk:R r H):ab P f args H R:=
 fun w hw=> (h w hw).mono fun e w' ⟨he,hb⟩=> ⟨r,he,by rw [hb];exact dI.refl w,by rw [hb,hw];exact hk⟩
theorem Ib {s:List UInt8} {c:Nat} (hc:c≤9223372036854775807) (hlen:s.length*c≤140737488355328) (hk: ∀H',Ext H H' →R (str (Lib.repeatL s c)) H'):ab Tryz.prog 50 #[str s,.int .i64 (c:Int)] H R:=
 ud (fun w hw=>Tryz.strings_Repeat ⟨s.toArray⟩ c w hc (by show s.toArray.size*c≤_;rw [akI];exact hlen)) hk
theorem Cm (b:UInt8): ∀c,Lib.repeatL [b] c=List.replicate c b
 |0=>rfl
 |c+1=>by rw [Lib.repeatL,Cm b c];rfl
theorem EO (L:List (List UInt8)):Lib.join L []=L.flatten:=by
 unfold Lib.join
 induction L with
 |nil=>rfl
 |cons x L ih=>
  cases L with
  |nil=>simp [List.intercalate]
  |cons y L=>
   rw [List.intercalate] at ih ⊢;simp only [List.intersperse,akP,aj4] at ih ⊢;rw [ih]
theorem NZ {L:List (List UInt8)} (hs:Sl H v 1 (iC L)) (hN:L.length≤140737488355328) (hlen:L.flatten.length≤140737488355328) (hk: ∀H',Ext H H' →R (str L.flatten) H'):ab Tryz.prog 30 #[v,str []] H R:=by
 have hx: (L.map fun s:List UInt8=> (⟨s.toArray⟩:ByteArray)).map (fun x=>x.data.toList)=L:=by
  rw [al1];exact(alg (fun s _=>rfl)).trans (List.map_id _)
 by_cases h0:L= []
 ·subst h0
  rcases hs with ⟨rfl,_⟩ | ⟨a,m,cap,rfl,hm,Cg,hc⟩
  ·exact Ap (fun w hw=>Tryz.strings_Join_none none 0 ⟨#[]⟩ w) (hk H (Ext.refl H))
  ·have JZ:m=0:=by simp [iC] at hm;omega
   subst JZ;exact Ap (fun w hw=>Tryz.strings_Join_none (some a) cap ⟨#[]⟩ w) (hk H (Ext.refl H))
 rcases hs with ⟨rfl,h1⟩ | ⟨a,m,cap,rfl,hm,Cg,hc⟩
 ·exact absurd (List.map_eq_nil_iff.1 h1) h0
 rw [oJ,aj0] at hm;subst hm;have hl:0<L.length:=List.length_pos_iff.2 h0;have kz: ∀ (i:Nat) (h:i<L.length),cellAt H (a.add i)=some (str L[i]):=fun i h=>hc i _ (EN h);obtain⟨bk,o,sp⟩:=a;have D7:sp=none:=by
  have:=kz 0 hl
  cases sp with
  |none=>rfl
  |some x=>
   exfalso
   unfold cellAt Addr.add at this
   revert this
   simp only
   split<;>simp
 subst D7;refine ud (r:=str L.flatten) (fun w hw=>?_) hk;have Y5:bk<w.heap.size:=by
  have:=kz 0 hl;rw [hw];unfold cellAt at this;rcases akz bk H.size with g|g
  ·exact g
  ·rw [show (Addr.add ⟨bk,o,none⟩ 0).block=bk from rfl,aln g] at this
   cases this
 have Zw:=Tryz.strings_Join bk o cap (L.map fun s:List UInt8=> (⟨s.toArray⟩:ByteArray)) ⟨#[]⟩ w (fun j x hj=>by
  rw [ake] at hj
  cases hLj:L[j]? with
  |none=>rw [hLj] at hj;cases hj
  |some t=>
   rw [hLj] at hj;obtain⟨g1,g2⟩:=aku.1 hLj;have:=kz j g1;rw [←hw,au] at this;have e:x= ⟨t.toArray⟩:=by simpa using hj.symm
   rw [e,←g2];exact this) Y5 (by rw [aka];exact hN) (by rw [aka];exact Cg) (by rw [hx];show (Lib.join L []).length≤_;rw [EO];exact hlen)
 rw [aka,hx,show ((⟨#[]⟩:ByteArray).data.toList)= [] from rfl,EO] at Zw;exact Zw
end
end Go.Proofs.YtpcgccdmmoggmaaGreatDoor
namespace Go.Vc
open Go
section
set_option maxRecDepth 100000
theorem F6 {a b:Nat} (ha:a<4294967296) (hb:b<4294967296):bitsOf .xor .u32 (a:Int) (b:Int)= ((a ^^^ b:Nat):Int):=by
 have eF:a ^^^ b<2 ^ 32:=alD (by simpa using ha) (by simpa using hb);have e: ((BitVec.ofInt 32 (a:Int)) ^^^ (BitVec.ofInt 32 (b:Int))).toNat=a ^^^ b:=by
  rw [amM,akC,akC,akD,akD,aj_ (by omega),aj_ (by omega)]
 show IntKind.u32.wrap ((((BitVec.ofInt 32 (a:Int)) ^^^ (BitVec.ofInt 32 (b:Int))).toNat:Nat):Int)=_;rw [e,TT (by omega) (by omega)]
theorem T5 {a b:Nat} (ha:a<4294967296) (hb:b<4294967296):bitsOf .and .u32 (a:Int) (b:Int)= ((a &&& b:Nat):Int):=by
 have eF:a &&& b<2 ^ 32:=Nat.lt_of_le_of_lt Nat.and_le_left (by omega);have e: ((BitVec.ofInt 32 (a:Int)) &&& (BitVec.ofInt 32 (b:Int))).toNat=a &&& b:=by
  rw [am4,akC,akC,akD,akD,aj_ (by omega),aj_ (by omega)]
 show IntKind.u32.wrap ((((BitVec.ofInt 32 (a:Int)) &&& (BitVec.ofInt 32 (b:Int))).toNat:Nat):Int)=_;rw [e,TT (by omega) (by omega)]
end
section
set_option maxRecDepth 100000
def aW (v n:Nat):List Bool:= (List.range n).map fun i=>v.testBit i
def lE:List Bool→Nat
 | []=>0
 |b::l=>b.toNat+2*lE l
def toBits (l:List UInt8):List Bool:=l.flatMap fun b=>aW b.toNat 8
theorem aR (v n:Nat): (aW v n).length=n:=by simp [aW]
theorem w9 (v:Nat):aW v 0= []:=rfl
theorem N2 {v n i:Nat} (h:i<n): (aW v n)[i]? =some (v.testBit i):=by simp [aW,ak8 h]
theorem N3 {v w n:Nat} (h: ∀i,i<n→v.testBit i=w.testBit i):aW v n=aW w n:=by
 unfold aW;apply alg;intro i hi;exact h i (amq.1 hi)
theorem qP (v n:Nat):aW (v%2 ^ n) n=aW v n:=N3 fun i hi=>by rw [Nat.testBit_mod_two_pow];simp [hi]
theorem oK (v m n:Nat):aW v (m+n)=aW v m++aW (v/2 ^ m) n:=by
 unfold aW;rw [List.range_add,aky,al1]
 congr 1
 apply alg;intro i _;simp only [Function.comp];rw [Nat.testBit_div_two_pow,alw]
theorem w_ (v n:Nat):aW v (n+1)=v.testBit 0::aW (v/2) n:=by
 rw [alw,oK];rfl
theorem Cn {a v m n:Nat} (h:a<2 ^ m):aW (a+v*2 ^ m) (m+n)=aW a m++aW v n:=by
 rw [oK];have h1: (a+v*2 ^ m) /2 ^ m=v:=by
  rw [Nat.add_mul_div_right _ _ (alU m),Nat.div_eq_of_lt h,aj6]
 have h2:aW (a+v*2 ^ m) m=aW a m:=by
  rw [←qP,Nat.add_mul_mod_self_right,qP]
 rw [h1,h2]
theorem Aq: ∀ (l m:List Bool),lE (l++m)=lE l+2 ^ l.length*lE m
 | [],m=>by simp [lE]
 |b::l,m=>by
  rw [akX,lE,lE,Aq l m,aj2,akF,Nat.mul_add,←alM,akE 2 (2 ^ l.length),aly]
theorem lF: ∀ (n v:Nat),lE (aW v n)=v%2 ^ n
 |0,v=>by simp [aW,lE,amr]
 |n+1,v=>by
  rw [w_,lE,lF n,amc,akF,akE (2 ^ n) 2,Nat.mod_mul];rcases amd v with h|h<;>simp [h]
theorem ya: ∀ (l:List Bool),lE l<2 ^ l.length
 | []=>by simp [lE]
 |b::l=>by
  have:=ya l;rw [lE,aj2,akF]
  cases b<;>simp<;>omega
theorem xc: ∀ (l:List Bool),aW (lE l) l.length=l
 | []=>rfl
 |b::l=>by
  rw [aj2,w_,lE]
  congr 1
  ·rw [amc];cases b<;>simp<;>omega
  ·rw [show (b.toNat+2*lE l) /2=lE l by cases b<;>simp<;>omega,xc l]
theorem bs (l:List UInt8): (toBits l).length=8*l.length:=by
 induction l with
 |nil=>rfl
 |cons b l ih=>unfold toBits at ih ⊢;rw [alp,ajQ,ih,aR,aj2];omega
theorem ey (l m:List UInt8):toBits (l++m)=toBits l++toBits m:=by unfold toBits;rw [ano]
theorem r7 (b:UInt8) (l:List UInt8):toBits (b::l)=aW b.toNat 8++toBits l:=rfl
theorem Co (b:UInt8):toBits [b]=aW b.toNat 8:=by rw [r7];simp [toBits]
def a7:List Bool→List UInt8
 |a::b::c::d::e::f::g::h::l=>UInt8.ofNat (lE [a,b,c,d,e,f,g,h])::a7 l
 |_=> []
theorem wM {l:List Bool} (h:l.length<8):a7 l= []:=by
 match l,h with
 | [],_=>rfl
 | [_],_=>rfl
 | [_,_],_=>rfl
 | [_,_,_],_=>rfl
 | [_,_,_,_],_=>rfl
 | [_,_,_,_,_],_=>rfl
 | [_,_,_,_,_,_],_=>rfl
 | [_,_,_,_,_,_,_],_=>rfl
 |_::_::_::_::_::_::_::_::_,h=>simp at h;omega
theorem nL {x l:List Bool} (h:x.length=8):a7 (x++l)=UInt8.ofNat (lE x)::a7 l:=by
 match x,h with
 | [a,b,c,d,e,f,g,i],_=>rfl
theorem N4 (b:UInt8):UInt8.ofNat (lE (aW b.toNat 8))=b:=by
 rw [lF,aj_ b.toNat_lt]
 simp
theorem ry: ∀ (l:List UInt8) (r:List Bool),r.length<8→a7 (toBits l++r)=l
 | [],r,h=>wM h
 |b::l,r,h=>by
  rw [r7,ajT,nL (aR _ _),N4,ry l r h]
theorem qq (l:List UInt8):a7 (toBits l)=l:=by
 have:=ry l [] (by decide)
 rwa [akb] at this
theorem rz: ∀ (n:Nat) (l:List Bool),l.length=8*n→toBits (a7 l)=l
 |0,l,h=>by
  have:l= []:=anv (by omega);subst this;rfl
 |n+1,l,h=>by
  have e:l=l.take 8++l.drop 8:= (akf 8 l).symm;have h8: (l.take 8).length=8:=by rw [ajW];omega
  rw [e,nL h8,r7,rz n _ (by rw [aj1];omega)]
  congr 1
  rw [am_,aj_ (by have:=ya (l.take 8);rw [h8] at this;exact this)];have:=xc (l.take 8);rw [h8] at this;exact this
theorem pR: ∀ (n:Nat) (l:List Bool),l.length/8=n→(a7 l).length=n
 |0,l,h=>by rw [wM (by omega)];rfl
 |n+1,l,h=>by
  have e:l=l.take 8++l.drop 8:= (akf 8 l).symm;rw [e,nL (by rw [ajW];omega),aj2,pR n _ (by rw [aj1];omega)]
theorem yb {a v n:Nat} (h:a<2 ^ n):a|||v*2 ^ n=a+v*2 ^ n:=by
 rw [al7,akE v,←am7 h,alw]
theorem zk {a b:Nat} (ha:a<18446744073709551616) (hb:b<18446744073709551616):bitsOf .or .u64 (a:Int) (b:Int)= ((a|||b:Nat):Int):=by
 have eF:a|||b<2 ^ 64:=Nat.or_lt_two_pow (by simpa using ha) (by simpa using hb)
 have e: ((BitVec.ofInt 64 (a:Int)) ||| (BitVec.ofInt 64 (b:Int))).toNat=a|||b:=by
  rw [am6,akC,akC,akD,akD,aj_ (by omega),aj_ (by omega)]
 show IntKind.u64.wrap ((((BitVec.ofInt 64 (a:Int)) ||| (BitVec.ofInt 64 (b:Int))).toNat:Nat):Int)=_;rw [e,eX (by omega) (by omega)]
theorem F7 {a b:Nat} (ha:a<18446744073709551616) (hb:b<18446744073709551616):bitsOf .and .u64 (a:Int) (b:Int)= ((a &&& b:Nat):Int):=by
 have eF:a &&& b<2 ^ 64:=Nat.lt_of_le_of_lt Nat.and_le_left (by omega);have e: ((BitVec.ofInt 64 (a:Int)) &&& (BitVec.ofInt 64 (b:Int))).toNat=a &&& b:=by
  rw [am4,akC,akC,akD,akD,aj_ (by omega),aj_ (by omega)]
 show IntKind.u64.wrap ((((BitVec.ofInt 64 (a:Int)) &&& (BitVec.ofInt 64 (b:Int))).toNat:Nat):Int)=_;rw [e,eX (by omega) (by omega)]
theorem Cp {v n:Nat} (hv:v<18446744073709551616) (hn:n≤32):bitsOf .and .u64 (v:Int) (IntKind.u64.wrap (IntKind.u64.wrap (1*2 ^ min ((n:Int)).toNat IntKind.u64.bits) - 1))= ((v%2 ^ n:Nat):Int):=by
 have e:IntKind.u64.wrap (IntKind.u64.wrap (1*2 ^ min ((n:Int)).toNat IntKind.u64.bits) - 1)= ((2 ^ n - 1:Nat):Int):=by
  rw [show min ((n:Int)).toNat IntKind.u64.bits=n by show min ((n:Int)).toNat 64=n;omega];have hp: (2:Nat) ^ n≤2 ^ 32:=akd (by decide) hn;have h1:1≤(2:Nat) ^ n:=am5;rw [show (1:Int)*2 ^ n= ((2 ^ n:Nat):Int) by rw [Int.one_mul,alP];rfl];generalize (2:Nat) ^ n=P at hp h1 ⊢;rw [eX (n:= (P:Int)) (by omega) (by omega),eX (by omega) (by omega)];omega
 have hp: (2:Nat) ^ n≤2 ^ 32:=akd (by decide) hn;rw [e,F7 hv (by omega),ans]
theorem MH {v n:Nat} (h:v*2 ^ n<18446744073709551616) (hn:n≤64):IntKind.u64.wrap ((v:Int)*2 ^ min ((n:Int)).toNat IntKind.u64.bits)= ((v*2 ^ n:Nat):Int):=by
 rw [show min ((n:Int)).toNat IntKind.u64.bits=n by show min ((n:Int)).toNat 64=n;omega];rw [show (v:Int)*2 ^ n= ((v*2 ^ n:Nat):Int) by rw [Int.natCast_mul,alP];rfl];exact eX (by omega) (by omega)
theorem MI {k:IntKind} {v n:Nat} (hn:n≤k.bits): ((v:Nat):Int).fdiv (2 ^ min ((n:Int)).toNat k.bits)= ((v/2 ^ n:Nat):Int):=by
 rw [show min ((n:Int)).toNat k.bits=n by rw [ajS];omega];rw [amb _ (Int.le_of_lt (al5 (by decide))),show ((2:Int) ^ n)= ((2 ^ n:Nat):Int) by rw [alP];rfl,←Int.natCast_ediv]
theorem nM {n m j:Nat} (h:m=j): ((n:Nat):Int).fdiv (2 ^ m)= ((n/2 ^ j:Nat):Int):=by
 subst h;rw [amb _ (Int.le_of_lt (al5 (by decide))),show ((2:Int) ^ m)= ((2 ^ m:Nat):Int) by rw [alP];rfl,←Int.natCast_ediv]
theorem yc {v:Nat}:Value.int .u8 (IntKind.u8.wrap (v:Int))=cY (UInt8.ofNat (v%256)):=by
 unfold cY;rw [Mz,am_,show v%256%2 ^ 8=v%256 by omega]
 congr 1
theorem wN {v n:Nat} (h:8≤n):aW v n=toBits [UInt8.ofNat (v%256)]++aW (v/2 ^ 8) (n - 8):=by
 rw [Co,am_,show v%256%2 ^ 8=v%2 ^ 8 by omega,qP]
 conv=>lhs;rw [show n=8+ (n - 8) by omega]
 rw [oK]
end
section
set_option maxRecDepth 100000
def aP (n:Nat) (k:Nat):List UInt8:= (List.range k).map fun i=>UInt8.ofNat (n/256 ^ i%256)
def qs:List UInt8→Nat
 | []=>0
 |b::l=>b.toNat+256*qs l
theorem aD (n k:Nat): (aP n k).length=k:=by simp [aP]
theorem zm (n k:Nat):aP n (k+1)=aP n k++ [UInt8.ofNat (n/256 ^ k%256)]:=by
 unfold aP;rw [ame,aky];rfl
theorem yd: ∀ (l:List UInt8),qs l<256 ^ l.length
 | []=>by simp [qs]
 |b::l=>by
  have:=yd l;have hb:b.toNat<256:=b.toNat_lt;rw [qs,aj2,akF];omega
theorem Q3 {l:List UInt8} (h:l.length≤8):qs l<18446744073709551616:=by
 have h1:=yd l;have h2:256 ^ l.length≤256 ^ 8:=akd (by decide) h;have h3: (256:Nat) ^ 8=18446744073709551616:=by decide
 omega
theorem N5 {s:List UInt8} {j:Nat} (h:j<s.length):qs (s.drop j)=s[j].toNat+256*qs (s.drop (j+1)):=by
 rw [akN h];rfl
end
end Go.Vc
