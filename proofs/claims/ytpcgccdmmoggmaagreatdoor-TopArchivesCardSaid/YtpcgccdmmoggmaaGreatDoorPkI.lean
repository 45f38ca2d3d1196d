/- Part 9 of the proof of RowTopArchives: what it is built on, in the order of its needs. -/
import Derived.Test.YtpcgccdmmoggmaaGreatDoorPkH
set_option linter.unusedSimpArgs false
set_option linter.unusedVariables false
namespace Go.Proofs.YtpcgccdmmoggmaaGreatDoor
open Go Go.Vc Go.Proofs
section
set_option maxRecDepth 100000
variable {H H0 H' :ag} {R:Value→ag→Prop} {L:List It} {s:List UInt8} {x:Hd}
structure OI (x:Hd):Prop where
 sm:zf x
 nm: ∃i:Fin 5,x.nm=cZ (UInt8.ofNat (97+i.val))
theorem OI.len (g:OI x):x.nm.length=6:=by obtain⟨i,hi⟩:=g.nm;rw [hi];rfl
theorem OI.low (g:OI x): ∀c∈x.nm,c.toNat<128:=g.sm.nm.low
theorem oW {n k:Nat} (hn:n<18446744073709551616) (hk:k≤8) (h: ∀H',Ext H H' →R (str (aA n k)) H'):ab 78 #[.int .u64 (n:Int),.int .i64 (k:Int)] H R:=by
 refine Ir hn fun H1 hx=>?_;rw [if_pos (by omega),aiY];exact h H1 hx
theorem eA {n:Nat} (hn:n<18446744073709551616) (h: ∀H',Ext H H' →R (str (aA n 2)) H'):ab 79 #[.int .u64 (n:Int)] H R:=by
 refine yo.vc _ _ _ ?_;exact oW (k:=2) hn (by decide) h
theorem ij {n:Nat} (hn:n<18446744073709551616) (h: ∀H',Ext H H' →R (str (aA n 4)) H'):ab 80 #[.int .u64 (n:Int)] H R:=by
 refine yp.vc _ _ _ ?_;exact oW (k:=4) hn (by decide) h
theorem qg (g:OI x) (h: ∀H',Ext H H' →R (.bool true) H'):ab 82 #[x.v] H R:=by
 have g1:=g.sm.p;have g2:=g.sm.z;have g3:=g.sm.a;have g4:=g.sm.k;obtain⟨i,hi⟩:=g.nm;refine uV.vc _ _ _ ?_;refine(au.start (H:=H)).box fun b H1 o _=>?_;have o:au H H1 [.box b x.cells 88]:=o;refine aj ?_;refine o.aw (b:=b) (f:=0+0) (w:=str x.nm) ?_;rw [hi];refine CF i ?_;refine bs ?_;refine aj ?_;refine dz (o.j8 (b:=b)) (ws:=x.t.cells.toList) rfl (ai7 rfl) ?_;refine Fh (t:=x.t) fun H2 ea=>?_;have o:=o.more ea;rw [g.sm.t];intro _;refine bs ?_;refine aj ?_;refine o.aw (b:=b) (f:=0+7) (w:= .int .u64 (x.p:Int)) ?_;rw [aO,nR];intro _;refine bs ?_;refine aj ?_;refine o.aw (b:=b) (f:=0+8) (w:= .int .u64 (x.z:Int)) ?_;rw [aO,nR];intro _;refine bs ?_;refine aj ?_;refine o.aw (b:=b) (f:=0+10) (w:= .int .u64 (x.a:Int)) ?_;rw [aO,nR];intro _;refine bs ?_;refine aj ?_;refine o.aw (b:=b) (f:=0+11) (w:= .bool x.k) ?_;refine dj ?_;refine gu (d:=decide (x.p+x.z=0)) (fun _=>?_) ?_
 ·refine aj ?_
  refine o.aw (b:=b) (f:=0+7) (w:= .int .u64 (x.p:Int)) ?_;refine aj ?_;refine o.aw (b:=b) (f:=0+8) (w:= .int .u64 (x.z:Int)) ?_;rw [ay,cF (by omega) (by omega),aZ];exact⟨by congr 1;exact decide_eq_decide.2 (by omega),rfl⟩
 ·intro _
  have e: ((!x.k) ||decide (x.p+x.z=0))=true:=by
   cases hk:x.k with
   |false=>rfl
   |true=>obtain⟨q1,q2⟩:=g4 hk;rw [q1,q2];rfl
  rw [e];intro _;exact h H2 o.ext
theorem xg (g:OI x) (h: ∀H',Ext H H' →R (.bool false) H'):ab 83 #[x.v] H R:=by
 have g1:=g.sm.p;have g2:=g.sm.z;refine wH.vc _ _ _ ?_;refine(au.start (H:=H)).box fun b H1 o _=>?_;have o:au H H1 [.box b x.cells 88]:=o;refine aj ?_;refine o.aw (b:=b) (f:=0+8) (w:= .int .u64 (x.z:Int)) ?_;rw [bc,ei];refine aM ?_;refine aj ?_;refine o.aw (b:=b) (f:=0+7) (w:= .int .u64 (x.p:Int)) ?_;rw [bc,ei];intro _;exact h H1 o.ext
theorem vH (g:OI x) (h: ∀H',Ext H H' →R (str (bW x)) H'):ab 84 #[x.v] H R:=by
 have Qb:=g.low;have hlen:=g.len;obtain⟨d1,d2,d3,d4,d5,d6,-⟩:=Re g.sm.t;obtain⟨hy0,Ym,FF,Xe,y5,Pw,hh0,hh1,Ad,Ct,YE,ja,lL⟩:=tY g.sm.t;have hb:=yf x.t.y x.t.m;have ht: (fy x.t:Int)=nk x.t:=ajX d5;have hd: (fq x.t:Int)=nj x.t:=ajX d3;refine sA.vc _ _ _ ?_;refine(au.start (H:=H)).box fun b H1 o _=>?_;have o:au H H1 [.box b x.cells 88]:=o;refine⟨fun f m H' =>f= .int .u64 (x.eN:Int)∧m= .int .u64 (x.eN:Int)∧au H H' [.box b x.cells 88],?_,?_⟩
 ·clear o
  rintro _ _ _ H2 ⟨rfl,rfl,o⟩;refine⟨fun p i H' => ∃k:Nat,p= .bool true∧i=i64 k∧k≤6∧au H H' [.box b x.cells 88],fun _ i _=>match i with| .int _ y=> (6 - y).toNat|_=>0,⟨0,rfl,rfl,by decide,o⟩,?_⟩;clear o;rintro _ _ _ H3 ⟨k,rfl,rfl,hk,o⟩;refine aj ?_;refine o.aw (b:=b) (f:=0+0) (w:=str x.nm) ?_;refine aC ?_;rw [aO];refine av (fun hc=>?_) (fun hc=>?_)
  ·have LB:k<x.nm.length:=by omega
   refine bs ?_;refine aj ?_;refine o.aw (b:=b) (f:=0+0) (w:=str x.nm) ?_;rw [cc,bB];refine⟨by omega,by omega,?_⟩;rw [aiY,show x.nm.getD k 0=x.nm[k] by rw [ai3,ai1 LB];rfl];have:=Qb _ (ai9 LB);rw [aO,nR];intro _;rw [ay,aJ];exact⟨⟨k+1,rfl,rfl,by omega,o⟩,by show (_:Int).toNat< (_:Int).toNat;omega⟩
  ·refine⟨fun f H' =>f= .int .u64 (x.eN:Int)∧au H H' [.box b x.cells 88],?_,?_⟩
   ·clear o
    rintro _ _ H4 ⟨rfl,o⟩;have UH:x.eN≤8:=by unfold Hd.eN;split<;>decide
    refine aj ?_;refine dz (o.j8 (b:=b)) (ws:=x.t.cells.toList) rfl (ai7 rfl) ?_;refine o.box fun t H5 o _=>?_;refine o.cz (b:=t) (vs:=x.t.cells.toList) fun H6 o _=>?_;refine aj ?_;refine o.aw (b:=t) (f:=0+5) (w:= .int .i64 x.t.s) ?_;rw [iL];refine⟨by decide,?_⟩;rw [akr YE,aJ];refine aj ?_;refine o.aw (b:=t) (f:=0+4) (w:= .int .i64 x.t.n) ?_;rw [gw,aJ,ay,aJ];refine aj ?_;refine o.aw (b:=t) (f:=0+3) (w:= .int .i64 x.t.h) ?_;rw [gw,aJ,ay,aJ];refine a8 ?_;rw [cF (by omega) (by omega),show (x.t.s/2+32*x.t.n+2048*x.t.h)= ((fy x.t:Nat):Int) by rw [ht,d2]];refine aj ?_;refine o.aw (b:=t) (f:=0+2) (w:= .int .i64 x.t.d) ?_;refine aj ?_;refine o.aw (b:=t) (f:=0+1) (w:= .int .i64 x.t.m) ?_;rw [gw,aJ,ay,aJ];refine aj ?_;refine o.aw (b:=t) (f:=0+0) (w:= .int .i64 x.t.y) ?_;rw [bq,aJ,gw,aJ,ay,aJ];refine a8 ?_;rw [cF (by omega) (by omega),show (x.t.d+32*x.t.m+512* (x.t.y - 1980))= ((fq x.t:Nat):Int) by rw [hd,d1]];refine eA (by omega) fun H7 B8=>?_;have o:=o.more B8;refine⟨o.aw (b:=t) (f:=0+5) rfl,o.aw (b:=t) (f:=0+4) rfl,o.aw (b:=t) (f:=0+3) rfl,o.aw (b:=t) (f:=0+2) rfl,o.aw (b:=t) (f:=0+1) rfl,o.aw (b:=t) (f:=0+0) rfl,?_⟩;refine eA (by omega) fun H8 B9=>?_;have o:=o.more B9;refine⟨o.aw (b:=t) (f:=0+5) rfl,o.aw (b:=t) (f:=0+4) rfl,o.aw (b:=t) (f:=0+3) rfl,o.aw (b:=t) (f:=0+2) rfl,o.aw (b:=t) (f:=0+1) rfl,o.aw (b:=t) (f:=0+0) rfl,?_⟩;refine aQ (by simp only [az];omega) ?_;refine eA (by omega) fun H9 J2=>?_;have o:=o.more J2;refine⟨o.aw (b:=t) (f:=0+2) rfl,o.aw (b:=t) (f:=0+1) rfl,o.aw (b:=t) (f:=0+0) rfl,?_⟩;refine aQ (by simp only [az,aiV];omega) ?_;refine eA (by omega) fun B_ w9=>?_;have o:=o.more w9;refine aQ (by simp only [az,aiV];omega) ?_;exact h B_ o.ext
   ·refine dj ?_
    rw [show (!true)=false from rfl,ak];exact⟨rfl,o⟩
 ·refine aj ?_
  refine o.aw (b:=b) (f:=0+11) (w:= .bool x.k) ?_;unfold Hd.eN
  cases x.k with
  |true=>rw [aL];exact⟨rfl,rfl,o⟩
  |false=>rw [ak];exact⟨rfl,rfl,o⟩
theorem Iu (g:OI x) (h: ∀H',Ext H H' →R (str (bM x)) H'):ab 35 #[x.v] H R:=by
 have g1:=g.sm.p;have g2:=g.sm.z;have g3:=g.sm.u;refine s8.vc _ _ _ ?_;refine(au.start (H:=H)).box fun b H1 o _=>?_;have o:au H H1 [.box b x.cells 88]:=o;refine o.bh (b:=b) ?_;refine qg g fun H2 ea=>?_;have o:=o.more ea;refine dj ?_;rw [show (!true)=false from rfl];refine aM ?_;refine aj ?_;refine o.aw (b:=b) (f:=0+11) (w:= .bool x.k) ?_;intro _;unfold bM at h
 cases hk:x.k with
 |true=>
  rw [hk] at h;rw [aL];exact h H2 o.ext
 |false=>
  rw [hk] at h;rw [ak];refine⟨fun n H' =>n= .int .i64 4∧au H H' [.box b x.cells 88],?_,?_⟩
  ·clear o
   rintro _ _ H3 ⟨rfl,o⟩;refine aj ?_;refine o.aw (b:=b) (f:=0+9) (w:= .int .u32 (x.u:Int)) ?_;refine a8 ?_;rw [cF (by omega) (by omega)];refine aj ?_;refine o.aw (b:=b) (f:=0+7) (w:= .int .u64 (x.p:Int)) ?_;refine aj ?_;refine o.aw (b:=b) (f:=0+8) (w:= .int .u64 (x.z:Int)) ?_;refine ij (by omega) fun H4 mP=>?_;have o:=o.more mP;refine⟨o.aw (b:=b) (f:=0+7) rfl,o.aw (b:=b) (f:=0+8) rfl,?_⟩;refine aQ (by simp only [az,ai6,ai_];omega) ?_;refine oW (k:=4) (by omega) (by decide) fun H5 nS=>?_;have o:=o.more nS;refine⟨o.aw (b:=b) (f:=0+8) rfl,?_⟩;refine aQ (by simp only [az,ai6,ai_,aiV];omega) ?_;refine oW (k:=4) (by omega) (by decide) fun H6 pc=>?_;refine aQ (by simp only [az,ai6,ai_,aiV];omega) ?_;exact h H6 (o.ext.trans pc)
  ·refine o.bh (b:=b) ?_
   refine xg g fun H3 nx=>?_;rw [ak];exact⟨rfl,o.more nx⟩
end
section
set_option maxRecDepth 100000
variable {H H0 H' :ag} {R:Value→ag→Prop} {L:List It} {s:List UInt8} {x:Hd}
inductive Wh where
 |is (w:Value)
 |row (c:List Value)
 |len (k:Nat)
def Wh.ok (v:Value) (H:ag):Wh→Prop
 | .is w=>v=w
 | .row c=>Sl H v 1 c
 | .len k=> ∃q,v=str q∧q.length=k
def VP (l:List Wh) (i:Nat) (v:Value) (H:ag):Prop:=match l[i]? with
 |some w=>w.ok v H
 |none=>True
theorem K3 (l:List Wh): ∀ (i:Nat) (v:Value) (H1 H2:ag),Ext H1 H2→VP l i v H1→VP l i v H2:=by
 intro i v H1 H2 hx h;unfold VP at h ⊢
 split at h
 ·rename_i w hw
  cases w with
  |is w=>exact h
  |row c=>exact Sl.ext h hx
  |len k=>exact h
 ·trivial
theorem fw {a b:List UInt8} {x y:Value} {K:Value→Prop} (h1:x=str a) (h2:y=str b) (hl:a.length+b.length≤9223372036854775807) (hk:K (str (a++b))):aB x y K:=by
 subst h1 h2;exact aQ hl hk
theorem ik {m n:Nat} {x y:Value} {K:Value→Prop} (h1: ∃q,x=str q∧q.length=m) (h2: ∃q,y=str q∧q.length=n) (hl:m+n≤9223372036854775807) (hk: ∀q,q.length=m+n→K (str q)):aB x y K:=by
 obtain⟨a,rfl,ha⟩:=h1;obtain⟨b,rfl,hb⟩:=h2;exact aQ (by omega) (hk _ (by rw [aiV];omega))
theorem BU {n:Nat} {m:Int} {K:Value→ag→Prop} {e:TypeId} (hm:m= (n:Int)) (hn:n≤100) (hk: ∀y H',Ext H H' →Sl H' y 1 ((List.replicate n (0:UInt8)).map bu)→K y H'):dB H e 1 [.int .u8 0] (.int .i64 m) (.int .i64 m) K:=by
 subst hm;refine(au.start (H:=H)).qh (by omega) (by omega) (by omega) fun y H' o=>?_;refine hk y H' o.ext ?_;have:=o.cf (v:=y);rw [aiY] at this;rw [List.map_replicate];exact this
theorem Iv (g:OI x) (h: ∀H',Ext H H' →R (str (bA x)) H'):ab 34 #[x.v] H R:=by
 have hlen:=g.len;have dM:=fk x;refine s7.vc _ _ _ ?_;refine(au.start (H:=H)).box fun b H1 o _=>?_;have o:au H H1 [.box b x.cells 88]:=o;refine o.bh (b:=b) ?_;refine qg g fun H2 ea=>?_;have o:=o.more ea;refine dj ?_;rw [show (!true)=false from rfl,ak];refine o.bh (b:=b) ?_;refine xg g fun H3 nx=>?_;have o:=o.more nx;rw [ak];obtain⟨n,hn⟩: ∃n,x.nm.length=n:= ⟨_,rfl⟩;have L_:n=6:=by omega
 refine⟨VP [.is (str (aA 20 2)),.is (str ([80,75,3,4]++aA 20 2)),.is x.v,.is (str (bW x)),.is (str ([80,75,3,4]++aA 20 2++bW x)),.row ((List.replicate 12 (0:UInt8)).map bu),.is (str (List.replicate 12 0)),.is (str ([80,75,3,4]++aA 20 2++bW x++List.replicate 12 0)),
  .is (at_ b (0+0)),.is (str x.nm),.is (i64 n),.is (.int .u64 (n:Int)),.is (str (aA n 2)),.is (str ([80,75,3,4]++aA 20 2++bW x++List.replicate 12 0++aA n 2)),.is (str (aA 0 2)),.is (str ([80,75,3,4]++aA 20 2++bW x++List.replicate 12 0++aA n 2++aA 0 2)),
  .is (at_ b (0+0)),.is (str x.nm),.is (str ([80,75,3,4]++aA 20 2++bW x++List.replicate 12 0++aA n 2++aA 0 2++x.nm)),.is (str ([80,75,3,4]++aA 20 2++bW x++List.replicate 12 0++aA n 2++aA 0 2++x.nm))],K3 _,?_⟩
 refine⟨fun _ H1 hx=>eA (n:=20) (by decide) fun H2 ea=> ⟨ea,rfl⟩,
  fun _ v H1 hx h1=>fw rfl h1 (by simp [az]) ⟨Ext.refl _,rfl⟩,
  fun _ H1 hx=> (o.more hx).bh (b:=b) ⟨Ext.refl _,rfl⟩,
  fun _ v H1 hx h1=>?_,
  fun _ v w H1 hx h1 h2=>fw h1 h2 (by simp [az,dM]) ⟨Ext.refl _,rfl⟩,
  fun _ H1 hx=>BU (n:=12) rfl (by decide) fun y H2 ea hy=> ⟨ea,hy⟩,
  fun _ v H1 hx h1=>Sl.str h1 ⟨Ext.refl _,rfl⟩,
  fun _ v w H1 hx h1 h2=>fw h1 h2 (by simp [az,dM]) ⟨Ext.refl _,rfl⟩,
  fun _ H1 hx=>aj ⟨Ext.refl _,rfl⟩,
  fun _ v H1 hx h1=>?_,
  fun _ v H1 hx h1=>?_,
  fun _ v H1 hx h1=>?_,
  fun _ v H1 hx h1=>?_,
  fun _ v w H1 hx h1 h2=>fw h1 h2 (by simp [az,dM]) ⟨Ext.refl _,rfl⟩,
  fun _ H1 hx=>eA (n:=0) (by decide) fun H2 ea=> ⟨ea,rfl⟩,
  fun _ v w H1 hx h1 h2=>fw h1 h2 (by simp [az,dM]) ⟨Ext.refl _,rfl⟩,
  fun _ H1 hx=>aj ⟨Ext.refl _,rfl⟩,
  fun _ v H1 hx h1=>?_,
  fun _ v w H1 hx h1 h2=>fw h1 h2 (by simp [az,dM,hn,L_]) ⟨Ext.refl _,rfl⟩,
  fun _ v H1 hx h1=> ⟨Ext.refl _,h1⟩,
  fun _ v H1 hx h1=>?_⟩
 ·obtain rfl:v=x.v:=h1
  exact vH g fun H2 ea=> ⟨ea,rfl⟩
 ·obtain rfl:v=at_ b (0+0):=h1
  exact(o.more hx).aw (b:=b) (f:=0+0) (w:=str x.nm) ⟨Ext.refl _,rfl⟩
 ·obtain rfl:v=str x.nm:=h1
  refine aC ⟨Ext.refl _,?_⟩;rw [hn]
  rfl
 ·obtain rfl:v=i64 n:=h1
  refine a8 ⟨Ext.refl _,?_⟩;rw [cF (by omega) (by omega)]
  rfl
 ·obtain rfl:v= .int .u64 (n:Int):=h1
  exact eA (by omega) fun H2 ea=> ⟨ea,rfl⟩
 ·obtain rfl:v=at_ b (0+0):=h1
  exact(o.more hx).aw (b:=b) (f:=0+0) (w:=str x.nm) ⟨Ext.refl _,rfl⟩
 ·obtain rfl:v=str ([80,75,3,4]++aA 20 2++bW x++List.replicate 12 0++aA n 2++aA 0 2++x.nm):=h1
  rw [←hn];exact h H1 (o.ext.trans hx)
theorem CG (g:OI x) (h: ∀H',Ext H H' →R (str (eu x)) H'):ab 81 #[x.v] H R:=by
 have hlen:=g.len;have dM:=fk x;have g1:=g.sm.p;have g2:=g.sm.z;have g3:=g.sm.u;have g4:=g.sm.a;refine q9.vc _ _ _ ?_;refine(au.start (H:=H)).box fun b H1 o _=>?_;have o:au H H1 [.box b x.cells 88]:=o;refine o.bh (b:=b) ?_;refine qg g fun H2 ea=>?_;have o:=o.more ea;refine dj ?_;rw [show (!true)=false from rfl,ak];refine aj ?_;refine o.aw (b:=b) (f:=0+7) (w:= .int .u64 (x.p:Int)) ?_;refine aj ?_;refine o.aw (b:=b) (f:=0+8) (w:= .int .u64 (x.z:Int)) ?_;refine aj ?_;refine o.aw (b:=b) (f:=0+10) (w:= .int .u64 (x.a:Int)) ?_;refine⟨fun v p z e H' =>v= .int .u64 20∧p= .int .u64 (x.p:Int)∧z= .int .u64 (x.z:Int)∧e=str []∧au H H' [.box b x.cells 88],?_,?_⟩
 rotate_left
 ·refine o.bh (b:=b) ?_
  refine xg g fun H3 nx=>?_;rw [ak];exact⟨rfl,rfl,rfl,rfl,o.more nx⟩
 clear o;rintro _ _ _ _ _ H3 ⟨rfl,rfl,rfl,rfl,o⟩;refine⟨fun v a e H' =>v= .int .u64 20∧a= .int .u64 (x.a:Int)∧e=str []∧au H H' [.box b x.cells 88],?_,?_⟩
 rotate_left
 ·refine aj ?_
  refine o.aw (b:=b) (f:=0+10) (w:= .int .u64 (x.a:Int)) ?_;rw [bc,ei,ak];exact⟨rfl,rfl,rfl,o⟩
 clear o;rintro _ _ _ _ H4 ⟨rfl,rfl,rfl,o⟩;refine⟨fun e H' =>e=str []∧au H H' [.box b x.cells 88],?_,?_⟩
 rotate_left
 ·refine fJ ?_
  rw [yZ,ak];exact⟨rfl,o⟩
 clear o;rintro _ _ H5 ⟨rfl,o⟩;obtain⟨n,hn⟩: ∃n,x.nm.length=n:= ⟨_,rfl⟩;have L_:n=6:=by omega
 refine⟨VP (Wh.is (.int .u64 20)::
  Wh.is (str (aA 20 2))::
  Wh.is (str ([80,75,1,2]++aA 20 2))::
  Wh.is (.int .u64 20)::
  Wh.is (str (aA 20 2))::
  Wh.is (str ([80,75,1,2]++aA 20 2++aA 20 2))::
  Wh.is x.v::
  Wh.is (str (bW x))::
  Wh.is (str ([80,75,1,2]++aA 20 2++aA 20 2++bW x))::
  Wh.is (at_ b (0+9))::
  Wh.is (.int .u32 (x.u:Int))::
  Wh.is (.int .u64 (x.u:Int))::
  Wh.is (str (aA x.u 4))::
  Wh.is (str ([80,75,1,2]++aA 20 2++aA 20 2++bW x++aA x.u 4))::
  Wh.is (.int .u64 (x.p:Int))::
  Wh.is (str (aA x.p 4))::
  Wh.is (str ([80,75,1,2]++aA 20 2++aA 20 2++bW x++aA x.u 4++aA x.p 4))::
  Wh.is (.int .u64 (x.z:Int))::
  Wh.is (str (aA x.z 4))::
  Wh.is (str ([80,75,1,2]++aA 20 2++aA 20 2++bW x++aA x.u 4++aA x.p 4++aA x.z 4))::
  Wh.is (at_ b (0+0))::
  Wh.is (str x.nm)::
  Wh.is (i64 n)::
  Wh.is (.int .u64 (n:Int))::
  Wh.is (str (aA n 2))::
  Wh.is (str ([80,75,1,2]++aA 20 2++aA 20 2++bW x++aA x.u 4++aA x.p 4++aA x.z 4++aA n 2))::
  Wh.is (str [])::
  Wh.is (.int .i64 0)::
  Wh.is (.int .u64 0)::
  Wh.is (str (aA 0 2))::
  Wh.is (str ([80,75,1,2]++aA 20 2++aA 20 2++bW x++aA x.u 4++aA x.p 4++aA x.z 4++aA n 2++aA 0 2))::
  Wh.row ((List.replicate 10 (0:UInt8)).map bu)::
  Wh.is (str (List.replicate 10 0))::
  Wh.is (str ([80,75,1,2]++aA 20 2++aA 20 2++bW x++aA x.u 4++aA x.p 4++aA x.z 4++aA n 2++aA 0 2++List.replicate 10 0))::
  Wh.is (.int .u64 (x.a:Int))::
  Wh.is (str (aA x.a 4))::
  Wh.is (str ([80,75,1,2]++aA 20 2++aA 20 2++bW x++aA x.u 4++aA x.p 4++aA x.z 4++aA n 2++aA 0 2++List.replicate 10 0++aA x.a 4))::
  Wh.is (at_ b (0+0))::
  Wh.is (str x.nm)::
  Wh.is (str ([80,75,1,2]++aA 20 2++aA 20 2++bW x++aA x.u 4++aA x.p 4++aA x.z 4++aA n 2++aA 0 2++List.replicate 10 0++aA x.a 4++x.nm))::
  Wh.is (str [])::
  Wh.is (str (([80,75,1,2]++aA 20 2++aA 20 2++bW x++aA x.u 4++aA x.p 4++aA x.z 4++aA n 2++aA 0 2++List.replicate 10 0++aA x.a 4++x.nm)++ []))::
  Wh.is (str (([80,75,1,2]++aA 20 2++aA 20 2++bW x++aA x.u 4++aA x.p 4++aA x.z 4++aA n 2++aA 0 2++List.replicate 10 0++aA x.a 4++x.nm)++ [])):: []),K3 _,?_⟩
 refine⟨fun _ H1 hx=> ⟨Ext.refl _,rfl⟩,
  fun _ v H1 hx h1=>?_,
  fun _ v H1 hx h1=>fw rfl h1 (by simp [az,dM,hn,L_]) ⟨Ext.refl _,rfl⟩,
  fun _ H1 hx=> ⟨Ext.refl _,rfl⟩,
  fun _ v H1 hx h1=>?_,
  fun _ v w H1 hx h1 h2=>fw h1 h2 (by simp [az,dM,hn,L_]) ⟨Ext.refl _,rfl⟩,
  fun _ H1 hx=> (o.more hx).bh (b:=b) ⟨Ext.refl _,rfl⟩,
  fun _ v H1 hx h1=>?_,
  fun _ v w H1 hx h1 h2=>fw h1 h2 (by simp [az,dM,hn,L_]) ⟨Ext.refl _,rfl⟩,
  fun _ H1 hx=>aj ⟨Ext.refl _,rfl⟩,
  fun _ v H1 hx h1=>?_,
  fun _ v H1 hx h1=>?_,
  fun _ v H1 hx h1=>?_,
  fun _ v w H1 hx h1 h2=>fw h1 h2 (by simp [az,dM,hn,L_]) ⟨Ext.refl _,rfl⟩,
  fun _ H1 hx=> ⟨Ext.refl _,rfl⟩,
  fun _ v H1 hx h1=>?_,
  fun _ v w H1 hx h1 h2=>fw h1 h2 (by simp [az,dM,hn,L_]) ⟨Ext.refl _,rfl⟩,
  fun _ H1 hx=> ⟨Ext.refl _,rfl⟩,
  fun _ v H1 hx h1=>?_,
  fun _ v w H1 hx h1 h2=>fw h1 h2 (by simp [az,dM,hn,L_]) ⟨Ext.refl _,rfl⟩,
  fun _ H1 hx=>aj ⟨Ext.refl _,rfl⟩,
  fun _ v H1 hx h1=>?_,
  fun _ v H1 hx h1=>?_,
  fun _ v H1 hx h1=>?_,
  fun _ v H1 hx h1=>?_,
  fun _ v w H1 hx h1 h2=>fw h1 h2 (by simp [az,dM,hn,L_]) ⟨Ext.refl _,rfl⟩,
  fun _ H1 hx=> ⟨Ext.refl _,rfl⟩,
  fun _ v H1 hx h1=>?_,
  fun _ v H1 hx h1=>?_,
  fun _ v H1 hx h1=>?_,
  fun _ v w H1 hx h1 h2=>fw h1 h2 (by simp [az,dM,hn,L_]) ⟨Ext.refl _,rfl⟩,
  fun _ H1 hx=>BU (n:=10) rfl (by decide) fun y H2 ea hy=> ⟨ea,hy⟩,
  fun _ v H1 hx h1=>Sl.str h1 ⟨Ext.refl _,rfl⟩,
  fun _ v w H1 hx h1 h2=>fw h1 h2 (by simp [az,dM,hn,L_]) ⟨Ext.refl _,rfl⟩,
  fun _ H1 hx=> ⟨Ext.refl _,rfl⟩,
  fun _ v H1 hx h1=>?_,
  fun _ v w H1 hx h1 h2=>fw h1 h2 (by simp [az,dM,hn,L_]) ⟨Ext.refl _,rfl⟩,
  fun _ H1 hx=>aj ⟨Ext.refl _,rfl⟩,
  fun _ v H1 hx h1=>?_,
  fun _ v w H1 hx h1 h2=>fw h1 h2 (by simp [az,dM,hn,L_]) ⟨Ext.refl _,rfl⟩,
  fun _ H1 hx=> ⟨Ext.refl _,rfl⟩,
  fun _ v w H1 hx h1 h2=>fw h1 h2 (by simp [az,dM,hn,L_]) ⟨Ext.refl _,rfl⟩,
  fun _ v H1 hx h1=> ⟨Ext.refl _,h1⟩,
  fun _ v H1 hx h1=>?_⟩
 ·obtain rfl:v= (.int .u64 20):=h1
  exact eA (n:=20) (by decide) fun H2 ea=> ⟨ea,rfl⟩
 ·obtain rfl:v= (.int .u64 20):=h1
  exact eA (n:=20) (by decide) fun H2 ea=> ⟨ea,rfl⟩
 ·obtain rfl:v=x.v:=h1
  exact vH g fun H2 ea=> ⟨ea,rfl⟩
 ·obtain rfl:v=at_ b (0+9):=h1
  exact(o.more hx).aw (b:=b) (f:=0+9) (w:= .int .u32 (x.u:Int)) ⟨Ext.refl _,rfl⟩
 ·obtain rfl:v= .int .u32 (x.u:Int):=h1
  refine a8 ⟨Ext.refl _,?_⟩;rw [cF (by omega) (by omega)]
  rfl
 ·obtain rfl:v= .int .u64 (x.u:Int):=h1
  exact ij (n:=x.u) (by omega) fun H2 ea=> ⟨ea,rfl⟩
 ·obtain rfl:v= .int .u64 (x.p:Int):=h1
  exact ij (n:=x.p) (by omega) fun H2 ea=> ⟨ea,rfl⟩
 ·obtain rfl:v= .int .u64 (x.z:Int):=h1
  exact ij (n:=x.z) (by omega) fun H2 ea=> ⟨ea,rfl⟩
 ·obtain rfl:v=at_ b (0+0):=h1
  exact(o.more hx).aw (b:=b) (f:=0+0) (w:=str x.nm) ⟨Ext.refl _,rfl⟩
 ·obtain rfl:v=str x.nm:=h1
  refine aC ⟨Ext.refl _,?_⟩;rw [hn]
  rfl
 ·obtain rfl:v=i64 n:=h1
  refine a8 ⟨Ext.refl _,?_⟩;rw [cF (by omega) (by omega)]
  rfl
 ·obtain rfl:v= .int .u64 (n:Int):=h1
  exact eA (n:=n) (by omega) fun H2 ea=> ⟨ea,rfl⟩
 ·obtain rfl:v=str []:=h1
  exact aC ⟨Ext.refl _,rfl⟩
 ·obtain rfl:v= .int .i64 0:=h1
  exact a8 ⟨Ext.refl _,rfl⟩
 ·obtain rfl:v= .int .u64 0:=h1
  exact eA (n:=0) (by decide) fun H2 ea=> ⟨ea,rfl⟩
 ·obtain rfl:v= .int .u64 (x.a:Int):=h1
  exact ij (n:=x.a) (by omega) fun H2 ea=> ⟨ea,rfl⟩
 ·obtain rfl:v=at_ b (0+0):=h1
  exact(o.more hx).aw (b:=b) (f:=0+0) (w:=str x.nm) ⟨Ext.refl _,rfl⟩
 ·obtain rfl:v=str (([80,75,1,2]++aA 20 2++aA 20 2++bW x++aA x.u 4++aA x.p 4++aA x.z 4++aA n 2++aA 0 2++List.replicate 10 0++aA x.a 4++x.nm)++ []):=h1
  rw [ajl,←hn];exact h H1 (o.ext.trans hx)
theorem DO {n z a:Nat} (hn:n≤1000) (hz:z≤100000000) (ha:a≤100000000) (h: ∀H',Ext H H' →R (str (lN n z a)) H'):ab 32 #[.int .u64 (n:Int),.int .u64 (z:Int),.int .u64 (a:Int)] H R:=by
 refine oh.vc _ _ _ _ _ ?_;rw [dH,ei];refine aM ?_;rw [dH,ei];intro _;refine aM ?_;rw [dH,ei];intro _;rw [ak];refine⟨fun s H' =>s=str []∧Ext H H',?_,?_⟩
 ·rintro _ _ H1 ⟨rfl,jg⟩
  refine⟨fun c H' =>c= .int .u64 (n:Int)∧Ext H H',?_,?_⟩
  ·rintro _ _ H2 ⟨rfl,ea⟩
   refine⟨fun c H' =>c= .int .u64 (z:Int)∧Ext H H',?_,?_⟩
   ·rintro _ _ H3 ⟨rfl,nx⟩
    refine⟨fun c H' =>c= .int .u64 (a:Int)∧Ext H H',?_,?_⟩
    ·rintro _ _ H4 ⟨rfl,mP⟩
     refine aQ (by decide) ?_;refine ij (n:=0) (by decide) fun H5 nS=>?_;refine aQ (by simp [az]) ?_;refine eA (by omega) fun H6 pc=>?_;refine aQ (by simp [az]) ?_;refine eA (by omega) fun H7 B8=>?_;refine aQ (by simp [az]) ?_;refine ij (by omega) fun H8 B9=>?_;refine aQ (by simp [az]) ?_;refine ij (by omega) fun H9 J2=>?_;refine aQ (by simp [az]) ?_;refine eA (n:=0) (by decide) fun B_ w9=>?_;refine aQ (by simp [az]) ?_;rw [aje];exact h B_ ((((((mP.trans nS).trans pc).trans B8).trans B9).trans J2).trans w9)
    ·rw [bc,ei,ak]
     exact⟨rfl,nx⟩
   ·rw [bc,ei,ak]
    exact⟨rfl,ea⟩
  ·rw [bc,ei,ak]
   exact⟨rfl,jg⟩
 ·rw [bc,ei]
  refine aM ?_;rw [bc,ei];intro _;refine aM ?_;rw [bc,ei];intro _;rw [ak];exact⟨rfl,Ext.refl _⟩
theorem K4 {n k:Nat} (hn:n<18446744073709551616) (hk:k≤8) (h: ∀H' q,q.length=k→Ext H H' →R (str q) H'):ab 78 #[.int .u64 (n:Int),.int .i64 (k:Int)] H R:=
 oW hn hk fun H' hx=>h H' _ (az _ _) hx
theorem RF {c z a:Nat} (hc:c<18446744073709551616) (hz:z<18446744073709551616) (ha:a<18446744073709551616)
  (h: ∀H' t,Ext H H' →(t.length=98→(c>65534∨z>4294967294∨a>4294967294)∧∃p,p.length=76∧t=p++CE c z a)→R (str t) H'):ab 32 #[.int .u64 (c:Int),.int .u64 (z:Int),.int .u64 (a:Int)] H R:=by
 refine oh.vc _ _ _ _ _ ?_;rw [dH];refine gu (d:=decide (z≥4611686018427387904)) (fun _=>by rw [dH];exact⟨by congr 1;exact decide_eq_decide.2 (by omega),rfl⟩) ?_;intro _;refine gu (d:=decide (a≥4611686018427387904)) (fun _=>by rw [dH];exact⟨by congr 1;exact decide_eq_decide.2 (by omega),rfl⟩) ?_;intro _;refine cN (fun _=>?_) (fun sj=>?_)
 ·exact h H [] (Ext.refl _) (fun e=>by simp at e)
 simp only [aks,decide_eq_false_iff_not] at sj;have key: ∀q:List UInt8,(q.length=76→(c>65534∨z>4294967294∨a>4294967294))→(q= []∨q.length=76)→∀H',Ext H H' →R (str (q++CE c z a)) H' :=by
  intro q h1 h2 H' hx;refine h H' _ hx fun hl=>?_;rw [aiV,Rz] at hl;exact⟨h1 (by omega),q,by omega,rfl⟩
 refine⟨fun s H' => ∃q,s=str q∧(q.length=76→(c>65534∨z>4294967294∨a>4294967294))∧(q= []∨q.length=76)∧Ext H H',?_,?_⟩
 ·rintro _ _ H1 ⟨q,rfl,Yx,zg,jg⟩
  have PU:q.length≤76:=by rcases zg with rfl|hq;exact ajj _;omega
  refine⟨fun v H' =>v= .int .u64 ((min c 65535:Nat):Int)∧Ext H H',?_,?_⟩
  ·rintro _ _ H2 ⟨rfl,ea⟩
   refine⟨fun v H' =>v= .int .u64 ((if z>4294967294 then 4294967295 else z:Nat):Int)∧Ext H H',?_,?_⟩
   ·rintro _ _ H3 ⟨rfl,nx⟩
    refine⟨fun v H' =>v= .int .u64 ((if a>4294967294 then 4294967295 else a:Nat):Int)∧Ext H H',?_,?_⟩
    ·rintro _ _ H4 ⟨rfl,mP⟩
     have RA: ∀n:Nat,aA (if n>4294967294 then 4294967295 else n) 4=yS n:=fun n=>by
      unfold yS
      split
      ·rfl
      ·rfl
     have Nl: (if z>4294967294 then 4294967295 else z)<18446744073709551616:=by split<;>omega
     have rS: (if a>4294967294 then 4294967295 else a)<18446744073709551616:=by split<;>omega
     refine aQ (by simp only [ai6,ai_];omega) ?_;refine ij (n:=0) (by decide) fun H5 nS=>?_;refine aQ (by simp only [aiV,az,ai6,ai_];omega) ?_;refine eA (by omega) fun H6 pc=>?_;refine aQ (by simp only [aiV,az,ai6,ai_];omega) ?_;refine eA (by omega) fun H7 B8=>?_;refine aQ (by simp only [aiV,az,ai6,ai_];omega) ?_;refine ij Nl fun H8 B9=>?_;refine aQ (by simp only [aiV,az,ai6,ai_];omega) ?_;refine ij rS fun H9 J2=>?_;refine aQ (by simp only [aiV,az,ai6,ai_];omega) ?_;refine eA (n:=0) (by decide) fun B_ w9=>?_;refine aQ (by simp only [aiV,az,ai6,ai_];omega) ?_;rw [RA,RA];have e:q++ [80,75,5,6]++aA 0 4++aA (min c 65535) 2++aA (min c 65535) 2++yS z++yS a++aA 0 2=q++CE c z a:=by unfold CE;simp only [ai0]
     rw [e];exact key q Yx zg B_ ((((((mP.trans nS).trans pc).trans B8).trans B9).trans J2).trans w9)
    ·rw [bc]
     refine av (fun hb=>?_) (fun hb=>?_)
     ·rw [if_pos (by omega)];exact⟨rfl,nx⟩
     ·rw [if_neg (by omega)];exact⟨rfl,nx⟩
   ·rw [bc]
    refine av (fun hb=>?_) (fun hb=>?_)
    ·rw [if_pos (by omega)];exact⟨rfl,ea⟩
    ·rw [if_neg (by omega)];exact⟨rfl,ea⟩
  ·rw [bc]
   refine av (fun hb=>?_) (fun hb=>?_)
   ·rw [show min c 65535=65535 by omega];exact⟨rfl,jg⟩
   ·rw [show min c 65535=c by omega];exact⟨rfl,jg⟩
 ·rw [bc]
  refine gu (d:=decide (z>4294967294)) (fun _=>by rw [bc];exact⟨by congr 1;exact decide_eq_decide.2 (by omega),rfl⟩) ?_;intro _;refine gu (d:=decide (a>4294967294)) (fun _=>by rw [bc];exact⟨by congr 1;exact decide_eq_decide.2 (by omega),rfl⟩) ?_;intro _;refine cN (fun hb=>?_) (fun _=> ⟨[],rfl,(fun e=>by simp at e),.inl rfl,Ext.refl _⟩);have hb:c>65534∨z>4294967294∨a>4294967294:=by
   simp only [akf,decide_eq_true_eq] at hb;omega
  have P8: ∀ {n:Nat} {H' :ag} {K:Value→ag→Prop},n<18446744073709551616→(∀y H2,Ext H' H2→(∃q,y=str q∧q.length=8)→K y H2)→ab 78 #[.int .u64 (n:Int),.int .i64 8] H' K:=fun hn hk=>
   K4 (k:=8) hn (by decide) fun H2 q hq hx=>hk _ H2 hx ⟨q,rfl,hq⟩
  have P4: ∀ {n:Nat} {H' :ag} {K:Value→ag→Prop},n<18446744073709551616→(∀y H2,Ext H' H2→(∃q,y=str q∧q.length=4)→K y H2)→ab 80 #[.int .u64 (n:Int)] H' K:=fun hn hk=>
   ij hn fun H2 hx=>hk _ H2 hx ⟨_,rfl,az _ _⟩
  have P2: ∀ {n:Nat} {H' :ag} {K:Value→ag→Prop},n<18446744073709551616→(∀y H2,Ext H' H2→(∃q,y=str q∧q.length=2)→K y H2)→ab 79 #[.int .u64 (n:Int)] H' K:=fun hn hk=>
   eA hn fun H2 hx=>hk _ H2 hx ⟨_,rfl,az _ _⟩
  refine⟨VP (Wh.len 8::Wh.len 12::Wh.len 2::Wh.len 14::Wh.len 2::Wh.len 16::Wh.row ((List.replicate 8 (0:UInt8)).map bu)::Wh.is (str (List.replicate 8 0))::Wh.len 24::Wh.is (.int .u64 (c:Int))::Wh.len 8::Wh.len 32::Wh.is (.int .u64 (c:Int))::Wh.len 8::Wh.len 40::Wh.is (.int .u64 (z:Int))::Wh.len 8::Wh.len 48::Wh.is (.int .u64 (a:Int))::Wh.len 8::Wh.len 56::Wh.len 60::Wh.len 4::Wh.len 64::Wh.is (.int .u64 (a:Int))::Wh.is (.int .u64 (z:Int))::Wh.is (.int .u64 ((a+z:Nat):Int))::Wh.len 8::Wh.len 72::Wh.len 4::Wh.len 76::Wh.len 76:: []),K3 _,?_⟩;refine⟨fun _ H1 hx=>P8 (n:=44) (by decide) fun y H2 ea hy=> ⟨ea,hy⟩,
   fun _ v H1 hx h1=>ik (m:=4) ⟨_,rfl,rfl⟩ h1 (by decide) fun q hq=> ⟨Ext.refl _,q,rfl,hq⟩,
   fun _ H1 hx=>P2 (n:=45) (by decide) fun y H2 ea hy=> ⟨ea,hy⟩,
   fun _ v w H1 hx h1 h2=>ik h1 h2 (by decide) fun q hq=> ⟨Ext.refl _,q,rfl,hq⟩,
   fun _ H1 hx=>P2 (n:=45) (by decide) fun y H2 ea hy=> ⟨ea,hy⟩,
   fun _ v w H1 hx h1 h2=>ik h1 h2 (by decide) fun q hq=> ⟨Ext.refl _,q,rfl,hq⟩,
   fun _ H1 hx=>BU (n:=8) rfl (by decide) fun y H2 ea hy=> ⟨ea,hy⟩,
   fun _ v H1 hx h1=>Sl.str h1 ⟨Ext.refl _,rfl⟩,
   fun _ v w H1 hx h1 h2=>ik (n:=8) h1 ⟨_,h2,rfl⟩ (by decide) fun q hq=> ⟨Ext.refl _,q,rfl,hq⟩,
   fun _ H1 hx=> ⟨Ext.refl _,rfl⟩,
   fun _ v H1 hx h1=>by obtain rfl:v= .int .u64 (c:Int):=h1;exact P8 hc fun y H2 ea hy=> ⟨ea,hy⟩,
   fun _ v w H1 hx h1 h2=>ik h1 h2 (by decide) fun q hq=> ⟨Ext.refl _,q,rfl,hq⟩,
   fun _ H1 hx=> ⟨Ext.refl _,rfl⟩,
   fun _ v H1 hx h1=>by obtain rfl:v= .int .u64 (c:Int):=h1;exact P8 hc fun y H2 ea hy=> ⟨ea,hy⟩,
   fun _ v w H1 hx h1 h2=>ik h1 h2 (by decide) fun q hq=> ⟨Ext.refl _,q,rfl,hq⟩,
   fun _ H1 hx=> ⟨Ext.refl _,rfl⟩,
   fun _ v H1 hx h1=>by obtain rfl:v= .int .u64 (z:Int):=h1;exact P8 hz fun y H2 ea hy=> ⟨ea,hy⟩,
   fun _ v w H1 hx h1 h2=>ik h1 h2 (by decide) fun q hq=> ⟨Ext.refl _,q,rfl,hq⟩,
   fun _ H1 hx=> ⟨Ext.refl _,rfl⟩,
   fun _ v H1 hx h1=>by obtain rfl:v= .int .u64 (a:Int):=h1;exact P8 ha fun y H2 ea hy=> ⟨ea,hy⟩,
   fun _ v w H1 hx h1 h2=>ik h1 h2 (by decide) fun q hq=> ⟨Ext.refl _,q,rfl,hq⟩,
   fun _ v H1 hx h1=>ik (n:=4) h1 ⟨_,rfl,rfl⟩ (by decide) fun q hq=> ⟨Ext.refl _,q,rfl,hq⟩,
   fun _ H1 hx=>P4 (n:=0) (by decide) fun y H2 ea hy=> ⟨ea,hy⟩,
   fun _ v w H1 hx h1 h2=>ik h1 h2 (by decide) fun q hq=> ⟨Ext.refl _,q,rfl,hq⟩,
   fun _ H1 hx=> ⟨Ext.refl _,rfl⟩,
   fun _ H1 hx=> ⟨Ext.refl _,rfl⟩,
   fun _ v w H1 hx h1 h2=>by
    obtain rfl:v= .int .u64 (a:Int):=h1;obtain rfl:w= .int .u64 (z:Int):=h2;rw [ay,cF (by omega) (by omega),show ((a:Int)+ (z:Int))= ((a+z:Nat):Int) by omega];exact⟨Ext.refl _,rfl⟩,
   fun _ v H1 hx h1=>by obtain rfl:v= .int .u64 ((a+z:Nat):Int):=h1;exact P8 (by omega) fun y H2 ea hy=> ⟨ea,hy⟩,
   fun _ v w H1 hx h1 h2=>ik h1 h2 (by decide) fun q hq=> ⟨Ext.refl _,q,rfl,hq⟩,
   fun _ H1 hx=>P4 (n:=1) (by decide) fun y H2 ea hy=> ⟨ea,hy⟩,
   fun _ v w H1 hx h1 h2=>ik h1 h2 (by decide) fun q hq=> ⟨Ext.refl _,q,rfl,hq⟩,
   fun _ v H1 hx h1=> ⟨Ext.refl _,h1⟩,
   fun _ v H1 hx h1=>?_⟩
  obtain⟨q,rfl,hq⟩: ∃q,v=str q∧q.length=76:=h1;exact⟨q,rfl,(fun _=>hb),.inr hq,hx⟩
end
section
set_option maxRecDepth 100000
variable {H:ag} {R:Value→ag→Prop}
abbrev Wz (s l b:Int):List Value:= [.int .i64 s,.int .i64 l,.int .i64 b]
def CH (g:Int→Int × Int) (base:Int) (m:Nat):List Value:=Wz (base+m) (g (base+m)).1 (g (base+m)).2
def vI (g:Int→Int × Int) (base:Int) (k:Nat):List Value:= (List.range k).flatMap (CH g base)
theorem iD (g:Int→Int × Int) (base:Int): ∀k,(vI g base k).length=k*3
 |0=>rfl
 |k+1=>by
  have:=iD g base k;unfold vI at this ⊢;rw [akF,alX,aiV,this]
  simp [CH]
  omega
theorem rE (g:Int→Int × Int) (base:Int) (k:Nat):vI g base (k+1)=vI g base k++CH g base k:=by
 unfold vI;rw [akF,alX]
 simp
theorem RG (g:Int→Int × Int) (base:Int): ∀ (k i:Nat),i<k→((vI g base k).drop (i*3)).take 3=CH g base i
 |0,i,h=>by omega
 |k+1,i,h=>by
  have hl:=iD g base k;rw [rE]
  by_cases hi:i<k
  ·have:=RG g base k i hi
   rw [ajR (by omega),ajZ (by rw [ai4];omega)];exact this
  ·have:i=k:=by omega
   subst this;rw [←hl,amC,akd (by omega),akp]
   rfl
theorem zy {v:Value} {l:List Value} {s a b:Int} {n:Nat} {K:Value→ag→Prop} {e:TypeId} (h:jJ H v 3 l) (hl:l.length=n*3) (hn:n≤100)
  (hk: ∀v' H',jJ H' v' 3 (l++Wz s a b)→(∀i,i<H.size→aY v≠some i→H'[i]? =H[i]?)→H.size≤H'.size→(∀k,aY v' =some k→aY v=some k∨H.size≤k)→K v' H'):
  aU H e 1 [(.int .i64 0),(.int .i64 0),(.int .i64 0)] [(0,3,.agg #[.int .i64 s,.int .i64 a,.int .i64 b])] fun y H1=>a7 H1 e 3 24 [(.int .i64 0),(.int .i64 0),(.int .i64 0)] v y K:=
 h.Ef (by decide) rfl rfl rfl hl (by omega) hk
theorem RH: ∀k:Fin 8,lenOf (257+ ((k.val:Nat):Int))= (3+ (k.val:Int),0):=by decide+kernel
theorem DP: ∀ (e:Fin 5) (i:Fin 4),lenOf (257+ ((8+4*e.val+i.val:Nat):Int))= ((fp ((8+4*e.val+i.val:Nat):Int) 3 8 4).1,((e.val+1:Nat):Int))∧(fp ((8+4*e.val+i.val+1:Nat):Int) 3 8 4).1= (fp ((8+4*e.val+i.val:Nat):Int) 3 8 4).1+2 ^ (e.val+1)∧0≤(fp ((8+4*e.val+i.val:Nat):Int) 3 8 4).1∧(fp ((8+4*e.val+i.val:Nat):Int) 3 8 4).1≤300∧(2:Int) ^ (e.val+1)≤32∧(1:Int)≤2 ^ (e.val+1):=by decide+kernel
theorem BV: ∀ (e:Fin 13) (i:Fin 2),bn (0+ ((4+2*e.val+i.val:Nat):Int))= ((fp ((4+2*e.val+i.val:Nat):Int) 1 4 2).1,((e.val+1:Nat):Int))∧(fp ((4+2*e.val+i.val+1:Nat):Int) 1 4 2).1= (fp ((4+2*e.val+i.val:Nat):Int) 1 4 2).1+2 ^ (e.val+1)∧0≤(fp ((4+2*e.val+i.val:Nat):Int) 1 4 2).1∧(fp ((4+2*e.val+i.val:Nat):Int) 1 4 2).1≤40000∧(2:Int) ^ (e.val+1)≤8192∧(1:Int)≤2 ^ (e.val+1):=by decide+kernel
structure RI (H0 H:ag) (v:Value) (l:List Value):Prop where
 own:jJ H v 3 l
 ext:Ext H0 H
 new: ∀k,aY v=some k→H0.size≤k
theorem RI.step {H0 H H' :ag} {v v' :Value} {l l' :List Value} (h:RI H0 H v l) (o:jJ H' v' 3 l') (hi: ∀i,i<H.size→aY v≠some i→H'[i]? =H[i]?) (hs:H.size≤H'.size) (hk: ∀k,aY v' =some k→aY v=some k∨H.size≤k):RI H0 H' v' l' :=
 ⟨o,pA h.ext h.new hi hs,fun k e=>by
  rcases hk k e with h' |h'
  ·exact h.new k h'
  ·have:=h.ext.size;omega⟩
theorem Iw (h: ∀H' v,RI H H' v (vI lenOf 257 29)→R v H'):ab 226 #[] H R:=by
 refine qZ.vc _ _ ?_;refine⟨fun v u H' => ∃k:Nat,u= .int .i64 k∧k≤8∧RI H H' v (vI lenOf 257 k),fun _ u _=>match u with| .int _ i=> (8 - i).toNat|_=>0,⟨0,rfl,by omega,.inl ⟨rfl,rfl⟩,Ext.refl _,by simp [aY]⟩,?_⟩;rintro _ v _ H2 ⟨k,rfl,hk,N2⟩;simp only [ay,da,ajb,ai6,ai_,Nat.reduceAdd,Nat.reduceLeDiff,dZ,ajA,List.bY,b7,cR,br,true_and,ajU,ajS,jl,aO];refine av (fun hc=>?_) (fun hc=>?_)
 ·rw [aJ,aJ,aJ]
  refine zy N2.own (iD _ _ _) (by omega) fun v' H' o i s kk=>?_;refine⟨⟨k+1,rfl,by omega,N2.step (by
   rw [rE,CH,RH ⟨k,by omega⟩];exact o) i s kk⟩,by show (_:Int).toNat< (_:Int).toNat;omega⟩
 have WA:k=8:=by omega
 subst WA;refine⟨fun v a z e H' => ∃q:Nat,e= .int .i64 (q+1:Nat)∧q≤5∧z= .int .i64 (2 ^ (q+1))∧a= .int .i64 (fp ((8+4*q:Nat):Int) 3 8 4).1∧RI H H' v (vI lenOf 257 (8+4*q)),fun _ _ _ u _=>match u with| .int _ i=> (10 - i).toNat|_=>0,
  ⟨0,rfl,by omega,rfl,by rw [show (fp ((8+4*0:Nat):Int) 3 8 4).1=11 by decide+kernel],N2⟩,?_⟩
 rintro _ v _ _ _ H3 ⟨q,rfl,hq,rfl,rfl,N3⟩;simp only [dZ,ajA,ai6,ai_,ajb,List.bY,b7,Nat.reduceAdd,cR,true_and,ay,gw,gZ];refine av (fun hc=>?_) (fun hc=>?_)
 ·refine⟨fun v a u H' => ∃i:Nat,u= .int .i64 i∧i≤4∧a= .int .i64 (fp ((8+4*q+i:Nat):Int) 3 8 4).1∧RI H H' v (vI lenOf 257 (8+4*q+i)),fun _ _ u _=>match u with| .int _ i=> (4 - i).toNat|_=>0,
   ⟨0,rfl,by omega,rfl,N3⟩,?_⟩
  rintro _ v _ _ H4 ⟨i,rfl,hi,rfl,N4⟩;simp only [dZ,ajA,ai6,ai_,ajb,List.bY,b7,Nat.reduceAdd,cR,ay,true_and,aO];refine av (fun gE=>?_) (fun gE=>?_)
  ·obtain⟨r1,r2,r3,r4,r5,r6⟩:=DP ⟨q,by omega⟩ ⟨i,by omega⟩
   dsimp only at r1 r2 r3 r4 r5 r6
   refine(N4.own.sl (by decide)).df (iD _ _ _) ?_;simp only [ay,dZ,ajA,ai6,ai_,ajb,List.bY,b7,ajU,cR,Nat.reduceAdd,Nat.reduceLeDiff,ajS,jl,true_and];rw [ff (n:=257+ ((8+4*q+i:Nat):Int)) (by omega) (by omega)];refine zy N4.own (iD _ _ _) (by omega) fun v' H' o ii s kk=>?_;rw [ff (n:= (fp ((8+4*q+i:Nat):Int) 3 8 4).1+2 ^ (q+1)) (by omega) (by omega),ff (n:= (i:Int)+1) (by omega) (by omega)];refine⟨⟨i+1,rfl,by omega,by rw [←r2];rfl,N4.step (by
    rw [show 8+4*q+ (i+1)= (8+4*q+i)+1 by omega,rE,CH,r1];exact o) ii s kk⟩,by show (_:Int).toNat< (_:Int).toNat;omega⟩
  ·have M_:i=4:=by omega
   subst M_;obtain⟨r1,r2,r3,r4,r5,r6⟩:=DP ⟨q,by omega⟩ ⟨0,by omega⟩
   dsimp only at r5 r6
   rw [aJ,aJ];refine⟨⟨q+1,by congr 1,by omega,by rw [Int.pow_succ 2 (q+1)],by rw [show 8+4* (q+1)=8+4*q+4 by omega],by rw [show 8+4* (q+1)=8+4*q+4 by omega];exact N4⟩,by show (_:Int).toNat< (_:Int).toNat;omega⟩
 ·have Zh:q=5:=by omega
  subst Zh;refine zy N3.own (iD _ _ _) (by omega) fun v' H' o i s kk=>?_;have N:=N3.step (l' :=vI lenOf 257 29) (by rw [rE lenOf 257 28,CH,show lenOf (257+ ((28:Nat):Int))= (258,0) by decide+kernel];exact o) i s kk;exact h H' v' N
theorem Om (h: ∀H' v,RI H H' v (vI bn 0 30)→R v H'):ab 227 #[] H R:=by
 refine tx.vc _ _ ?_;simp only [da,ajb,ai6,ai_,Nat.reduceAdd,Nat.reduceLeDiff,br,true_and,dZ,ajA,List.bY,b7,ajU,cR,ajS,jl];rw [aU];simp only [da,fG,ajA,ai6,ai_,ajb,Nat.reduceAdd,Nat.reduceLeDiff,List.bY,b7,ajU,ajS,cR,jl,br,true_and];have WB:vI bn 0 4= [.int .i64 0,.int .i64 1,.int .i64 0,.int .i64 1,.int .i64 2,.int .i64 0,.int .i64 2,.int .i64 3,.int .i64 0,.int .i64 3,.int .i64 4,.int .i64 0]:=by
  simp only [vI,akF,List.range_zero,aje,ake,akx,amF,ajl,CH,Wz];rw [show bn (0+ ((0:Nat):Int))= (1,0) by decide+kernel,show bn (0+ ((1:Nat):Int))= (2,0) by decide+kernel,show bn (0+ ((2:Nat):Int))= (3,0) by decide+kernel,show bn (0+ ((3:Nat):Int))= (4,0) by decide+kernel]
  rfl
 refine⟨fun v a z e H' => ∃q:Nat,e= .int .i64 (q+1:Nat)∧q≤13∧z= .int .i64 (2 ^ (q+1))∧a= .int .i64 (fp ((4+2*q:Nat):Int) 1 4 2).1∧RI H H' v (vI bn 0 (4+2*q)),fun _ _ _ u _=>match u with| .int _ i=> (20 - i).toNat|_=>0,
  ⟨0,rfl,by omega,rfl,by rw [show (fp ((4+2*0:Nat):Int) 1 4 2).1=5 by decide+kernel],⟨.inr ⟨H.size,4,4,[],rfl,⟨⟨_,_,by rw [WB];exact bO,.inl rfl⟩,by rw [WB];rfl,by rw [WB];rfl⟩⟩,(Ext.refl H).push,by simp [aY]⟩⟩,?_⟩
 rintro _ v _ _ _ H3 ⟨q,rfl,hq,rfl,rfl,N3⟩;simp only [dZ,ajA,ai6,ai_,ajb,List.bY,b7,Nat.reduceAdd,cR,true_and,ay,gw,gZ];refine av (fun hc=>?_) (fun hc=>?_)
 ·refine⟨fun v a u H' => ∃i:Nat,u= .int .i64 i∧i≤2∧a= .int .i64 (fp ((4+2*q+i:Nat):Int) 1 4 2).1∧RI H H' v (vI bn 0 (4+2*q+i)),fun _ _ u _=>match u with| .int _ i=> (4 - i).toNat|_=>0,
   ⟨0,rfl,by omega,rfl,N3⟩,?_⟩
  rintro _ v _ _ H4 ⟨i,rfl,hi,rfl,N4⟩;simp only [dZ,ajA,ai6,ai_,ajb,List.bY,b7,Nat.reduceAdd,cR,ay,true_and,aO];refine av (fun gE=>?_) (fun gE=>?_)
  ·obtain⟨r1,r2,r3,r4,r5,r6⟩:=BV ⟨q,by omega⟩ ⟨i,by omega⟩
   dsimp only at r1 r2 r3 r4 r5 r6
   refine(N4.own.sl (by decide)).df (iD _ _ _) ?_;simp only [dZ,ajA,ai6,ai_,ajb,List.bY,b7,ajU,cR,Nat.reduceAdd,Nat.reduceLeDiff,ajS,jl,true_and];refine zy N4.own (iD _ _ _) (by omega) fun v' H' o ii s kk=>?_;rw [ff (n:= (fp ((4+2*q+i:Nat):Int) 1 4 2).1+2 ^ (q+1)) (by omega) (by omega),ff (n:= (i:Int)+1) (by omega) (by omega)];refine⟨⟨i+1,rfl,by omega,by rw [←r2];rfl,N4.step (by
    rw [show 4+2*q+ (i+1)= (4+2*q+i)+1 by omega,rE,CH,r1,amh];exact o) ii s kk⟩,by show (_:Int).toNat< (_:Int).toNat;omega⟩
  ·have M_:i=2:=by omega
   subst M_;obtain⟨r1,r2,r3,r4,r5,r6⟩:=BV ⟨q,by omega⟩ ⟨0,by omega⟩
   dsimp only at r5 r6
   rw [aJ,aJ];refine⟨⟨q+1,by congr 1,by omega,by rw [Int.pow_succ 2 (q+1)],by rw [show 4+2* (q+1)=4+2*q+2 by omega],by rw [show 4+2* (q+1)=4+2*q+2 by omega];exact N4⟩,by show (_:Int).toNat< (_:Int).toNat;omega⟩
 ·have Zh:q=13:=by omega
  subst Zh;exact h H3 v N3
end
section
set_option maxRecDepth 100000
variable {H:ag} {R:Value→ag→Prop}
def il (l:List Bool):List Value:=l.map fun b=> .int .i64 ((b.toNat:Nat):Int)
theorem mo (l:List Bool): (il l).length=l.length:=by simp [il]
theorem Fs (l m:List Bool):il (l++m)=il l++il m:=by simp [il]
def RJ (H:ag) (v:Value):Prop:= ∀k,aY v=some k→H.size≤k
theorem Ix (v:Nat): (v.testBit 0).toNat=v%2:=by
 rw [ak9];rcases ak_ v with h|h<;>simp [h]
theorem On (v n:Nat):a_ v (n+1)=a_ v n++ [(v/2 ^ n).testBit 0]:=by
 rw [jO];rfl
theorem Ft {s:List UInt8} (hs:s.length≤1000000000) (h: ∀H' w,jJ H' w 1 (il (toBits s))→Ext H H' →RJ H w→R w H'):ab 182 #[str s] H R:=by
 refine uG.vc _ _ _ ?_;refine⟨fun w i1 H' => ∃i:Nat,i1= .int .i64 i∧i≤s.length∧jJ H' w 1 (il (toBits (s.take i)))∧Ext H H' ∧RJ H w,fun _ i1 _=>match i1 with| .int _ x=> (s.length - x).toNat|_=>0,
  ⟨0,rfl,by omega,.inl ⟨rfl,rfl⟩,Ext.refl _,fun k hk=>by simp [aY] at hk⟩,?_⟩
 rintro _ w _ H1 ⟨i,rfl,hi,o1,e1,f1⟩;simp only [ay,cc,bB,cP,ni,aO];refine av (fun hc=>?_) (fun hc=>?_)
 ·have vZ:i<s.length:=by omega
  refine⟨by omega,by omega,?_⟩;rw [aiY,ai3,ai1 vZ,aj9];have c_:toBits (s.take (i+1))=toBits (s.take i)++a_ s[i].toNat 8:=by
   rw [ajr,ai1 vZ,cG];show _++toBits [s[i]]=_;rw [ta]
  have hlen: (toBits (s.take i)).length=8*i:=by rw [bj,ai2];omega
  generalize s[i]=x at*;have hx:x.toNat<256:=x.toNat_lt;rw [aJ];refine⟨fun w v1 k1 H' => ∃k:Nat,v1= .int .i64 ((x.toNat/2 ^ k:Nat):Int)∧k1= .int .i64 k∧k≤8∧jJ H' w 1 (il (toBits (s.take i)++a_ x.toNat k))∧Ext H H' ∧RJ H w,fun _ _ k1 _=>match k1 with| .int _ x=> (8 - x).toNat|_=>0,
   ⟨0,by simp,rfl,by omega,by rw [pC,ajl];exact o1,e1,f1⟩,?_⟩
  rintro _ w2 _ _ H2 ⟨k,rfl,rfl,hk,o2,e2,f2⟩;have hd:x.toNat/2 ^ k≤x.toNat:=alw _ _;simp only [ay,iL,ne_eq,Int.reduceEq,not_false_eq_true,true_and,gz,aO];refine av (fun gE=>?_) (fun gE=>?_)
  ·have oN:x.toNat/2 ^ (k+1)=x.toNat/2 ^ k/2:=by rw [ajI,←alx]
   have Sz:=On x.toNat k;generalize x.toNat/2 ^ k=z at*;rw [akh (by omega),show (z:Int) %2= ((z%2:Nat):Int) by omega];refine o2.Ef (n:=8*i+k) (by decide) rfl rfl rfl (by rw [mo,aiV,aX,hlen];omega) (by omega) fun w3 H3 o3 i3 s3 k3=>?_;rw [akr (by omega),ff (n:= (z:Int) /2) (by omega) (by omega),aJ];refine⟨⟨k+1,by rw [oN];rfl,rfl,by omega,?_,pA e2 f2 i3 s3,fun j hj=>?_⟩,by show (_:Int).toNat< (_:Int).toNat;omega⟩
   ·rw [Sz,←ai0,Fs]
    rw [show il [z.testBit 0]= (Value.int IntKind.i64 ((z%2:Nat):Int)).cells.toList by
     show [Value.int IntKind.i64 (((z.testBit 0).toNat:Nat):Int)]= [_];rw [Ix]]
    exact o3
   ·rcases k3 j hj with h' |h'
    ·exact f2 j h'
    ·have:=e2.size;omega
  ·have WA:k=8:=by omega
   subst WA;rw [aJ];exact⟨⟨i+1,rfl,by omega,by rw [c_];exact o2,e2,f2⟩,by show (_:Int).toNat< (_:Int).toNat;omega⟩
 ·have:i=s.length:=by omega
  subst this;rw [ajc] at o1;exact h H1 w o1 e1 f1
theorem BW {v:Value} {l:List Bool} (hl:l.length≤64) (hs:Sl H v 1 (il l)) (h:R (.int .u64 ((fV l:Nat):Int)) H):ab 261 #[v] H R:=by
 refine sr.vc _ _ _ ?_;refine hs.len (n:=l.length) (by rw [mo];omega) (by decide) ?_;simp only [bq];rw [ff (n:= (l.length:Int) - 1) (by omega) (by omega)];have Zi: ∀i,i≤l.length→fV (l.drop i)<2 ^ (64 - i):=fun i hi=>by
  have:=pD (l.drop i);rw [ai4] at this;exact ajN this (ajk (by decide) (by omega))
 refine⟨fun n1 i1 H' => ∃i:Nat,i1= .int .i64 ((i:Int) - 1)∧i≤l.length∧n1= .int .u64 ((fV (l.drop i):Nat):Int)∧H=H',fun _ i1 _=>match i1 with| .int _ x=> (x+1).toNat|_=>0,
  ⟨l.length,rfl,aiZ _,by rw [ajY];rfl,rfl⟩,?_⟩
 rintro _ _ _ _ ⟨i,rfl,hi,rfl,rfl⟩;simp only [and_true,bq,gw,dH];refine av (fun hc=>?_) (fun hc=>?_)
 ·obtain⟨j,rfl⟩: ∃j,i=j+1:= ⟨i - 1,by omega⟩
  have rO:j<l.length:=by omega
  have e:l.drop j=l[j]::l.drop (j+1):=ajJ rO;have h1:=Zi (j+1) hi;have h2:=Zi j (by omega);have hp: (2:Nat) ^ (64 - (j+1))≤2 ^ 63:=ajk (by decide) (by omega);have e2:fV (l.drop j)=l[j].toNat+2*fV (l.drop (j+1)):=by rw [e];rfl
  have hb:l[j].toNat≤1:=by cases l[j]<;>simp
  rw [cF (n:=2* ((fV (l.drop (j+1)):Nat):Int)) (by omega) (by omega)];rw [show ((j+1:Nat):Int) - 1= (j:Int) by omega];refine hs.idx (n:=l.length) (by rw [mo];omega) (by decide) (by omega) (by omega) fun ad had=>?_;refine had.load (v:= .int .i64 ((l[j].toNat:Nat):Int)) ?_ ?_
  ·rw [aiY,ai5,akw,if_pos (by decide),ajW,ajq]
   unfold il;rw [aji,ai1 rO];rfl
  simp only [cP,ay];rw [cF (n:= ((l[j].toNat:Nat):Int)) (by omega) (by omega),cF (by omega) (by omega),aJ];refine⟨⟨j,rfl,by omega,?_⟩,by show (_:Int).toNat< (_:Int).toNat;omega⟩
  congr 1
  rw [e2];omega
 ·have:i=0:=by omega
  subst this;exact h
end
section
set_option maxRecDepth 100000
variable {H H0 H' :ag} {R:Value→ag→Prop} {L:List It} {s:List UInt8} {B0 C:List Bool} {bv w:Value} {at' n x:Nat} {zs:List Int}
theorem vJ {l:List Bool} {i:Nat} (h:i<l.length): (il l)[i]? =some (.int .i64 ((l[i].toNat:Nat):Int)):=by unfold il;rw [aji,ai1 h];rfl
theorem Oo (l:List Bool) (a n:Nat): ((il l).drop a).take n=il ((l.drop a).take n):=by unfold il;rw [al1,List.map_drop]
theorem TL (b:Bool):Value.int .u8 (IntKind.u8.wrap (48+ ((b.toNat:Nat):Int)))=bu (Xa b):=by cases b<;>rfl
theorem CI {ls:List Nat} {s:Nat} (h:s< (eL ls).length): ((eL ls)[s]).length=ls.getD s 0:=by
 have hs:s<ls.length:=by rw [nu] at h;exact h
 have e: (eL ls)[s]? =some (f_ (cT ls s)):=by unfold eL;rw [aji,aka hs];rfl
 rw [ai1 h] at e;rw [ajz e,eP,oH]
theorem DQ {ls:List Nat} {B:List Bool} (hle: ∀k∈ls,k≤15) {s:Nat}:hit ls (B.take 15) s↔hit ls B s:=by
 have:=l4 hle s;unfold hit;rw [akb,ajF this]
open Classical in
theorem K5 (hs:Sl H bv 1 (il B0)) (ha:at' ≤B0.length) (hl:B0.length≤1000000000) (h: ∀H',Ext H H' →R (str (f_ ((B0.drop at').take 15))) H'):ab 260 #[bv,i64 at',.int .i64 15] H R:=by
 have dg: (il B0).length=B0.length*1:=by rw [mo];omega
 refine uM.vc _ _ _ _ _ ?_;refine⟨fun t i H' => ∃k:Nat,i=i64 (at' +k)∧k≤15∧at' +k≤B0.length∧t=str (f_ ((B0.drop at').take k))∧Ext H H',fun _ i _=>match i with| .int _ y=> (at' +15 - y).toNat|_=>0,⟨0,rfl,ajj _,by omega,rfl,Ext.refl _⟩,?_⟩;rintro _ _ _ H1 ⟨k,rfl,hk,hka,rfl,hx⟩;have ja:=hs.ext hx;refine ja.df dg ?_;rw [aO];refine dC (d:=decide (k<15)) (fun _=>by rw [ay,aJ,aO];exact⟨by congr 1;exact decide_eq_decide.2 (by omega),rfl⟩) ?_;intro _;refine cN (fun hc=>?_) (fun hc=>?_)
 ·rw [aja,decide_eq_true_eq,decide_eq_true_eq] at hc
  have cL:at' +k<B0.length:=by omega
  refine ja.gG dg fun p hp=>?_;refine hp.load ja (w:= .int .i64 ((B0[at' +k].toNat:Nat):Int)) (by rw [aiY,ai5];exact vJ cL) ?_;have hb: (B0[at' +k]).toNat≤1:=by cases B0[at' +k]<;>decide
  rw [ay,aJ];refine a8 ?_;have X9:=TL B0[at' +k];rw [X9];refine((au.start (H:=H)).more hx).cy (sz:=1) (by decide) rfl rfl fun z H2 o=>?_;have hz:Sl H2 z 1 ([Xa B0[at' +k]].map bu):=o.cf (v:=z);refine hz.str ?_;refine aQ (by rw [eP,ai2];simp only [ai6,ai_];omega) ?_;rw [ay,aJ];refine⟨⟨k+1,rfl,by omega,by omega,?_,o.ext⟩,by show (_:Int).toNat< (_:Int).toNat;omega⟩
  congr 1
  rw [cH (by rw [ai4];omega),List.getElem_drop];unfold f_;rw [ajy]
  rfl
 ·have e: (B0.drop at').take k= (B0.drop at').take 15:=by
   simp only [amg,decide_eq_false_iff_not] at hc;rcases hc with hc|hc
   ·rw [ajf (by rw [ai4];omega),ajf (by rw [ai4];omega)]
   ·rw [show k=15 by omega]
  rw [e];exact h H1 hx
theorem oX {m:Nat} (hs:Sl H bv 1 (il B0)) (hl:B0.length≤1000000000) (hn:n≤20) (hx:dQ n (B0.drop at')= .ok x C) (ha:at' ≤B0.length) (h:x<2 ^ n→at' +n≤B0.length→C=B0.drop (at' +n)→R (.tuple #[i64 x,.bool true]) H):ab 229 #[bv,i64 at',i64 n] H R:=by
 have dg: (il B0).length=B0.length*1:=by rw [mo];omega
 obtain⟨h1,h2,h3⟩:=u9 hx;rw [ai4] at h1;have GO:x<2 ^ n:=by
  have:=pD ((B0.drop at').take n);rw [←h2] at this;have hle: ((B0.drop at').take n).length≤n:=by rw [ai2];omega
  exact ajN this (ajk (by decide) hle)
 have hp:2 ^ n≤2 ^ 20:=ajk (by decide) hn;have h20: (2:Nat) ^ 20=1048576:=by decide
 refine wz.vc _ _ _ _ _ ?_;rw [ay,aJ];refine hs.df dg ?_;rw [bc,ei,ak,ay,aJ];refine hs.cut (n:=B0.length) (lo:=at') (hi:=at' +n) (by decide) dg (by omega) (by omega) (fun v hv=>?_) (.inl rfl) (.inl (by congr 1));rw [ai5,aj7,ai5,Oo] at hv;refine BW (by rw [ai2];omega) hv ?_;rw [←h2];refine a8 ?_;rw [aJ];exact h GO (by omega) (by rw [h3,ajK])
theorem ua (hs:Sl H bv 1 (il B0)) (hl:B0.length≤1000000000) (ha:at' ≤B0.length) (hw:Sl H w 1 (cD (eL (natL zs)))) (hz:okZ zs) (Ly:shareL (natL zs) 15≤32768) (hx:eM zs (B0.drop at')= .ok x C)
  (h: ∀H' n,Ext H H' →x<zs.length→1≤n→n≤15→at' +n≤B0.length→C=B0.drop (at' +n)→R (.tuple #[i64 x,i64 (at' +n),.int .i64 0]) H'):ab 228 #[bv,i64 at',w] H R:=by
 have hle: ∀k∈natL zs,k≤15:=fun k hk=>by
  obtain⟨z,vN,rfl⟩:=ajw.1 hk;have:=hz.2 z vN;omega
 have Nl: (natL zs).length=zs.length:=by unfold natL;rw [ajh]
 have hh:hit (natL zs) (B0.drop at') x∧C= (B0.drop at').drop ((natL zs).getD x 0):=by
  unfold eM at hx
  split at hx
  ·rename_i hh
   cases hx
   exact⟨hh.choose_spec,rfl⟩
  ·cases hx
 obtain⟨hh,hC⟩:=hh;have hlen:=pJ hh;rw [ai4] at hlen;have aee:=hz.1;have hxz:x<zs.length:=by rw [←Nl];exact hh.1
 have OA: (natL zs).getD x 0≤15:=by
  rw [ai3,ai1 hh.1];exact hle _ (ai9 _)
 refine uL.vc _ _ _ _ _ ?_;refine K5 hs ha hl fun H1 jg=>?_;refine JR (hw.ext jg) (by omega) hle (by rw [ai2];omega) (fun s' hs' =>?_) (fun sj=>absurd ((DQ hle).2 hh) (sj x));obtain rfl:=Lx Ly hle ((DQ hle).1 hs') hh;rw [aZ,ei,ak,aZ,ei,ak];have EE: (cD (eL (natL zs))).length=zs.length*1:=by rw [gA,nu,Nl];omega
 refine(hw.ext jg).gG EE fun p hp=>?_;have Xr:s' < (eL (natL zs)).length:=by rw [nu,Nl];exact hxz
 refine hp.load (hw.ext jg) (w:=str (eL (natL zs))[s']) (by rw [aiY,ai5];exact we Xr) ?_;refine aC ?_;have hwn: ((eL (natL zs))[s']).length= (natL zs).getD s' 0:=CI Xr;rw [hwn,ay,aJ,show ((at' :Int)+ (((natL zs).getD s' 0:Nat):Int))= ((at' + (natL zs).getD s' 0:Nat):Int) by omega];exact h H1 _ jg hxz hh.2.1 OA (by omega) (by rw [hC,ajK])
end
section
set_option maxRecDepth 100000
variable {H:ag} {R:Value→ag→Prop}
theorem rF {s:List UInt8} (hs:s.length≤1000000) (h:R (.int .u64 ((if s.length≤8 then iE s else 0:Nat):Int)) H):ab 130 #[str s] H R:=by
 refine wy.vc _ _ _ ?_;simp only [ni,bB,gZ];refine⟨fun n1 i1 H' => ∃i:Nat,i1= .int .i64 i∧i≤s.length∧n1= .int .u64 ((iE (s.drop i):Nat):Int)∧(i=s.length∨s.length≤8)∧H=H',fun _ i1 _=>match i1 with| .int _ x=>x.toNat|_=>0,
  ⟨s.length,rfl,aiZ _,by rw [ajY];rfl,.inl rfl,rfl⟩,?_⟩
 rintro _ _ _ _ ⟨i,rfl,hi,rfl,h8,rfl⟩;simp only [bq,cc,bB,cP,gw,ay,bc,fF,j7,and_true];refine fun _=>av (fun hc=>?_) (fun hc=>?_)
 ·obtain⟨j,rfl⟩: ∃j,i=j+1:= ⟨i - 1,by omega⟩
  have rO:j<s.length:=by omega
  have h1:=An (l:=s.drop j) (by rw [ai4];omega);have e:=C6 rO;rw [ff (n:= ((j+1:Nat):Int) - 1) (by omega) (by omega),show ((j+1:Nat):Int) - 1= (j:Int) by omega];refine⟨by omega,by omega,?_⟩;rw [aiY,ai3,ai1 rO,aj9];generalize s[j]=x at*;have hx:x.toNat<256:=x.toNat_lt;rw [cF (n:=256* ((iE (s.drop (j+1)):Nat):Int)) (by omega) (by omega),cF (n:= (x.toNat:Int)) (by omega) (by omega),cF (by omega) (by omega)];refine⟨⟨j,rfl,by omega,?_,by omega⟩,by show j< (_:Int).toNat;omega⟩
  congr 1
  rw [e];omega
 ·by_cases hs8:s.length≤8
  ·rw [if_pos hs8] at h
   have:i=0:=by omega
   subst this;exact h
  ·rw [if_neg hs8] at h
   have:i=s.length:=by omega
   subst this;rw [ajY];exact h
end
section
set_option maxRecDepth 100000
variable {H H0 H' :ag} {R:Value→ag→Prop} {L:List It} {s W c8:List UInt8} {B0 B C:List Bool} {bv ov lv dv:Value} {a n x:Nat} {sy di:List Int} {last:Bool}
def Ends (D:DM) (c8:List UInt8):Prop:= (run D).2= (⟨.dn,[],c8⟩,0)
theorem RL {D D' :DM} {o:List UInt8} (h:bV D= .wait D' o) (hn:D.st.iG=false):D'.st.iG=false:=by
 have XB: ∀ {D D' :DM} {e:Int} {o:List UInt8},SR.of D e= .wait D' o→D' =D:=by
  intro D D' e o h;unfold SR.of at h
  split at h
  ·cases h;rfl
  ·cases h
 obtain⟨st,B,W⟩:=D;unfold bV at h
 cases st with
 |hd=>
  simp only at h
  split at h
  ·cases h
  ·rw [XB h];rfl
 |cp left last=>
  simp only at h
  split at h
  ·cases h;rfl
  ·cases h
 |tl sy di last=>
  simp only at h
  split at h
  ·rw [XB h];rfl
  ·split at h
   ·cases h
   ·split at h
    ·cases h
    ·split at h
     ·rw [XB h];rfl
     ·split at h<;>cases h
 |dn=>cases hn
theorem Fu {D:DM} (h:Ends D c8) (hn:D.st.iG=false): ∃D' o,bV D= .go D' o∧Ends D' c8:=by
 unfold Ends at h
 cases hs:bV D with
 |go D' o=>
  rw [pR hs] at h;exact⟨D',o,rfl,h⟩
 |wait D' o=>
  rw [lu hn hs] at h;have h1:=RL hs hn;simp only [aj8] at h;rw [h.1] at h1
  cases h1
 |bad e=>
  rw [r9 hn hs] at h;simp only [aj8] at h;rw [h.1] at hn
  cases hn
theorem Fv {D:DM} (h:Ends D c8) (hl:ji D.st):D.W.length≤c8.length:=by
 have:= (E3 (mM D+1) D (by omega) hl).1;unfold Ends at h;rw [h] at this;have:=congrArg List.length this;rw [aiV] at this;simp only at this;omega
theorem TM (h:Ends ⟨.dn,B,W⟩ c8):B= []∧W=c8:=by
 unfold Ends at h;rw [ra rfl] at h;simp only [aj8,DM.mk.injEq] at h;exact⟨h.1.2.1,h.1.2.2⟩
theorem gW {α β:Type} {r:Rs α} {f:α→List Bool→Rs β} {y:β} {E:List Bool} (h:r.bind f= .ok y E): ∃v D,r= .ok v D∧f v D= .ok y E:=by
 cases r with
 |ok v D=>exact⟨v,D,rfl,h⟩
 |er e=>cases h
theorem Zj {D' :DM} {o:List UInt8} (h:bV ⟨.tl sy di last,B,W⟩= .go D' o): ∃s C,eM sy B= .ok s C∧((s=256∧D' =ib last C W)∨(s<256∧D' = ⟨.tl sy di last,C,W++ [UInt8.ofNat s]⟩)∨
  (256<s∧s≤285∧∃x C1 k C2 y C3,dQ (lenOf s).2.toNat C= .ok x C1∧eM di C1= .ok k C2∧k≤29∧dQ (bn k).2.toNat C2= .ok y C3∧1≤(bn k).1.toNat+y∧(bn k).1.toNat+y≤W.length∧
   D' = ⟨.tl sy di last,C3,cU ((lenOf s).1.toNat+x) W ((bn k).1.toNat+y)⟩)):=by
 have XB: ∀ {D D' :DM} {e:Int} {o:List UInt8},SR.of D e= .go D' o→False:=by
  intro D D' e o h;unfold SR.of at h
  split at h<;>cases h
 unfold bV at h;simp only at h
 split at h
 ·exact(XB h).elim
 ·rename_i s C hn
  refine⟨s,C,hn,?_⟩
  split at h
  ·rename_i p8
   cases h
   exact .inl ⟨p8,rfl⟩
  ·rename_i p8
   split at h
   ·rename_i cL
    cases h
    exact .inr (.inl ⟨cL,rfl⟩)
   ·rename_i S1
    split at h
    ·exact(XB h).elim
    ·rename_i p C3 hm
     split at h
     ·rename_i hd
      cases h
      unfold fD at hm
      split at hm
      ·cases hm
      ·rename_i Tt
       obtain⟨x,C1,e1,hm⟩:=gW hm;obtain⟨k,C2,e2,hm⟩:=gW hm
       split at hm
       ·cases hm
       ·rename_i h29
        obtain⟨y,C4,e3,hm⟩:=gW hm
        cases hm
        simp only at hd;exact .inr (.inr ⟨by omega,by omega,x,C1,k,C2,y,C3,e1,e2,by omega,e3,hd.1,by omega,rfl⟩)
     ·cases h
theorem RM: ∀i:Fin 29,0≤(lenOf (257+ (i.val:Int))).2∧(lenOf (257+ (i.val:Int))).2≤5∧3≤(lenOf (257+ (i.val:Int))).1∧(lenOf (257+ (i.val:Int))).1≤258:=by decide+kernel
theorem Oq: ∀i:Fin 30,0≤(bn (0+ (i.val:Int))).2∧(bn (0+ (i.val:Int))).2≤13∧1≤(bn (0+ (i.val:Int))).1∧(bn (0+ (i.val:Int))).1≤24577:=by decide+kernel
theorem zA {g:Int→Int × Int} {base:Int} {k i j:Nat} (hi:i<k) (hj:j<3): (vI g base k)[i*3+j]? = (CH g base i)[j]? :=by
 rw [←RG g base k i hi,alA hj,ajW]
theorem _root_.Go.Vc.au.RN {l:List Value} {v:Value} (o:au H0 H L) (N:RI H H' v l):au H0 H' (.sl v 3 l::L):=
 o.add N.ext (i:= .sl v 3 l) ⟨by decide,N.own⟩ (fun k hk=>N.new k hk)
theorem BX (hs:Sl H0 bv 1 (il B0)) (hB:B0.length≤1000000000) (Vv:Sl H lv 1 (aP sy)) (hdv:Sl H dv 1 (aP di)) (z1:qz sy) (z2:qz di) (ha:a≤B0.length) (hd:c8.length≤100000) (hE:Ends ⟨.tl sy di last,B0.drop a,W⟩ c8)
  (o:au H0 H (.sl ov 1 (W.map bu)::L)) (h: ∀H' v a' V,Ends (ib last (B0.drop a') V) c8→a<a' →a' ≤B0.length→au H0 H' (.sl v 1 (V.map bu)::L)→R (.tuple #[v,i64 a',.int .i64 0]) H'):ab 185 #[bv,i64 a,ov,lv,dv] H R:=by
 refine uK.vc _ _ _ _ _ _ _ ?_;refine tG Vv z1.1 fun wv H1 o1=>?_;refine tG (hdv.ext o1.ext) z2.1 fun wd H2 o2=>?_;have o:= (o.call o1).call o2;refine Iw fun H3 lens N3=>?_;have o:=o.RN N3;refine Om fun H4 CJ N4=>?_;have o:=o.RN N4;have o:au H0 H4 (.sl ov 1 (W.map bu):: .sl CJ 3 (vI bn 0 30):: .sl lens 3 (vI lenOf 257 29):: .sl wd 1 (cD (eL (natL di))):: .sl wv 1 (cD (eL (natL sy)))::L):=o.cY;refine⟨fun i v H' => ∃a' V,i=i64 a' ∧a≤a' ∧a' ≤B0.length∧Ends ⟨.tl sy di last,B0.drop a',V⟩ c8∧au H0 H' (.sl v 1 (V.map bu):: .sl CJ 3 (vI bn 0 30):: .sl lens 3 (vI lenOf 257 29):: .sl wd 1 (cD (eL (natL di))):: .sl wv 1 (cD (eL (natL sy)))::L),fun i _ _=>match i with| .int _ y=> (B0.length - y).toNat|_=>0,
  ⟨a,W,rfl,aiZ _,ha,hE,o⟩,?_⟩
 clear o o1 o2 N3 N4 hE Vv hdv ha;rintro _ _ ov H5 ⟨a',V,rfl,XC,ha,hE,o⟩;have ZR:=Fv hE trivial;simp only at ZR;obtain⟨D',o',c_,UI⟩:=Fu hE rfl;obtain⟨s,C,hn,Le⟩:=Zj c_;refine ua (hs.ext o.ext) hB ha (o.cf (v:=wv)) z1.1 z1.2 hn fun H6 n hx iJ h1 OA R1 hC=>?_;have o:=o.more hx;subst hC;have aei:=z1.1.1;refine ai (vs:= [i64 s,i64 (a' +n),.int .i64 0]) rfl ?_;refine ai (vs:= [i64 s,i64 (a' +n),.int .i64 0]) rfl ?_;refine ai (vs:= [i64 s,i64 (a' +n),.int .i64 0]) rfl ?_;refine ep ?_;rw [ak,aZ];rcases Le with ⟨rfl,rfl⟩ | ⟨cL,rfl⟩ | ⟨PK,Tt,x,C1,k,C2,y,C3,e1,e2,ahc,e3,Pw,hdW,rfl⟩
 ·rw [nR,aL]
  exact h H6 ov (a' +n) V UI (by omega) R1 ((o.Ah (L' := .sl CJ 3 (vI bn 0 30):: .sl lens 3 (vI lenOf 257 29):: .sl wd 1 (cD (eL (natL di))):: .sl wv 1 (cD (eL (natL sy))):: .sl ov 1 (V.map bu)::L) (by repeat(first|exact fK.refl|exact dD.here|apply fK.cons|apply dD.there))).lU 4)
 ·rw [ei,ak,aO,nR,aL]
  refine a8 ?_;have hw8: (Value.int .u8 (IntKind.u8.wrap ((s:Nat):Int)))=bu (UInt8.ofNat s):=by
   have hq:IntKind.u8.wrap ((s:Nat):Int)= (s:Int):=by simp only [IntKind.wrap,IntKind.bits,IntKind.signed];simp;omega
   rw [hq];unfold bu;rw [alO,ajg (by omega)]
  rw [hw8];refine o.cy (sz:=1) (by decide) rfl rfl fun z H7 o=>?_;refine o.append (n:=V.length) (m:=1) (by repeat(first|exact dD.here|apply dD.there)) rfl (o.cf (v:=z)) (by rw [ajh];omega) rfl rfl (by omega) fun v' H8 o=>?_;refine⟨⟨a' +n,V++ [UInt8.ofNat s],rfl,by omega,R1,UI,?_⟩,by show (_:Int).toNat< (_:Int).toNat;omega⟩;rw [ajy];exact(o.perm (List.Perm.swap _ _ _)).lU 1
 ·rw [ei,ak,aO,ei,ak,bc,ei,ak]
  obtain⟨i,rfl⟩: ∃i,s=257+i:= ⟨s - 257,by omega⟩;obtain⟨f1,f2,f3,f4⟩:=RM ⟨i,by omega⟩;obtain⟨g1,g2,g3,g4⟩:=Oq ⟨k,by omega⟩;simp only [amh] at f1 f2 f3 f4 g1 g2 g3 g4;rw [show (((257+i:Nat):Int))=257+ (i:Int) by omega] at e1;obtain⟨lb,yk⟩: ∃lb:Nat,(lenOf (257+ (i:Int))).2= (lb:Int):= ⟨_,(ajX f1).symm⟩;obtain⟨ll,nT⟩: ∃ll:Nat,(lenOf (257+ (i:Int))).1= (ll:Int):= ⟨(lenOf (257+ (i:Int))).1.toNat,by omega⟩;obtain⟨db,hdb⟩: ∃db:Nat,(bn (k:Int)).2= (db:Int):= ⟨_,(ajX g1).symm⟩;obtain⟨dl,Dy⟩: ∃dl:Nat,(bn (k:Int)).1= (dl:Int):= ⟨(bn (k:Int)).1.toNat,by omega⟩;have q1: (vI lenOf 257 29)[i*3+2]? =some (i64 lb):=by rw [zA (by omega) (by decide)];show some (Value.int .i64 (lenOf (257+ (i:Int))).2)=_;rw [yk]
  have q2: (vI lenOf 257 29)[i*3+1]? =some (i64 ll):=by rw [zA (by omega) (by decide)];show some (Value.int .i64 (lenOf (257+ (i:Int))).1)=_;rw [nT]
  have q3: (vI bn 0 30)[k*3+2]? =some (i64 db):=by rw [zA (by omega) (by decide)];show some (Value.int .i64 (bn (0+ (k:Int))).2)=_;rw [amh,hdb]
  have q4: (vI bn 0 30)[k*3+1]? =some (i64 dl):=by rw [zA (by omega) (by decide)];show some (Value.int .i64 (bn (0+ (k:Int))).1)=_;rw [amh,Dy]
  rw [yk,aiY] at e1;rw [hdb,aiY] at e3;rw [show (((257+i:Nat):Int))=257+ (i:Int) by omega,nT,Dy,aiY,aiY] at UI;rw [Dy,aiY] at Pw hdW;have Ce: ∀ {K:Value→Prop},K (i64 i)→bR (i64 (257+i)) (.int .i64 257) K:=fun hK=>by rw [bq,aJ,show (((257+i:Nat):Int) - 257)= (i:Int) by omega];exact hK
  refine Ce ?_;refine(o.cf (v:=lens)).gG (iD _ _ _) fun p hp=>?_;refine hp.field (f:=2) fun p hp=>?_;refine hp.load (o.cf (v:=lens)) (by rw [aiY];exact q1) ?_;refine oX (m:=0) (hs.ext o.ext) hB (by omega) e1 R1 fun GO Sa hC1=>?_;subst hC1;have nS:x<32:=ajN GO (show 2 ^ lb≤2 ^ 5 from ajk (by decide) (by omega));refine ai (vs:= [i64 x,.bool true]) rfl ?_;refine ai (vs:= [i64 x,.bool true]) rfl ?_;refine dj ?_;rw [show (!true)=false from rfl,ak];refine Ce ?_;refine(o.cf (v:=lens)).gG (iD _ _ _) fun p hp=>?_;refine hp.field (f:=1) fun p hp=>?_;refine hp.load (o.cf (v:=lens)) (by rw [aiY];exact q2) ?_;rw [ay,aJ,show ((ll:Int)+ (x:Int))= ((ll+x:Nat):Int) by omega];refine Ce ?_;refine(o.cf (v:=lens)).gG (iD _ _ _) fun p hp=>?_;refine hp.field (f:=2) fun p hp=>?_;refine hp.load (o.cf (v:=lens)) (by rw [aiY];exact q1) ?_;rw [ay,aJ,show (((a' +n:Nat):Int)+ (lb:Int))= ((a' +n+lb:Nat):Int) by omega];refine ua (hs.ext o.ext) hB (by omega) (o.cf (v:=wd)) z2.1 z2.2 e2 fun H7 n2 ea eF VB ahg acq hC2=>?_;have o:=o.more ea;subst hC2;refine ai (vs:= [i64 k,i64 (a' +n+lb+n2),.int .i64 0]) rfl ?_;refine ai (vs:= [i64 k,i64 (a' +n+lb+n2),.int .i64 0]) rfl ?_;refine ai (vs:= [i64 k,i64 (a' +n+lb+n2),.int .i64 0]) rfl ?_;refine ep ?_;rw [ak,bc,ei,ak];refine(o.cf (v:=CJ)).gG (iD _ _ _) fun p hp=>?_;refine hp.field (f:=2) fun p hp=>?_;refine hp.load (o.cf (v:=CJ)) (by rw [aiY];exact q3) ?_;refine oX (m:=0) (hs.ext o.ext) hB (by omega) e3 acq fun Cf hyb hC3=>?_;subst hC3;have ahj:y<8192:=ajN Cf (show 2 ^ db≤2 ^ 13 from ajk (by decide) (by omega));refine ai (vs:= [i64 y,.bool true]) rfl ?_;refine ai (vs:= [i64 y,.bool true]) rfl ?_;refine dj ?_;rw [show (!true)=false from rfl,ak];refine(o.cf (v:=CJ)).gG (iD _ _ _) fun p hp=>?_;refine hp.field (f:=1) fun p hp=>?_;refine hp.load (o.cf (v:=CJ)) (by rw [aiY];exact q4) ?_;rw [ay,aJ,show ((dl:Int)+ (y:Int))= ((dl+y:Nat):Int) by omega];refine(o.cf (v:=CJ)).gG (iD _ _ _) fun p hp=>?_;refine hp.field (f:=2) fun p hp=>?_;refine hp.load (o.cf (v:=CJ)) (by rw [aiY];exact q3) ?_;rw [ay,aJ,show (((a' +n+lb+n2:Nat):Int)+ (db:Int))= ((a' +n+lb+n2+db:Nat):Int) by omega];refine(o.cf (v:=ov)).len (n:=V.length) (by rw [ajh];omega) (by decide) ?_;rw [bc,ei,ak];have dM:=mg (ll+x) V (dl+y);refine⟨fun v i H' => ∃j,i=i64 j∧j≤ll+x∧au H0 H' (.sl v 1 ((cU j V (dl+y)).map bu):: .sl CJ 3 (vI bn 0 30):: .sl lens 3 (vI lenOf 257 29):: .sl wd 1 (cD (eL (natL di))):: .sl wv 1 (cD (eL (natL sy)))::L),fun _ i _=>match i with| .int _ y=> (ll+x - y).toNat|_=>0,
   ⟨0,rfl,ajj _,o⟩,?_⟩
  clear o;rintro _ v _ H8 ⟨j,rfl,hj,o⟩;have rO:=mg j V (dl+y);rw [aO];refine av (fun hc=>?_) (fun hc=>?_)
  ·have dg: ((cU j V (dl+y)).map bu).length= (V.length+j)*1:=by rw [ajh,rO];omega
   refine(o.cf (v:=v)).df dg ?_;rw [bq,aJ,show (((V.length+j:Nat):Int) - ((dl+y:Nat):Int))= ((V.length+j - (dl+y):Nat):Int) by omega];refine(o.cf (v:=v)).gG dg fun p hp=>?_;refine hp.load (o.cf (v:=v)) (by rw [aiY,ai5];exact PV _ _ (by omega)) ?_;refine o.cy (sz:=1) (by decide) rfl rfl fun z H9 o=>?_;refine o.append (n:=V.length+j) (m:=1) (by repeat(first|exact dD.here|apply dD.there)) rfl (o.cf (v:=z)) dg rfl rfl (by omega) fun v' B_ o=>?_;rw [ay,aJ];refine⟨⟨j+1,rfl,by omega,?_⟩,by show (_:Int).toNat< (_:Int).toNat;omega⟩;rw [r8,ajy,rO];exact(o.perm (List.Perm.swap _ _ _)).lU 1
  ·have hjj:j=ll+x:=by omega
   subst hjj;exact⟨⟨a' +n+lb+n2+db,_,rfl,by omega,by omega,UI,o⟩,by show (_:Int).toNat< (_:Int).toNat;omega⟩
end
section
set_option maxRecDepth 100000
variable {H H0 H' :ag} {R:Value→ag→Prop} {L:List It} {s W c8:List UInt8} {B0 B C:List Bool} {bv ov lv dv:Value} {a n x:Nat} {sy di:List Int} {last:Bool}
theorem _root_.Go.Vc.au.acs (o:au H0 H L) {M:List It} {v z:Value} {e:TypeId} {l t:List UInt8} {K:Value→ag→Prop} (fH:dD (.sl v 1 (l.map bu)) L M) (jL:2* (l.length+t.length)≤281474976710656)
  (hk: ∀v' H',au H0 H' (.sl v' 1 ((l++t).map bu)::M)→K v' H'):a7 H e 1 1 [z] v (str t) K:=by
 have o1:=o.front fH;obtain⟨hz,ho⟩:=o1.ok _ aiX;refine jJ.append (m:=t.length) (n:=l.length) (new:=t.map bu) ho hz rfl (by simp [jc,bB]) (by simp [cellsOf,bB]) (by simp) (by simp) (by simp [List.all_map,aS]) (by omega) fun v' H' o' hi hs hb=>?_;rw [←ajy] at o';refine hk v' H' (o1.jC cx.here hs (fun k hk hf=>hi k hk hf) ⟨hz,o'⟩ fun k hk=>?_);simp only [It.dF] at hk ⊢;rcases hb with hb|hb
 ·left;rw [←hb];exact hk
 ·right;rw [hb,ai8] at hk;omega
theorem l9 (s:List UInt8) {k:Nat} (h:k≤s.length): (toBits s).drop (8*k)=toBits (s.drop k):=by
 have e:toBits s=toBits (s.take k)++toBits (s.drop k):=by rw [←cG,ajp]
 have hl: (toBits (s.take k)).length=8*k:=by rw [bj,ai2];omega
 rw [e,←hl,akz]
theorem vK (s:List UInt8) {k:Nat} (h:k≤s.length): (toBits s).take (8*k)=toBits (s.take k):=by
 have e:toBits s=toBits (s.take k)++toBits (s.drop k):=by rw [←cG,ajp]
 have hl: (toBits (s.take k)).length=8*k:=by rw [bj,ai2];omega
 rw [e,←hl,alE]
theorem yi: ∀l:List UInt8,fV (toBits l)=iE l
 | []=>rfl
 |b::l=>by
  rw [ln,qQ,gO,aX,yi l,ajg b.toNat_lt]
  rfl
theorem RO {a b:Nat} (ha:a<65536) (hb:b<65536) (h:a ^^^ b=65535):a+b=65535:=by
 have e:BitVec.ofNat 16 b= ~~~ BitVec.ofNat 16 a:=by
  have h1:BitVec.ofNat 16 a ^^^ BitVec.ofNat 16 b=BitVec.allOnes 16:=by
   apply BitVec.eq_of_toNat_eq;rw [alM,ajH,ajH,ajg ha,ajg hb,h]
   rfl
  have h2:BitVec.ofNat 16 a ^^^ (BitVec.ofNat 16 a ^^^ BitVec.ofNat 16 b)=BitVec.ofNat 16 b:=by
   rw [←BitVec.xor_assoc,BitVec.xor_self,BitVec.zero_xor]
  rw [←h2,h1,BitVec.xor_allOnes]
 have:=congrArg BitVec.toNat e;rw [BitVec.toNat_not,ajH,ajH,ajg ha,ajg hb] at this;omega
theorem RP (s:List UInt8) (h:a≤8*s.length):dJ ((toBits s).drop a)=toBits (s.drop ((a+7) /8)):=by
 unfold dJ;rw [ajK,ai4,bj,←l9 s (by omega)]
 congr 1
 omega
theorem Iy (iJ:s.length≤100000) (ha:a≤8*s.length) (hd:c8.length≤100000) (hn:dQ 32 (dJ ((toBits s).drop a))= .ok x C) (hx: (x%65536) ^^^ (x/65536)=65535) (hE:Ends ⟨.cp (x%65536) last,C,W⟩ c8)
  (o:au H0 H (.sl ov 1 (W.map bu)::L)) (h: ∀H' v a' V,Ends (ib last ((toBits s).drop a') V) c8→a<a' →a' ≤8*s.length→au H0 H' (.sl v 1 (V.map bu)::L)→R (.tuple #[v,i64 a',.int .i64 0]) H'):ab 183 #[str s,i64 a,ov] H R:=by
 rw [RP s ha] at hn;obtain⟨k,hk⟩: ∃k,(a+7) /8=k:= ⟨_,rfl⟩;rw [hk] at hn;obtain⟨h1,h2,h3⟩:=u9 hn;rw [bj,ai4] at h1;have hk4:k+4≤s.length:=by omega
 have hWl:=Fv hE (by show x%65536≤65535;omega);simp only at hWl;have e4: (toBits (s.drop k)).take 32=toBits ((s.drop k).take 4):=vK (k:=4) _ (by rw [ai4];omega);have eC:C=toBits (s.drop (k+4)):=by
  rw [h3,show 32=8*4 from rfl,l9 _ (by rw [ai4];omega),ajK]
 have e5: (s.drop k).take 4= (s.drop k).take 2++ (s.drop (k+2)).take 2:=by rw [show 4=2+2 from rfl,List.take_add,ajK]
 have l1: ((s.drop k).take 2).length=2:=by rw [ai2,ai4];omega
 have l2: ((s.drop (k+2)).take 2).length=2:=by rw [ai2,ai4];omega
 have b1:=pE ((s.drop k).take 2);have b2:=pE ((s.drop (k+2)).take 2);rw [l1] at b1;rw [l2] at b2;have hxe:x=iE ((s.drop k).take 2)+65536*iE ((s.drop (k+2)).take 2):=by
  rw [h2,e4,yi,e5,BE,l1]
 have x1:x%65536=iE ((s.drop k).take 2):=by omega
 have x2:x/65536=iE ((s.drop (k+2)).take 2):=by omega
 have wF:=RO (by omega) (by omega) hx;rw [x1,x2] at wF;rw [x1] at hE;obtain⟨N,hN⟩: ∃N,iE ((s.drop k).take 2)=N:= ⟨_,rfl⟩;obtain⟨M2,hM⟩: ∃M2,iE ((s.drop (k+2)).take 2)=M2:= ⟨_,rfl⟩;rw [hN] at hE wF b1;rw [hM] at wF b2;have rS:dJ C=C:=by
  unfold dJ;rw [eC,bj,show 8* (s.drop (k+4)).length%8=0 by omega,ajt]
 obtain⟨D',o',c_,hE2⟩:=Fu hE rfl;have hCl:C.length=8* (s.length - (k+4)):=by rw [eC,bj,ai4]
 have hlen:k+4+N≤s.length:=by
  apply amo;intro hc;unfold bV at c_;simp only [rS] at c_;rw [if_pos (by omega)] at c_
  cases c_
 have hD:D' =ib last ((toBits s).drop (8* (k+4+N))) (W++ (s.drop (k+4)).take N):=by
  unfold bV at c_;simp only [rS] at c_;rw [if_neg (by omega)] at c_
  cases c_
  rw [eC,vK _ (by rw [ai4];omega),jx,l9 _ (by rw [ai4];omega),ajK,l9 _ (by omega)]
 rw [hD] at hE2;clear hD c_ hE eC hx;refine tg.vc _ _ _ _ _ ?_;rw [ay,aJ,iL];refine⟨by decide,?_⟩;rw [show ((a:Int)+7).tdiv 8= (k:Int) by rw [show ((a:Int)+7)= ((a+7:Nat):Int) by omega,←hk];rfl,aJ,ay,aJ];refine aC ?_;rw [bc,ei,ak,ay,aJ,show ((k:Int)+2)= ((k+2:Nat):Int) by omega];refine ba (lo:=k) (hi:=k+2) (.inl rfl) (.inl rfl) (by omega) (by omega) ?_;rw [aj7];refine rF (by omega) ?_;rw [if_pos (by omega),hN];refine a8 ?_;rw [aJ,ay,aJ,show ((k:Int)+2)= ((k+2:Nat):Int) by omega,ay,aJ,show ((k:Int)+4)= ((k+4:Nat):Int) by omega];refine ba (lo:=k+2) (hi:=k+4) (.inl rfl) (.inl rfl) (by omega) (by omega) ?_;rw [show k+4 - (k+2)=2 by omega];refine rF (by omega) ?_;rw [if_pos (by omega),hM];refine a8 ?_;rw [aJ,ay,aJ,fx,ei,ak,ay,aJ,ay,aJ];refine aC ?_;rw [bc,ei,ak,ay,aJ,ay,aJ,ay,aJ,show ((k:Int)+4)= ((k+4:Nat):Int) by omega,show (((k+4:Nat):Int)+ (N:Int))= ((k+4+N:Nat):Int) by omega];refine ba (lo:=k+4) (hi:=k+4+N) (.inl rfl) (.inl rfl) (by omega) (by omega) ?_;rw [aj7];have hWN:=Fv hE2 (by cases last<;>trivial);have acv: (W++ (s.drop (k+4)).take N).length≤200000:=by rw [aiV,ai2,ai4];omega
 rw [aiV] at acv;refine o.acs (by repeat(first|exact dD.here|apply dD.there)) (by omega) fun v' H1 o=>?_;rw [ay,aJ,ay,aJ,gw,aJ,show ((8:Int)* ((k:Int)+4+ (N:Int)))= ((8* (k+4+N):Nat):Int) by omega];exact h H1 v' (8* (k+4+N)) _ hE2 (by omega) (by omega) o
def Iz (i:Nat):Int:=if 256≤i∧i<280 then 7 else if 144≤i∧i<256 then 9 else 8
theorem TN: ∀i:Fin 288,gm[i.val]? =some (Iz i.val):=by decide+kernel
theorem IA (h: ∀H' l d,Sl H' l 1 (aP gm)→Sl H' d 1 (aP nc)→Ext H H' →R (.tuple #[l,d]) H'):ab 184 #[] H R:=by
 have FI:gm.length=288:=by decide
 refine tj.vc _ _ ?_;refine⟨fun v i H' => ∃k:Nat,i=i64 k∧k≤288∧au H H' [.sl v 1 (aP (gm.take k))],fun _ i _=>match i with| .int _ y=> (288 - y).toNat|_=>0,⟨0,rfl,ajj _,qy 1 (by decide) au.start⟩,?_⟩;rintro _ l2 _ H1 ⟨k,rfl,hk,o⟩;rw [aO];refine av (fun hc=>?_) (fun hc=>?_)
 ·have eF:k<288:=by omega
  have Eg:=TN ⟨k,eF⟩;refine⟨fun v H' =>v= .int .i64 (if 144≤k∧k<256 then 9 else 8)∧H' =H1,?_,?_⟩
  ·rintro _ _ H2 ⟨rfl,rfl⟩
   refine⟨fun v H' =>v= .int .i64 (Iz k)∧H' =H2,?_,?_⟩
   ·rintro _ _ H3 ⟨rfl,rfl⟩
    refine o.cy (sz:=1) (by decide) rfl rfl fun z H4 o=>?_;refine o.append (n:=k) (m:=1) (by repeat(first|exact dD.here|apply dD.there)) rfl (o.cf (v:=z)) (by rw [aV,ai2];omega) rfl rfl (by omega) fun v' H5 o=>?_;rw [ay,aJ];refine⟨⟨k+1,rfl,by omega,?_⟩,by show (_:Int).toNat< (_:Int).toNat;omega⟩;have e:aP (gm.take (k+1))=aP (gm.take k)++ (Value.int .i64 (Iz k)).cells.toList:=by
     rw [ajr,Eg,iV]
     rfl
    rw [e];exact o.h_
   ·rw [dH]
    refine dC (d:=decide (k<280)) (fun _=>by rw [aO];exact⟨by congr 1;exact decide_eq_decide.2 (by omega),rfl⟩) ?_;intro _;refine cN (fun hb=> ⟨?_,rfl⟩) (fun hb=> ⟨?_,rfl⟩)
    ·rw [aja,decide_eq_true_eq,decide_eq_true_eq] at hb
     unfold Iz;rw [if_pos (by omega)]
    ·have hq: ¬ (256≤k∧k<280):=fun hq=>by simp only [amg,decide_eq_false_iff_not] at hb;omega
     unfold Iz;rw [if_neg hq]
  ·rw [dH]
   refine dC (d:=decide (k<256)) (fun _=>by rw [aO];exact⟨by congr 1;exact decide_eq_decide.2 (by omega),rfl⟩) ?_;intro _;refine cN (fun hb=> ⟨?_,rfl⟩) (fun hb=> ⟨?_,rfl⟩)
   ·rw [aja,decide_eq_true_eq,decide_eq_true_eq] at hb
    rw [if_pos (by omega)]
   ·rw [if_neg (fun hq=>by simp only [amg,decide_eq_false_iff_not] at hb;omega)]
 ·have WA:k=288:=by omega
  subst WA;rw [ajf (by omega)] at o;have o:=qy 1 (by decide) o;refine⟨fun v i H' => ∃k:Nat,i=i64 k∧k≤32∧au H H' [.sl v 1 (aP (List.replicate k 5)),.sl l2 1 (aP gm)],fun _ i _=>match i with| .int _ y=> (32 - y).toNat|_=>0,⟨0,rfl,ajj _,o⟩,?_⟩;clear o;rintro _ d3 _ H2 ⟨k,rfl,hk,o⟩;rw [aO];refine av (fun hc=>?_) (fun hc=>?_)
  ·refine o.cy (sz:=1) (by decide) rfl rfl fun z H4 o=>?_
   refine o.append (n:=k) (m:=1) (by repeat(first|exact dD.here|apply dD.there)) rfl (o.cf (v:=z)) (by rw [aV,ajB];omega) rfl rfl (by omega) fun v' H5 o=>?_;rw [ay,aJ];refine⟨⟨k+1,rfl,by omega,?_⟩,by show (_:Int).toNat< (_:Int).toNat;omega⟩;have e:aP (List.replicate (k+1) 5)=aP (List.replicate k 5)++ (Value.int .i64 5).cells.toList:=by
    rw [ald,iV]
    rfl
   rw [e];exact o.h_
  ·have WA:k=32:=by omega
   subst WA;exact h H2 l2 d3 (o.cf (v:=l2)) (o.cf (v:=d3)) o.ext
end
section
set_option maxRecDepth 100000
variable {H H0 H' :ag} {R:Value→ag→Prop} {L:List It} {s W c8:List UInt8} {B0 B C:List Bool} {bv ov lv dv:Value} {a n x:Nat} {sy di:List Int} {last:Bool}
theorem WC {p:List Int × List Int} (h:qu B= .ok p C): ∃v B1 t B2 l,dQ 14 B= .ok v B1∧v%32+257≤286∧v/32%32+1≤30∧kz (bF.take (v/1024+4)) (List.replicate 19 0) B1= .ok t B2∧ia t false=0∧
  kc (v%32+257+ (v/32%32+1)+1) t (v%32+257+ (v/32%32+1)) [] B2= .ok l C∧l.getD 256 0≠0∧ia (l.take (v%32+257)) false=0∧ia (l.drop (v%32+257)) true=0∧p= (l.take (v%32+257),l.drop (v%32+257)):=by
 unfold qu at h;obtain⟨v,B1,e1,h⟩:=gW h
 split at h
 ·cases h
 rename_i h1
 obtain⟨t,B2,e2,h⟩:=gW h
 split at h
 ·cases h
 rename_i h2
 obtain⟨l,B3,e3,h⟩:=gW h
 split at h
 ·cases h
 rename_i h3
 split at h
 ·cases h
 rename_i h4
 split at h
 ·cases h
 rename_i h5
 cases h
 exact⟨v,B1,t,B2,l,e1,by omega,by omega,e2,ami.1 h2,e3,h3,ami.1 h4,ami.1 h5,rfl⟩
def BY (s:Nat):Nat:=if s=18 then 7 else if s=17 then 3 else 2
def rG (s:Nat):Nat:=if s=18 then 11 else 3
def RQ (s:Nat) (out:List Int):Int:=if s=16 then out.getD (out.length - 1) 0 else 0
theorem WD {s:Nat} {out:List Int} {r:Nat × Int} (YU:16≤s) (h19:s<19) (h:oI s out B= .ok r C): ∃x,dQ (BY s) B= .ok x C∧r= (rG s+x,RQ s out)∧(s=16→out≠ []):=by
 have hs:s=16∨s=17∨s=18:=by omega
 unfold oI at h;rcases hs with rfl|rfl|rfl
 ·rw [if_pos rfl] at h
  split at h
  ·cases h
  ·rename_i ho
   obtain⟨x,D,e,h⟩:=gW h
   cases h
   exact⟨x,e,rfl,fun _=>ho⟩
 ·rw [if_neg (by decide),if_pos rfl] at h
  obtain⟨x,D,e,h⟩:=gW h
  cases h
  exact⟨x,e,rfl,fun h=>by omega⟩
 ·rw [if_neg (by decide),if_neg (by decide),if_pos rfl] at h
  obtain⟨x,D,e,h⟩:=gW h
  cases h
  exact⟨x,e,rfl,fun h=>by omega⟩
theorem TO {s:Nat} {out:List Int} {r:Nat × Int} (YU:s<16) (h:oI s out B= .ok r C):r= (1,(s:Int))∧C=B:=by
 unfold oI at h;rw [if_neg (by omega),if_neg (by omega),if_neg (by omega)] at h
 cases h
 exact⟨rfl,rfl⟩
def TP:List Int:= [16,17,18,0,8,7,9,6,10,5,11,4,12,3,13,2,14,1,15]
theorem TQ: ∀i:Fin 19,TP[i.val]? =some ((bF.getD i.val 0:Nat):Int)∧bF.getD i.val 0<19∧bF[i.val]? =some (bF.getD i.val 0):=by decide
set_option maxHeartbeats 1600000 in
theorem IB {p:List Int × List Int} (hs:Sl H bv 1 (il B0)) (hB:B0.length≤1000000000) (ha:a≤B0.length) (acw:qu (B0.drop a)= .ok p C)
  (h: ∀H' v1 v2 a',Sl H' v1 1 (aP p.1)→Sl H' v2 1 (aP p.2)→Ext H H' →a≤a' →a' ≤B0.length→C=B0.drop a' →qz p.1→qz p.2→R (.tuple #[v1,v2,i64 a',.int .i64 0]) H'):ab 186 #[bv,i64 a] H R:=by
 obtain⟨v,B1,t,B2,l,e1,hA,hD,e2,Hg,e3,p8,Lo,Xo,rfl⟩:=WC acw;have JD:maxLen=9223372036854775807:=rfl;refine ts.vc _ _ _ _ ?_;refine oX (m:=0) hs hB (by decide) e1 ha fun dg hvb Z7=>?_;subst Z7;have ahm:v<16384:=dg;refine ai (vs:= [i64 v,.bool true]) rfl ?_;refine ai (vs:= [i64 v,.bool true]) rfl ?_;refine dj ?_;rw [show (!true)=false from rfl,ak];obtain⟨A,hAe⟩: ∃A,v%32+257=A:= ⟨_,rfl⟩;obtain⟨D,W0⟩: ∃D,v/32%32+1=D:= ⟨_,rfl⟩;obtain⟨c,Ww⟩: ∃c,v/1024+4=c:= ⟨_,rfl⟩;rw [hAe] at hA e3 Lo Xo h;rw [W0] at hD e3;rw [Ww] at e2;have VZ:c≤19:=by omega
 rw [gz];refine⟨by decide,?_⟩;rw [show ((v:Int)).tmod 32= ((v%32:Nat):Int) from rfl,ay,aJ,show (((v%32:Nat):Int)+257)= (A:Int) by omega,iL];refine⟨by decide,?_⟩;rw [show ((v:Int)).tdiv 32= ((v/32:Nat):Int) from rfl,aJ,gz];refine⟨by decide,?_⟩;rw [show (((v/32:Nat):Int)).tmod 32= ((v/32%32:Nat):Int) from rfl,ay,aJ,show (((v/32%32:Nat):Int)+1)= (D:Int) by omega,iL];refine⟨by decide,?_⟩;rw [show ((v:Int)).tdiv 1024= ((v/1024:Nat):Int) from rfl,aJ,ay,aJ,show (((v/1024:Nat):Int)+4)= (c:Int) by omega,bc,ei];refine aM ?_;rw [bc,ei];intro _;rw [ak,ay,aJ,show ((a:Int)+14)= ((a+14:Nat):Int) by omega];refine(au.start (H:=H)).build 1 (n:=19) (vs:=aP TP) (by decide) (fun K' hK=>?_) rfl fun ow H1 o=>?_
 ·rw [show (List.replicate 19 (Value.int .i64 0))= [.int .i64 0,.int .i64 0,.int .i64 0,.int .i64 0,.int .i64 0,.int .i64 0,.int .i64 0,.int .i64 0,.int .i64 0,.int .i64 0,.int .i64 0,.int .i64 0,.int .i64 0,.int .i64 0,.int .i64 0,.int .i64 0,.int .i64 0,.int .i64 0,.int .i64 0] from rfl]
  iterate 19 refine aR rfl (ai7 rfl) ?_
  rw [br];exact hK
 refine o.qh (n:=19) (by decide) (by decide) (by decide) fun lw H2 o=>?_;have o:au H H2 [.sl lw 1 (aP (List.replicate 19 0)),.sl ow 1 (aP TP)]:=o;refine⟨fun y i H' => ∃ (k a' :Nat) (z:List Int),i=i64 k∧y=i64 a' ∧k≤c∧a≤a' ∧a' ≤B0.length∧z.length=19∧kz ((bF.take c).drop k) z (B0.drop a')= .ok t B2∧au H H' [.sl lw 1 (aP z),.sl ow 1 (aP TP)],fun _ i _=>match i with| .int _ y=> (c - y).toNat|_=>0,
  ⟨0,a+14,_,rfl,rfl,ajj _,by omega,hvb,by simp,by rw [ajt];exact e2,o⟩,?_⟩
 clear o e2;rintro _ _ _ H3 ⟨k,a',z,rfl,rfl,hk,XC,vQ,TR,e2,o⟩;rw [aO];refine av (fun hc=>?_) (fun hc=>?_)
 ·have Z_:k<c:=by omega
  obtain⟨q1,q2,q3⟩:=TQ ⟨k,by omega⟩;simp only at q1 q2 q3;obtain⟨j,hj⟩: ∃j,bF.getD k 0=j:= ⟨_,rfl⟩;rw [hj] at q1 q2 q3;have e4: (bF.take c).drop k=j:: (bF.take c).drop (k+1):=by
   have cL:k< (bF.take c).length:=by rw [ai2];show k<min c 19;omega
   rw [ajJ cL]
   congr 1
   have:=ai1 cL;rw [alA Z_,q3] at this;exact(ajz this).symm
  rw [e4,kz] at e2;obtain⟨x,B3,e5,e2⟩:=gW e2;refine oX (m:=0) (hs.ext o.ext) hB (by decide) e5 vQ fun GO Sa hB3=>?_;subst hB3;have B9:x<8:=GO;refine ai (vs:= [i64 x,.bool true]) rfl ?_;refine ai (vs:= [i64 x,.bool true]) rfl ?_;refine dj ?_;rw [show (!true)=false from rfl,ak];refine(o.cf (v:=ow)).at_ (n:=19) (by rw [aV];rfl) (by decide) (by omega) (by omega) fun p hp=>?_;refine hp.load (o.cf (v:=ow)) (w:=i64 j) (by rw [aiY,ai5];unfold aP;rw [aji,q1];rfl) ?_;refine(o.cf (v:=lw)).at_ (n:=19) (by rw [aV,TR]) (by decide) (by omega) (by omega) fun p hp=>?_;refine o.store hp (by repeat(first|exact aiX|apply aiW)) (by rw [aV,TR,aiY];omega) rfl (by repeat(first|exact cx.here|apply cx.there)) fun H4 o _=>?_;rw [ay,aJ,ay,aJ];refine⟨⟨k+1,a' +3,z.set j (x:Int),rfl,rfl,by omega,by omega,Sa,by rw [aj1];exact TR,e2,?_⟩,by show (_:Int).toNat< (_:Int).toNat;omega⟩;rw [aiY,ai5,jP] at o;exact o
 ·have Z_:k=c:=by omega
  subst Z_;rw [akd (by rw [ai2];omega),kz] at e2
  cases e2
  have zt:=kX Hg;refine Ax (o.cf (v:=lw)) (by omega) ?_;rw [Hg];refine ep ?_;rw [ak];refine tG (o.cf (v:=lw)) zt.1 fun ww H4 o4=>?_;have o:=o.call o4;have o:=qy 1 (by decide) o;have o:au H H4 [.sl (.slice none 0 0) 1 (aP []),.sl ww 1 (cD (eL (natL t)))]:=o.h_;refine⟨fun y v H' => ∃ (k a2:Nat) (out:List Int),y=i64 a2∧a≤a2∧a2≤B0.length∧out.length≤A+D∧kc k t (A+D) out (B0.drop a2)= .ok l C∧au H H' [.sl v 1 (aP out),.sl ww 1 (cD (eL (natL t)))],fun y _ _=>match y with| .int _ q=> (B0.length - q).toNat|_=>0,
   ⟨_,a',[],rfl,XC,vQ,by simp,e3,o⟩,?_⟩
  clear o o4 e3;rintro _ _ ov H5 ⟨f,a2,out,rfl,Zk,Oz,Mp,e3,o⟩;have dg: (aP out).length=out.length*1:=by rw [aV];omega
  refine(o.cf (v:=ov)).df dg ?_;rw [ay,aJ,aO]
  cases f with
  |zero=>unfold kc at e3;cases e3
  |succ f=>
   rw [kc] at e3;refine av (fun hc=>?_) (fun hc=>?_)
   ·rw [if_neg (by omega)] at e3
    obtain⟨s',B3,e4,e3⟩:=gW e3;obtain⟨r,B4,e5,e3⟩:=gW e3
    split at e3
    ·cases e3
    rename_i hr
    refine ua (hs.ext o.ext) hB Oz (o.cf (v:=ww)) zt.1 zt.2 e4 fun H6 n1 pc iJ h1 OA R1 hB3=>?_;have o:=o.more pc;subst hB3;rw [TR] at iJ;refine ai (vs:= [i64 s',i64 (a2+n1),.int .i64 0]) rfl ?_;refine ai (vs:= [i64 s',i64 (a2+n1),.int .i64 0]) rfl ?_;refine ai (vs:= [i64 s',i64 (a2+n1),.int .i64 0]) rfl ?_;refine ep ?_;rw [ak,aO];refine av (fun YU=>?_) (fun YU=>?_)
    ·obtain⟨rfl,rfl⟩:=TO (by omega) e5
     refine o.cy (sz:=1) (by decide) rfl rfl fun zz H7 o=>?_;refine o.append (n:=out.length) (m:=1) (by repeat(first|exact dD.here|apply dD.there)) rfl (o.cf (v:=zz)) dg rfl rfl (by omega) fun v' H8 o=>?_;refine⟨⟨f,a2+n1,out++ [(s' :Int)],rfl,by omega,R1,by rw [aiV,akc];simp only at hr;omega,e3,?_⟩,by show (_:Int).toNat< (_:Int).toNat;omega⟩;rw [iV];exact o.h_
    ·obtain⟨x,e6,rfl,cQ⟩:=WD (by omega) iJ e5
     simp only at hr e3;have hb7:BY s' ≤7:=by unfold BY;split;decide;split<;>decide
     have ahp:rG s' ≤11:=by unfold rG;split<;>decide
     refine⟨fun v H' =>v= .int .i64 (RQ s' out)∧H' =H6,?_,?_⟩
     ·rintro _ _ H7 ⟨rfl,rfl⟩
      refine⟨fun v H' =>v= .int .i64 (if s' =17 then 3 else 2)∧H' =H7,?_,?_⟩
      ·rintro _ _ H8 ⟨rfl,rfl⟩
       refine⟨fun v y H' =>v=i64 (rG s')∧y=i64 (BY s')∧H' =H8,?_,?_⟩
       ·rintro _ _ _ H9 ⟨rfl,rfl,rfl⟩
        refine oX (m:=0) (hs.ext o.ext) hB (by omega) e6 R1 fun GO Sa hB4=>?_;subst hB4;have aek:x<128:=ajN GO (show 2 ^ BY s' ≤2 ^ 7 from ajk (by decide) hb7);refine ai (vs:= [i64 x,.bool true]) rfl ?_;refine ai (vs:= [i64 x,.bool true]) rfl ?_;refine dj ?_;rw [show (!true)=false from rfl,ak,ay,aJ];refine(o.cf (v:=ov)).df dg ?_;rw [ay,aJ,ay,aJ,ay,aJ,bc,ei,ak];refine⟨fun v i H' => ∃j,i=i64 j∧j≤rG s' +x∧au H H' [.sl v 1 (aP (out++List.replicate j (RQ s' out))),.sl ww 1 (cD (eL (natL t)))],fun _ i _=>match i with| .int _ q=> (rG s' +x - q).toNat|_=>0,
         ⟨0,rfl,ajj _,by rw [amJ,ajl];exact o⟩,?_⟩
        clear o;rintro _ v2 _ B_ ⟨j,rfl,hj,o⟩;rw [ay,aJ,aO];refine av (fun hcj=>?_) (fun hcj=>?_)
        ·refine o.cy (sz:=1) (by decide) rfl rfl fun zz OE o=>?_
         refine o.append (n:=out.length+j) (m:=1) (by repeat(first|exact dD.here|apply dD.there)) rfl (o.cf (v:=zz)) (by rw [aV,aiV,ajB];omega) rfl rfl (by omega) fun v' Uv o=>?_;rw [ay,aJ];refine⟨⟨j+1,rfl,by omega,?_⟩,by show (_:Int).toNat< (_:Int).toNat;omega⟩;rw [ald,←ai0,iV];exact o.h_
        ·have hjj:j=rG s' +x:=by omega
         subst hjj;refine⟨⟨f,a2+n1+BY s',_,rfl,by omega,Sa,by rw [aiV,ajB];omega,e3,o⟩,by show (_:Int).toNat< (_:Int).toNat;omega⟩
       ·rw [aZ]
        refine av (fun YQ=>?_) (fun YQ=>?_)
        ·have YQ:s' =18:=by omega
         subst YQ;exact⟨rfl,rfl,rfl⟩
        ·refine⟨by unfold rG;rw [if_neg (by omega)];rfl,?_,rfl⟩
         have hq: ¬s' =18:=by omega
         unfold BY;rw [if_neg hq]
         split<;>rfl
      ·rw [aZ]
       refine av (fun XD=>?_) (fun XD=>?_)
       ·rw [if_pos (by omega)];exact⟨rfl,rfl⟩
       ·rw [if_neg (by omega)];exact⟨rfl,rfl⟩
     ·rw [aZ]
      refine av (fun XD=>?_) (fun XD=>?_)
      ·have XD:s' =16:=by omega
       have cQ:=cQ XD;have Jo:0<out.length:=amw.2 cQ;refine(o.cf (v:=ov)).df dg ?_;rw [aZ,ei,ak];refine(o.cf (v:=ov)).df dg ?_;rw [bq,aJ,show ((out.length:Int) - 1)= ((out.length - 1:Nat):Int) by omega];refine(o.cf (v:=ov)).gG dg fun p hp=>?_;refine hp.load (o.cf (v:=ov)) (w:= .int .i64 (out.getD (out.length - 1) 0)) (by rw [aiY,ai5];exact pU (by omega)) ?_;unfold RQ;rw [if_pos XD];exact⟨rfl,rfl⟩
      ·unfold RQ
       rw [if_neg (by omega)];exact⟨rfl,rfl⟩
   ·rw [if_pos (by omega)] at e3
    cases e3
    refine(o.cf (v:=ov)).at_ dg (by decide) (by decide) (by omega) fun p hp=>?_;refine hp.load (o.cf (v:=ov)) (w:= .int .i64 (l.getD 256 0)) (by show (aP l)[256]? =_;exact pU (by omega)) ?_;rw [aZ,decide_eq_false p8,ak];refine(o.cf (v:=ov)).cut (n:=l.length) (lo:=0) (hi:=A) (by decide) dg (ajj _) (by omega) (fun v1 qL=>?_) (.inr ⟨rfl,rfl⟩) (.inl rfl);rw [ak7,ajt,ajO,ai5,kJ] at qL;refine Ax qL (by rw [ai2];omega) ?_;rw [Lo];refine ep ?_;rw [ak];refine(o.cf (v:=ov)).cut (n:=l.length) (lo:=A) (hi:=l.length) (by decide) dg (by omega) (aiZ _) (fun v2 B6=>?_) (.inl rfl) (.inr ⟨rfl,rfl⟩);rw [ai5,ai5,tq,kJ,ajf (by rw [ai4];omega)] at B6;refine Ax B6 (by rw [ai4];omega) ?_;rw [Xo];refine ep ?_;rw [ak];refine(o.cf (v:=ov)).cut (n:=l.length) (lo:=0) (hi:=A) (by decide) dg (ajj _) (by omega) (fun v3 Un=>?_) (.inr ⟨rfl,rfl⟩) (.inl rfl);rw [ak7,ajt,ajO,ai5,kJ] at Un;refine(o.cf (v:=ov)).cut (n:=l.length) (lo:=A) (hi:=l.length) (by decide) dg (by omega) (aiZ _) (fun v4 Xw=>?_) (.inl rfl) (.inr ⟨rfl,rfl⟩);rw [ai5,ai5,tq,kJ,ajf (by rw [ai4];omega)] at Xw;exact h H5 v3 v4 a2 Un Xw o.ext Zk Oz rfl (kX Lo) (kX Xo)
theorem TS {D' :DM} {o:List UInt8} (h:bV ⟨.hd,B,W⟩= .go D' o): ∃st C,fM B= .ok st C∧D' = ⟨st,C,W⟩:=by
 unfold bV at h;simp only at h
 split at h
 ·rename_i st C hh
  cases h
  exact⟨st,C,hh,rfl⟩
 ·unfold SR.of at h
  split at h<;>cases h
theorem Zl (h:a+3≤B0.length):fV ((B0.drop a).take 3)= (B0[a]).toNat+2* ((B0[a+1]).toNat+2* (B0[a+2]).toNat):=by
 have e: (B0.drop a).take 3= [B0[a],B0[a+1],B0[a+2]]:=by
  rw [ajJ (i:=a) (by omega),ajJ (i:=a+1) (by omega),ajJ (i:=a+1+1) (by omega)]
  rfl
 rw [e];show (B0[a]).toNat+2* ((B0[a+1]).toNat+2* ((B0[a+2]).toNat+2*0))=_;omega
set_option maxHeartbeats 1600000 in
theorem IC (iJ:s.length≤100000) (hd:c8.length≤100000) (eB:run ⟨.hd,toBits s,[]⟩= (c8,⟨.dn,[],c8⟩,0)) (h: ∀H' v a',Sl H' v 1 (c8.map bu)→(a' +7) /8=s.length→Ext H H' →R (.tuple #[v,i64 a',.int .i64 0]) H'):ab 133 #[str s] H R:=by
 obtain⟨B0,Zm⟩: ∃B0,toBits s=B0:= ⟨_,rfl⟩;have hBl:B0.length=8*s.length:=by rw [←Zm,bj]
 have hE:Ends ⟨.hd,B0,[]⟩ c8:=by unfold Ends;rw [←Zm,eB]
 refine uI.vc _ _ _ ?_;refine Ft (by omega) fun H1 bv hbo jg hfr=>?_;rw [Zm] at hbo;have hs:=hbo.sl (by decide);have yV: (il B0).length=B0.length*1:=by rw [mo];omega
 have o:au H1 H1 [.sl (.slice none 0 0) 1 (([]:List UInt8).map bu)]:=qy 1 (by decide) au.start;refine⟨fun v y H' => ∃a W,y=i64 a∧a≤B0.length∧Ends ⟨.hd,B0.drop a,W⟩ c8∧au H1 H' [.sl v 1 (W.map bu)],fun _ y _=>match y with| .int _ q=> (B0.length - q).toNat|_=>0,⟨0,[],rfl,ajj _,by rw [ajt];exact hE,o⟩,?_⟩;clear o hE eB;rintro _ ov _ H2 ⟨a,W,rfl,ha,hE,o⟩;obtain⟨D',o',c_,UI⟩:=Fu hE rfl;obtain⟨st,C,hh,rfl⟩:=TS c_;unfold fM at hh;obtain⟨v,B1,e1,hh⟩:=gW hh;obtain⟨h1,h2,h3⟩:=u9 e1;rw [ai4] at h1;have Uc:a+3≤B0.length:=by omega
 rw [Zl Uc] at h2;rw [ajK] at h3;subst h3;have lL:=hs.ext o.ext;have b0: (B0[a]).toNat≤1:=by cases B0[a]<;>decide
 have b1: (B0[a+1]).toNat≤1:=by cases B0[a+1]<;>decide
 have b2: (B0[a+2]).toNat≤1:=by cases B0[a+2]<;>decide
 obtain⟨x0,hx0⟩: ∃x,(B0[a]).toNat=x:= ⟨_,rfl⟩;obtain⟨x1,acz⟩: ∃x,(B0[a+1]).toNat=x:= ⟨_,rfl⟩;obtain⟨x2,ea⟩: ∃x,(B0[a+2]).toNat=x:= ⟨_,rfl⟩;have g0:=vJ (l:=B0) (i:=a) (by omega);have g1:=vJ (l:=B0) (i:=a+1) (by omega);have g2:=vJ (l:=B0) (i:=a+2) (by omega);rw [hx0] at g0 h2 b0;rw [acz] at g1 h2 b1;rw [ea] at g2 h2 b2;have B6:v%2=x0:=by omega
 have hvd:v/2=x1+2*x2:=by omega
 rw [hvd] at hh;simp only [B6] at hh;obtain⟨last,A2⟩: ∃b:Bool,decide (x0=1)=b:= ⟨_,rfl⟩;simp only [A2] at hh;rw [ay,aJ];refine lL.df yV ?_;rw [bc,ei,ak];refine lL.gG yV fun p hp=>?_;refine hp.load lL (by rw [aiY,ai5];exact g0) ?_;rw [aZ,show decide (((x0:Nat):Int)=1)=last by rw [←A2];exact decide_eq_decide.2 (by omega),ay,aJ,show ((a:Int)+1)= ((a+1:Nat):Int) by omega];refine lL.gG yV fun p hp=>?_;refine hp.load lL (by rw [aiY,ai5];exact g1) ?_;rw [ay,aJ,show ((a:Int)+2)= ((a+2:Nat):Int) by omega];refine lL.gG yV fun p hp=>?_;refine hp.load lL (by rw [aiY,ai5];exact g2) ?_;rw [gw,aJ,ay,aJ,show ((x1:Int)+2* (x2:Int))= ((x1+2*x2:Nat):Int) by omega,ay,aJ,show ((a:Int)+3)= ((a+3:Nat):Int) by omega];refine⟨fun v y e H' => ∃a' V,e= .int .i64 0∧y=i64 a' ∧a<a' ∧a' ≤B0.length∧Ends (ib last (B0.drop a') V) c8∧au H1 H' [.sl v 1 (V.map bu)],?_,?_⟩
 ·clear o
  rintro _ v2 _ _ H3 ⟨a',V,rfl,rfl,XC,vQ,TT,o⟩;refine ep ?_;rw [ak]
  cases last with
  |true=>
   rw [aL];obtain⟨q1,q2⟩:=TM TT;have q1:=congrArg List.length q1;unfold dJ at q1;rw [ai4,ai4] at q1;simp only [ai_] at q1;rw [q2] at o;exact h H3 v2 a' (o.cf (v:=v2)) (by omega) (jg.trans o.ext)
  |false=>
   rw [ak];exact⟨⟨a',V,rfl,vQ,TT,o⟩,by show (_:Int).toNat< (_:Int).toNat;omega⟩
 ·rw [aZ]
  refine av (fun k0=>?_) (fun k0=>?_)
  ·have k0:x1+2*x2=0:=by omega
   rw [if_pos k0] at hh;obtain⟨x,B2,e2,hh⟩:=gW hh
   split at hh
   ·cases hh
   rename_i QG
   cases hh
   rw [←Zm] at e2;refine Iy iJ (by omega) hd e2 (ami.1 QG) UI o fun H3 v3 a' V TT XC vQ o=>?_;rw [Zm] at TT;refine ai (vs:= [v3,i64 a',.int .i64 0]) rfl ?_;refine ai (vs:= [v3,i64 a',.int .i64 0]) rfl ?_;refine ai (vs:= [v3,i64 a',.int .i64 0]) rfl ?_;exact⟨a',V,rfl,rfl,by omega,by omega,TT,o⟩
  ·rw [if_neg (by omega)] at hh
   rw [aZ];refine av (fun k1=>?_) (fun k1=>?_)
   ·have k1:x1+2*x2=1:=by omega
    rw [if_pos k1] at hh
    cases hh
    refine IA fun H3 l3 d3 QS ZZ nx=>?_;have o:=o.more nx;refine ai (vs:= [l3,d3]) rfl ?_;refine ai (vs:= [l3,d3]) rfl ?_;refine BX hs (by omega) QS ZZ (kX AP) (kX AQ) Uc hd UI o fun H4 v3 a' V TT XC vQ o=>?_;refine ai (vs:= [v3,i64 a',.int .i64 0]) rfl ?_;refine ai (vs:= [v3,i64 a',.int .i64 0]) rfl ?_;refine ai (vs:= [v3,i64 a',.int .i64 0]) rfl ?_;exact⟨a',V,rfl,rfl,by omega,vQ,TT,o⟩
   ·rw [if_neg (by omega)] at hh
    rw [aZ];refine av (fun k2=>?_) (fun k2=>?_)
    ·have k2:x1+2*x2=2:=by omega
     rw [if_pos k2] at hh;obtain⟨p,B2,e2,hh⟩:=gW hh
     cases hh
     refine IB (hs.ext o.ext) (by omega) Uc e2 fun H3 l3 d3 a2 QS ZZ nx Zk Oz hB2 z1 z2=>?_;subst hB2;have o:=o.more nx;refine ai (vs:= [l3,d3,i64 a2,.int .i64 0]) rfl ?_;refine ai (vs:= [l3,d3,i64 a2,.int .i64 0]) rfl ?_;refine ai (vs:= [l3,d3,i64 a2,.int .i64 0]) rfl ?_;refine ai (vs:= [l3,d3,i64 a2,.int .i64 0]) rfl ?_;rw [aZ,decide_eq_true rfl,aL];refine BX hs (by omega) QS ZZ z1 z2 Oz hd UI o fun H4 v3 a' V TT XC vQ o=>?_;refine ai (vs:= [v3,i64 a',.int .i64 0]) rfl ?_;refine ai (vs:= [v3,i64 a',.int .i64 0]) rfl ?_;refine ai (vs:= [v3,i64 a',.int .i64 0]) rfl ?_;exact⟨a',V,rfl,rfl,by omega,vQ,TT,o⟩
    ·rw [if_neg (by omega)] at hh
     cases hh
theorem K6 (iJ:s.length≤100000) (hd:c8.length≤100000) (eB:run ⟨.hd,toBits s,[]⟩= (c8,⟨.dn,[],c8⟩,0)) (h: ∀H' a',(a' +7) /8=s.length→Ext H H' →R (.tuple #[str c8,i64 a',.int .i64 0]) H'):ab 85 #[str s] H R:=by
 refine uH.vc _ _ _ ?_;refine IC iJ hd eB fun H1 v a' hv ha hx=>?_;refine ai (vs:= [v,i64 a',.int .i64 0]) rfl ?_;refine ai (vs:= [v,i64 a',.int .i64 0]) rfl ?_;refine ai (vs:= [v,i64 a',.int .i64 0]) rfl ?_;refine hv.str ?_;exact h H1 a' ha hx
end
section
set_option maxRecDepth 100000
variable {H:ag} {R:Value→ag→Prop}
theorem Fw {s:Nat} (hs:s<4294967296) (h:R (n32 (tn 8 s)) H):ab 86 #[n32 s] H R:=by
 refine uX.vc _ _ _ ?_;refine⟨fun v u H' => ∃j:Nat,u= .int .i64 j∧j≤8∧v=n32 (tn j s)∧H=H',fun v u _=>match u with| .int _ k=> (8 - k).toNat|_=>0,⟨0,rfl,by omega,rfl,rfl⟩,?_⟩;rintro _ _ _ _ ⟨j,rfl,hj,rfl,rfl⟩;have cL:=HX j hs;simp only [ay,iL,ne_eq,Int.reduceEq,not_false_eq_true,cu,true_and,gz,aZ,aO];refine av (fun gE=>?_) (fun gE=>?_)
 ·refine⟨fun v H' =>v=n32 (tn (j+1) s)∧H=H',?_,?_⟩
  ·rintro _ _ _ ⟨rfl,rfl⟩
   simp only [and_true];rw [aJ];exact⟨⟨j+1,rfl,by omega,rfl⟩,by show (_:Int).toNat< (_:Int).toNat;omega⟩
  ·rw [akh (by omega),akr (by omega),Gd (n:= ((tn j s:Nat):Int) /2) (by omega) (by omega)]
   have e2: ((tn j s:Nat):Int) /2= ((tn j s/2 ^ 1:Nat):Int):=by omega
   refine av (fun y6=>?_) (fun y6=>?_)
   ·rw [e2,show (3988292384:Int)= ((3988292384:Nat):Int) from rfl,uz (by omega) (by decide),←Q9 (by omega)]
    exact⟨by rw [zp],rfl⟩
   ·rw [e2,←LZ (by omega)]
    exact⟨by rw [zp],rfl⟩
 ·have Oy:j=8:=by omega
  subst Oy;exact h
theorem Fx {s:Nat} {l:List UInt8} (hs:s<4294967296) (hl:l.length≤9223372036854775807) (h:R (n32 (iA s l)) H):ab 37 #[n32 s,str l] H R:=by
 refine uW.vc _ _ _ _ ?_;simp only [ni,bB,bq];have e0: ∀z:Nat,z<4294967296→IntKind.u32.wrap (4294967295 - (z:Int))= ((4294967295 - z:Nat):Int):=by
  intro z hz;rw [Gd (by omega) (by omega)];omega
 rw [e0 s hs];refine⟨fun v u H' => ∃j:Nat,u= .int .i64 j∧j≤l.length∧v=n32 (jH (4294967295 - s) (l.take j))∧H=H',fun v u _=>match u with| .int _ k=> (l.length - k).toNat|_=>0,⟨0,rfl,by omega,by rw [akD];rfl,rfl⟩,?_⟩;rintro _ _ _ _ ⟨j,rfl,hj,rfl,rfl⟩;have cL:=se (l.take j) (s:=4294967295 - s) (by omega);simp only [ay,cc,bB,cP,cu,bq,aO];refine av (fun hc=>?_) (fun hc=>?_)
 ·refine⟨by omega,by omega,?_⟩
  have rO:j<l.length:=by omega
  rw [aiY,ai3,ai1 rO,aj9];have Ra:jH (4294967295 - s) (l.take (j+1))=tn 8 (jH (4294967295 - s) (l.take j) ^^^ (l[j]).toNat):=by
   rw [ajr,ai1 rO,nN];rfl
  generalize jH (4294967295 - s) (l.take j)=f at*;generalize l[j]=x at*;have hx:x.toNat<256:=x.toNat_lt;rw [Gd (n:= (x.toNat:Int)) (by omega) (by omega),uz cL (by omega)];have GO:f ^^^ x.toNat<2 ^ 32:=akE (by omega) (by omega);refine Fw (by omega) ?_;simp only [and_true];rw [aJ];exact⟨⟨j+1,rfl,by omega,by rw [Ra]⟩,by show (_:Int).toNat< (_:Int).toNat;omega⟩
 ·have Oy:j=l.length:=by omega
  subst Oy;rw [e0 _ cL,ajc];exact h
end
section
set_option maxRecDepth 100000
variable {H H0 H' :ag} {R:Value→ag→Prop} {L:List It} {s:List UInt8} {x:Hd}
theorem RR {a n:Nat} (hs:s.length≤1000000) (h1:a+n≤s.length) (hn:n≤8) (h:R (.int .u64 ((iE ((s.drop a).take n):Nat):Int)) H):ab 77 #[str s,.int .i64 (a:Int),.int .i64 (n:Int)] H R:=by
 refine w4.vc _ _ _ _ _ ?_;rw [ay,aJ,show ((a:Int)+ (n:Int))= ((a+n:Nat):Int) by omega];refine ba (lo:=a) (hi:=a+n) (.inl rfl) (.inl rfl) (by omega) h1 ?_;rw [aj7];refine rF (by rw [ai2];omega) ?_;rw [if_pos (by rw [ai2];omega)];exact h
theorem Fy {a n:Nat} (hs:s.length≤1000000) (h1:a+n≤s.length) (hn:n≤8) (h: ∀m:Nat,m<18446744073709551616→R (.int .u64 (m:Int)) H):ab 77 #[str s,.int .i64 (a:Int),.int .i64 (n:Int)] H R:=
 RR hs h1 hn (h _ (An (by rw [ai2];omega)))
theorem lO {a n m:Nat} {p r:List UInt8} (e:s=p++ (aA m n++r)) (ha:a=p.length) (hs:s.length≤1000000) (hn:n≤8) (hm:m<256 ^ n) (h:R (.int .u64 (m:Int)) H):ab 77 #[str s,.int .i64 (a:Int),.int .i64 (n:Int)] H R:=by
 have hl:=congrArg List.length e;simp only [aiV,az] at hl;refine RR hs (by omega) hn ?_;rw [w_ e ha (az m n).symm,lG,ajg hm];exact h
theorem ID {X:List UInt8} {n z a:Nat} (hn:n≤1000) (hz:z≤100000000) (ha:a≤100000000) (e:s=X++lN n z a) (hs:s.length≤1000000)
  (h: ∀H',Ext H H' →R (.tuple #[.int .u64 (n:Int),.int .u64 (z:Int),.int .u64 (a:Int),.bool true]) H'):ab 31 #[str s] H R:=by
 have hl:s.length=X.length+22:=by rw [e,aiV,gC]
 have e0:lN n z a= [80,75,5,6]++ (aA 0 4++ (aA n 2++ (aA n 2++ (aA z 4++ (aA a 4++aA 0 2))))):=by unfold lN;simp only [ai0]
 have bl:=gC n z a;refine wZ.vc _ _ _ ?_;refine⟨fun H' =>Ext H H',?_,?_⟩
 ·intro _ H1 jg
  refine aC ?_;rw [aO,ei,ak];refine aC ?_;rw [bq,show ((s.length:Int) - 22)= ((X.length:Nat):Int) by omega,aJ];refine ba (lo:=X.length) (hi:=s.length) (.inl rfl) (.inr ⟨rfl,rfl⟩) (by omega) (aiZ _) ?_;rw [ajf (by rw [ai4];omega),show s.drop X.length=lN n z a by rw [e,akz]];refine lO (m:=n) (a:=8) (n:=2) (p:= [80,75,5,6]++aA 0 4) (r:=aA n 2++ (aA z 4++ (aA a 4++aA 0 2))) (by rw [e0];simp only [ai0]) (by simp [az]) (by omega) (by decide) (by show n<65536;omega) ?_;refine lO (m:=z) (a:=12) (n:=4) (p:= [80,75,5,6]++aA 0 4++aA n 2++aA n 2) (r:=aA a 4++aA 0 2) (by rw [e0];simp only [ai0]) (by simp [az]) (by omega) (by decide) (by show z<4294967296;omega) ?_;refine lO (m:=a) (a:=16) (n:=4) (p:= [80,75,5,6]++aA 0 4++aA n 2++aA n 2++aA z 4) (r:=aA 0 2) (by rw [e0];simp only [ai0]) (by simp [az]) (by omega) (by decide) (by show a<4294967296;omega) ?_;refine DO hn hz ha fun H2 ea=>?_;refine eO ?_;rw [decide_eq_true rfl];exact h H2 (jg.trans ea)
 ·refine aC ?_
  rw [dH];refine av (fun hc=>?_) (fun _=>Ext.refl _);obtain⟨m,hm⟩: ∃m,s.length - 98=m:= ⟨_,rfl⟩;refine aC ?_;rw [bq,show ((s.length:Int) - 98)= ((m:Nat):Int) by omega,aJ];refine ba (lo:=m) (hi:=s.length) (.inl rfl) (.inr ⟨rfl,rfl⟩) (by omega) (aiZ _) ?_;rw [ajf (by rw [ai4];omega)];obtain⟨c,rN⟩: ∃c,s.drop m=c:= ⟨_,rfl⟩;have dM:c.length=98:=by rw [←rN,ai4];omega
  have Ww:c=X.drop m++lN n z a:=by rw [←rN,e,ajR (by omega)]
  rw [rN];refine Fy (a:=24) (n:=8) (by omega) (by omega) (by decide) fun n1 Ct=>?_;refine Fy (a:=40) (n:=8) (by omega) (by omega) (by decide) fun z1 JE=>?_;refine Fy (a:=48) (n:=8) (by omega) (by omega) (by decide) fun a1 nQ=>?_;refine RF Ct JE nQ fun H1 t hx ht=>?_;refine eO ?_;rw [decide_eq_false (fun et=>?_),ak]
  ·exact hx
  ·obtain⟨hb,p,hp,IS⟩:=ht (by rw [et];exact dM)
   rw [et,Ww] at IS;have:= (alF IS (by have:=congrArg List.length Ww;rw [aiV,bl,dM] at this;omega)).2;exact Iq hn hz ha hb this.symm
theorem Fz {c8:List UInt8} {k:Bool} (hs:s.length≤6000) (hd:c8.length≤400) (hk:k=decide (c8= [])) (h0:c8= []→s= []) (eB:c8≠ []→run ⟨.hd,toBits s,[]⟩= (c8,⟨.dn,[],c8⟩,0))
  (h: ∀H',Ext H H' →R (.tuple #[str c8,.bool true]) H'):ab 36 #[str s,.bool k] H R:=by
 refine vu.vc _ _ _ _ ?_;rw [hk];refine av (fun y5=>?_) (fun y5=>?_)
 ·rw [h0 y5]
  refine eO ?_;rw [decide_eq_true rfl];rw [y5] at h;exact h H (Ext.refl _)
 ·refine K6 (by omega) (by omega) (eB y5) fun H1 a' ha hx=>?_
  refine ai (vs:= [str c8,i64 a',.int .i64 0]) rfl ?_;refine ai (vs:= [str c8,i64 a',.int .i64 0]) rfl ?_;refine ai (vs:= [str c8,i64 a',.int .i64 0]) rfl ?_;rw [aZ,decide_eq_true rfl];refine bs ?_;rw [ay,aJ,iL];refine⟨by decide,?_⟩;rw [show ((a' :Int)+7).tdiv 8= (s.length:Int) by rw [show ((a' :Int)+7)= ((a' +7:Nat):Int) by omega,←ha];rfl,aJ];refine aC ?_;rw [aZ,decide_eq_true rfl];intro _;exact h H1 hx
set_option maxHeartbeats 1000000 in
theorem FA {a:Nat} {r:List UInt8} (g:OI x) (CR:x.p≤100000000∧x.z≤100000000) (e:s.drop a=eu x++r) (ha:a≤s.length) (hs:s.length≤1000000) (h: ∀H',Ext H H' →R (.tuple #[x.v,.int .i64 52]) H'):ab 33 #[str s,.int .i64 (a:Int)] H R:=by
 have hlen:=g.len;have dM:=fk x;have nT:=gV x;have g1:=g.sm.p;have g2:=g.sm.z;have g3:=g.sm.u;have g4:=g.sm.a;have iJ:=congrArg List.length e;rw [ai4,aiV,nT,hlen] at iJ;obtain⟨d1,d2,d3,d4,d5,d6,d7⟩:=Re g.sm.t;have ht: (fy x.t:Int)=nk x.t:=ajX d5;have hd: (fq x.t:Int)=nj x.t:=ajX d3;have EX:fy x.t<65536:=by omega
 have Dy:fq x.t<65536:=by omega
 have UH:x.eN<65536:=by unfold Hd.eN;split<;>decide
 obtain⟨b,hb⟩: ∃b,s.drop a=b:= ⟨_,rfl⟩;have yV:b.length=52+r.length:=by rw [←hb,ai4];omega
 rw [hb] at e;have TU:b.length≤1000000:=by rw [←hb,ai4];omega
 have e0:b= [80,75,1,2]++ (aA 20 2++ (aA 20 2++ (aA x.eN 2++ (aA x.eN 2++ (aA (fy x.t) 2++ (aA (fq x.t) 2++ (aA x.u 4++ (aA x.p 4++ (aA x.z 4++ (aA x.nm.length 2++ (aA 0 2++ (List.replicate 10 0++ (aA x.a 4++ (x.nm++r)))))))))))))):=by
  rw [e];unfold eu bW;simp only [ai0]
 refine vt.vc _ _ _ _ ?_;refine(au.start (H:=H)).box fun q H1 o _=>?_;have o:au H H1 [.box q Hd.zero.cells 88]:=o;rw [ay,aJ];refine aC ?_;rw [bc,ei];refine aM ?_;rw [ay,aJ,show ((a:Int)+4)= ((a+4:Nat):Int) by omega];refine ba (lo:=a) (hi:=a+4) (.inl rfl) (.inl rfl) (by omega) (by omega) ?_;rw [hb,aj7,show b.take 4= [80,75,1,2] by rw [e0];rfl];refine fJ ?_;rw [yZ];intro _;rw [ak];refine ba (lo:=a) (hi:=s.length) (.inl rfl) (.inr ⟨rfl,rfl⟩) (by omega) (aiZ _) ?_;rw [ajf (by rw [ai4];omega),hb];refine lO (m:=x.nm.length) (a:=28) (n:=2) (p:= [80,75,1,2]++aA 20 2++aA 20 2++aA x.eN 2++aA x.eN 2++aA (fy x.t) 2++aA (fq x.t) 2++aA x.u 4++aA x.p 4++aA x.z 4) (r:=aA 0 2++ (List.replicate 10 0++ (aA x.a 4++ (x.nm++r)))) (by rw [e0];simp only [ai0]) (by simp [az]) TU (by decide) (by rw [hlen];decide) ?_;refine a8 ?_;rw [hlen,ff (by decide) (by decide)];refine lO (a:=30) (n:=2) (p:= [80,75,1,2]++aA 20 2++aA 20 2++aA x.eN 2++aA x.eN 2++aA (fy x.t) 2++aA (fq x.t) 2++aA x.u 4++aA x.p 4++aA x.z 4++aA x.nm.length 2) (r:=List.replicate 10 0++ (aA x.a 4++ (x.nm++r))) (m:=0) (by rw [e0];simp only [ai0]) (by simp [az]) TU (by decide) (by decide) ?_;refine a8 ?_;rw [ff (by decide) (by decide),ay,ff (by decide) (by decide),ay,ff (by decide) (by decide)];refine aC ?_;rw [bc,ei,ak];refine lO (m:=fq x.t) (a:=14) (n:=2) (p:= [80,75,1,2]++aA 20 2++aA 20 2++aA x.eN 2++aA x.eN 2++aA (fy x.t) 2) (r:=aA x.u 4++ (aA x.p 4++ (aA x.z 4++ (aA x.nm.length 2++ (aA 0 2++ (List.replicate 10 0++ (aA x.a 4++ (x.nm++r)))))))) (by rw [e0];simp only [ai0]) (by simp [az]) TU (by decide) Dy ?_;refine a8 ?_;rw [aJ];refine lO (m:=fy x.t) (a:=12) (n:=2) (p:= [80,75,1,2]++aA 20 2++aA 20 2++aA x.eN 2++aA x.eN 2) (r:=aA (fq x.t) 2++ (aA x.u 4++ (aA x.p 4++ (aA x.z 4++ (aA x.nm.length 2++ (aA 0 2++ (List.replicate 10 0++ (aA x.a 4++ (x.nm++r))))))))) (by rw [e0];simp only [ai0]) (by simp [az]) TU (by decide) EX ?_;refine a8 ?_;rw [aJ];refine⟨fun v H' => ∃hb,v=at_ hb 0∧au H H' [.box hb x.cells 88,.box q Hd.zero.cells 88],?_,?_⟩
 ·clear o
  rintro _ _ H2 ⟨ub,rfl,o⟩;rw [ay,ff (by decide) (by decide),ay,ff (by decide) (by decide)];refine⟨fun v H' =>au H H' [.box ub x.cells 88,.box q Hd.zero.cells 88],?_,?_⟩
  ·clear o
   rintro _ _ H3 o;refine⟨fun H' =>au H H' [.box ub x.cells 88,.box q Hd.zero.cells 88],?_,?_⟩
   ·clear o
    rintro _ H4 o;refine o.bh (b:=ub) ?_;refine CG g fun H5 nS=>?_;have o:=o.more nS;refine eO ?_;rw [decide_eq_false (fun h0=>by rw [h0,ai_] at nT;omega)];refine aM ?_;refine aC ?_;rw [nT,hlen,ay,ff (by decide) (by decide),ay,ff (by decide) (by decide),fx,qO];intro _;refine aM ?_;refine aC ?_;rw [nT,hlen];refine ba (lo:=0) (hi:=52) (.inr ⟨rfl,rfl⟩) (.inl rfl) (by decide) (by omega) ?_;rw [ajt,ajO,show b.take 52=eu x by rw [e,show 52= (eu x).length by rw [nT,hlen],alE]];refine fJ ?_;rw [yZ];intro _;rw [ak];refine o.bh (b:=ub) ?_;rw [ay,ff (by decide) (by decide),ay,ff (by decide) (by decide)];refine o.de (b:=q) (vs:=x.cells) (jT _) fun H6 o _=>?_;refine o.bh (b:=q) ?_;exact h H6 o.ext
   ·refine aj ?_
    refine o.aw (b:=ub) (f:=0+10) (w:= .int .u64 (x.a:Int)) ?_;rw [aZ,ei];refine dC (d:=false) (fun h=>by cases h) ?_;intro _;rw [alZ,ak];exact o
  ·refine aj ?_
   refine o.aw (b:=ub) (f:=0+7) (w:= .int .u64 (x.p:Int)) ?_;rw [aZ,ei];refine dC (d:=false) (fun h=>by cases h) ?_;intro _;rw [alZ,ak];exact o
 ·rw [ay,ff (by decide) (by decide)]
  refine ba (lo:=46) (hi:=52) (.inl rfl) (.inl rfl) (by decide) (by omega) ?_;have enm: (b.drop 46).take (52 - 46)=x.nm:=w_ (p:= [80,75,1,2]++aA 20 2++aA 20 2++aA x.eN 2++aA x.eN 2++aA (fy x.t) 2++aA (fq x.t) 2++aA x.u 4++aA x.p 4++aA x.z 4++aA x.nm.length 2++aA 0 2++List.replicate 10 0++aA x.a 4) (r:=r) (by rw [e0];simp only [ai0]) (by simp [az]) (by rw [hlen]);rw [enm];have Ot:Ud (fq x.t:Int) (fy x.t:Int)=x.t:=by rw [hd,ht];exact d7
  have u1:=congrArg T6.y Ot;have u2:=congrArg T6.m Ot;have u3:=congrArg T6.d Ot;have u4:=congrArg T6.h Ot;have u5:=congrArg T6.n Ot;have u6:=congrArg T6.s Ot;simp only [Ud] at u1 u2 u3 u4 u5 u6;have td: ∀ (m:Nat) (k:Int),0≤k→((m:Nat):Int).tdiv k= (m:Int) /k:=fun m k hk=>akr (by omega);have tm: ∀ (m k:Int),0≤m→m.tmod k=m%k:=fun m k hm=>akh hm;rw [iL];refine⟨by decide,?_⟩;rw [td _ _ (by decide),aJ,ay,aJ,show (1980+ (fq x.t:Int) /512)=x.t.y by omega,iL];refine⟨by decide,?_⟩;rw [td _ _ (by decide),aJ,gz];refine⟨by decide,?_⟩;rw [tm _ _ (by omega),u2,gz];refine⟨by decide,?_⟩;rw [tm _ _ (by omega),u3,iL];refine⟨by decide,?_⟩;rw [td _ _ (by decide),aJ,u4,iL];refine⟨by decide,?_⟩;rw [td _ _ (by decide),aJ,gz];refine⟨by decide,?_⟩;rw [tm _ _ (by omega),u5,gz];refine⟨by decide,?_⟩;rw [tm _ _ (by omega),gw,aJ,u6];refine aR rfl (ai7 rfl) ?_;refine aR rfl (ai7 rfl) ?_;refine aR rfl (ai7 rfl) ?_;refine aR rfl (ai7 rfl) ?_;refine aR rfl (ai7 rfl) ?_;refine aR rfl (ai7 rfl) ?_;rw [br];have c20: ∀ {H' :ag} {K:Value→ag→Prop},K (.int .u64 (x.p:Int)) H' →ab 77 #[str b,.int .i64 20,.int .i64 4] H' K:=fun hK=>
   lO (m:=x.p) (a:=20) (n:=4) (p:= [80,75,1,2]++aA 20 2++aA 20 2++aA x.eN 2++aA x.eN 2++aA (fy x.t) 2++aA (fq x.t) 2++aA x.u 4) (r:=aA x.z 4++ (aA x.nm.length 2++ (aA 0 2++ (List.replicate 10 0++ (aA x.a 4++ (x.nm++r)))))) (by rw [e0];simp only [ai0]) (by simp [az]) TU (by decide) (by show x.p<4294967296;omega) hK
  have c24: ∀ {H' :ag} {K:Value→ag→Prop},K (.int .u64 (x.z:Int)) H' →ab 77 #[str b,.int .i64 24,.int .i64 4] H' K:=fun hK=>
   lO (m:=x.z) (a:=24) (n:=4) (p:= [80,75,1,2]++aA 20 2++aA 20 2++aA x.eN 2++aA x.eN 2++aA (fy x.t) 2++aA (fq x.t) 2++aA x.u 4++aA x.p 4) (r:=aA x.nm.length 2++ (aA 0 2++ (List.replicate 10 0++ (aA x.a 4++ (x.nm++r))))) (by rw [e0];simp only [ai0]) (by simp [az]) TU (by decide) (by show x.z<4294967296;omega) hK
  have c16: ∀ {H' :ag} {K:Value→ag→Prop},K (.int .u64 (x.u:Int)) H' →ab 77 #[str b,.int .i64 16,.int .i64 4] H' K:=fun hK=>
   lO (m:=x.u) (a:=16) (n:=4) (p:= [80,75,1,2]++aA 20 2++aA 20 2++aA x.eN 2++aA x.eN 2++aA (fy x.t) 2++aA (fq x.t) 2) (r:=aA x.p 4++ (aA x.z 4++ (aA x.nm.length 2++ (aA 0 2++ (List.replicate 10 0++ (aA x.a 4++ (x.nm++r))))))) (by rw [e0];simp only [ai0]) (by simp [az]) TU (by decide) (by show x.u<4294967296;omega) hK
  have Zn: ∀ {H' :ag} {K:Value→ag→Prop},K (.int .u64 (x.a:Int)) H' →ab 77 #[str b,.int .i64 42,.int .i64 4] H' K:=fun hK=>
   lO (m:=x.a) (a:=42) (n:=4) (p:= [80,75,1,2]++aA 20 2++aA 20 2++aA x.eN 2++aA x.eN 2++aA (fy x.t) 2++aA (fq x.t) 2++aA x.u 4++aA x.p 4++aA x.z 4++aA x.nm.length 2++aA 0 2++List.replicate 10 0) (r:=x.nm++r) (by rw [e0];simp only [ai0]) (by simp [az]) TU (by decide) (by show x.a<4294967296;omega) hK
  have XE: ∀ {H' :ag} {K:Value→ag→Prop},K (.int .u64 (x.eN:Int)) H' →ab 77 #[str b,.int .i64 10,.int .i64 2] H' K:=fun hK=>
   lO (m:=x.eN) (a:=10) (n:=2) (p:= [80,75,1,2]++aA 20 2++aA 20 2++aA x.eN 2) (r:=aA (fy x.t) 2++ (aA (fq x.t) 2++ (aA x.u 4++ (aA x.p 4++ (aA x.z 4++ (aA x.nm.length 2++ (aA 0 2++ (List.replicate 10 0++ (aA x.a 4++ (x.nm++r)))))))))) (by rw [e0];simp only [ai0]) (by simp [az]) TU (by decide) UH hK
  have u32: ∀ {K:Value→Prop},K (.int .u32 (x.u:Int))→bf .u32 (.int .u64 (x.u:Int)) K:=fun hK=>by
   refine a8 ?_;rw [Gd (by omega) (by omega)];exact hK
  have hkm:decide ((x.eN:Int)=0)=x.k:=by
   unfold Hd.eN
   cases x.k<;>rfl
  have XF: ∀ {K:Value→Prop},K (.bool x.k)→cd 0 (.int .u64 (x.eN:Int)) (.int .u64 0) K:=fun hK=>by rw [aZ,hkm];exact hK
  have hB: ∀ {K:Value→Prop},K (.agg x.cells.toArray)→aW [(str []),(.int .i64 0),(.int .i64 0),(.int .i64 0),(.int .i64 0),(.int .i64 0),(.int .i64 0),(.int .u64 0),(.int .u64 0),(.int .u32 0),(.int .u64 0),(.bool false)] [(0,1,str x.nm),(1,6,.agg x.t.cells),(7,1,.int .u64 (x.p:Int)),(8,1,.int .u64 (x.z:Int)),(9,1,.int .u32 (x.u:Int)),(10,1,.int .u64 (x.a:Int)),(11,1,.bool x.k)] K:=fun hK=>by
   refine aR rfl (ai7 rfl) ?_;rw [da];refine⟨rfl,ai7 rfl,?_⟩;refine aR rfl (ai7 rfl) ?_;refine aR rfl (ai7 rfl) ?_;refine aR rfl (ai7 rfl) ?_;refine aR rfl (ai7 rfl) ?_;refine aR rfl (ai7 rfl) ?_;rw [br];exact hK
  refine⟨c20 ⟨c24 ⟨c16 (u32 ⟨Zn ⟨XE (XF (hB (o.box fun ub H4 o _=>o.de (b:=ub) (vs:=x.cells) (jT _) fun H5 o _=> ⟨ub,rfl,o⟩))),?_⟩,?_⟩),?_⟩,?_⟩,?_⟩
  ·exact o.box fun ub H4 o _=>XE (XF (hB (o.de (b:=ub) (vs:=x.cells) (jT _) fun H5 o _=> ⟨ub,rfl,o⟩)))
  ·exact o.box fun ub H4 o _=>Zn (XE (XF (hB (o.de (b:=ub) (vs:=x.cells) (jT _) fun H5 o _=> ⟨ub,rfl,o⟩))))
  ·exact o.box fun ub H4 o _=>c16 (u32 (Zn (XE (XF (hB (o.de (b:=ub) (vs:=x.cells) (jT _) fun H5 o _=> ⟨ub,rfl,o⟩))))))
  ·exact o.box fun ub H4 o _=>c24 (c16 (u32 (Zn (XE (XF (hB (o.de (b:=ub) (vs:=x.cells) (jT _) fun H5 o _=> ⟨ub,rfl,o⟩)))))))
  ·exact o.box fun ub H4 o _=>c20 (c24 (c16 (u32 (Zn (XE (XF (hB (o.de (b:=ub) (vs:=x.cells) (jT _) fun H5 o _=> ⟨ub,rfl,o⟩))))))))
end
section
set_option maxRecDepth 100000
theorem DR: ∀ (fuel:Nat) (y d:Int),0≤d→∃ (k:Nat) (e:Int),k≤fuel∧je fuel y d= (y+k,e)∧d=vD k y+e∧0≤e∧(k<fuel→e<iN (y+k))
 |0,y,d,h=> ⟨0,d,by omega,by simp [je],by simp [vD],h,by omega⟩
 |fuel+1,y,d,h=>by
  by_cases hc:d<iN y
  ·refine⟨0,d,by omega,?_,by simp [vD],h,fun _=>by simpa using hc⟩
   rw [je,if_pos hc];simp
  ·obtain⟨k,e,h1,h2,h3,h4,h5⟩:=DR fuel (y+1) (d - iN y) (by omega)
   refine⟨k+1,e,by omega,?_,?_,h4,fun hk=>?_⟩
   ·rw [je,if_neg hc,h2,show y+1+ (k:Int)=y+ ((k+1:Nat):Int) by omega]
   ·rw [vD];omega
   ·have:=h5 (by omega)
    rw [show y+1+ (k:Int)=y+ ((k+1:Nat):Int) by omega] at this;exact this
theorem IE: ∀ (fuel:Nat) (y m d:Int),0≤d→∃ (k:Nat) (e:Int),k≤fuel∧qi fuel y m d= (m+k,e)∧d=Ff k y m+e∧0≤e∧(k<fuel→e<eo y (m+k))
 |0,y,m,d,h=> ⟨0,d,by omega,by simp [qi],by simp [Ff],h,by omega⟩
 |fuel+1,y,m,d,h=>by
  by_cases hc:eo y m≤d
  ·obtain⟨k,e,h1,h2,h3,h4,h5⟩:=IE fuel y (m+1) (d - eo y m) (by omega)
   refine⟨k+1,e,by omega,?_,?_,h4,fun hk=>?_⟩
   ·rw [qi,if_pos hc,h2,show m+1+ (k:Int)=m+ ((k+1:Nat):Int) by omega]
   ·rw [Ff];omega
   ·have:=h5 (by omega)
    rw [show m+1+ (k:Int)=m+ ((k+1:Nat):Int) by omega] at this;exact this
  ·refine⟨0,d,by omega,?_,by simp [Ff],h,fun _=>by simpa using hc⟩
   rw [qi,if_neg hc];simp
theorem IF:vD 128 1980=46751:=by decide+kernel
theorem TV {k:Nat} (hk:k≤128):vD k 1980≤46751:=by
 have key: ∀j:Nat,j≤128→vD (128 - j) 1980+365*j≤46751:=by
  intro j
  induction j with
  |zero=>intro _;rw [show 128 - 0=128 by omega,IF];decide
  |succ j ih=>
   intro hj;have ih:=ih (by omega);have:=BD (128 - (j+1)) 1980;rw [show 128 - (j+1)+1=128 - j by omega] at this;have:=KF (1980+ ((128 - (j+1):Nat):Int));omega
 have:=key (128 - k) (by omega);rw [show 128 - (128 - k)=k by omega] at this;omega
theorem TW {t:T6} (h:1980≤t.y∧t.y≤2107∧1≤t.d∧t.d≤eo t.y t.m∧0≤t.h∧t.h<24∧0≤t.n∧t.n<60∧0≤t.s∧t.s<60∧t.s%2=0):jN t=true:=by
 simp only [jN,decide_eq_true_eq];rw [akh h.2.2.2.2.2.2.2.2.1];exact h
theorem WE {n:Int} (h0:0≤n): (n<2019643200∧∃t,Ue n=some t∧jN t=true∧Y3 t=n∧t.s=n%43200%30*2)∨(2019643200≤n∧Ue n=none):=by
 obtain⟨k,e,hk,hy,hd,Vq,IK⟩:=DR 128 1980 (n/43200) (by omega);rw [Ue,if_neg (by omega),hy]
 dsimp only
 by_cases CR:k=128
 ·right
  subst CR;rw [if_pos (by omega)];rw [IF] at hd;exact⟨by omega,rfl⟩
 ·left
  have IK:=IK (by omega);have hle:=TV (k:=k+1) (by omega);rw [BD] at hle;rw [if_neg (by omega)];obtain⟨j,f,hj,hm,Yc,hf0,hf1⟩:=IE 11 (1980+k) 1 e Vq;rw [hm]
  dsimp only
  have hf:f<eo (1980+k) (1+j):=by
   by_cases R4:j=11
   ·subst R4
    have:=DG 11 0 (1980+k) 1;rw [show 0+11=11 by omega,Gs] at this;simp only [qP] at this;omega
   ·exact hf1 (by omega)
  refine⟨by omega,_,rfl,TW ?_,?_,rfl⟩
  ·dsimp only;exact⟨by omega,by omega,by omega,by omega,by omega,by omega,by omega,by omega,by omega,by omega,by omega⟩
  ·simp only [Y3]
   rw [show (1980+ (k:Int) - 1980).toNat=k by omega,show (1+ (j:Int) - 1).toNat=j by omega];omega
end
section
set_option maxRecDepth 100000
variable {H H0 H' :ag} {R:Value→ag→Prop} {L:List It} {s:List UInt8}
def aFl:Fl:= ⟨[97],⟨1980,1,1,0,0,0⟩,[120]⟩
theorem WG:kA [aFl]:= ⟨Yu,fun f hf=>by obtain rfl:=ajE.1 hf;decide,fun f hf=>by obtain rfl:=ajE.1 hf;decide⟩
theorem RS {fs:List Fl} {lev:Nat} {X:List UInt8} (h:BK fs lev X): ∃l,lH l∧l.map Prod.fst=fs∧X=cW l:=by
 obtain⟨l,h1,h2,h3,h4⟩:=h;exact⟨l,⟨h1,fun x hx hd=> ((h2 x hx).2.1 hd).2⟩,h3,h4⟩
theorem CK (hT:Reads H ⟨5,0,none⟩ gU) (hG:Reads H ⟨0,0,none⟩ fY) (hI:Reads H ⟨4,0,none⟩ fY) (h: ∀H',Ext H H' →R (.bool true) H'):ab 6 #[] H R:=by
 refine sD.vc _ _ ?_;refine aR rfl (ai7 rfl) ?_;refine aR rfl (ai7 rfl) ?_;refine aR rfl (ai7 rfl) ?_;rw [br];refine aR rfl (ai7 rfl) ?_;rw [da];refine⟨rfl,ai7 rfl,?_⟩;refine aR rfl (ai7 rfl) ?_;rw [br];refine(au.start (H:=H)).cy (sz:=8) (by decide) rfl rfl fun y H1 o=>?_;have hy:Sl H1 y 8 (fg [aFl]):=o.cf (v:=y);refine DJ (lev:=6) (hT.ext o.ext) (hG.ext o.ext) hy WG (by decide) fun H2 X hX ea=>?_;obtain⟨l,g,hl,rfl⟩:=RS hX;refine ai (vs:= [str (cW l),.int .i64 0]) rfl ?_;refine ai (vs:= [str (cW l),.int .i64 0]) rfl ?_;have o:=o.more ea;refine HI (hG.ext o.ext) (hI.ext o.ext) fun H3 nx=>?_;have o:=o.more nx;refine bs ?_;rw [aZ,decide_eq_true rfl];intro _;refine bs ?_;refine DL g (hI.ext o.ext) (by rw [hl];exact o.cf (v:=y)) fun H4 mP=>?_;intro _;exact h H4 (o.ext.trans mP)
def FB:List (Int × List UInt8)→List Value
 | []=> []
 |p::T=> .int .i64 p.1::str p.2::FB T
theorem IG: ∀T:List (Int × List UInt8),(FB T).length=T.length*2
 | []=>rfl
 |p::T=>by rw [FB,ai6,ai6,IG T,ai6];omega
theorem Ma: ∀ (T:List (Int × List UInt8)) (i:Nat) (p:Int × List UInt8),T[i]? =some p→(FB T)[i*2]? =some (.int .i64 p.1)∧(FB T)[i*2+1]? =some (str p.2)
 | [],i,p,h=>by simp at h
 |q::T,0,p,h=>by
  cases h
  exact⟨rfl,rfl⟩
 |q::T,i+1,p,h=>by
  have:=Ma T i p h;rw [FB,show (i+1)*2=i*2+1+1 by omega];exact this
theorem RT: ∀L:List (List Value),(∀r∈L,r.length=2)→(∀r∈L,mG [.int .i64,.string] fun j=>r[j]?)→∃T:List (Int × List UInt8),T.length=L.length∧FB T=L.flatten∧∀p∈T,(-9223372036854775808≤p.1∧p.1≤9223372036854775807)∧p.2.length≤maxLen
 | [],_,_=> ⟨[],rfl,rfl,by simp⟩
 |r::L,h1,h2=>by
  obtain⟨T,h3,h4,h5⟩:=RT L (fun r hr=>h1 r (by simp [hr])) (fun r hr=>h2 r (by simp [hr]));have hl:=h1 r (by simp);have hf:=h2 r (by simp)
  match r,hl with
  | [x,y],_=>
   obtain⟨_,g0,z,rfl,hz⟩:=hf 0 _ rfl;obtain⟨_,g1,s,rfl,hs⟩:=hf 1 _ rfl
   simp at g0 g1
   subst g0 g1;refine⟨(z,s)::T,by simp [h3],?_,?_⟩
   ·rw [aj_,←h4];rfl
   ·intro p hp
    rcases ajd.1 hp with rfl|hp
    ·exact⟨X5 hz,hs⟩
    ·exact h5 p hp
theorem K7: ∀k:Fin 5,IntKind.u8.wrap (97+ (k.val:Int))= ((UInt8.ofNat (97+k.val)).toNat:Int):=by decide
theorem FC (k:Nat):gS (k+1)=gS k++ [UInt8.ofNat (97+k)]:=by unfold gS;rw [akF,ajy];rfl
theorem K8 {v:Value} {T:List (Int × List UInt8)} (hS:Sl H v 2 (FB T)) (hlen:T.length≤9223372036854775807) (hT: ∀p∈T,(-9223372036854775808≤p.1∧p.1≤9223372036854775807)∧p.2.length≤maxLen) (h: ∀H' w fs,kA fs→(∃m:Nat,m≤5∧fs.map Fl.nm= (gS m).map cZ)→au H H' [.sl w 8 (fg fs)]→R w H'):ab 7 #[v] H R:=by
 have JD:maxLen=9223372036854775807:=rfl;have dg:=IG T;refine wX.vc _ _ _ ?_;have o:=qy 8 (by decide) (au.start (H:=H));refine⟨fun y i H' => ∃ (k:Nat) (fs:List Fl),i= .int .i64 (k:Int)∧k≤T.length∧k≤5∧fs.length=k∧fs.map Fl.nm= (gS k).map cZ∧(∀f∈fs,jN f.t=true∧f.c8.length≤400)∧au H H' [.sl y 8 (fg fs)],fun _ i _=>match i with| .int _ x=> (5 - x).toNat|_=>0,
  ⟨0,[],rfl,ajj _,ajj _,rfl,rfl,(fun f hf=>by cases hf),o⟩,?_⟩
 clear o;rintro _ y _ H1 ⟨k,fs,rfl,hk,hk5,FI,Lg,Ow,o⟩;have hS1:=hS.ext o.ext;refine hS1.df dg ?_;rw [aO];refine dC (d:=decide ((k:Int)<5)) (fun _=>by rw [aO];exact⟨rfl,rfl⟩) ?_;intro _;refine cN (fun hc=>?_) (fun hc=>?_)
 ·rw [aja,decide_eq_true_eq,decide_eq_true_eq] at hc
  have Uy:k<T.length:=by omega
  obtain⟨p,hp⟩: ∃p,T[k]? =some p:= ⟨T[k],ai1 Uy⟩;obtain⟨at0,UQ⟩:=Ma T k p hp;obtain⟨⟨gH,um⟩,Qi⟩:=hT p (aj5 hp);refine hS1.gG dg fun q hq=>?_;refine hq.field (f:=0) fun q2 zg=>?_;refine zg.load hS1 (by rw [aiY];exact at0) ?_;rw [Jp,gz];refine⟨by decide,?_⟩;obtain⟨n,hn⟩: ∃n,(max p.1 0).tmod 2019643200=n:= ⟨_,rfl⟩;have Ad:0≤n∧n<2019643200:=by
   rw [←hn,akh (by omega)];exact⟨akT _ (by decide),aln _ (by decide)⟩
  rw [hn];clear hn;refine SM (by omega) fun H2 ea=>?_;have o:=o.more ea;obtain⟨t,ht,PK⟩: ∃t,Ue n=some t∧jN t=true:=by
   rcases WE Ad.1 with ⟨_,t,h1,h2,_⟩ | ⟨h1,_⟩
   ·exact⟨t,h1,h2⟩
   ·omega
  rw [ht];refine ai (vs:= [t.v,.bool true]) rfl ?_;refine ai (vs:= [t.v,.bool true]) rfl ?_;refine o.box fun b H3 o _=>?_;refine o.cz (b:=b) (vs:=t.cells.toList) fun H4 o _=>?_;rw [ay,aJ];refine a8 ?_;have Zo:=K7 ⟨k,by omega⟩;simp only at Zo;rw [Zo];refine o.bh (b:=b) ?_;have Xp:=hS.ext o.ext;refine Xp.gG dg fun q3 hq3=>?_;refine hq3.field (f:=1) fun q4 ZM=>?_;refine ZM.load Xp (by rw [aiY];exact UQ) ?_;refine Xp.gG dg fun q5 Zh=>?_;refine Zh.field (f:=1) fun q6 hq6=>?_;refine hq6.load Xp (by rw [aiY];exact UQ) ?_;refine aC ?_;rw [kF,show min (p.2.length:Int) 400= ((min p.2.length 400:Nat):Int) by omega];refine ba (lo:=0) (hi:=min p.2.length 400) (.inr ⟨rfl,rfl⟩) (.inl rfl) (by omega) (by omega) ?_;rw [ajt,ajO];have y5: (p.2.take (min p.2.length 400)).length≤400:=by rw [ai2];omega
  generalize p.2.take (min p.2.length 400)=c8 at y5;obtain⟨c,dM⟩: ∃c,UInt8.ofNat (97+k)=c:= ⟨_,rfl⟩;rw [dM];refine o.cy (sz:=1) (by decide) rfl rfl fun z H5 o=>?_;have hS5:=hS.ext o.ext;refine⟨o.bh (b:=b) rfl,ZM.load hS5 (by rw [aiY];exact UQ) rfl,hq6.load hS5 (by rw [aiY];exact UQ) rfl,?_⟩;have hz:Sl H5 z 1 ([c].map bu):=o.cf (v:=z);refine hz.str ?_;refine aQ (ai7 rfl) ?_;refine aR rfl (ai7 rfl) ?_;rw [da];refine⟨rfl,ai7 rfl,?_⟩;refine aR rfl (ai7 rfl) ?_;rw [br];refine o.cy (sz:=8) (by decide) rfl rfl fun z2 H6 o=>?_;refine o.append (n:=k) (m:=1) (by repeat(first|exact dD.here|apply dD.there)) rfl (o.cf (v:=z2)) (by rw [e7,FI]) rfl (BI ⟨cZ c,t,c8⟩) (by omega) fun v' H7 o=>?_;rw [ay,aJ];refine⟨⟨k+1,fs++ [⟨cZ c,t,c8⟩],rfl,by omega,by omega,by rw [aiV,FI];rfl,by rw [ajy,Lg,FC,ajy,dM];rfl,fun f hf=>?_,?_⟩,by show (_:Int).toNat< (_:Int).toNat;omega⟩
  ·rcases ajo.1 hf with hf|hf
   ·exact Ow f hf
   ·obtain rfl:=ajE.1 hf
    exact⟨PK,y5⟩
  ·have e9:fg (fs++ [⟨cZ c,t,c8⟩])=fg fs++ (⟨cZ c,t,c8⟩:Fl).cells:=by unfold fg;rw [eG,eS]
   rw [e9];exact o.h_
 ·exact h H1 y fs ⟨by rw [Lg];exact G1 k hk5,fun f hf=> (Ow f hf).1,fun f hf=> (Ow f hf).2⟩ ⟨k,hk5,Lg⟩ o
end
section
set_option maxRecDepth 100000
variable {H H0 H' :ag} {R:Value→ag→Prop} {L:List It} {s:List UInt8} {x:Hd} {l:List Fp} {k:Nat}
structure TX (l:List Fp):Prop where
 nm: ∀y∈l,∃i:Fin 5,y.1.nm=cZ (UInt8.ofNat (97+i.val))
 one: ∀ (i j:Nat) (hi:i<l.length) (hj:j<l.length),i≠j→l[i].1.nm≠l[j].1.nm
theorem WH {m:Nat} (hm:m≤5) (h: (l.map Prod.fst).map Fl.nm= (gS m).map cZ):TX l:=by
 obtain⟨f1,f2⟩:=sP ⟨m,by omega⟩;have hl:l.length= (gS m).length:=by have:=congrArg List.length h;simpa using this
 have ft: ∀ (i:Nat) (hi:i<l.length),l[i].1.nm=cZ ((gS m)[i]'(by omega)):=by
  intro i hi;have h1: ((l.map Prod.fst).map Fl.nm)[i]? =some l[i].1.nm:=by rw [aji,aji,ai1 hi];rfl
  rw [h,aji,ai1 (by omega)] at h1;exact(ajz h1).symm
 refine⟨fun y hy=>?_,fun i j hi hj cQ he=>?_⟩
 ·obtain⟨i,hi,rfl⟩:=akK hy
  obtain⟨_,q,hq⟩:=f2 _ (ai9 (show i< (gS m).length by omega));exact⟨q,by rw [ft i hi,hq]⟩
 ·rw [ft i hi,ft j hj] at he
  have f3: (gS m).Nodup:=f1;have key:=amb.1 f3;rcases Nat.lt_or_gt_of_ne cQ with cL|cL
  ·exact key i j (by omega) (by omega) cL (wN he)
  ·exact key j i (by omega) (by omega) cL (wN he).symm
theorem TX.head (r:TX l) (g:fP l) (hk:k<l.length):OI (bH l[k] (dA l k)):=
 ⟨g.sm (ai9 hk) (by have:=g.yR k;unfold dA;omega),r.nm _ (ai9 hk)⟩
theorem TX.WI (r:TX l) (hk:k<l.length): (l[k].1.nm).length=6:=by obtain⟨i,hi⟩:=r.nm _ (ai9 hk);rw [hi];rfl
theorem TX.cen (r:TX l): ∀k,k≤l.length→(dX (bw 0 (l.take k))).length=52*k
 |0,_=>by simp [bw,dX]
 |k+1,h=>by
  rw [cH (by omega),ju,rC,aiV,TX.cen r k (by omega),bw,bw,BJ,gV];have:=r.WI (k:=k) (by omega);show 52*k+ (46+ (l[k].1.nm).length)=_;omega
set_option maxHeartbeats 2000000 in
theorem IH (g:lH l) (r:TX l) (h: ∀H' v,au H H' [.sl v 8 (fg (l.map Prod.fst))]→R (.tuple #[v,.bool true]) H'):ab 9 #[str (cW l)] H R:=by
 have hZ:=kZ g.ok;have zu:=g.ok.yR l.length;have UB:=g.ok.len;rw [ajc] at zu;have nT:=vF l;have Zp:=r.cen l.length (aiZ _);rw [ajc] at Zp;have Sd:cW l= (bg l++dX (bw 0 l))++lN l.length (dX (bw 0 l)).length (bg l).length:=by unfold cW dY;rw [ai0]
 have hZl: (cW l).length= (bg l).length+ (dX (bw 0 l)).length+22:=by rw [Sd,aiV,aiV,gC]
 have lR: (cW l).take ((bg l).length+ (dX (bw 0 l)).length)=bg l++dX (bw 0 l):=by rw [Sd,←aiV,alE]
 obtain⟨A,hA⟩: ∃A,(bg l).length=A:= ⟨_,rfl⟩;obtain⟨Z,hZz⟩: ∃Z,(dX (bw 0 l)).length=Z:= ⟨_,rfl⟩;rw [hA] at zu nT Sd hZl lR;rw [hZz] at Zp Sd hZl lR;refine wY.vc _ _ _ ?_;refine ID (X:=bg l++dX (bw 0 l)) (by omega) (by omega) (by omega) Sd (by omega) fun H1 jg=>?_;refine ai (vs:= [.int .u64 (l.length:Int),.int .u64 (Z:Int),.int .u64 (A:Int),.bool true]) rfl ?_;refine ai (vs:= [.int .u64 (l.length:Int),.int .u64 (Z:Int),.int .u64 (A:Int),.bool true]) rfl ?_;refine ai (vs:= [.int .u64 (l.length:Int),.int .u64 (Z:Int),.int .u64 (A:Int),.bool true]) rfl ?_;refine ai (vs:= [.int .u64 (l.length:Int),.int .u64 (Z:Int),.int .u64 (A:Int),.bool true]) rfl ?_;refine dj ?_;rw [show (!true)=false from rfl];refine aM ?_;refine aC ?_;refine a8 ?_;rw [cF (by omega) (by omega),bc,ei];intro _;refine aM ?_;refine aC ?_;refine a8 ?_;rw [cF (by omega) (by omega),bq,cF (by omega) (by omega),bc,ei];intro _;refine aM ?_;refine DO (by omega) (by omega) (by omega) fun H2 ea=>?_;refine aC ?_;refine aC ?_;have hAZ: ∀ {K:Value→Prop},K (i64 (A+Z))→aB (.int .u64 (A:Int)) (.int .u64 (Z:Int)) fun v=>bf .i64 v K:=fun hK=>by
  rw [ay,cF (by omega) (by omega)];refine a8 ?_;rw [aJ,show ((A:Int)+ (Z:Int))= ((A+Z:Nat):Int) by omega];exact hK
 refine hAZ ?_;rw [bq,aJ,gC,fx,ei];intro _;rw [ak];refine a8 ?_;rw [aJ];have o:=qy 8 (by decide) ((au.start (H:=H)).more (jg.trans ea));refine⟨fun v y t H' => ∃k:Nat,y=i64 (A+52*k)∧t=i64 (dA l k)∧k≤l.length∧au H H' [.sl v 8 (fg ((l.take k).map Prod.fst))],fun _ y _ _=>match y with| .int _ q=> (A+Z - q).toNat|_=>0,
  ⟨0,rfl,rfl,ajj _,o⟩,?_⟩
 clear o;rintro _ out _ _ H3 ⟨k,rfl,rfl,hk,o⟩;refine hAZ ?_;rw [aO];refine av (fun hc=>?_) (fun hc=>?_)
 ·have eF:k<l.length:=by omega
  have gx:=r.head g.ok eF;have yM:= (g.ok.pk _ (ai9 eF)).1;have Dy:=g.ok.L1.c8 _ (ajw.2 ⟨_,ai9 eF,rfl⟩);have hd4:=qd (bH l[k] 0);have jZ:=ko l[k];have e6:=kn eF;have zO:=mn eF;have ahu:=BT l (i:=k+1) (j:=l.length) eF;have rS:dA l k= (bg (l.take k)).length:=rfl;have e3:bA (bH l[k] (dA l k))=bA (bH l[k] 0):=rfl;have e4:bM (bH l[k] (dA l k))=bM (bH l[k] 0):=rfl;have yk:ey l[k]= (bA (bH l[k] 0)).length:=rfl;have Z4: (bg l++dX (bw 0 l)).drop (A+52*k)=eu (bH l[k] (dA l k))++dX (bw (dA l (k+1)) (l.drop (k+1))):=by
   have h1:dX (bw 0 l)=dX (bw 0 (l.take k))++dX (bw (dA l k) (l.drop k)):=by
    conv=>lhs;rw [←ajp k l,ju,rC,ajb]
    rfl
   rw [h1,←BS eF,←ai0,ale (by rw [aiV,hA,r.cen k hk])]
  have Wx: ((cW l).drop (dA l k)).take (fE l[k]).length=fE l[k]:=w_ zO rfl rfl;have ahv: (fE l[k]).length=ey l[k]+l[k].2.length+ (bM (bH l[k] 0)).length:=by omega
  have Wy: ((fE l[k]).drop (ey l[k])).take ((ey l[k]+l[k].2.length) - ey l[k])=l[k].2:=w_ (p:=bA (bH l[k] 0)) (r:=bM (bH l[k] 0)) rfl rfl (by omega);have acE: (fE l[k]).take (ey l[k])=bA (bH l[k] 0):=by unfold fE;rw [yk,alE]
  have acF: (fE l[k]).drop (ey l[k]+l[k].2.length)=bM (bH l[k] 0):=by unfold fE;rw [←ai0,ale (by rw [aiV];rfl)]
  have eB:=g.run _ (ai9 eF);have VE:= (g.ok.pk _ (ai9 eF)).2;obtain⟨x,hx⟩: ∃x,bH l[k] (dA l k)=x:= ⟨_,rfl⟩;have f1:x.nm=l[k].1.nm:=by rw [←hx];rfl
  have f2:x.t=l[k].1.t:=by rw [←hx];rfl
  have f3:x.p=l[k].2.length:=by rw [←hx];rfl
  have f4:x.z=l[k].1.c8.length:=by rw [←hx];rfl
  have f5:x.u=iA 0 l[k].1.c8:=by rw [←hx];rfl
  have f6:x.a=dA l k:=by rw [←hx];rfl
  have f7:x.k=decide (l[k].1.c8= []):=by rw [←hx];rfl
  rw [hx] at gx e3 e4 Z4;clear hx;refine hAZ ?_;refine ba (lo:=0) (hi:=A+Z) (.inr ⟨rfl,rfl⟩) (.inl rfl) (ajj _) (by omega) ?_;rw [ajt,ajO,lR];refine FA gx ⟨by omega,by omega⟩ Z4 (by rw [aiV,hA,hZz];omega) (by rw [aiV,hA,hZz];omega) fun H4 mP=>?_;have o:=o.more mP;refine ai (vs:= [x.v,.int .i64 52]) rfl ?_;refine ai (vs:= [x.v,.int .i64 52]) rfl ?_;refine o.box fun b H5 o _=>?_;refine o.de (b:=b) (vs:=x.cells) (jT _) fun H6 o _=>?_;rw [aZ,qO];refine aM ?_;refine aj ?_;refine o.aw (b:=b) (f:=0+10) (w:= .int .u64 (x.a:Int)) ?_;refine a8 ?_;rw [cF (by omega) (by omega),f6,fx,yZ];intro _;rw [ak,ay,aJ];refine o.bh (b:=b) ?_;refine o.bh (b:=b) ?_;refine Iv gx fun H7 B8=>?_;have o:=o.more B8;refine⟨o.bh (b:=b) rfl,?_⟩;refine Iu gx fun H8 B9=>?_;have o:=o.more B9;rw [e3,e4];refine aj ?_;refine o.aw (b:=b) (f:=0+7) (w:= .int .u64 (x.p:Int)) ?_;refine aC ?_;refine a8 ?_;rw [cF (by omega) (by omega),f3,bc,ei];refine aM ?_;refine aC ?_;rw [←yk,ay,aJ];refine aj ?_;refine o.aw (b:=b) (f:=0+7) (w:= .int .u64 (x.p:Int)) ?_;refine a8 ?_;rw [f3,aJ,ay,aJ];refine aC ?_;rw [ay,aJ];refine a8 ?_;rw [aJ,bc,ei];intro _;rw [ak];refine aC ?_;rw [←yk,ay,aJ];refine aj ?_;refine o.aw (b:=b) (f:=0+7) (w:= .int .u64 (x.p:Int)) ?_;refine a8 ?_;rw [f3,aJ,ay,aJ];refine aC ?_;rw [ay,aJ,show ((dA l k:Int)+ (ey l[k]:Int)+ (l[k].2.length:Int)+ ((bM (bH l[k] 0)).length:Int))= ((dA l k+ (fE l[k]).length:Nat):Int) by omega];refine ba (lo:=dA l k) (hi:=dA l k+ (fE l[k]).length) (.inl rfl) (.inl rfl) (by omega) (by omega) ?_;rw [aj7,Wx];refine aC ?_;rw [ay,aJ];refine aC ?_;rw [←yk];refine ba (lo:=0) (hi:=ey l[k]) (.inr ⟨rfl,rfl⟩) (.inl rfl) (ajj _) (by omega) ?_;rw [ajt,ajO,acE];refine fJ ?_;rw [yZ];refine aM ?_;refine aC ?_;refine aC ?_;rw [bq,aJ,show (((fE l[k]).length:Int) - ((bM (bH l[k] 0)).length:Int))= ((ey l[k]+l[k].2.length:Nat):Int) by omega];refine ba (lo:=ey l[k]+l[k].2.length) (hi:= (fE l[k]).length) (.inl rfl) (.inr ⟨rfl,rfl⟩) (by omega) (aiZ _) ?_;rw [ajf (by rw [ai4];omega),acF];refine fJ ?_;rw [yZ];intro _;rw [ak];refine aC ?_;refine aC ?_;refine aC ?_;rw [←yk,bq,aJ,show (((fE l[k]).length:Int) - ((bM (bH l[k] 0)).length:Int))= ((ey l[k]+l[k].2.length:Nat):Int) by omega];refine ba (lo:=ey l[k]) (hi:=ey l[k]+l[k].2.length) (.inl rfl) (.inl rfl) (by omega) (by omega) ?_;rw [Wy];refine aj ?_;refine o.aw (b:=b) (f:=0+11) (w:= .bool x.k) ?_;refine Fz yM Dy f7 VE eB fun H9 J2=>?_;have o:=o.more J2;refine ai (vs:= [str l[k].1.c8,.bool true]) rfl ?_;refine ai (vs:= [str l[k].1.c8,.bool true]) rfl ?_;refine dj ?_;rw [show (!true)=false from rfl];refine aM ?_;refine aC ?_;refine a8 ?_;rw [cF (by omega) (by omega)];refine aj ?_;refine o.aw (b:=b) (f:=0+8) (w:= .int .u64 (x.z:Int)) ?_;rw [f4,fx,yZ];intro _;refine aM ?_;refine aj ?_;refine o.aw (b:=b) (f:=0+9) (w:= .int .u32 (x.u:Int)) ?_;refine Fx (s:=0) (by decide) (by omega) ?_;refine⟨o.aw (b:=b) (f:=0+9) rfl,?_⟩;rw [f5,fx,yZ];intro _;rw [ak];have FI: (fg ((l.take k).map Prod.fst)).length=k*8:=by rw [e7,ajh,ai2,ajF hk]
  refine⟨fun i Hx=> ∃j:Nat,i=i64 j∧j≤k∧Hx=H9,fun i _=>match i with| .int _ q=> (k - q).toNat|_=>0,⟨0,rfl,ajj _,rfl⟩,?_⟩;rintro _ _ B_ ⟨j,rfl,hj,acG⟩;subst acG;refine(o.cf (v:=out)).df FI ?_;rw [aO];refine av (fun hcj=>?_) (fun hcj=>?_)
  ·have WZ:j<k:=by omega
   have rO:j<l.length:=by omega
   have q1: (fg ((l.take k).map Prod.fst))[j*8+0]? =some (str l[j].1.nm):=by
    rw [fg,N_ kl (by rw [ajh,ai2];omega) (by decide),akL,al6]
    rfl
   have cQ:l[j].1.nm≠x.nm:=by rw [f1];exact r.one j k rO eF (by omega)
   have h66: (l[j].1.nm).length=x.nm.length:=by rw [r.WI rO,f1,r.WI eF]
   have ld: ∀ {K:Value→Prop},K (str l[j].1.nm)→aK 8 out (.int .i64 (j:Int)) fun y=>aa 0 y fun z=>ao B_ z K:=fun hK=>by
    refine(o.cf (v:=out)).gG FI fun p hp=>?_;refine hp.field (f:=0) fun p hp=>?_;exact hp.load (o.cf (v:=out)) (by rw [aiY];exact q1) hK
   refine ld ?_;refine aj ?_;refine o.aw (b:=b) (f:=0+0) (w:=str x.nm) ?_;refine eO ?_;rw [decide_eq_false cQ];refine aM ?_;refine ld ?_;refine aj ?_;refine o.aw (b:=b) (f:=0+0) (w:=str x.nm) ?_;refine DN h66 ?_;intro _;refine aM ?_;refine aj ?_;refine o.aw (b:=b) (f:=0+0) (w:=str x.nm) ?_;refine ld ?_;refine DN h66.symm ?_;intro _;rw [ak,ay,aJ];exact⟨⟨j+1,rfl,by omega,rfl⟩,by show (_:Int).toNat< (_:Int).toNat;omega⟩
  ·refine aj ?_
   refine o.aw (b:=b) (f:=0+0) (w:=str x.nm) ?_;refine aj ?_;refine dz (o.j8 (b:=b)) (ws:=x.t.cells.toList) rfl (ai7 rfl) ?_;refine aR rfl (ai7 rfl) ?_;rw [da];refine⟨rfl,ai7 rfl,?_⟩;refine aR rfl (ai7 rfl) ?_;rw [br];refine o.cy (sz:=8) (by decide) rfl rfl fun z OE o=>?_;refine o.append (n:=k) (m:=1) (by repeat(first|exact dD.here|apply dD.there)) rfl (o.cf (v:=z)) FI rfl (BI ⟨x.nm,x.t,l[k].1.c8⟩) (by omega) fun v' Uv o=>?_;have e9:fg ((l.take (k+1)).map Prod.fst)=fg ((l.take k).map Prod.fst)++ (⟨x.nm,x.t,l[k].1.c8⟩:Fl).cells:=by
    rw [cH eF,ajy,fg,eG,f1,f2];show _++jt Fl.cells [l[k].1]=_;rw [eS]
    rfl
   refine⟨⟨k+1,rfl,by rw [e6];rfl,by omega,?_⟩,by show (_:Int).toNat< (_:Int).toNat;omega⟩;rw [e9];exact o.h_
 ·have eF:k=l.length:=by omega
  subst eF;rw [ajc] at o;refine(o.cf (v:=out)).len (n:=l.length) (by rw [e7,ajh]) (by decide) ?_;refine a8 ?_;rw [cF (by omega) (by omega),aZ,decide_eq_true rfl];refine bs ?_;refine hAZ ?_;rw [aZ,nR];intro _;refine bs ?_;refine a8 ?_;rw [aJ,nT,aZ,decide_eq_true rfl];intro _;exact h H3 out o
end
section
set_option maxRecDepth 100000
variable {H H0 H' :ag} {R:Value→ag→Prop} {L:List It} {l:List Fp} {E F G E0:List Ev} {k m b:Nat} {W:Option (List UInt8)} {e:Ev}
def RU:List Fl→List UInt8→List Fl
 | [],_=> []
 | [f],x=> [⟨f.nm,f.t,f.c8++x⟩]
 |f::g::r,x=>f::RU (g::r) x
theorem xh: ∀ (l:List Fl) (f:Fl) (x:List UInt8),RU (l++ [f]) x=l++ [⟨f.nm,f.t,f.c8++x⟩]
 | [],f,x=>rfl
 | [a],f,x=>rfl
 |a::c::r,f,x=>by
  show a::RU (c::r++ [f]) x=_;rw [xh (c::r) f x]
  rfl
def FD (l:List Fl) (e:Ev):List Fl:=if e.k=1 then l++ [⟨e.h.nm,e.h.t,[]⟩] else if e.k=2 then RU l e.x else l
def l_ (E:List Ev):List Fl:=E.foldl FD []
theorem oY (E:List Ev) (e:Ev):l_ (E++ [e])=FD (l_ E) e:=by simp [l_]
theorem vL {α:Type} {F G:List α} {a c:α} (h:F++ [a]=G++ [c]):F=G∧a=c:=by
 obtain⟨h1,h2⟩:=List.append_inj' h rfl;exact⟨h1,by simpa using h2⟩
theorem RV (t:Tr l (F++ [e]) k W): (e.k=1∧W=some []∧∃hk:k<l.length,Tr l F k none∧e.h.nm=l[k].1.nm∧e.h.t=l[k].1.t)∨(e.k=2∧∃w,Tr l F k (some w)∧W=some (w++e.x))∨
  (e.k=3∧W=none∧∃ (j:Nat) (hj:j<l.length),k=j+1∧Tr l F j (some l[j].1.c8))∨(e.k=4∧W=none∧Tr l F k none):=by
 obtain⟨G,hG⟩: ∃G,F++ [e]=G:= ⟨_,rfl⟩;rw [hG] at t
 cases t with
 |nil=>simp at hG
 |Xu hk t h1 h2=>
  obtain⟨rfl,rfl⟩:=vL hG;exact .inl ⟨rfl,rfl,hk,t,h1,h2⟩
 |c8 t=>
  obtain⟨rfl,rfl⟩:=vL hG;exact .inr (.inl ⟨rfl,_,t,rfl⟩)
 |Xv hk t h1 h2=>
  obtain⟨rfl,rfl⟩:=vL hG;exact .inr (.inr (.inl ⟨rfl,rfl,_,hk,rfl,t⟩))
 |Y6 t=>
  obtain⟨rfl,rfl⟩:=vL hG;exact .inr (.inr (.inr ⟨rfl,rfl,t⟩))
theorem vM: ∀ (n:Nat) (F G:List Ev),G.length=n→∀k W,Tr l (F++G) k W→∃k' W',Tr l F k' W'
 |0,F,G,hG,k,W,t=>by
  obtain rfl:=amu hG;rw [ajl] at t;exact⟨k,W,t⟩
 |n+1,F,G,hG,k,W,t=>by
  have cQ:G≠ []:=fun h=>by rw [h] at hG;simp at hG
  have e1:G=G.dropLast++ [G.getLast cQ]:= (List.dropLast_concat_getLast cQ).symm;rw [e1,←ai0] at t;have hl:G.dropLast.length=n:=by rw [List.length_dropLast];omega
  rcases RV t with ⟨_,_,_,t,_⟩ | ⟨_,w,t,_⟩ | ⟨_,_,j,_,_,t⟩ | ⟨_,_,t⟩
  ·exact vM n F _ hl _ _ t
  ·exact vM n F _ hl _ _ t
  ·exact vM n F _ hl _ _ t
  ·exact vM n F _ hl _ _ t
theorem K9 (t:Tr l E k W): (W=none→l_ E= (l.take k).map Prod.fst)∧∀w,W=some w→∃hk:k<l.length,l_ E= (l.take k).map Prod.fst++ [⟨l[k].1.nm,l[k].1.t,w⟩]:=by
 induction t with
 |nil=>exact⟨fun _=>rfl,fun w h=>nomatch h⟩
 |Xu hk t h1 h2 ih=>
  refine⟨fun h=> (nomatch h),fun w hw=> ⟨hk,?_⟩⟩
  cases hw
  rw [oY];show l_ _++ [_]=_;rw [ih.1 rfl,h1,h2]
 |c8 t ih=>
  refine⟨fun h=> (nomatch h),fun w hw=>?_⟩
  cases hw
  obtain⟨hk,e1⟩:=ih.2 _ rfl;refine⟨hk,?_⟩;rw [oY];show RU (l_ _) _=_;rw [e1,xh]
 |Xv hk t h1 h2 ih=>
  refine⟨fun _=>?_,fun w h=>nomatch h⟩;obtain⟨_,e1⟩:=ih.2 _ rfl;rw [oY];show l_ _=_;rw [e1,cH hk,ajy]
  rfl
 |Y6 t ih=>
  refine⟨fun _=>?_,fun w h=>nomatch h⟩;rw [oY];exact ih.1 rfl
theorem TY (h5:l.length≤5) (t:Tr l E k W): (l_ E).length≤6:=by
 have g:=K9 t
 cases W with
 |none=>rw [g.1 rfl,ajh,ai2];omega
 |some w=>
  obtain⟨hk,e1⟩:=g.2 _ rfl;rw [e1,aiV,ajh,ai2,akc];omega
theorem K_ {P:eX} {ov:Value} (h0:0< (cW l).length) (hp:Xz b l (cW l).length E0 E k W ov P) (o:au H0 H (.sl ov 14 (kS E):: .aE P::L)) (h:k=l.length→W=none→R (.bool true) H):ab 13 #[at_ b 0] H R:=by
 obtain⟨p,ns,S,ph,hr,hc,hm,jZ,tr,hw,hE,hn,XA,o1⟩:=hp _ _ _ o;have c_:=hw rfl h0;have hkw:k=l.length∧W=none:=by
  cases ph with
  |h0 k hk TZ =>omega
  |h1 k hk d TZ =>omega
  |h2 k hk TZ =>omega
  |h3 j hj TZ =>omega
  |h4 TZ =>exact⟨rfl,rfl⟩
 refine tT.vc _ _ _ ?_;rw [v8];refine bs ?_;refine aN (aj ?_);refine o1.aw (b:=b) (f:=0+2) (w:=i64 p.st) ?_;rw [c_,aZ,decide_eq_true (by decide)];intro _;refine bs ?_;refine aN (aj ?_);refine o1.aw (b:=b) (f:=0+24) (w:= .int .i64 0) ?_;rw [aZ,decide_eq_true rfl];intro _;exact h hkw.1 hkw.2
end
end Go.Proofs.YtpcgccdmmoggmaaGreatDoor
namespace Go.Vc
open Go
section
set_option maxRecDepth 100000
theorem acH {l:List Value} (hl:l.length=2) (hf:mG (List.replicate 2 (.int .i64)) fun j=>l[j]?): ∃a b:Int,l= [.int .i64 a,.int .i64 b]:=by
 match l,hl with
 | [x,y],_=>
  obtain⟨_,h0,x0,rfl,k0⟩:=hf 0 _ rfl;obtain⟨_,h1,x1,rfl,k1⟩:=hf 1 _ rfl
  simp at h0 h1
  exact⟨x0,x1,by rw [h0,h1]⟩
end
end Go.Vc
namespace Go.Proofs.YtpcgccdmmoggmaaGreatDoor
open Go Go.Vc Go.Proofs
section
set_option maxRecDepth 100000
variable {H H0 H' :ag} {R:Value→ag→Prop} {L:List It} {s:List UInt8}
theorem RW (n:Int): ∃lev:Nat,lev≤9∧(n%2 ^ 4+10).tmod 10= (lev:Int):=by
 have h0:=akT n (show (2:Int) ^ 4≠0 by decide);have h1:=aln n (show (0:Int)<2 ^ 4 by decide);have e:=akh (a:=n%2 ^ 4+10) (b:=10) (by omega);exact⟨((n%2 ^ 4+10).tmod 10).toNat,by omega,by omega⟩
end
section
set_option maxRecDepth 100000
variable {H H0 H' :ag} {R:Value→ag→Prop} {L:List It} {s:List UInt8}
theorem T0 {pre:List Fl} {f:Fl} {d:List UInt8}: (fg (pre++ [f])).set (pre.length*8+7) (str d)=fg (pre++ [⟨f.nm,f.t,d⟩]):=by
 have hl:=e7 pre;unfold fg at hl ⊢;rw [eG,eG,eS,eS,alK _ _ (by omega),hl,aj7]
 rfl
theorem RX {pre:List Fl} {f:Fl}: (fg (pre++ [f]))[pre.length*8+7]? =some (str f.c8):=by
 have hl:=e7 pre;unfold fg at hl ⊢;rw [eG,eS,ajP (by omega),hl,aj7]
 rfl
theorem WJ {fs:List Fl} {n:Nat} (hn:n<fs.length): (fg fs)[n*8]? =some (str fs[n].nm)∧(fg fs)[n*8+7]? =some (str fs[n].c8):=by
 have hp: ((fg fs).drop (n*8)).take 8=fs[n].cells:=dW kl hn
 constructor
 ·have:=congrArg (fun l=>l[0]?) hp
  simp only [akw,ajW] at this
  simpa [Fl.cells] using this
 ·have:=congrArg (fun l=>l[7]?) hp
  simp only [akw,ajW] at this
  simpa [Fl.cells] using this
def acI (H8:ag) (b:Nat) (l:List Fp) (Se:Value) (a:Nat) (H' :ag):Prop:= ∃E0 E k W ov P,Xz b l (min a (cW l).length) E0 E k W ov P∧au H8 H' [.sl Se 8 (fg (l_ (E0++E))),.sl ov 14 (kS E),.aE P]
set_option maxHeartbeats 2000000 in
theorem yT (a:Option Addr) (len cap:Nat) (lv:List Value) (cut:Int) (hT:Reads H ⟨5,0,none⟩ gU) (hG:Reads H ⟨0,0,none⟩ fY) (hI:Reads H ⟨4,0,none⟩ fY)
  (w0:ma [.int .i64,.string] H a len cap) (n1:lv.length=2) (w1:mG (List.replicate 2 (.int .i64)) fun j=>lv[j]?) (w2: (Lit.int .i64 cut).wf=true):ab 3 #[.slice a len cap,.agg lv.toArray,.int .i64 cut] H (Ub H):=by
 have JD:maxLen=9223372036854775807:=rfl;obtain⟨LL,hLl,hlm,hL1,hL2,hS⟩:=w0.rows (by decide);obtain⟨T,hT1,hT2,hT3⟩:=RT LL hL1 hL2;have hS:Sl H (.slice a len cap) 2 (FB T):=by rw [hT2];exact hS
 have Up:T.length=len:=hT1.trans hLl;obtain⟨v0,v1,rfl⟩:=acH n1 w1;obtain⟨XL,rN⟩:=X5 w2;refine p_.vc _ _ _ _ _ ?_;refine(au.start (H:=H)).box fun lb H1 o1 _=>?_;refine CK (hT.ext o1.ext) (hG.ext o1.ext) (hI.ext o1.ext) fun H2 ea=>?_;have o1:=o1.more ea;rw [dq,aj0,ak];refine K8 (hS.ext o1.ext) (by omega) hT3 fun H3 fv fs Ow acJ o3=>?_;have nx:=o1.ext.trans o3.ext;have o1:=o1.more o3.ext;have yk:=o1.j8 (b:=lb);have FE:=o3.cf (v:=fv);have dg:=e7 fs;have FI:=Ow.len;refine⟨fun i H' => ∃k:Nat,i=i64 k∧k≤2∧Ext H3 H',fun i _=>match i with| .int _ y=> (2 - y).toNat|_=>0,⟨0,rfl,ajj _,Ext.refl _⟩,?_⟩;clear o1 o3;rintro _ _ H4 ⟨q,rfl,hq,mP⟩;have VJ:=nx.trans mP;have FE:=FE.ext mP;rw [aO];refine av (fun hc=>?_) (fun hc=> ⟨rfl,VJ⟩);have zg:q<2:=by omega
 rw [iq];refine⟨by omega,by omega,?_⟩;obtain⟨vq,hvq⟩: ∃vq:Int,[Value.int .i64 v0,.int .i64 v1][q]? =some (.int .i64 vq):=by
  match q,zg with
  |0,_=>exact⟨v0,rfl⟩
  |1,_=>exact⟨v1,rfl⟩
 have yk:=mP.lk yk;rw [show (Addr.add ⟨lb,0,none⟩ ((q:Int).toNat*1))= ⟨lb,q,none⟩ by rw [aiY,ai5];unfold Addr.add;split;exact(by rename_i h;rw [h]);exact congrArg (fun n=> (⟨lb,n,none⟩:Addr)) (ajb q)];refine gn yk hvq ?_;rw [cu,nh (k:=4) (by decide) (by decide),ay];have SV:=akT vq (show (2:Int) ^ 4≠0 by decide);have QH:=aln vq (show (0:Int)<2 ^ 4 by decide);rw [aJ,gz];refine⟨by decide,?_⟩;obtain⟨lev,sF,hle⟩:=RW vq;rw [hle];refine DJ (hT.ext VJ) (hG.ext VJ) FE Ow sF fun H5 X hX nS=>?_;obtain⟨l,g,QS,rfl⟩:=RS hX;have nT:l.length=fs.length:=by rw [←QS,ajh]
 have hZ:=kZ g.ok;have hZ0:22≤(cW l).length:=by unfold cW dY;simp only [aiV,gC];omega
 refine ai (vs:= [str (cW l),.int .i64 0]) rfl ?_;refine ai (vs:= [str (cW l),.int .i64 0]) rfl ?_;obtain⟨m5,hm5,Lg⟩:=acJ;refine IH g (WH hm5 (by rw [QS];exact Lg)) fun H6 gv o6=>?_;have Sf:=o6.cf (v:=gv);have pc:=o6.ext;rw [QS] at Sf;clear o6;refine ai (vs:= [gv,.bool true]) rfl ?_;refine ai (vs:= [gv,.bool true]) rfl ?_;refine ep ?_;refine aM ?_;rw [dq,aj0];intro _;refine aM ?_;have FE:= (FE.ext nS).ext pc;refine Sf.df dg ?_;refine FE.df dg ?_;rw [fx,yZ];intro _;refine aM ?_;have Sa:= (VJ.trans nS).trans pc;refine DL g (hI.ext Sa) (by rw [QS];exact FE) fun H7 B8=>?_;rw [dq,aj0];intro _;rw [ak];have FE:=FE.ext B8;have Sf:=Sf.ext B8;have hxc:=Sa.trans B8;refine Og l (au.start (H:=H7)) fun H8 b P hP o=>?_;rw [cu,nh (k:=7) (by decide) (by decide),ay];have Ug:=akT cut (show (2:Int) ^ 7≠0 by decide);have mB:=aln cut (show (0:Int)<2 ^ 7 by decide);rw [aJ];obtain⟨kk,IL⟩: ∃kk:Nat,1+cut%2 ^ 7= (kk:Int):= ⟨_,(ajX (by omega)).symm⟩;rw [IL];have ahD:1≤kk∧kk≤128:=by omega
 clear IL Ug mB;have o:=qy 8 (by decide) o;have hIc:=hI.ext hxc;refine⟨fun Se at' H' => ∃a:Nat,at' =i64 a∧a≤(cW l).length+128∧acI H7 b l Se a H',fun _ at' _=>match at' with| .int _ y=> ((cW l).length - y).toNat|_=>0,⟨0,rfl,ajj _,[],[],0,none,_,P,by rw [Nat.zero_min];exact hP,o⟩,?_⟩;clear o hP;rintro _ Se _ H9 ⟨a,rfl,ha,E0,E,k,W,ov,P,hP,o⟩;refine aC ?_;rw [aO];refine av (fun hc=>?_) (fun hc=>?_)
 ·have rS:a< (cW l).length:=by omega
  rw [ajF (by omega)] at hP;rw [ay,aJ];refine aC ?_;rw [kF,show min ((a:Int)+kk) ((cW l).length:Int)= ((min (a+kk) (cW l).length:Nat):Int) by omega];refine ba (lo:=a) (hi:=min (a+kk) (cW l).length) (.inl rfl) (.inl rfl) (by omega) (by omega) ?_;obtain⟨d,hd⟩: ∃d,min (a+kk) (cW l).length - a=d:= ⟨_,rfl⟩;have iJ: (((cW l).drop a).take d).length=d:=by rw [ai2,ai4];omega
  rw [hd];refine KX (L:= [.sl Se 8 (fg (l_ (E0++E)))]) hIc g hP (by rw [iJ];omega) (by rw [iJ]) o.cY fun B_ E' k' W' jv P' hP' o=>?_;rw [iJ,show a+d=min (a+kk) (cW l).length by omega] at hP';obtain⟨p,ns,S,ph,hr,T1,FF,jZ,tr,hw,hE,hn,XA,-⟩:=hP' _ _ _ o;obtain⟨q1,q2,q3⟩:=RD g ph T1;clear ph hr T1 FF jZ hw hn XA;refine ai (vs:= [jv,.int .i64 0]) rfl ?_;refine ai (vs:= [jv,.int .i64 0]) rfl ?_;refine ep ?_;rw [ak];refine(o.cf (v:=jv)).df (oS E') ?_;obtain⟨F,hF⟩: ∃F,E0++E=F:= ⟨_,rfl⟩;rw [hF] at tr hP' o;refine⟨fun Se i H' => ∃j:Nat,i=i64 j∧j≤E'.length∧au H7 H' [.sl Se 8 (fg (l_ (F++E'.take j))),.sl jv 14 (kS E'),.aE P'],fun _ i _=>match i with| .int _ x=> (E'.length - x).toNat|_=>0,⟨0,rfl,ajj _,by rw [akD,ajl];exact o.cY⟩,?_⟩;clear o;have hle:=TK (B:=400) (fun x hx=>g.ok.L1.c8 _ (ajw.2 ⟨_,hx,rfl⟩)) tr q3;have h5:l.length≤5:=by omega
  rintro _ T3 _ OE ⟨j,rfl,hj,o⟩;rw [aO];refine av (fun hc=>?_) (fun hc=>?_)
  ·have rO:j<E'.length:=by omega
   have IQ:l_ (F++E'.take (j+1))=FD (l_ (F++E'.take j)) E'[j]:=by rw [cH rO,←ai0,oY]
   obtain⟨k1,W1,tr1⟩: ∃k1 W1,Tr l ((F++E'.take j)++ [E'[j]]) k1 W1:=by
    refine vM (E'.drop (j+1)).length _ (E'.drop (j+1)) rfl k' W' ?_;have e1: (F++E'.take j++ [E'[j]])++E'.drop (j+1)=F++E' :=by
     rw [ai0 F,←cH rO,ai0,ajp]
    rw [e1];exact tr
   have QH:=hle (F.length+ (j+1));rw [amD,ajf (by omega),aj7,cH rO,←ai0] at QH;have c_:= (L9 tr1).2;have hgl:=TY h5 tr1;refine(o.cf (v:=jv)).gG (oS E') fun p hp=>?_;rw [aiY] at hp;refine hp.fZ (o.cf (v:=jv)) (ws:=E'[j].cells) (dW L5 rO) rfl ?_;obtain⟨e,he⟩: ∃e,E'[j]=e:= ⟨_,rfl⟩;rw [he] at IQ QH c_ hgl tr1 ⊢;clear he;refine o.box fun c Uv o _=>?_;refine o.de (b:=c) (vs:=e.cells) (Ii _) fun Xs o _=>?_;refine aj ?_;refine o.aw (b:=c) (f:=0+0) (w:=i64 e.k) ?_;rw [aZ];refine av (fun h1=>?_) (fun h1=>?_)
   ·have h1:e.k=1:=by omega
    have Mu:FD (l_ (F++E'.take j)) e=l_ (F++E'.take j)++ [⟨e.h.nm,e.h.t,[]⟩]:=by unfold FD;rw [if_pos h1]
    rw [Mu] at IQ;rw [oY,Mu,aiV,akc] at hgl;refine aj (aj ?_);refine o.aw (b:=c) (f:=0+1+0) (w:=str e.h.nm) ?_;refine aj (aj ?_);refine dz (o.j8 (b:=c)) (ws:=e.h.t.cells.toList) rfl (ai7 rfl) ?_;refine aR rfl (ai7 rfl) ?_;rw [da];refine⟨rfl,ai7 rfl,?_⟩;rw [br];refine o.cy (sz:=8) (by decide) rfl rfl fun z Tv o=>?_;refine o.append (n:= (l_ (F++E'.take j)).length) (m:=1) (by repeat(first|exact dD.here|apply dD.there)) rfl (o.cf (v:=z)) (e7 _) rfl (BI ⟨e.h.nm,e.h.t,[]⟩) (by omega) fun v' Z5 o=>?_;rw [ay,aJ];refine⟨⟨j+1,rfl,by omega,?_⟩,by show (_:Int).toNat< (_:Int).toNat;omega⟩;have e9:fg (l_ (F++E'.take j)++ [⟨e.h.nm,e.h.t,[]⟩])=fg (l_ (F++E'.take j))++ (⟨e.h.nm,e.h.t,[]⟩:Fl).cells:=by unfold fg;rw [eG,eS]
    rw [IQ,e9];exact o.h_
   ·have h1:e.k≠1:=by omega
    rw [aZ];refine av (fun h2=>?_) (fun h2=>?_)
    ·have h2:e.k=2:=by omega
     rcases RV tr1 with ⟨h,_⟩ | ⟨_,w,trw,hW⟩ | ⟨h,_⟩ | ⟨h,_⟩
     ·omega
     ·obtain⟨hk,hgw⟩:= (K9 trw).2 _ rfl
      obtain⟨pre,Bw⟩: ∃pre,(l.take k1).map Prod.fst=pre:= ⟨_,rfl⟩;obtain⟨f,hf⟩: ∃f:Fl,f= ⟨l[k1].1.nm,l[k1].1.t,w⟩:= ⟨_,rfl⟩;rw [Bw,←hf] at hgw;have Mu:FD (l_ (F++E'.take j)) e=pre++ [⟨f.nm,f.t,f.c8++e.x⟩]:=by unfold FD;rw [if_neg h1,if_pos h2,hgw,xh]
      rw [Mu] at IQ;rw [hgw] at o;have ahG:pre.length≤5:=by rw [←Bw,ajh,ai2];omega
      have FI: (fg (pre++ [f])).length= (pre.length+1)*8:=by rw [e7,aiV,akc]
      rw [c_ _ hW,aiV] at QH;have hfw:f.c8=w:=by rw [hf]
      refine(o.cf (v:=T3)).df FI ?_;rw [bq,show (((pre.length+1:Nat):Int) - 1)= ((pre.length:Nat):Int) by omega,aJ];refine(o.cf (v:=T3)).gG FI fun p1 gH=>?_;rw [aiY] at gH;refine gH.field (f:=7) fun p2 um=>um.load (o.cf (v:=T3)) RX ?_;refine aj ?_;refine o.aw (b:=c) (f:=0+13) (w:=str e.x) ?_;refine aQ (by rw [hfw];omega) ?_;refine(o.cf (v:=T3)).gG FI fun p3 Qi=>?_;rw [aiY] at Qi;refine Qi.field (f:=7) fun p4 VG=>o.store VG (by repeat(first|exact aiX|apply aiW)) (by omega) rfl (by repeat(first|exact cx.here|apply cx.there)) fun Tv o _=>?_;rw [T0] at o;rw [ay,aJ];refine⟨⟨j+1,rfl,by omega,?_⟩,by show (_:Int).toNat< (_:Int).toNat;omega⟩;rw [IQ];exact o.h_
     ·omega
     ·omega
    ·have h2:e.k≠2:=by omega
     have Mu:FD (l_ (F++E'.take j)) e=l_ (F++E'.take j):=by unfold FD;rw [if_neg h1,if_neg h2]
     rw [Mu] at IQ;rw [ay,aJ];refine⟨⟨j+1,rfl,by omega,?_⟩,by show (_:Int).toNat< (_:Int).toNat;omega⟩;rw [IQ];exact o.lU 1
  ·have rO:j=E'.length:=by omega
   subst rO;rw [ajc] at o;rw [ay,aJ];refine⟨⟨a+kk,rfl,by omega,F,E',k',W',jv,P',hP',o⟩,by show (_:Int).toNat< (_:Int).toNat;omega⟩
 ·rw [alP (by omega)] at hP
  refine K_ (by omega) hP (L:= [.sl Se 8 (fg (l_ (E0++E)))]) o.cY fun eF hW=>?_;rw [dq,aj0];refine aM ?_;obtain⟨p,ns,S,ph,hr,T1,FF,jZ,tr,hw,hE,hn,XA,-⟩:=hP _ _ (.sl Se 8 (fg (l_ (E0++E))):: []) o.cY;have hg:= (K9 tr).1 hW;rw [eF,ajc,QS] at hg;have sN:=o.cf (v:=Se);rw [hg] at sN;have J2:=o.ext;have FE:=FE.ext o.ext;have Sf:=Sf.ext o.ext;clear ph hr T1 FF jZ hw hn XA tr o hP;refine sN.df dg ?_;refine FE.df dg ?_;rw [fx,yZ];intro _;rw [ak];refine⟨fun i H' => ∃k:Nat,i=i64 k∧k≤fs.length∧H' =H9,fun i _=>match i with| .int _ y=> (fs.length - y).toNat|_=>0,⟨0,rfl,ajj _,rfl⟩,?_⟩;rintro _ _ _ ⟨n,rfl,hn,rfl⟩;refine FE.df dg ?_;rw [aO];refine av (fun hc=>?_) (fun hc=>?_)
  ·have IP:n<fs.length:=by omega
   obtain⟨at0,at7⟩:=WJ IP;refine sN.gG dg fun p1 gH=>?_;rw [aiY] at gH;refine gH.fZ sN (ws:=fs[n].cells) (dW kl IP) rfl ?_;refine FE.gG dg fun p2 um=>?_;rw [aiY] at um;refine um.fZ FE (ws:=fs[n].cells) (dW kl IP) rfl ?_;refine L8 ?_;refine aM ?_;refine Sf.gG dg fun p3 Qi=>?_;rw [aiY] at Qi;refine Qi.field (f:=0) fun r3 Gk=>Gk.load Sf at0 ?_;refine FE.gG dg fun p4 VG=>?_;rw [aiY] at VG;refine VG.field (f:=0) fun r4 Tg=>Tg.load FE at0 ?_;refine fJ ?_;rw [yZ];intro _;refine aM ?_;refine Sf.gG dg fun p5 hp5=>?_;rw [aiY] at hp5;refine hp5.field (f:=7) fun r5 Xh=>Xh.load Sf at7 ?_;refine FE.gG dg fun p6 hp6=>?_;rw [aiY] at hp6;refine hp6.field (f:=7) fun r6 Yq=>Yq.load FE at7 ?_;refine fJ ?_;rw [yZ];intro _;rw [ak,ay,aJ];exact⟨⟨n+1,rfl,by omega,rfl⟩,by show (_:Int).toNat< (_:Int).toNat;omega⟩
  ·rw [ay,aJ]
   exact⟨⟨q+1,rfl,by omega,mP.trans (((nS.trans pc).trans B8).trans J2)⟩,by show (_:Int).toNat< (_:Int).toNat;omega⟩
end
end Go.Proofs.YtpcgccdmmoggmaaGreatDoor
