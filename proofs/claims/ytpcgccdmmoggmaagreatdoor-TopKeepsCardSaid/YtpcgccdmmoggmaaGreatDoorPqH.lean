/- Part 8 of the proof of RowTopKeeps: what it is built on, in the order of its needs. -/
import Derived.Test.YtpcgccdmmoggmaaGreatDoorPqG
set_option linter.unusedSimpArgs false
set_option linter.unusedVariables false
set_option maxRecDepth 100000
namespace Go.Proofs.YtpcgccdmmoggmaaGreatDoor
open Go Go.Vc Go.Proofs
section
variable {H H0:ai} {R:Value→ai→Prop} {v:Value} {L:List It} {b:Nat}
def fB {α:Type} (n:Nat) (f:Nat→α):List α:= (List.range n).map f
theorem jd {α:Type} (n:Nat) (f:Nat→α): (fB n f).length=n:=by simp [fB]
theorem pZ {α:Type} {n j:Nat} {f:Nat→α} (h:j<n): (fB n f)[j]? =some (f j):=by unfold fB;rw [agu,aho h];rfl
theorem iz {α:Type} {n:Nat} {f g:Nat→α} (h: ∀j,j<n→f j=g j):fB n f=fB n g:=ahs fun j hj=>h j (aiy.1 hj)
theorem zZ {α:Type} {n j:Nat} {f:Nat→α} {x:α}: (fB n f).set j x=fB n fun k=>if k=j then x else f k:=by
 apply agX;intro i
 by_cases hi:i<n
 ·rw [pZ hi]
  by_cases he:j=i
  ·subst he;rw [ahC (by rw [jd];exact hi),if_pos rfl]
  ·rw [aiv he,pZ hi,if_neg (fun g=>he g.symm)]
 ·rw [agq (by rw [ag8,jd];omega),agq (by rw [jd];omega)]
structure Dk where
 n:Nat
 la:Nat→List UInt8
 cs:Nat→Option (List UInt8)
 order:List Nat
 off:Bool
 cG:Option Nat
structure p7 (M:Dk) (lf:Int):Prop where
 n1:1≤M.n
 n2:M.n≤65536
 Ry: ∀j,j<M.n→(M.la j).length=64
 nodup:M.order.Nodup
 Qx: ∀i,i∈M.order↔(M.cs i).isSome=true
 P2: ∀i,i∈M.order→i<M.n
 Sr: ∀i s,M.cs i=some s→s.length=64
 fu: ∀k,M.cG=some k→lf=k∧k≤9223372036854775807
theorem z8: ∀ (n:Nat) (l:List Nat),l.Nodup→(∀i∈l,i<n)→l.length≤n
 |0,l,_,h=>by
  cases l with
  |nil=>exact aga _
  |cons a l=>exact absurd (h a (by simp)) (by omega)
 |n+1,l,hn,h=>by
  by_cases hm:n∈l
  ·have ih:=z8 n (l.erase n) (hn.erase n) (fun i hi=>by
    have h1:=h i (List.mem_of_mem_erase hi);have h2:i≠n:= ((List.Nodup.mem_erase_iff hn).1 hi).1;omega)
   rw [List.length_erase_of_mem hm] at ih;omega
  ·have ih:=z8 n l hn (fun i hi=>by
    have h1:=h i hi;have h2:i≠n:=fun e=>hm (by rw [←e];exact hi);omega)
   omega
theorem p7.WA {M:Dk} {lf:Int} (h:p7 M lf):M.order.length≤65536:=agJ (z8 _ _ h.nodup h.P2) h.n2
def kf (dS:List Int) (k:Nat):Nat:=match dS[k]? with
 |some z=> ((z.tmod 4+4).tmod 4).toNat
 |none=>0
theorem Pu (dS:List Int) (k:Nat):kf dS k<4:=by
 unfold kf
 split
 ·rename_i z _
  have:=Gy (z:=z) (n:=4) (by decide);omega
 ·decide
def ju (tQ is:List UInt8) (f:Nat):List UInt8:=if f=1 then is else if f=2 then is.take 32++tQ.drop 32 else if f=3 then tQ.take 32++is.drop 32 else tQ
theorem Mm {tQ is:List UInt8} (h1:tQ.length=64) (h2:is.length=64) (f:Nat): (ju tQ is f).length=64:=by
 unfold ju
 split
 ·exact h2
 ·split
  ·rw [af9,age,agl];omega
  ·split
   ·rw [af9,age,agl];omega
   ·exact h1
def Dk.ready (M:Dk) (i:Int):Int:=if M.off then 14 else if 0≤i∧i< (M.n:Int) then 0 else 20
def Dk.ej (M:Dk) (dS:List Int):Dk:=if M.off then M else {M with la:=fun j=>match M.cs j with|some s=>ju (M.la j) s (kf dS (M.order.idxOf j)) |none=>M.la j,cs:=fun _=>none,order:= [],off:=true,cG:=none}
def qR (cs:Nat→Option (List UInt8)) (i:Nat) (s:List UInt8):Nat→Option (List UInt8):=fun j=>if j=i then some s else cs j
def Dk.put (M:Dk) (i:Nat) (s:List UInt8):Dk:= {M with cs:=qR M.cs i s,order:= (M.order.filter fun j=>decide (j≠i))++ [i],cG:=M.cG.map (· - 1)}
def Dk.write (M:Dk) (i:Int) (s:List UInt8):Dk × Int:=if s.length≠64 then (M,1) else if M.ready i≠0 then (M,M.ready i) else if M.cG=some 0 then (M.ej [],14) else (M.put i.toNat s,0)
def Dk.flush (M:Dk):Dk:= {M with la:=fun j=> (M.cs j).getD (M.la j),cs:=fun _=>none,order:= []}
def Dk.sync (M:Dk):Dk × Int:=if M.off then (M,14) else if M.cG=some 0 then (M.ej [],14) else (M.flush,0)
def Dk.sec (M:Dk) (i:Nat):List UInt8:= (M.cs i).getD (M.la i)
def Dk.read (M:Dk) (i:Int):List UInt8 × Int:=if M.ready i≠0 then ([],M.ready i) else (M.sec i.toNat,0)
theorem p7.ej {M:Dk} {lf:Int} (h:p7 M lf) (dS:List Int):p7 (M.ej dS) lf:=by
 unfold Dk.ej
 split
 ·exact h
 ·exact⟨h.n1,h.n2,fun j hj=>by
   show (match M.cs j with|some s=>ju (M.la j) s (kf dS (M.order.idxOf j)) |none=>M.la j).length=64
   split
   ·rename_i s hs;exact Mm (h.Ry j hj) (h.Sr j s hs) _
   ·exact h.Ry j hj,ah_,by simp,by simp,by simp,by simp⟩
theorem p7.flush {M:Dk} {lf:Int} (h:p7 M lf):p7 M.flush lf:=
 ⟨h.n1,h.n2,fun j hj=>by
   show ((M.cs j).getD (M.la j)).length=64
   cases hs:M.cs j with
   |some s=>exact h.Sr j s hs
   |none=>exact h.Ry j hj,ah_,by simp [Dk.flush],by simp [Dk.flush],by simp [Dk.flush],h.fu⟩
theorem p7.put {M:Dk} {lf:Int} (h:p7 M lf) {i:Nat} {s:List UInt8} (hi:i<M.n) (hs:s.length=64) (hf:M.cG≠some 0):p7 (M.put i s) (IntKind.i64.wrap (lf - 1)):=by
 refine⟨h.n1,h.n2,h.Ry,?_,fun j=>?_,fun j hj=>?_,fun j t ht=>?_,fun k hk=>?_⟩
 ·show ((M.order.filter fun j=>decide (j≠i))++ [i]).Nodup
  rw [aju];refine⟨h.nodup.filter _,by simp,fun a ha c hc=>?_⟩;rw [ai2,decide_eq_true_eq] at ha;rw [agH.1 hc];exact ha.2
 ·show j∈(M.order.filter fun j=>decide (j≠i))++ [i]↔(qR M.cs i s j).isSome=true
  unfold qR;rw [agv,ai2,decide_eq_true_eq,agH,h.Qx]
  by_cases he:j=i
  ·simp [he]
  ·simp [he]
 ·have hj:j∈(M.order.filter fun j=>decide (j≠i))++ [i]:=hj
  rcases agv.1 hj with g|g
  ·exact h.P2 j ((ai2.1 g).1)
  ·rw [agH.1 g];exact hi
 ·have ht:qR M.cs i s j=some t:=ht
  unfold qR at ht
  split at ht
  ·cases ht;exact hs
  ·exact h.Sr j t ht
 ·have hk:M.cG.map (· - 1)=some k:=hk
  cases DG:M.cG with
  |none=>rw [DG] at hk;cases hk
  |some m=>
   rw [DG] at hk;simp only [ahD,agf] at hk;have h1:=h.fu m DG;have hm:m≠0:=fun e=>hf (by rw [DG,e]);rw [h1.1];refine⟨?_,by omega⟩;rw [ba (by omega) (by omega)];omega
def ox (l:List Nat):List Value:=aH (l.map fun n:Nat=> (n:Int))
def xg (cs:Nat→Option (List UInt8)):Int→Option Value:=fun k=>if 0≤k then (cs k.toNat).map fun s=>str s else none
theorem qz (cs:Nat→Option (List UInt8)) (i:Nat):xg cs (i:Int)= (cs i).map fun s=>str s:=by unfold xg;rw [if_pos (by omega)];rfl
theorem z_:xg (fun _=>none)=fun _=>none:=by
 funext k;unfold xg;split<;>rfl
theorem Rz (cs:Nat→Option (List UInt8)) (i:Nat) (s:List UInt8):rr (fq .i64) (xg cs) (i:Int) (some (str s))=xg (qR cs i s):=by
 funext k
 by_cases h:k= (i:Int)
 ·subst h;rw [kJ,qz];simp [qR]
 ·rw [jP _ h]
  unfold xg qR
  by_cases h0:0≤k
  ·rw [if_pos h0,if_pos h0,if_neg (by omega)]
  ·rw [if_neg h0,if_neg h0]
def qS (r:Nat) (m:Int→Option Value):jl where
 cN k:=k=r
 holds H:=Go.Vc.cZ (fq .i64) H r m
 frame:=fun h hf=>h.sI (hf r rfl)
 lt:=fun h hf=>by subst hf;exact h.lt
theorem Aa {r:Nat} {m:Int→Option Value} (o:ar H0 H L) (h:It.aA (qS r m)∈L):Go.Vc.cZ (fq .i64) H r m:=o.aA h
theorem Gz {H' :ai} {L' :List It} {r:Nat} {m m' :Int→Option Value} (o:ar H0 H L) (h:Go.Vc.cZ (fq .i64) H' r m') (hs:H'.size=H.size) (df: ∀i,i≠r→H'[i]? =H[i]?) (hr:aV (.aA (qS r m)) (.aA (qS r m')) L L'):ar H0 H' L' :=
 o.eX hr (by omega) (fun k _ hf=>df k hf) h (fun k hk=> .inl hk)
abbrev Kk (b:Nat) (lv:Value) (r:Nat) (ov:Value) (lf:Int) (M:Dk) (L:List It):List It:=
 .box b [lv,.map (some r),ov,.bool M.off,.bool M.cG.isSome,.int .i64 lf] 118:: .sl lv 1 (cH (fB M.n M.la)):: .aA (qS r (xg M.cs)):: .sl ov 1 (ox M.order)::L
def dO (H0 H:ai) (b:Nat) (M:Dk) (L:List It):Prop:= ∃lv r ov lf,ar H0 H (Kk b lv r ov lf M L)∧p7 M lf
theorem dO.ext {M:Dk} (d:dO H0 H b M L):Ext H0 H:=by obtain⟨_,_,_,_,o,_⟩:=d;exact o.ext
abbrev ptr (b:Nat):Value:= .pointer (some ⟨b,0,none⟩)
theorem kS {M:Dk}: (cH (fB M.n M.la)).length=M.n*1:=by rw [eY,jd,agh]
theorem B4 {M:Dk} {j:Nat} (h:j<M.n): (cH (fB M.n M.la))[j]? =some (str (M.la j)):=by unfold cH;rw [agu,pZ h];rfl
theorem Mn (l:List Nat): (ox l).length=l.length:=by simp [ox,aH]
theorem Mo {l:List Nat} {k:Nat} (h:k<l.length): (ox l)[k]? =some (.int .i64 (l[k]:Nat)):=by
 unfold ox;rw [bM (by rw [agw];exact h)]
 simp
theorem sc (l:List (List UInt8)) (i:Nat) (s:List UInt8): (cH l).set i (str s)=cH (l.set i s):=by unfold cH;rw [List.map_set]
theorem sd {M:Dk} {i:Int} (d:dO H0 H b M L) (h:R (.int .i64 (M.ready i)) H):ab 153 #[ptr b,.int .i64 i] H R:=by
 obtain⟨lv,r,ov,lf,o,ok⟩:=d;refine wF.vc _ _ _ _ ?_;rw [cB,aj,au,ae,al];refine o.aw (f:=0+3) (by repeat(first|exact af8|apply af7)) rfl ?_;unfold Dk.ready at h;refine cy (fun hb=>?_) (fun hb=>?_)
 ·rw [if_pos hb] at h;exact h
 rw [if_neg (by rw [hb];decide)] at h;rw [aN];refine il (d:=decide ((M.n:Int)≤i)) (fun _=>?_) ?_
 ·rw [au,ae,al]
  refine o.aw (f:=0+0) (by repeat(first|exact af8|apply af7)) rfl ?_;refine(o.sl (v:=lv) (by repeat(first|exact af8|apply af7))).len kS (by decide) ?_;rw [dP];exact⟨rfl,rfl⟩
 intro _;refine cy (fun hb=>?_) (fun hb=>?_)
 ·rw [ahg,decide_eq_true_eq,decide_eq_true_eq] at hb
  rw [if_neg (by omega)] at h;exact h
 ·rw [ahA,decide_eq_false_iff_not,decide_eq_false_iff_not] at hb
  rw [if_pos (by omega)] at h;exact h
theorem Mp {tQ is:List UInt8} {f:Nat} (h1:tQ.length=64) (h2:is.length=64) (hf:f<4) (h:R (str (ju tQ is f)) H):ab 67 #[str tQ,str is,.int .i64 (f:Int)] H R:=by
 refine KH.vc _ _ _ _ _ ?_;unfold ju at h;rw [bc];refine av (fun hc=>?_) (fun hc=>?_)
 ·rw [if_pos (by omega)] at h;exact h
 rw [if_neg (by omega)] at h;have Ru: ∀ {a c:List UInt8} {K:Value→Prop},a.length=64→c.length=64→K (str (a.take 32++c.drop 32))→a7 (str a) none (some (.int .i64 32)) fun x=>a7 (str c) (some (.int .i64 32)) none fun y=>aG x y fun z=>K z:=fun {a c K} ha hc hK=>
  bg (lo:=0) (hi:=32) (.inr ⟨rfl,rfl⟩) (.inl rfl) (by omega) (by omega) (bg (lo:=32) (hi:=c.length) (.inl rfl) (.inr ⟨rfl,rfl⟩) (by omega) (by omega) (aP (by simp only [age,agl];omega) (by
   rw [agS,ahb,agx (l:=c.drop 32) (by rw [agl];omega)];exact hK)))
 rw [bc];refine av (fun hc=>?_) (fun hc=>?_)
 ·rw [if_pos (by omega)] at h
  exact Ru h2 h1 h
 rw [if_neg (by omega)] at h;rw [bc];refine av (fun hc=>?_) (fun hc=>?_)
 ·rw [if_pos (by omega)] at h
  exact Ru h1 h2 h
 rw [if_neg (by omega)] at h;exact h
theorem Ab {lv ov:Value} {r:Nat} {m:Int→Option Value} {ld:List Value} {od:List Value} {x3 x4 x5:Value} (o:ar H0 H (.box b [lv,.map (some r),ov,x3,x4,x5] 118:: .sl lv 1 ld:: .aA (qS r m):: .sl ov 1 od::L))
  (h: ∀H',ar H0 H' (.box b [lv,.map (some r),.slice none 0 0,x3,x4,x5] 118:: .sl lv 1 ld:: .aA (qS r (fun _=>none)):: .sl (.slice none 0 0) 1 []::L)→R (.tuple #[]) H'):ab 68 #[ptr b] H R:=by
 refine wE.vc _ _ _ ?_;rw [au,ae,al];refine o.aw (f:=0+1) (by repeat(first|exact af8|apply af7)) rfl ?_;refine(Aa o (by repeat(first|exact af8|apply af7))).clear fun H1 hm hs df=>?_;have o:=Gz o hm hs df (by repeat(first|exact aV.here|apply aV.there));rw [au,ae,al];refine o.bF (f:=0+2) (by repeat(first|exact af8|apply af7)) (by simp) rfl (by repeat(first|exact aV.here|apply aV.there)) fun H2 o _=>?_;refine h H2 ?_;exact o.eX (i' := .sl (.slice none 0 0) 1 []) (by repeat(first|exact aV.here|apply aV.there)) (aga _) (fun k _ _=>rfl) ⟨by decide,.inl ⟨rfl,rfl⟩⟩ (fun k hk=>by cases hk)
def RA (H0:ai) (L:List It) (v:Value) (zs:List Int):Prop:=Sl H0 v 1 (aH zs)∨It.sl v 1 (aH zs)∈L
theorem RA.at {v:Value} {zs:List Int} {L' :List It} (h:RA H0 L v zs) (o:ar H0 H L') (hm: ∀i,i∈L→i∈L'):Sl H v 1 (aH zs):=by
 rcases h with h|h
 ·exact h.ext o.ext
 ·exact o.sl (hm _ h)
theorem Pv:RA H0 L (.slice none 0 0) []:= .inl (.inl ⟨rfl,rfl⟩)
theorem ZU {a c d e:It}: ∀i,i∈L→i∈a::c::d::e::L:=fun i h=>af7 _ (af7 _ (af7 _ (af7 _ h)))
theorem Jj {l:List Nat} {k j:Nat} (hn:l.Nodup) (hk:k<l.length):l.idxOf l[k]=k:=by
 induction l generalizing k with
 |nil=>simp at hk
 |cons a l ih=>
  cases k with
  |zero=>simp
  |succ k=>
   have h1:=ajo.1 hn;have df:a≠l[k]'(by simpa using hk):=fun e=>h1.1 (by rw [e];exact agj _);rw [List.getElem_cons_succ,List.idxOf_cons,beq_false_of_ne df,ih h1.2];rfl
theorem Ac {M:Dk} {dS:List Int} (d:dO H0 H b M L) (hf:RA H0 L v dS) (ME:dS.length≤maxLen) (h: ∀H',dO H0 H' b (M.ej dS) L→R (.tuple #[]) H'):ab 26 #[ptr b,v] H R:=by
 obtain⟨lv,r,ov,lf,o,ok⟩:=d;refine wC.vc _ _ _ _ ?_;rw [cB];refine aO ?_;rw [au,ae,al];refine o.aw (f:=0+3) (by repeat(first|exact af8|apply af7)) rfl ?_;intro _;refine cy (fun hb=>?_) (fun hb=>?_)
 ·refine h H ⟨lv,r,ov,lf,?_,?_⟩
  ·unfold Dk.ej;rw [if_pos hb];exact o
  ·unfold Dk.ej;rw [if_pos hb];exact ok
 have ZV:=ok.ej dS;have Hu:=ok.WA;have WB: (ox M.order).length=M.order.length*1:=by rw [Mn,agh]
 rw [au,ae,al];refine o.aw (f:=0+2) (by repeat(first|exact af8|apply af7)) rfl ?_;refine(o.sl (v:=ov) (by repeat(first|exact af8|apply af7))).len WB (by decide) ?_;refine⟨fun i H' => ∃k:Nat,i= .int .i64 k∧k≤M.order.length∧ar H0 H' (Kk b lv r ov lf {M with la:=fun j=>if j∈M.order.take k then ju (M.la j) ((M.cs j).getD []) (kf dS (M.order.idxOf j)) else M.la j} L),fun i _=>match i with| .int _ x=>M.order.length - x.toNat|_=>0,⟨0,rfl,by omega,by simpa using o⟩,?_⟩;clear o;rintro _ _ H1 ⟨k,rfl,hk,o⟩;rw [aN];refine av (fun hc=>?_) (fun hc=>?_)
 ·have dV:k<M.order.length:=by omega
  have WC:M.order.length - ((k:Int)+1).toNat<M.order.length - (k:Int).toNat:=by omega
  have dz:=agj dV;have hq:=ok.P2 _ dz;have ZW:=Jj (j:=0) ok.nodup dV;have Es:M.order[k] ∉M.order.take k:=by
   intro hm;obtain⟨j,hj⟩:=ahI hm;rw [agV] at hj
   split at hj
   ·rename_i Un
    have:=mH ok.nodup hj (agb dV);omega
   ·cases hj
  obtain⟨s,hs⟩: ∃s,M.cs M.order[k]=some s:=Option.isSome_iff_exists.1 ((ok.Qx _).1 dz);have me:M.order.take (k+1)=M.order.take k++ [M.order[k]]:=by rw [agz,agb dV];rfl
  generalize hqd:M.order[k]=q at*;refine(o.sl (v:=ov) (by repeat(first|exact af8|apply af7))).at_ WB (by decide) (by omega) (by omega) fun p hp=>?_;refine hp.load (o.sl (v:=ov) (by repeat(first|exact af8|apply af7))) (w:= .int .i64 (q:Int)) (by rw [af_,agh,Mo dV,hqd]) ?_;refine⟨fun f H' =>f= .int .i64 ((kf dS k:Nat):Int)∧H1=H',?_,?_⟩
  ·rintro _ _ _ ⟨rfl,rfl⟩
   rw [au,ae,al];refine o.aw (f:=0+0) (by repeat(first|exact af8|apply af7)) rfl ?_;rw [au,ae,al];refine o.aw (f:=0+0) (by repeat(first|exact af8|apply af7)) rfl ?_;refine(o.sl (v:=lv) (by repeat(first|exact af8|apply af7))).at_ kS (by decide) (by omega) (by show (q:Int)< (M.n:Int);omega) fun p hp=>?_;refine hp.load (o.sl (v:=lv) (by repeat(first|exact af8|apply af7))) (w:=str (M.la q)) (by rw [af_,agh];refine(B4 (M:= {M with la:=fun j=>if j∈M.order.take k then ju (M.la j) ((M.cs j).getD []) (kf dS (M.order.idxOf j)) else M.la j}) hq).trans ?_;show some (str (if q∈M.order.take k then _ else _))=_;rw [if_neg Es]) ?_;rw [au,ae,al];refine o.aw (f:=0+1) (by repeat(first|exact af8|apply af7)) rfl ?_;refine Go.Vc.cZ.lookup (κ:=fq .i64) (k:= (q:Int)) (Aa o (by repeat(first|exact af8|apply af7))) ?_;rw [qz];show ab 67 #[str (M.la q),((M.cs q).map fun s=>str s).getD (str []),.int .i64 ((kf dS k:Nat):Int)] H1 _;rw [hs];refine Mp (ok.Ry q hq) (ok.Sr q s hs) (Pu _ _) ?_;refine⟨o.aw (f:=0+0) (by repeat(first|exact af8|apply af7)) rfl rfl,?_⟩;refine(o.sl (v:=lv) (by repeat(first|exact af8|apply af7))).at_ kS (by decide) (by omega) (by show (q:Int)< (M.n:Int);omega) fun p hp=>?_;refine o.store hp (by repeat(first|exact af8|apply af7)) (by rw [kS];show (q:Int).toNat*1<M.n*1;omega) rfl (by repeat(first|exact aV.here|apply aV.there)) fun H2 o _=>?_;rw [az,ba (n:= (k:Int)+1) (by omega) (by omega)];refine⟨⟨k+1,rfl,by omega,?_⟩,WC⟩;rw [af_,agh,sc,zZ] at o;have e:fB M.n (fun j=>if j∈M.order.take (k+1) then ju (M.la j) ((M.cs j).getD []) (kf dS (M.order.idxOf j)) else M.la j)=fB M.n (fun j=>if j=q then ju (M.la q) s (kf dS k) else if j∈M.order.take k then ju (M.la j) ((M.cs j).getD []) (kf dS (M.order.idxOf j)) else M.la j):=by
    refine iz fun j _=>?_;rw [me]
    by_cases UT:j=q
    ·subst UT;rw [if_pos (by simp),if_pos rfl,hs,ZW];rfl
    ·rw [if_neg UT]
     have: (j∈M.order.take k++ [q])= (j∈M.order.take k):=by rw [agv,agH];simp [UT]
     simp only [this]
   show ar H0 H2 (.box b _ _:: .sl lv 1 (cH (fB M.n _))::_);rw [e];exact o
  ·have dI: (aH dS).length=dS.length*1:=by rw [aL,agh]
   have Vy:=hf.at o ZU;refine Vy.len dI (by decide) ?_;rw [aN];unfold kf;refine av (fun hl=>?_) (fun hl=>?_)
   ·have XN:k<dS.length:=by omega
    refine Vy.at_ dI (by decide) (by omega) (by omega) fun p hp=>?_;refine hp.load Vy (w:= .int .i64 dS[k]) (by rw [af_,agh,bM XN]) ?_;have t1:=Ji (z:=dS[k]) (n:=4) (by decide);have t2:=Gy (z:=dS[k]) (n:=4) (by decide);rw [jz];refine⟨by decide,?_⟩;rw [az,ba (n:=dS[k].tmod 4+4) (by omega) (by omega),jz];refine⟨by decide,?_⟩;rw [agb XN];refine⟨?_,rfl⟩;show _=Value.int .i64 (((dS[k].tmod 4+4).tmod 4).toNat:Int);rw [ahv t2.1]
   ·rw [agq (by omega)]
    exact⟨rfl,rfl⟩
 ·have fG:k=M.order.length:=by omega
  rw [fG,agr] at o;refine Ab o fun H2 o=>?_;rw [au,ae,al];refine o.bF (f:=0+3) (by repeat(first|exact af8|apply af7)) (by simp) rfl (by repeat(first|exact aV.here|apply aV.there)) fun H3 o _=>?_;rw [au,ae,al];refine o.bF (f:=0+4) (by repeat(first|exact af8|apply af7)) (by simp) rfl (by repeat(first|exact aV.here|apply aV.there)) fun H4 o _=>?_;refine h H4 ⟨lv,r,.slice none 0 0,lf,?_,ZV⟩;unfold Dk.ej;rw [if_neg (by rw [hb];decide)];have e:fB M.n (fun j=>if j∈M.order then ju (M.la j) ((M.cs j).getD []) (kf dS (M.order.idxOf j)) else M.la j)=fB M.n (fun j=>match M.cs j with|some s=>ju (M.la j) s (kf dS (M.order.idxOf j)) |none=>M.la j):=by
   refine iz fun j _=>?_
   cases hs:M.cs j with
   |some s=>rw [if_pos ((ok.Qx j).2 (by rw [hs];rfl))];rfl
   |none=>rw [if_neg (fun g=>by have:= (ok.Qx j).1 g;rw [hs] at this;cases this)]
  show ar H0 H4 (.box b _ _:: .sl lv 1 (cH (fB M.n _)):: .aA (qS r (xg fun _=>none))::_);rw [←e,z_];exact o
end
section
variable {H H0:ai} {R:Value→ai→Prop} {v:Value} {L:List It} {b:Nat} {M:Dk}
theorem B5 (d:dO H0 H b M L) (nt:M.cG≠some 0→R (.bool false) H) (rL:M.cG=some 0→∀H',dO H0 H' b (M.ej []) L→R (.bool true) H'):ab 156 #[ptr b] H R:=by
 have d0:=d;obtain⟨lv,r,ov,lf,o,ok⟩:=d;refine yg.vc _ _ _ ?_;rw [au,ae,al];refine o.aw (f:=0+4) (by repeat(first|exact af8|apply af7)) rfl ?_;refine dM (d:=decide (lf≤0)) (fun _=>?_) ?_
 ·rw [au,ae,al]
  refine o.aw (f:=0+5) (by repeat(first|exact af8|apply af7)) rfl ?_;rw [kp];exact⟨rfl,rfl⟩
 intro _
 cases hf:M.cG with
 |none=>
  rw [Option.isSome_none,Bool.false_and,aj];exact nt (by rw [hf];simp)
 |some k=>
  have h1:=ok.fu k hf;rw [Option.isSome_some,ai1];refine av (fun hc=>?_) (fun hc=>?_)
  ·have PS:M.cG=some 0:=by rw [hf];congr 1;omega
   exact Ac d0 Pv (agK _) fun H' d' =>rL PS H' d'
  ·exact nt (by rw [hf];intro e;cases e;omega)
theorem wu (l:List Nat) (i:Nat):others (l.map fun n:Nat=> (n:Int)) (i:Int)= (l.filter fun j=>decide (j≠i)).map fun n:Nat=> (n:Int):=by
 unfold others;rw [List.filter_map]
 congr 1
 refine List.filter_congr fun j _=>?_;show decide ((j:Int)≠(i:Int))=decide (j≠i);rw [ahm,decide_eq_true_eq,decide_eq_true_eq];omega
theorem Ad (l:List Nat) (i:Nat):ox l++ [.int .i64 (i:Int)]=ox (l++ [i]):=by unfold ox;rw [agU,nG];rfl
theorem Ae {i:Int} {s:List UInt8} (d:dO H0 H b M L) (h: ∀H',dO H0 H' b (M.write i s).1 L→R (.int .i64 (M.write i s).2) H'):ab 155 #[ptr b,.int .i64 i,str s] H R:=by
 obtain⟨lv,r,ov,lf,o,ok⟩:=d;refine wG.vc _ _ _ _ _ ?_;refine o.box fun ib H1 o _=>?_;have o:ar H0 H1 (Kk b lv r ov lf M (.box ib [.int .i64 i] 3::L)):=o.eR (by repeat(first|exact bd.refl|exact bw.here|apply bd.cons|apply bw.there));have d:dO H0 H1 b M (.box ib [.int .i64 i] 3::L):= ⟨lv,r,ov,lf,o,ok⟩;have drop: ∀ {H' :ai} {M' :Dk},dO H0 H' b M' (.box ib [.int .i64 i] 3::L)→dO H0 H' b M' L:=fun d=>by
  obtain⟨lv,r,ov,lf,o,ok⟩:=d;exact⟨lv,r,ov,lf,o.pick ((ag_ _ _).cons_cons _|>.cons_cons _|>.cons_cons _|>.cons_cons _),ok⟩
 rw [cB];refine aO ?_;refine aJ ?_;rw [cA];intro _;unfold Dk.write at h;refine av (fun hc=>?_) (fun hc=>?_)
 ·rw [if_pos (by omega)] at h
  exact h H1 (drop d)
 have RB:s.length=64:=by simp at hc;omega
 rw [if_neg (by omega)] at h;refine o.aw (by repeat(first|exact af8|apply af7)) rfl ?_;refine sd d ?_;rw [cA];refine av (fun hc=>?_) (fun hc=>?_)
 ·rw [if_pos hc] at h
  exact h H1 (drop d)
 rw [if_neg hc] at h;have dz:0≤i∧i< (M.n:Int):=by
  have hc:M.ready i=0:=by simpa using hc
  unfold Dk.ready at hc
  split at hc
  ·cases hc
  ·split at hc
   ·assumption
   ·cases hc
 refine B5 d (fun hf=>?_) (fun hf H2 d2=>?_)
 rotate_left
 ·rw [aD]
  rw [if_pos hf] at h;exact h H2 (drop d2)
 rw [aj];rw [if_neg hf] at h;obtain⟨q,rfl⟩: ∃q:Nat,i=q:= ⟨i.toNat,by omega⟩;rw [af_] at h;have ZX:=ok.put (i:=q) (s:=s) (by omega) RB hf;have Hu:=ok.WA;rw [au,ae,al];refine o.aw (f:=0+5) (by repeat(first|exact af8|apply af7)) rfl ?_;rw [aZ,au,ae,al];refine o.bF (f:=0+5) (by repeat(first|exact af8|apply af7)) (by simp) rfl (by repeat(first|exact aV.here|apply aV.there)) fun H2 o _=>?_;refine⟨fun H' => ∃XO,ar H0 H' (.box b [lv,.map (some r),XO,.bool M.off,.bool M.cG.isSome,.int .i64 (IntKind.i64.wrap (lf - 1))] 118:: .sl lv 1 (cH (fB M.n M.la)):: .aA (qS r (xg M.cs)):: .sl XO 1 (ox ((M.order.filter fun j=>decide (j≠q))++ [q])):: .box ib [.int .i64 (q:Int)] 3::L),?_,?_⟩
 ·rintro _ H3 ⟨XO,o⟩
  rw [au,ae,al];refine o.aw (f:=0+1) (by repeat(first|exact af8|apply af7)) rfl ?_;refine o.aw (b:=ib) (f:=0) (by repeat(first|exact af8|apply af7)) rfl ?_;refine(Aa o (by repeat(first|exact af8|apply af7))).set (k:= (q:Int)) fun H4 hm kg df=>?_;have o:=Gz o hm kg df (by repeat(first|exact aV.here|apply aV.there));rw [Rz] at o;refine h H4 (drop ⟨lv,r,XO,IntKind.i64.wrap (lf - 1),?_,ZX⟩);have e: (M.cG.map (· - 1)).isSome=M.cG.isSome:=by cases M.cG<;>rfl
  show ar H0 H4 (.box b [_,_,_,.bool M.off,.bool (M.cG.map (· - 1)).isSome,_] _::_);rw [e];exact o
 rw [au,ae,al];refine o.aw (f:=0+2) (by repeat(first|exact af8|apply af7)) rfl ?_;refine o.aw (b:=ib) (f:=0) (by repeat(first|exact af8|apply af7)) rfl ?_;have Ss: (M.order.map fun n:Nat=> (n:Int)).length≤1000000:=by rw [agw];omega
 have aex: (M.order.filter fun j=>decide (j≠q)).length≤65536:=agJ (List.length_filter_le _ _) Hu
 constructor
 ·refine B3 (l:=M.order.map fun n:Nat=> (n:Int)) o (by repeat(first|exact bw.here|apply bw.there)) (ti:=3) (i:= (q:Int)) (by repeat(first|exact af8|apply af7)) Ss fun y H3 o=>?_
  rw [wu] at o;refine⟨o.aw (b:=ib) (f:=0) (by repeat(first|exact af8|apply af7)) rfl rfl,?_⟩;refine o.dj (sz:=1) (by decide) rfl rfl fun z H4 o=>?_;refine⟨o.aw (b:=b) (f:=0+2) (by repeat(first|exact af8|apply af7)) rfl rfl,?_⟩;refine o.app (v:=y) (by repeat(first|exact bw.here|apply bw.there)) (o.sl (v:=z) (by repeat(first|exact af8|apply af7))) rfl (by rw [aL,agw];show 2* (_+1)*8≤_;omega) fun w H5 o=>?_;rw [au,ae,al];refine o.bF (b:=b) (f:=0+2) (by repeat(first|exact af8|apply af7)) (by simp) (o.sl (v:=w) (by repeat(first|exact af8|apply af7))).one (by repeat(first|exact aV.here|apply aV.there)) fun H6 o _=>?_;refine⟨w,?_⟩;rw [←Ad];exact(o.front (i:= .sl z 1 _) (by repeat(first|exact bw.here|apply bw.there))).pick (ag_ _ _) |>.eR (by repeat(first|exact bd.refl|exact bw.here|apply bd.cons|apply bw.there))
 ·refine o.dj (sz:=1) (by decide) rfl rfl fun z H4 o=>?_
  refine⟨o.aw (b:=b) (f:=0+2) (by repeat(first|exact af8|apply af7)) rfl rfl,?_⟩;refine B3 (v:=ov) (l:=M.order.map fun n:Nat=> (n:Int)) o (by repeat(first|exact bw.here|apply bw.there)) (ti:=3) (i:= (q:Int)) (by repeat(first|exact af8|apply af7)) Ss fun y H3 o=>?_;rw [wu] at o;refine⟨o.aw (b:=ib) (f:=0) (by repeat(first|exact af8|apply af7)) rfl rfl,?_⟩;refine o.app (v:=y) (by repeat(first|exact bw.here|apply bw.there)) (o.sl (v:=z) (by repeat(first|exact af8|apply af7))) rfl (by rw [aL,agw];show 2* (_+1)*8≤_;omega) fun w H5 o=>?_;rw [au,ae,al];refine o.bF (b:=b) (f:=0+2) (by repeat(first|exact af8|apply af7)) (by simp) (o.sl (v:=w) (by repeat(first|exact af8|apply af7))).one (by repeat(first|exact aV.here|apply aV.there)) fun H6 o _=>?_;refine⟨w,?_⟩;rw [←Ad];exact(o.front (i:= .sl z 1 _) (by repeat(first|exact bw.here|apply bw.there))).pick (ag_ _ _) |>.eR (by repeat(first|exact bd.refl|exact bw.here|apply bd.cons|apply bw.there))
end
section
variable {H H0:ai} {R:Value→ai→Prop} {v:Value} {L:List It} {b:Nat} {M:Dk}
def UU (it r:Nat) (m:Int→Option Value) (done:List Int) (c:Nat):jl where
 cN k:=k=it∨k=r
 holds H:=Iter (fq .i64) H it r m done∧eF H it=c
 frame:=fun h hf=> ⟨h.1.sI (hf it (.inl rfl)) (hf r (.inr rfl)),(Ax h.1 (hf it (.inl rfl)) (hf r (.inr rfl))).trans h.2⟩
 lt:=fun h hf=>by
  rcases hf with rfl|rfl
  ·exact h.1.lt
  ·exact h.1.map.lt
theorem GA {it r:Nat} {m:Int→Option Value} {done:List Int} {c:Nat} (o:ar H0 H L) (h:It.aA (UU it r m done c)∈L):Iter (fq .i64) H it r m done∧eF H it=c:=o.aA h
def RC (cs:Nat→Option (List UInt8)) (la:Nat→List UInt8) (done:List Int):Nat→List UInt8:=fun j=>if (j:Int)∈done then (cs j).getD [] else la j
theorem B6 (d:dO H0 H b M L) (h: ∀H',dO H0 H' b M.sync.1 L→R (.int .i64 M.sync.2) H'):ab 113 #[ptr b] H R:=by
 have n1:1≤M.n:=by obtain⟨_,_,_,_,_,ok⟩:=d;exact ok.n1
 refine yf.vc _ _ _ ?_;refine sd d ?_;unfold Dk.sync at h;unfold Dk.ready;rw [cA];refine av (fun hc=>?_) (fun hc=>?_)
 ·by_cases A0:M.off=true
  ·rw [if_pos A0] at h ⊢
   exact h H d
  ·rw [if_neg A0,if_pos (by omega)] at hc
   exact absurd rfl hc
 have A0: ¬M.off=true:=fun g=>by rw [if_pos g] at hc;exact hc (by decide)
 rw [if_neg A0] at h;refine B5 d (fun hf=>?_) (fun hf H2 d2=>?_)
 rotate_left
 ·rw [aD]
  rw [if_pos hf] at h;exact h H2 d2
 rw [aj];rw [if_neg hf] at h;obtain⟨lv,r,ov,lf,o,ok⟩:=d;have ZY:=ok.flush;rw [au,ae,al];refine o.aw (f:=0+1) (by repeat(first|exact af8|apply af7)) rfl ?_;refine(Aa o (by repeat(first|exact af8|apply af7))).range (by kernel_rfl) fun H3 hx kg hit=>?_;have o:=o.eX (H' :=H3) (i:= .aA (qS r (xg M.cs))) (i' := .aA (UU H.size r (xg M.cs) [] (eF H3 H.size))) (by repeat(first|exact aV.here|apply aV.there)) hx.size (fun k hk _=>hx.get k hk) ⟨hit,rfl⟩ (fun k hk=>by
  rcases hk with rfl|rfl
  ·exact .inr (aga _)
  ·exact .inl rfl)
 generalize H.size=it at*;refine⟨fun H' => ∃done c,ar H0 H' (.box b [lv,.map (some r),ov,.bool M.off,.bool M.cG.isSome,.int .i64 lf] 118:: .sl lv 1 (cH (fB M.n (RC M.cs M.la done))):: .aA (UU it r (xg M.cs) done c):: .sl ov 1 (ox M.order)::L),fun H' =>eF H' it,⟨[],_,by
  have e:RC M.cs M.la []=M.la:=by funext j;unfold RC;rw [if_neg (by simp)]
  rw [e];exact o⟩,?_⟩
 clear o hit kg;rintro _ H4 ⟨done,c,o⟩;have ZZ: ∀k∈done,(xg M.cs k).isSome=true:=fun k hk=> (GA (it:=it) (r:=r) (m:=xg M.cs) (done:=done) (c:=c) o (by repeat(first|exact af8|apply af7))).1.Qx hk;have hcn:= (GA (it:=it) (r:=r) (m:=xg M.cs) (done:=done) (c:=c) o (by repeat(first|exact af8|apply af7))).2;refine(GA o (by repeat(first|exact af8|apply af7))).1.next (fun Ns=>?_) (fun k w H5 hk hw hit df kg cF=>?_)
 ·refine ag rfl ?_
  rw [aj];have o:=o.eX (i:= .aA (UU it r (xg M.cs) done c)) (i' := .aA (qS r (xg M.cs))) (by repeat(first|exact aV.here|apply aV.there)) (aga _) (fun k _ _=>rfl) (GA o (by repeat(first|exact af8|apply af7))).1.map (fun k hk=> .inl (.inr hk));refine Ab o fun H5 o=>?_;refine h H5 ⟨lv,r,.slice none 0 0,lf,?_,ZY⟩;have e:fB M.n (RC M.cs M.la done)=fB M.n (fun j=> (M.cs j).getD (M.la j)):=by
   refine iz fun j _=>?_;unfold RC
   cases hs:M.cs j with
   |some s=>
    have:=Ns (j:Int) (by rw [qz,hs];rfl);rw [if_pos this];rfl
   |none=>
    rw [if_neg]
    ·rfl
    ·intro g
     have:=ZZ _ g;rw [qz,hs] at this
     cases this
  show ar H0 H5 (.box b _ _:: .sl lv 1 (cH (fB M.n fun j=> (M.cs j).getD (M.la j))):: .aA (qS r (xg fun _=>none))::_);rw [←e,z_];exact o
 ·refine ag rfl ?_
  rw [aD];obtain⟨q,s,rfl,hs,rfl⟩: ∃ (q:Nat) (s:List UInt8),k= (q:Int)∧M.cs q=some s∧w=str s:=by
   by_cases h0:0≤k
   ·obtain⟨q,rfl⟩: ∃q:Nat,k=q:= ⟨k.toNat,by omega⟩
    rw [qz] at hw
    cases hs:M.cs q with
    |none=>rw [hs] at hw;cases hw
    |some s=>rw [hs] at hw;exact⟨q,s,rfl,hs,(agN hw).symm⟩
   ·unfold xg at hw;rw [if_neg h0] at hw;cases hw
  have hq:q<M.n:=ok.P2 q ((ok.Qx q).2 (by rw [hs];rfl));have o:=o.eX (H' :=H5) (i:= .aA (UU it r (xg M.cs) done c)) (i' := .aA (UU it r (xg M.cs) (done++ [(q:Int)]) (eF H5 it))) (by repeat(first|exact aV.here|apply aV.there)) (by omega) (fun k _ hf=>df k (fun e=>hf (.inl e))) ⟨hit,rfl⟩ (fun k hk=> .inl hk);refine Iter.entry hit hw ?_;refine ag rfl ?_;refine ag rfl ?_;rw [au,ae,al];refine o.aw (f:=0+0) (by repeat(first|exact af8|apply af7)) rfl ?_;have xn: (cH (fB M.n (RC M.cs M.la done))).length=M.n*1:=by rw [eY,jd,agh]
  refine(o.sl (v:=lv) (by repeat(first|exact af8|apply af7))).at_ xn (by decide) (by omega) (by show (q:Int)< (M.n:Int);omega) fun p hp=>?_;refine o.store hp (by repeat(first|exact af8|apply af7)) (by rw [xn];show (q:Int).toNat*1<M.n*1;omega) rfl (by repeat(first|exact aV.here|apply aV.there)) fun H6 o _=>?_;rw [af_,agh,sc,zZ] at o;have e:fB M.n (RC M.cs M.la (done++ [(q:Int)]))=fB M.n (fun j=>if j=q then s else RC M.cs M.la done j):=by
   refine iz fun j _=>?_;unfold RC
   by_cases UT:j=q
   ·subst UT;rw [if_pos (by simp),if_pos rfl,hs];rfl
   ·rw [if_neg UT]
    have: ((j:Int)∈done++ [(q:Int)])= ((j:Int)∈done):=by
     rw [agv,agH];have: ¬ (j:Int)= (q:Int):=by omega
     simp [this]
    simp only [this]
  rw [←e] at o;refine⟨⟨_,_,o⟩,?_⟩;have h6:= (GA (it:=it) (r:=r) (m:=xg M.cs) (done:=done++ [(q:Int)]) (c:=eF H5 it) o (by repeat(first|exact af8|apply af7))).2;show eF H6 it<eF H4 it;rw [h6];exact cF
theorem vf {i:Int} (d:dO H0 H b M L) (h:R (.tuple #[str (M.read i).1,.int .i64 (M.read i).2]) H):ab 107 #[ptr b,.int .i64 i] H R:=by
 refine ye.vc _ _ _ _ ?_;refine sd d ?_;unfold Dk.read at h;rw [cA];refine av (fun hc=>?_) (fun hc=>?_)
 ·rw [if_pos hc] at h
  exact h
 rw [if_neg hc] at h;have dz:0≤i∧i< (M.n:Int):=by
  have hc:M.ready i=0:=by simpa using hc
  unfold Dk.ready at hc
  split at hc
  ·cases hc
  ·split at hc
   ·assumption
   ·cases hc
 obtain⟨q,rfl⟩: ∃q:Nat,i=q:= ⟨i.toNat,by omega⟩;rw [af_] at h;obtain⟨lv,r,ov,lf,o,ok⟩:=d;rw [au,ae,al];refine o.aw (f:=0+1) (by repeat(first|exact af8|apply af7)) rfl ?_;refine Go.Vc.cZ.lookup (κ:=fq .i64) (k:= (q:Int)) (Aa o (by repeat(first|exact af8|apply af7))) ?_;rw [qz];unfold Dk.sec at h
 cases hs:M.cs q with
 |some s=>
  rw [hs] at h;refine ag (v:=str s) rfl ?_;refine ag (v:= .bool true) rfl ?_;rw [aD];exact h
 |none=>
  rw [hs] at h;refine ag (v:=str []) rfl ?_;refine ag (v:= .bool false) rfl ?_;rw [aj,au,ae,al];refine o.aw (f:=0+0) (by repeat(first|exact af8|apply af7)) rfl ?_;refine(o.sl (v:=lv) (by repeat(first|exact af8|apply af7))).at_ kS (by decide) (by omega) (by omega) fun p hp=>?_;refine hp.load (o.sl (v:=lv) (by repeat(first|exact af8|apply af7))) (w:=str (M.la q)) (by rw [af_,agh,B4 (by omega)]) ?_;exact h
theorem Jk (d:dO H0 H b M L) (h: ∀H',dO H0 H' b {M with off:=false} L→R (.tuple #[]) H'):ab 27 #[ptr b] H R:=by
 obtain⟨lv,r,ov,lf,o,ok⟩:=d;refine wD.vc _ _ _ ?_;rw [rn,aD,au,ae,al];refine o.bF (f:=0+3) (by repeat(first|exact af8|apply af7)) (by simp) rfl (by repeat(first|exact aV.here|apply aV.there)) fun H1 o _=>?_;exact h H1 ⟨lv,r,ov,lf,o,⟨ok.n1,ok.n2,ok.Ry,ok.nodup,ok.Qx,ok.P2,ok.Sr,ok.fu⟩⟩
theorem B7 {n:Int} (hn:n≤9223372036854775807) (d:dO H0 H b M L) (h: ∀H',dO H0 H' b {M with cG:=if 0≤n then some n.toNat else none} L→R (.tuple #[]) H'):ab 20 #[ptr b,.int .i64 n] H R:=by
 obtain⟨lv,r,ov,lf,o,ok⟩:=d;refine yd.vc _ _ _ _ ?_;rw [rn,aD,dP,au,ae,al];refine o.bF (f:=0+4) (by repeat(first|exact af8|apply af7)) (by simp) rfl (by repeat(first|exact aV.here|apply aV.there)) fun H1 o _=>?_;rw [au,ae,al];refine o.bF (f:=0+5) (by repeat(first|exact af8|apply af7)) (by simp) rfl (by repeat(first|exact aV.here|apply aV.there)) fun H2 o _=>?_;refine h H2 ⟨lv,r,ov,n,?_,⟨ok.n1,ok.n2,ok.Ry,ok.nodup,ok.Qx,ok.P2,ok.Sr,fun k hk=>?_⟩⟩
 ·have e: (if 0≤n then some n.toNat else none).isSome=decide (0≤n):=by
   by_cases h0:0≤n
   ·rw [if_pos h0,decide_eq_true h0];rfl
   ·rw [if_neg h0,decide_eq_false h0];rfl
  show ar H0 H2 (.box b [_,_,_,.bool M.off,.bool (if 0≤n then some n.toNat else none).isSome,.int .i64 n] _::_);rw [e];exact o
 ·have hk: (if 0≤n then some n.toNat else none)=some k:=hk
  split at hk
  ·cases hk;omega
  ·cases hk
theorem gP (d:dO H0 H b M L) (h:R (.int .i64 (M.n:Nat)) H):ab 51 #[ptr b] H R:=by
 obtain⟨lv,r,ov,lf,o,ok⟩:=d;refine sM.vc _ _ _ ?_;rw [cB,aj,au,ae,al];refine o.aw (f:=0+0) (by repeat(first|exact af8|apply af7)) rfl ?_;exact(o.sl (v:=lv) (by repeat(first|exact af8|apply af7))).len kS (by decide) h
def je:List UInt8:=List.replicate 64 0
def Dk.new (n:Nat):Dk:= {n:=n,la:=fun _=>je,cs:=fun _=>none,order:= [],off:=false,cG:=none}
theorem p7.new {n:Nat} (h1:1≤n) (h2:n≤65536):p7 (Dk.new n) 0:= ⟨h1,h2,fun _ _=>by simp [Dk.new,je],ah_,by simp [Dk.new],by simp [Dk.new],by simp [Dk.new],by simp [Dk.new]⟩
theorem Pw (n:Nat):List.replicate n (str [])=cH (fB n fun _=> []):=by
 apply agX;intro i
 by_cases hi:i<n
 ·unfold cH;rw [aie,if_pos hi,agu,pZ hi];rfl
 ·rw [agq (by rw [agF];omega),agq (by rw [eY,jd];omega)]
theorem B8 {n:Nat} (o:ar H0 H L) (h1:1≤n) (h2:n≤65536) (h: ∀H' b,dO H0 H' b (Dk.new n) L→R (.tuple #[ptr b,.int .i64 0]) H'):ab 19 #[.int .i64 (n:Int)] H R:=by
 have gl:=p7.new h1 h2;refine Nt.vc _ _ _ ?_;rw [aN];refine il (d:=decide (65536< (n:Int))) (fun _=>by rw [a8];exact⟨rfl,rfl⟩) ?_;intro _;rw [decide_eq_false (by omega),decide_eq_false (by omega),show (false||false)=false from rfl,aj];refine o.qV (by omega) (by omega) (by omega) fun lv H1 o=>?_;rw [af_,Pw] at o;refine mI (fq .i64) fun H2 hm hx kg=>?_;have o:=o.add (i:= .aA (qS H1.size fun _=>none)) hx hm (fun k hk=>by
  have hk:k=H1.size:=hk;omega)
 generalize H1.size=r at*;refine aM (o.sl (v:=lv) (by repeat(first|exact af8|apply af7))).one (by decide) ?_;refine aM rfl (by simp) ?_;rw [bz];refine o.box fun b H3 o _=>?_
 change ar H0 H3 (.box b [lv,.map (some r),.slice none 0 0,.bool false,.bool false,.int .i64 0] _::_) at o
 have o:=o.add (Ext.refl _) (i:= .sl (.slice none 0 0) 1 []) ⟨by decide,.inl ⟨rfl,rfl⟩⟩ (by intro k hk;exact absurd hk (by simp [It.cN,aS]));have o:ar H0 H3 (.box b [lv,.map (some r),.slice none 0 0,.bool false,.bool false,.int .i64 0] 118:: .sl lv 1 (cH (fB n fun j=>if j<0 then je else [])):: .aA (qS r fun _=>none):: .sl (.slice none 0 0) 1 []::L):=by
  have e: (fB n fun j:Nat=>if j<0 then je else [])=fB n fun _=> []:=iz fun j _=>if_neg (by omega);rw [e];exact o.eR (by repeat(first|exact bd.refl|exact bw.here|apply bd.cons|apply bw.there))
 rw [au,ae,al];refine o.aw (f:=0+0) (by repeat(first|exact af8|apply af7)) rfl ?_;refine(o.sl (v:=lv) (by repeat(first|exact af8|apply af7))).len (n:=n) (by rw [eY,jd,agh]) (by decide) ?_;refine⟨fun i H' => ∃k:Nat,i= .int .i64 k∧k≤n∧ar H0 H' (.box b [lv,.map (some r),.slice none 0 0,.bool false,.bool false,.int .i64 0] 118:: .sl lv 1 (cH (fB n fun j=>if j<k then je else [])):: .aA (qS r fun _=>none):: .sl (.slice none 0 0) 1 []::L),fun i _=>match i with| .int _ x=>n - x.toNat|_=>0,⟨0,rfl,by omega,o⟩,?_⟩;clear o;rintro _ _ H4 ⟨k,rfl,hk,o⟩;rw [aN];refine av (fun hc=>?_) (fun hc=>?_)
 ·have dV:k<n:=by omega
  rw [au,ae,al];refine o.aw (f:=0+0) (by repeat(first|exact af8|apply af7)) rfl ?_;refine lP (s:= [0]) (c:=64) (by decide) (by decide) fun H5 hx=>?_;have o:=o.more hx;rw [lg];refine⟨o.aw (f:=0+0) (by repeat(first|exact af8|apply af7)) rfl rfl,?_⟩;have xn: (cH (fB n fun j=>if j<k then je else [])).length=n*1:=by rw [eY,jd,agh]
  refine(o.sl (v:=lv) (by repeat(first|exact af8|apply af7))).at_ xn (by decide) (by omega) (by omega) fun p hp=>?_;refine o.store hp (by repeat(first|exact af8|apply af7)) (by rw [xn];omega) rfl (by repeat(first|exact aV.here|apply aV.there)) fun H6 o _=>?_;rw [af_,agh,sc,zZ] at o;have e: (fB n fun j:Nat=>if j<k+1 then je else [])=fB n fun j=>if j=k then List.replicate 64 0 else if j<k then je else []:=iz fun j _=>by
   by_cases h1:j=k
   ·rw [if_pos h1,if_pos (by omega)];rfl
   ·rw [if_neg h1]
    by_cases h2:j<k
    ·rw [if_pos h2,if_pos (by omega)]
    ·rw [if_neg h2,if_neg (by omega)]
  rw [az,ba (n:= (k:Int)+1) (by omega) (by omega)];refine⟨⟨k+1,rfl,by omega,?_⟩,by show n - ((k:Int)+1).toNat<n - (k:Int).toNat;omega⟩;rw [e];exact o
 ·have dV:k=n:=by omega
  subst dV;refine h H4 b ⟨lv,r,.slice none 0 0,0,?_,gl⟩;have e: (fB k fun j:Nat=>if j<k then je else [])=fB k fun _=>je:=iz fun j hj=>if_pos hj;rw [e] at o;show ar H0 H4 (.box b _ _:: .sl lv 1 (cH (fB k fun _=>je)):: .aA (qS r (xg fun _=>none))::_);rw [z_];exact o
end
section
variable {M:Dk}
theorem Mq {L:List (List UInt8)} (hl: ∀r∈L,r.length=64) {i j:Nat} {r:List UInt8} (hi:L[i]? =some r) (hj:j<64):L.flatten[i*64+j]? =r[j]? :=by
 have xi:= (agD.1 hi).1;have Vu:= (agD.1 hi).2;have e:L=L.take i++r::L.drop (i+1):=by rw [←Vu,←ag4 xi,agE]
 have hp: ∀l:List (List UInt8),(∀r∈l,r.length=64)→l.flatten.length=l.length*64:=by
  intro l hl
  induction l with
  |nil=>rfl
  |cons s l ih=>
   rw [ag0,af9,ih (fun t ht=>hl t (by simp [ht])),hl s (by simp),agi];omega
 have Iy:=hp (L.take i) (fun x hx=>hl x (ag3 hx));rw [age,ag2 (by omega)] at Iy;have hr:r.length=64:=by rw [←Vu];exact hl _ (agj xi)
 rw [e,ahz,ag0,agQ (by omega),agM (by omega)]
 congr 1
 omega
def A1 (M:Dk) (at_ n:Nat):List UInt8:= (fB n fun j=>M.sec (at_+j)).flatten
theorem RD {lf:Int} (ok:p7 M lf) {j:Nat} (h:j<M.n): (M.sec j).length=64:=by
 unfold Dk.sec
 cases hs:M.cs j with
 |some s=>exact ok.Sr j s hs
 |none=>exact ok.Ry j h
theorem GB {at_ n:Nat} (h: ∀j,j<n→(M.sec (at_+j)).length=64): ∀r∈fB n (fun j=>M.sec (at_+j)),r.length=64:=by
 intro r hr;obtain⟨j,hj,e⟩:=agP.1 hr;rw [←e];exact h j (aiy.1 hj)
theorem qA {at_ n k:Nat} (h: ∀j,j<n→(M.sec (at_+j)).length=64) (hk:k<64*n): (A1 M at_ n)[k]? = (M.sec (at_+k/64))[k%64]? :=by
 have hq:k/64<n:=by omega
 have:=Mq (GB h) (pZ (f:=fun j=>M.sec (at_+j)) hq) (ag5 k (by decide:0<64));unfold A1;rw [←this]
 congr 1
 omega
theorem qB {at_ n:Nat} (h: ∀j,j<n→(M.sec (at_+j)).length=64): (A1 M at_ n).length=64*n:=by
 unfold A1;have hp: ∀l:List (List UInt8),(∀r∈l,r.length=64)→l.flatten.length=l.length*64:=by
  intro l hl
  induction l with
  |nil=>rfl
  |cons s l ih=>
   rw [ag0,af9,ih (fun t ht=>hl t (by simp [ht])),hl s (by simp),agi];omega
 rw [hp _ (GB h),jd,agT]
theorem DH (M:Dk) (i j:Nat) (s:List UInt8): (M.put i s).sec j=if j=i then s else M.sec j:=by
 show (qR M.cs i s j).getD (M.la j)=_;unfold qR
 by_cases h:j=i
 ·rw [if_pos h,if_pos h];rfl
 ·rw [if_neg h,if_neg h];rfl
def oy (tQ t:List UInt8) (f:Nat):List UInt8:=tQ.take f++t++List.replicate (64 - (f+t.length)) 0
theorem B9 {tQ t:List UInt8} {f:Nat} (hw:tQ.length=64) (hf:f+t.length≤64): (oy tQ t f).length=64:=by
 unfold oy;rw [af9,af9,age,agF];omega
theorem B_ {tQ t:List UInt8} {f p:Nat} (hw:tQ.length=64) (hf:f≤64) (hp:p<f): (oy tQ t f)[p]? =tQ[p]? :=by
 unfold oy;rw [agc,agM (by rw [age];omega),agV,if_pos hp]
theorem Mr {tQ t:List UInt8} {f p:Nat} (hw:tQ.length=64) (hf:f≤64) (hp:f≤p) (Aq:p<f+t.length): (oy tQ t f)[p]? =t[p - f]? :=by
 unfold oy;have hl: (tQ.take f).length=f:=by rw [age];omega
 rw [agc,agQ (by omega),hl,agM (by omega)]
theorem Px {at_ n size:Nat} {t:List UInt8} (h: ∀j,j<n→(M.sec (at_+j)).length=64) (hq:size/64<n) (ht:size%64+t.length≤64):
  (A1 (M.put (at_+size/64) (oy (M.sec (at_+size/64)) t (size%64))) at_ n).take (size+t.length)= (A1 M at_ n).take size++t:=by
 have hw:=h _ hq;have h' : ∀j,j<n→((M.put (at_+size/64) (oy (M.sec (at_+size/64)) t (size%64))).sec (at_+j)).length=64:=fun j hj=>by
  rw [DH]
  split
  ·exact B9 hw ht
  ·exact h j hj
 have P3:=qB h;have Uz:=qB h';apply agX;intro k
 by_cases hk:k<size
 ·rw [agV,if_pos (by omega),qA h' (by omega),DH,agM (by rw [age];omega),agV,if_pos hk,qA h (by omega)]
  by_cases he:k/64=size/64
  ·rw [if_pos (by omega),B_ hw (by omega) (by omega),he]
  ·rw [if_neg (by omega)]
 ·rw [agQ (by rw [age];omega)]
  have cF: ((A1 M at_ n).take size).length=size:=by rw [age];omega
  rw [cF]
  by_cases Ap:k<size+t.length
  ·have W9:k/64=size/64:=by omega
   rw [agV,if_pos Ap,qA h' (by omega),DH,if_pos (by omega),Mr hw (by omega) (by omega) (by omega)]
   congr 1
   omega
  ·rw [agV,if_neg Ap,agq (by omega)]
def Safe (M:Dk) (at_:Nat) (C:List UInt8):Prop:= ∀k,k<C.length→(M.la (at_+k/64))[k%64]? =C[k]? ∧∀s,M.cs (at_+k/64)=some s→s[k%64]? =C[k]?
theorem Af {at_:Nat} {C:List UInt8} (h:Safe M at_ C) {k:Nat} (hk:k<C.length): (M.sec (at_+k/64))[k%64]? =C[k]? :=by
 unfold Dk.sec
 cases hs:M.cs (at_+k/64) with
 |none=>exact(h k hk).1
 |some s=>exact(h k hk).2 s hs
theorem Py {at_ n:Nat} {C:List UInt8} (h:Safe M at_ C) (hl: ∀j,j<n→(M.sec (at_+j)).length=64) (hC:C.length≤64*n): (A1 M at_ n).take C.length=C:=by
 have xi:=qB hl;apply agX;intro k
 by_cases hk:k<C.length
 ·rw [agV,if_pos hk,qA hl (by omega),Af h hk]
 ·rw [agV,if_neg hk,agq (by omega)]
theorem GC {at_ i:Nat} {C X:List UInt8} (h:Safe M at_ C) (hX: ∀k,k<C.length→at_+k/64=i→X[k%64]? =C[k]?):Safe (M.put i X) at_ C:=by
 intro k hk;refine⟨(h k hk).1,fun s hs=>?_⟩;have hs:qR M.cs i X (at_+k/64)=some s:=hs;unfold qR at hs
 split at hs
 ·rename_i he
  cases hs
  exact hX k hk he
 ·exact(h k hk).2 s hs
theorem Pz {tQ is:List UInt8} {f p:Nat} {x:Option UInt8} (h1:tQ.length=64) (h2:is.length=64) (hw:tQ[p]? =x) (hi:is[p]? =x): (ju tQ is f)[p]? =x:=by
 have hc: ∀a c:List UInt8,a.length=64→c.length=64→a[p]? =x→c[p]? =x→(a.take 32++c.drop 32)[p]? =x:=by
  intro a c ha hc h3 h4
  by_cases hp:p<32
  ·rw [agM (by rw [age];omega),agV,if_pos hp];exact h3
  ·rw [agQ (by rw [age];omega),age,ag7,show 32+ (p - min 32 a.length)=p by omega];exact h4
 unfold ju
 split
 ·exact hi
 ·split
  ·exact hc is tQ h2 h1 hi hw
  ·split
   ·exact hc tQ is h1 h2 hw hi
   ·exact hw
theorem Jl {at_:Nat} {C:List UInt8} {lf:Int} (ok:p7 M lf) (h:Safe M at_ C) (hr: ∀k,k<C.length→at_+k/64<M.n) (dS:List Int):Safe (M.ej dS) at_ C:=by
 unfold Dk.ej
 split
 ·exact h
 ·intro k hk
  refine⟨?_,fun s hs=>by cases hs⟩;show (match M.cs (at_+k/64) with|some s=>ju (M.la (at_+k/64)) s (kf dS (M.order.idxOf (at_+k/64))) |none=>M.la (at_+k/64))[k%64]? =_
  cases hs:M.cs (at_+k/64) with
  |none=>exact(h k hk).1
  |some s=>exact Pz (ok.Ry _ (hr k hk)) (ok.Sr _ s hs) (h k hk).1 ((h k hk).2 s hs)
theorem Ag {at_:Nat} {C:List UInt8} (h:Safe M at_ C):Safe M.flush at_ C:=by
 intro k hk;exact⟨Af h hk,fun s hs=>by cases hs⟩
theorem GD {at_ n:Nat} {C:List UInt8} (hl: ∀j,j<n→(M.sec (at_+j)).length=64) (hC:C.length≤64*n) (h: (A1 M at_ n).take C.length=C):Safe M.flush at_ C:=by
 intro k hk;have h1: (A1 M at_ n)[k]? =C[k]? :=by
  have:=congrArg (fun l=>l[k]?) h;simp only [agV,if_pos hk] at this;exact this
 rw [qA hl (by omega)] at h1;exact⟨h1,fun s hs=>by cases hs⟩
end
section
theorem vg (n k:Nat):aQ n (k+1)=UInt8.ofNat (n%256)::aQ (n/256) k:=by
 unfold aQ;rw [List.range_succ_eq_map,aha,ah5,ahX,aja]
 congr 1
 refine ahs fun i _=>?_;show UInt8.ofNat (n/256 ^ (i+1) %256)=UInt8.ofNat (n/256/256 ^ i%256);rw [ajb,agW,agT]
theorem qC: ∀ (k n:Nat),ji (aQ n k)=n%256 ^ k
 |0,n=>by rw [ahX,aiz];rfl
 |k+1,n=>by
  have h1:n%256%2 ^ 8=n%256:=agp (by show n%256<256;exact ag5 _ (by decide));have h2:n%256 ^ (k+1)=n%256+256* (n/256%256 ^ k):=by rw [agW,agT,ai9]
  rw [vg,ji,qC k,aiL,h1,h2]
def ra (n:Nat) (s:List UInt8):List UInt8:=aQ n 8++aQ s.length 1++s++List.replicate (60 - (9+s.length)) 0
def dZ (n:Nat) (s:List UInt8):List UInt8:=ra n s++aQ (cS 0 (ra n s)) 4
theorem Ca {n:Nat} {s:List UInt8} (h:s.length≤23): (ra n s).length=60:=by
 unfold ra;simp only [af9,ay,agF];omega
theorem Cb {n:Nat} {s:List UInt8} (h:s.length≤23): (dZ n s).length=64:=by
 unfold dZ;rw [af9,Ca h,ay]
def jf (b:List UInt8):Nat:=ji (b.take 8)
def jg (b:List UInt8):Nat:= (b.getD 8 0).toNat
def mm (b:List UInt8):List UInt8:= (b.drop 9).take (jg b)
def parse (b:List UInt8):Option (Nat × List UInt8):=if jf b≠0∧jg b≤23∧dZ (jf b) (mm b)=b then some (jf b,mm b) else none
theorem Jm {n:Nat} {s:List UInt8} (hn:n<18446744073709551616) (h:s.length≤23):jf (dZ n s)=n∧jg (dZ n s)=s.length∧mm (dZ n s)=s:=by
 have e:dZ n s=aQ n 8++ (UInt8.ofNat (s.length%256):: (s++ (List.replicate (60 - (9+s.length)) 0++aQ (cS 0 (ra n s)) 4))):=by
  show aQ n 8++aQ s.length 1++s++List.replicate (60 - (9+s.length)) 0++aQ (cS 0 (ra n s)) 4=_;rw [show aQ s.length 1= [UInt8.ofNat (s.length%256)] from by rw [vg];rfl];simp only [agc,ahd,agn]
 have hl:=ay n 8;have h1:jf (dZ n s)=n:=by
  unfold jf;rw [e,ahl (by omega),agx (by omega),qC];exact agp hn
 have h2:jg (dZ n s)=s.length:=by
  unfold jg;rw [e,agd,agQ (by omega),hl];show (UInt8.ofNat (s.length%256)).toNat=_;rw [aiL];omega
 refine⟨h1,h2,?_⟩;unfold mm;rw [h2,e,List.drop_append,ahN (by omega),hl];rw [show 9 - 8=0+1 from rfl,agn,List.drop_succ_cons,agS,ahl (aga _),agr]
theorem Jn {n:Nat} {s:List UInt8} (h1:1≤n) (hn:n<18446744073709551616) (h:s.length≤23):parse (dZ n s)=some (n,s):=by
 obtain⟨e1,e2,e3⟩:=Jm hn h;unfold parse;rw [e1,e2,e3,if_pos ⟨by omega,h,rfl⟩]
theorem Jo:parse je=none:=by
 unfold parse;rw [if_neg];rintro⟨h,_⟩;exact h (by decide)
def Good (b:List UInt8):Prop:=b=je∨∃n s,1≤n∧n<18446744073709551616∧s.length≤23∧b=dZ n s
theorem Good.len {b:List UInt8} (h:Good b):b.length=64:=by
 rcases h with rfl| ⟨n,s,_,_,h,rfl⟩
 ·simp [je]
 ·exact Cb h
def dE (f:Nat→Option (Nat × List UInt8)):Nat→Nat × List UInt8
 |0=> (0,[])
 |k+1=>match f k with
  |some q=>if (dE f k).1<q.1 then q else dE f k
  |none=>dE f k
structure DI (f:Nat→Option (Nat × List UInt8)) (k N:Nat) (want:List UInt8):Prop where
 pos: ∀j,j<k→∀q,f j=some q→1≤q.1
 lt: ∀j,j<k→∀q,f j=some q→q.1≤N∧(q.1=N→j=N%k)
 top:1≤N→f (N%k)=some (N,want)
 zero:N=0→want= []
theorem Ms {f:Nat→Option (Nat × List UInt8)} {k N:Nat} {want:List UInt8} (hk:1≤k) (h:DI f k N want):dE f k= (N,want):=by
 have key: ∀m,m≤k→(N%k<m→1≤N→dE f m= (N,want))∧((N=0∨m≤N%k)→(dE f m).1<N∨(N=0∧dE f m= (0,[]))):=by
  intro m
  induction m with
  |zero=>
   intro _;refine⟨by omega,fun hh=>?_⟩
   by_cases h0:N=0
   ·exact .inr ⟨h0,rfl⟩
   ·exact .inl (by show 0<N;omega)
  |succ m ih=>
   intro hm;obtain⟨ih1,Tw⟩:=ih (by omega);rw [dE]
   cases hf:f m with
   |none=>
    refine⟨fun cF h1=>?_,fun hh=>Tw (hh.imp id fun g=>by omega)⟩
    by_cases he:m=N%k
    ·rw [he,h.top h1] at hf;cases hf
    ·exact ih1 (by omega) h1
   |some q=>
    have hq:=h.lt m (by omega) q hf;have hp:=h.pos m (by omega) q hf;show (N%k<m+1→1≤N→(if (dE f m).1<q.1 then q else dE f m)= (N,want))∧_;refine⟨fun cF h1=>?_,fun hh=>?_⟩
    ·by_cases he:m=N%k
     ·rw [he,h.top h1] at hf
      cases hf
      rcases Tw (.inr (by omega)) with g|g
      ·rw [if_pos g]
      ·omega
     ·rw [ih1 (by omega) h1,if_neg (by show ¬N<q.1;omega)]
    ·show (if (dE f m).1<q.1 then q else dE f m).1<N∨_
     have hN:N≠0:=by omega
     rcases hh with g|g
     ·omega
     ·have hqN:q.1<N:=by
       rcases Nat.lt_or_eq_of_le hq.1 with g2|g2
       ·exact g2
       ·have:=hq.2 g2;omega
      rcases Tw (.inr (by omega)) with g3|g3
      ·left;split
       ·exact hqN
       ·exact g3
      ·omega
 obtain⟨k1,k2⟩:=key k (aga _)
 by_cases h0:N=0
 ·rcases k2 (.inl h0) with g|g
  ·omega
  ·rw [g.2,h0,h.zero h0]
 ·exact k1 (ag5 _ (by omega)) (by omega)
theorem DI.put {f:Nat→Option (Nat × List UInt8)} {k N:Nat} {want s:List UInt8} (h:DI f k N want):DI (fun j=>if j= (N+1) %k then some (N+1,s) else f j) k (N+1) s where
 pos:=fun j hj q hq=>by
  split at hq
  ·cases hq;show 1≤N+1;omega
  ·exact h.pos j hj q hq
 lt:=fun j hj q hq=>by
  split at hq
  ·rename_i he
   cases hq
   exact⟨aga _,fun _=>he⟩
  ·have:= (h.lt j hj q hq).1
   exact⟨by omega,fun g=>by omega⟩
 top:=fun _=>if_pos rfl
 zero:=fun g=>by omega
end
section
variable {H H0:ai} {R:Value→ai→Prop} {v:Value} {L:List It} {b fb at_ n size:Nat} {M:Dk}
theorem dO.ni {H' :ai} (d:dO H0 H b M L) (hx:Ext H H'):dO H0 H' b M L:=by
 obtain⟨lv,r,ov,lf,o,ok⟩:=d;exact⟨lv,r,ov,lf,o.more hx,ok⟩
theorem dO.Jp (d:dO H0 H b M L) {j:Nat} (h:j<M.n): (M.sec j).length=64:=by
 obtain⟨lv,r,ov,lf,o,ok⟩:=d;exact RD ok h
theorem dO.DJ (d:dO H0 H b M L):M.n≤65536:=by
 obtain⟨lv,r,ov,lf,o,ok⟩:=d;exact ok.n2
theorem Ah {i:Nat} (hi:i<M.n) (ho:M.off=false):M.read (i:Int)= (M.sec i,0):=by
 have hr:M.ready (i:Int)=0:=by
  unfold Dk.ready;rw [if_neg (by rw [ho];decide),if_pos (by omega)]
 unfold Dk.read;rw [if_neg (by rw [hr];decide),af_]
theorem GF {i:Nat} {s:List UInt8} (hs:s.length=64) (hi:i<M.n) (ho:M.off=false):M.write (i:Int) s=if M.cG=some 0 then (M.ej [],14) else (M.put i s,0):=by
 have hr:M.ready (i:Int)=0:=by
  unfold Dk.ready;rw [if_neg (by rw [ho];decide),if_pos (by omega)]
 unfold Dk.write;rw [if_neg (by omega),if_neg (by rw [hr];decide),af_]
end
section
variable {H H0:ai} {R:Value→ai→Prop} {v:Value} {L:List It} {b lb at_ k N:Nat} {M:Dk} {want:List UInt8} {bad:Bool}
abbrev ey (lb b at_ k:Nat) (note:List UInt8) (N:Nat) (bad:Bool):It:= .box lb [ptr b,.int .i64 (at_:Int),.int .i64 (k:Int),str note,.int .u64 (N:Int),.bool bad] 181
theorem Cc {n:Nat} {s:List UInt8} (h1:1≤n) (hn:n<18446744073709551616) (hs:s.length≤23) (h: ∀H',Ext H H' →R (str (dZ n s)) H'):ab 154 #[.int .u64 (n:Int),str s] H R:=by
 have Bb:=Ca (n:=n) hs;refine NL.vc _ _ _ _ ?_;rw [bc,decide_eq_false (by omega)];refine aO ?_;refine aJ ?_;rw [a8,decide_eq_false (by omega)];intro _;rw [aj];refine pB (n:=n) (kn:=8) rfl hn (by decide) (by decide) fun H1 x1=>?_;refine aJ ?_;rw [bR,cR (n:= ((s.length:Nat):Int)) (by omega) (by omega)];refine pB (n:=s.length) (kn:=1) rfl (by omega) (by decide) (by decide) fun H2 x2=>?_;refine aP (by rw [ay,ay];decide) ?_;refine aP (by rw [af9,ay,ay];omega) ?_;refine aJ ?_;have hl: (aQ n 8++aQ s.length 1++s).length=9+s.length:=by simp only [af9,ay]
 rw [hl,aZ,show (60:Int) - ((9+s.length:Nat):Int)= ((60 - (9+s.length):Nat):Int) by omega,ba (by omega) (by omega)];refine lP (s:= [0]) (by omega) (by show 1*_≤_;omega) fun H3 x3=>?_;rw [lg];refine aP (by rw [hl,agF];omega) ?_;show ab 41 _ _ _;have Ho:aQ n 8++aQ s.length 1++s++List.replicate (60 - (9+s.length)) 0=ra n s:=rfl;rw [Ho];refine nX fun H4 tb ht x4 _=>?_;refine qw (by omega) ht ?_;have hcr:=u0 0 (ra n s);rw [bR,cR (n:= ((cS 0 (ra n s):Nat):Int)) (by omega) (by omega)];refine pB (n:=cS 0 (ra n s)) (kn:=4) rfl (by omega) (by decide) (by decide) fun H5 x5=>?_;refine aP (by rw [Bb,ay];decide) ?_;exact h H5 (x1.trans (x2.trans (x3.trans (x4.trans x5))))
theorem Ai {b:List UInt8} {q:Nat × List UInt8} (h:parse b=some q):1≤q.1∧q.1<18446744073709551616∧q.2.length≤23:=by
 unfold parse at h
 split at h
 ·rename_i hc
  cases h
  refine⟨by show 1≤jf b;omega,?_,?_⟩
  ·exact yn (by rw [age];omega)
  ·show ((b.drop 9).take (jg b)).length≤23
   rw [age];omega
 ·cases h
theorem Jq {B:List UInt8} (hB:B.length=64) (h1: ∀H',Ext H H' →∀n s,parse B=some (n,s)→R (.tuple #[.int .u64 ((n:Nat):Int),str s,.bool true]) H')
  (h2:parse B=none→∀H',Ext H H' →∀ (n:Nat) s,n<18446744073709551616→R (.tuple #[.int .u64 ((n:Nat):Int),str s,.bool false]) H'):ab 108 #[str B] H R:=by
 refine NK.vc _ _ _ ?_;have h8l: (B.take 8).length=8:=by rw [age];omega
 have WD:jf B<18446744073709551616:=yn (by omega);refine bg (lo:=0) (hi:=8) (.inr ⟨rfl,rfl⟩) (.inl rfl) (by omega) (by omega) ?_;rw [agS,ahb,cf];refine⟨by decide,by rw [bu];omega,?_⟩;rw [bu,bR];have abI: (B.getD 8 0).toNat<256:= (B.getD 8 0).toNat_lt;rw [show (8:Int).toNat=8 from rfl,ba (n:= (((B.getD 8 0).toNat:Nat):Int)) (by omega) (by omega)];refine mM (by omega) ?_;rw [if_pos (by omega)];show cu 0 (.int .u64 ((jf B:Nat):Int)) _ _;rw [bc];refine il (d:=decide (23< ((jg B:Nat):Int))) (fun _=>by rw [a8];exact⟨rfl,rfl⟩) ?_;intro _;refine cy (fun hb=>?_) (fun hb=>?_)
 ·rw [ahg,decide_eq_true_eq,decide_eq_true_eq] at hb
  refine h2 ?_ H (Ext.refl H) 0 [] (by decide);unfold parse;rw [if_neg];rintro⟨g1,g2,_⟩;omega
 ·rw [ahA,decide_eq_false_iff_not,decide_eq_false_iff_not] at hb
  have hk:jg B≤23:=by omega
  have xl:1≤jf B:=by omega
  show aG (.int .i64 9) (.int .i64 ((jg B:Nat):Int)) _;rw [az,show (9:Int)+ ((jg B:Nat):Int)= ((9+jg B:Nat):Int) by omega,ba (by omega) (by omega)];refine bg (lo:=9) (hi:=9+jg B) (.inl rfl) (.inl rfl) (by omega) (by omega) ?_;rw [show 9+jg B - 9=jg B by omega];show ab 154 #[.int .u64 ((jf B:Nat):Int),str (mm B)] _ _;have ik: (mm B).length≤23:=by unfold mm;rw [age];omega
  refine Cc xl WD ik fun H1 x1=>?_;refine iW ?_
  by_cases hc:dZ (jf B) (mm B)=B
  ·rw [decide_eq_true hc]
   refine h1 H1 x1 (jf B) (mm B) ?_;unfold parse;rw [if_pos ⟨by omega,hk,hc⟩]
  ·rw [decide_eq_false hc]
   refine h2 ?_ H1 x1 (jf B) (mm B) WD;unfold parse;rw [if_neg (fun g=>hc g.2.2)]
def cQ (M:Dk) (at_:Nat):Nat→Option (Nat × List UInt8):=fun j=>parse (M.sec (at_+j))
theorem GG (M:Dk) (at_:Nat): ∀k,(dE (cQ M at_) k).1<18446744073709551616
 |0=>by show 0<18446744073709551616;decide
 |k+1=>by
  have ih:=GG M at_ k;rw [dE]
  cases hf:cQ M at_ k with
  |none=>exact ih
  |some q=>
   show (if (dE (cQ M at_) k).1<q.1 then q else dE (cQ M at_) k).1<_;have:= (Ai hf).2.1
   split
   ·exact this
   ·exact ih
theorem GH {a m:Int} (hm:m≤9223372036854775807) (d:dO H0 H b M L) (ho:M.off=false) (h2:2≤m) (nt: ¬ (0≤a∧a≤M.n∧m≤M.n - a)→R (.tuple #[.pointer none,.int .i64 20]) H)
  (rL:0≤a→a≤M.n→m≤M.n - a→∀H' lb,dO H0 H' b M (ey lb b a.toNat m.toNat (dE (cQ M a.toNat) m.toNat).2 (dE (cQ M a.toNat) m.toNat).1 false::L)→R (.tuple #[ptr lb,.int .i64 0]) H'):ab 52 #[ptr b,.int .i64 a,.int .i64 m] H R:=by
 have w5:=d.DJ;refine NJ.vc _ _ _ _ _ ?_;rw [cB];refine aO ?_;rw [aN,decide_eq_false (by omega)];intro _;rw [aj,aN];have tR: ∀ {c:Bool} {A:Prop},c=true→¬ (0≤a∧a≤M.n∧m≤M.n - a)→ao (.bool c) (R (.tuple #[.pointer none,.int .i64 20]) H) A:=fun hc hg=>by
  rw [hc,aD];exact nt hg
 by_cases h1:a<0
 ·rw [decide_eq_true h1,cY]
  intro _;rw [cY];intro _;exact tR rfl (by omega)
 rw [decide_eq_false h1];refine aO ?_;refine gP d ?_;rw [a8];intro _
 by_cases h3: (M.n:Int)<a
 ·rw [decide_eq_true h3,cY]
  intro _;exact tR rfl (by omega)
 rw [decide_eq_false h3];refine aO ?_;refine gP d ?_;rw [aZ,ba (n:= (M.n:Int) - a) (by omega) (by omega),a8];intro _
 by_cases h4: (M.n:Int) - a<m
 ·exact tR (decide_eq_true h4) (by omega)
 rw [decide_eq_false h4,aj];have hk:=rL (by omega) (by omega) (by omega);obtain⟨a',rfl⟩: ∃a' :Nat,a=a' := ⟨a.toNat,by omega⟩;obtain⟨k,rfl⟩: ∃k:Nat,m=k:= ⟨m.toNat,by omega⟩;rw [af_,af_] at hk;obtain⟨lv,r,ov,lf,o,ok⟩:=d;refine aM rfl (by decide) ?_;refine aM rfl (by simp) ?_;refine aM rfl (by simp) ?_;rw [bz];refine o.box fun lb H1 o _=>?_
 change ar H0 H1 (ey lb b a' k [] 0 false::_) at o
 refine⟨fun i H' => ∃j:Nat,i= .int .i64 j∧j≤k∧dO H0 H' b M (ey lb b a' k (dE (cQ M a') j).2 (dE (cQ M a') j).1 false::L),fun i _=>match i with| .int _ x=>k - x.toNat|_=>0,⟨0,rfl,by omega,lv,r,ov,lf,o.eR (by repeat(first|exact bd.refl|exact bw.here|apply bd.cons|apply bw.there)),ok⟩,?_⟩;clear o ok;rintro _ _ H2 ⟨j,rfl,hj,d⟩;rw [aN];refine av (fun hc=>?_) (fun hc=>?_)
 ·have Un:j<k:=by omega
  have RB:=d.Jp (j:=a' +j) (by omega);rw [az,ba (n:= (a' :Int)+ (j:Int)) (by omega) (by omega),show (a' :Int)+ (j:Int)= ((a' +j:Nat):Int) by omega];refine vf d ?_;rw [Ah (by omega) ho];refine ag rfl ?_;refine ag rfl ?_;rw [cA,decide_eq_false (by simp),aj];have cF:=GG M a' j;have WE:dE (cQ M a') (j+1)=match cQ M a' j with|some q=>if (dE (cQ M a') j).1<q.1 then q else dE (cQ M a') j|none=>dE (cQ M a') j:=rfl
  have zL: ∀ {H'},dO H0 H' b M (ey lb b a' k (dE (cQ M a') (j+1)).2 (dE (cQ M a') (j+1)).1 false::L)→aG (.int .i64 (j:Int)) (.int .i64 1) fun XF=> (∃i:Nat,XF= .int .i64 i∧i≤k∧dO H0 H' b M (ey lb b a' k (dE (cQ M a') i).2 (dE (cQ M a') i).1 false::L))∧(match XF with| .int _ x=>k - x.toNat|_=>0)<k - (j:Int).toNat:=fun d=>by
   rw [az,ba (n:= (j:Int)+1) (by omega) (by omega)];exact⟨⟨j+1,rfl,by omega,d⟩,by show k - ((j:Int)+1).toNat<k - (j:Int).toNat;omega⟩
  refine Jq RB (fun H3 hx n s hp=>?_) (fun hp H3 hx n s hn=>?_)
  ·have d:=d.ni hx
   have hq:= (Ai hp).2.1;have Z0:cQ M a' j=some (n,s):=hp;rw [Z0] at WE;refine ag rfl ?_;refine ag rfl ?_;refine ag rfl ?_;refine bB ?_;obtain⟨lv,r,ov,lf,o,ok⟩:=d;rw [au,ae,al];refine o.aw (b:=lb) (f:=0+4) (by repeat(first|exact af8|apply af7)) rfl ?_;rw [a8];intro _;refine av (fun hc=>?_) (fun hc=>?_)
   ·rw [au,ae,al]
    refine o.bF (b:=lb) (f:=0+4) (by repeat(first|exact af8|apply af7)) (by simp) rfl (by repeat(first|exact aV.here|apply aV.there)) fun H4 o _=>?_;rw [au,ae,al];refine o.bF (b:=lb) (f:=0+3) (by repeat(first|exact af8|apply af7)) (by simp) rfl (by repeat(first|exact aV.here|apply aV.there)) fun H5 o _=>?_;refine zL ⟨lv,r,ov,lf,?_,ok⟩;have e:dE (cQ M a') (j+1)= (n,s):=by
     rw [WE];show (if (dE (cQ M a') j).1<n then (n,s) else dE (cQ M a') j)= (n,s);rw [if_pos (by omega)]
    rw [e];exact o
   ·refine zL ⟨lv,r,ov,lf,?_,ok⟩
    have e:dE (cQ M a') (j+1)=dE (cQ M a') j:=by
     rw [WE];show (if (dE (cQ M a') j).1<n then (n,s) else dE (cQ M a') j)=dE (cQ M a') j;rw [if_neg (by omega)]
    rw [e];exact o
  ·have d:=d.ni hx
   have Z0:cQ M a' j=none:=hp;rw [Z0] at WE;refine ag rfl ?_;refine ag rfl ?_;refine ag rfl ?_;rw [cW];intro _;rw [aj];refine zL ?_;rw [WE];exact d
 ·have Un:j=k:=by omega
  subst Un;exact hk H2 lb d
theorem Cd (d:dO H0 H b M (ey lb b at_ k want N bad::L)) (h:R (.tuple #[str want,.int .u64 (N:Int)]) H):ab 53 #[ptr lb] H R:=by
 obtain⟨lv,r,ov,lf,o,ok⟩:=d;refine CS.vc _ _ _ ?_;rw [cB,aj,au,ae,al];refine o.aw (b:=lb) (f:=0+3) (by repeat(first|exact af8|apply af7)) rfl ?_;rw [au,ae,al];exact o.aw (b:=lb) (f:=0+4) (by repeat(first|exact af8|apply af7)) rfl h
theorem vh (ho:M.off=false) (fs:List Int): (M.ej fs).off=true∧(M.ej fs).cs= (fun _=>none)∧(M.ej fs).n=M.n:=by
 unfold Dk.ej;rw [if_neg (by rw [ho];decide)];exact⟨rfl,rfl,rfl⟩
theorem n3 (ho:M.off=false): (M.ej []).la=M.la:=by
 unfold Dk.ej;rw [if_neg (by rw [ho];decide)]
 funext j
 show (match M.cs j with|some s=>ju (M.la j) s (kf [] (M.order.idxOf j)) |none=>M.la j)=M.la j
 cases M.cs j with
 |none=>rfl
 |some s=>rfl
theorem DK {n:Nat} {s:List UInt8} (d:dO H0 H b M (ey lb b at_ k want N bad::L)) (ho:M.off=false) (hk:1≤k) (hr:at_+k≤M.n) (h1:1≤n) (hn:n<18446744073709551616) (hs:s.length≤23)
  (gl: (M.cG=none∨∃q,M.cG=some (q+2))→∀H',dO H0 H' b (M.put (at_+n%k) (dZ n s)).flush (ey lb b at_ k want N bad::L)→R (.int .i64 0) H')
  (nI: (M.cG=some 0∨M.cG=some 1)→∀H' M',M'.la=M.la→M'.cs= (fun _=>none)→M'.off=true→M'.n=M.n→dO H0 H' b M' (ey lb b at_ k want N bad::L)→R (.int .i64 14) H'):
  ab 157 #[ptr lb,.int .u64 (n:Int),str s] H R:=by
 have w5:=d.DJ;have aez:=ag5 n (show 0<k by omega);refine AM.vc _ _ _ _ _ ?_;have d0:=d;obtain⟨lv,r,ov,lf,o,ok⟩:=d;rw [au,ae,al];refine o.aw (b:=lb) (f:=0+0) (by repeat(first|exact af8|apply af7)) rfl ?_;rw [au,ae,al];refine o.aw (b:=lb) (f:=0+1) (by repeat(first|exact af8|apply af7)) rfl ?_;rw [au,ae,al];refine o.aw (b:=lb) (f:=0+2) (by repeat(first|exact af8|apply af7)) rfl ?_;rw [bR,cR (n:= (k:Int)) (by omega) (by omega),jz];refine⟨by omega,?_⟩;rw [show ((n:Nat):Int).tmod (k:Int)= ((n%k:Nat):Int) from rfl,bR,ba (n:= ((n%k:Nat):Int)) (by omega) (by omega),az,show (at_:Int)+ ((n%k:Nat):Int)= ((at_+n%k:Nat):Int) by omega,ba (by omega) (by omega)];refine Cc h1 hn hs fun H1 hx=>?_;have o:=o.more hx;refine⟨o.aw (b:=lb) (f:=0+0) (by repeat(first|exact af8|apply af7)) rfl rfl,?_⟩;refine⟨o.aw (b:=lb) (f:=0+1) (by repeat(first|exact af8|apply af7)) rfl rfl,?_⟩;refine⟨o.aw (b:=lb) (f:=0+2) (by repeat(first|exact af8|apply af7)) rfl rfl,?_⟩;refine Ae (d0.ni hx) fun H2 d=>?_;rw [GF (Cb hs) (by omega) ho] at d ⊢;rw [cA]
 by_cases hf:M.cG=some 0
 ·rw [if_pos hf] at d ⊢
  rw [decide_eq_true (show (14:Int)≠0 by decide),aD];have hc:=vh ho [];exact nI (.inl hf) H2 _ (n3 ho) hc.2.1 hc.1 hc.2.2 d
 rw [if_neg hf] at d ⊢;rw [decide_eq_false (by simp),aj];have d1:=d;obtain⟨lv,r,ov,lf,o,ok⟩:=d;rw [au,ae,al];refine o.aw (b:=lb) (f:=0+0) (by repeat(first|exact af8|apply af7)) rfl ?_;refine B6 d1 fun H3 d=>?_;have tU: (M.put (at_+n%k) (dZ n s)).off=false:=ho;unfold Dk.sync at d ⊢;rw [if_neg (by rw [tU];decide)] at d ⊢
 by_cases PY:M.cG=some 1
 ·have MD: (M.put (at_+n%k) (dZ n s)).cG=some 0:=by show M.cG.map _=_;rw [PY];rfl
  rw [if_pos MD] at d ⊢;have hc:=vh tU [];exact nI (.inr PY) H3 ((M.put (at_+n%k) (dZ n s)).ej []) (n3 tU) hc.2.1 hc.1 hc.2.2 d
 ·have jq:M.cG=none∨∃q,M.cG=some (q+2):=by
   cases DG:M.cG with
   |none=>exact .inl rfl
   |some q=>
    match q,DG with
    |0,DG=>exact absurd DG hf
    |1,DG=>exact absurd DG PY
    |q+2,_=>exact .inr ⟨q,rfl⟩
  have MD: ¬ (M.put (at_+n%k) (dZ n s)).cG=some 0:=by
   show ¬M.cG.map _=_;rcases jq with g| ⟨q,g⟩
   ·rw [g];simp
   ·rw [g];simp
  rw [if_neg MD] at d ⊢;exact gl jq H3 d
theorem Aj {s:List UInt8} (d:dO H0 H b M (ey lb b at_ k want N bad::L)) (ho:M.off=false) (hk:1≤k) (hr:at_+k≤M.n) (hN:N≤1000000)
  (OW:23<s.length→R (.int .i64 1) H) (RE:s.length≤23→bad=true→R (.int .i64 16) H)
  (gl:s.length≤23→bad=false→(M.cG=none∨∃q,M.cG=some (q+2))→∀H',dO H0 H' b (M.put (at_+ (N+1) %k) (dZ (N+1) s)).flush (ey lb b at_ k s (N+1) false::L)→R (.int .i64 0) H')
  (nI:s.length≤23→bad=false→(M.cG=some 0∨M.cG=some 1)→∀H' M',M'.la=M.la→M'.cs= (fun _=>none)→M'.off=true→M'.n=M.n→dO H0 H' b M' (ey lb b at_ k want N true::L)→R (.int .i64 14) H'):
  ab 114 #[ptr lb,str s] H R:=by
 refine EZ.vc _ _ _ _ ?_;rw [cB];refine aO ?_;refine aJ ?_;rw [a8];intro _;refine av (fun hc=>OW (by omega)) (fun hc=>?_);have hs:s.length≤23:=by omega
 have d0:=d;obtain⟨lv,r,ov,lf,o,ok⟩:=d;rw [au,ae,al];refine o.aw (b:=lb) (f:=0+5) (by repeat(first|exact af8|apply af7)) rfl ?_;refine cy (fun hb=>RE hs hb) (fun hb=>?_);subst hb;rw [au,ae,al];refine o.aw (b:=lb) (f:=0+4) (by repeat(first|exact af8|apply af7)) rfl ?_;rw [bc,decide_eq_false (by omega),aj,au,ae,al];refine o.aw (b:=lb) (f:=0+4) (by repeat(first|exact af8|apply af7)) rfl ?_;rw [az,show (N:Int)+1= ((N+1:Nat):Int) by omega,cR (by omega) (by omega)];refine DK d0 ho hk hr (by omega) (by omega) hs (fun hf H1 d=>?_) (fun hf H1 M' g1 g2 g3 g4 d=>?_)
 ·rw [cA,decide_eq_false (by simp),aj]
  obtain⟨lv,r,ov,lf,o,ok⟩:=d;rw [au,ae,al];refine o.aw (b:=lb) (f:=0+4) (by repeat(first|exact af8|apply af7)) rfl ?_;rw [az,show (N:Int)+1= ((N+1:Nat):Int) by omega,cR (by omega) (by omega),au,ae,al];refine o.bF (b:=lb) (f:=0+4) (by repeat(first|exact af8|apply af7)) (by simp) rfl (by repeat(first|exact aV.here|apply aV.there)) fun H2 o _=>?_;rw [au,ae,al];refine o.bF (b:=lb) (f:=0+3) (by repeat(first|exact af8|apply af7)) (by simp) rfl (by repeat(first|exact aV.here|apply aV.there)) fun H3 o _=>?_;exact gl hs rfl hf H3 ⟨lv,r,ov,lf,o,ok⟩
 ·rw [cA,decide_eq_true (show (14:Int)≠0 by decide),aD]
  obtain⟨lv,r,ov,lf,o,ok⟩:=d;rw [au,ae,al];refine o.bF (b:=lb) (f:=0+5) (by repeat(first|exact af8|apply af7)) (by simp) rfl (by repeat(first|exact aV.here|apply aV.there)) fun H2 o _=>?_;exact nI hs rfl hf H2 M' g1 g2 g3 g4 ⟨lv,r,ov,lf,o,ok⟩
end
section
variable {H H0:ai} {R:Value→ai→Prop} {v:Value} {L L' :List It} {b lb at_ k N:Nat} {M:Dk} {want:List UInt8} {bad:Bool}
theorem dO.T8 (d:dO H0 H b M L) (s:bd L' L):dO H0 H b M L' :=by
 obtain⟨lv,r,ov,lf,o,ok⟩:=d;exact⟨lv,r,ov,lf,o.perm ((((s.perm.cons _).cons _).cons _).cons _),ok⟩
structure WL (H0 H:ai) (b lb at_ k N:Nat) (M:Dk) (want:List UInt8) (L:List It):Prop where
 d:dO H0 H b M (ey lb b at_ k want N false::L)
 hr:at_+k≤M.n
 hk:2≤k
 ho:M.off=false
 cs:M.cs=fun _=>none
 wf:DI (cQ M at_) k N want
 Mt: ∀j,j<k→Good (M.la (at_+j))
theorem qD (tV:M.cs=fun _=>none):cQ M at_=fun j=>parse (M.la (at_+j)):=by
 funext j
 unfold cQ Dk.sec;rw [tV];rfl
theorem DL (tV:M.cs=fun _=>none) (i:Nat) (X:List UInt8): (M.put i X).flush.la=fun j=>if j=i then X else M.la j:=by
 funext j
 show (qR M.cs i X j).getD (M.la j)=_;unfold qR;rw [tV]
 split<;>rfl
theorem WL.WG {s:List UInt8} (w:WL H0 H b lb at_ k N M want L) (hN:N≤1000000) (hs:s.length≤23) {H' :ai} (d:dO H0 H' b (M.put (at_+ (N+1) %k) (dZ (N+1) s)).flush (ey lb b at_ k s (N+1) false::L)):
  WL H0 H' b lb at_ k (N+1) (M.put (at_+ (N+1) %k) (dZ (N+1) s)).flush s L:=by
 have P1:=DL w.cs (at_+ (N+1) %k) (dZ (N+1) s);refine⟨d,w.hr,w.hk,w.ho,rfl,?_,fun j hj=>?_⟩
 ·have e:cQ (M.put (at_+ (N+1) %k) (dZ (N+1) s)).flush at_=fun j=>if j= (N+1) %k then some (N+1,s) else cQ M at_ j:=by
   rw [qD rfl,P1,qD w.cs]
   funext j
   by_cases hj:j= (N+1) %k
   ·rw [if_pos hj]
    show parse (if at_+j=at_+ (N+1) %k then dZ (N+1) s else M.la (at_+j))=_;rw [if_pos (by omega),Jn (by omega) (by omega) hs]
   ·rw [if_neg hj]
    show parse (if at_+j=at_+ (N+1) %k then dZ (N+1) s else M.la (at_+j))=_;rw [if_neg (by omega)]
  rw [e];exact w.wf.put
 ·rw [P1]
  show Good (if at_+j=at_+ (N+1) %k then dZ (N+1) s else M.la (at_+j))
  split
  ·exact .inr ⟨N+1,s,by omega,by omega,hs,rfl⟩
  ·exact w.Mt j hj
theorem WL.note (w:WL H0 H b lb at_ k N M want L) (h:R (.tuple #[str want,.int .u64 (N:Int)]) H):ab 53 #[ptr lb] H R:=Cd w.d h
theorem WL.put {s:List UInt8} (w:WL H0 H b lb at_ k N M want L) (hN:N≤1000000) (hs:s.length≤23) (hf:M.cG=none) (h: ∀H',WL H0 H' b lb at_ k (N+1) (M.put (at_+ (N+1) %k) (dZ (N+1) s)).flush s L→R (.int .i64 0) H'):ab 114 #[ptr lb,str s] H R:=by
 have:=w.hk;refine Aj w.d w.ho (by omega) w.hr hN (fun g=>by omega) (fun _ g=>by cases g) (fun _ _ _ H1 d=>?_) (fun _ _ g=>by rw [hf] at g;rcases g with g|g<;>cases g);exact h H1 (w.WG hN hs d)
theorem WL.more {H' :ai} (w:WL H0 H b lb at_ k N M want L) (hx:Ext H H'):WL H0 H' b lb at_ k N M want L:= ⟨w.d.ni hx,w.hr,w.hk,w.ho,w.cs,w.wf,w.Mt⟩
end
section
variable {H H0:ai} {R:Value→ai→Prop} {v:Value} {L:List It} {b fb at_ n size:Nat} {M:Dk}
abbrev eo (fb b at_ n size:Nat):It:= .box fb [ptr b,.int .i64 (at_:Int),.int .i64 (n:Int),.int .i64 (size:Int)] 187
theorem GI {q f:Nat} {t:List UInt8} (d:dO H0 H b M (eo fb b at_ n size::L)) (hq:at_+q<M.n) (ho:M.off=false) (hf:f+t.length≤64)
  (h: ∀H',dO H0 H' b (M.write ((at_+q:Nat):Int) (oy (M.sec (at_+q)) t f)).1 (eo fb b at_ n size::L)→R (.int .i64 (M.write ((at_+q:Nat):Int) (oy (M.sec (at_+q)) t f)).2) H'):
  ab 112 #[ptr fb,.int .i64 (q:Int),.int .i64 (f:Int),str t] H R:=by
 have hn:=d.DJ;have RB:=d.Jp hq;refine w4.vc _ _ _ _ _ _ ?_;refine⟨fun w H' =>w=str ((M.sec (at_+q)).take f)∧H=H',?_,?_⟩
 ·rintro _ _ _ ⟨rfl,rfl⟩
  have OH: ((M.sec (at_+q)).take f).length=f:=by rw [age];omega
  refine aP (by omega) ?_;have d0:=d;obtain⟨lv,r,ov,lf,o,ok⟩:=d;rw [au,ae,al];refine o.aw (b:=fb) (f:=0+0) (by repeat(first|exact af8|apply af7)) rfl ?_;rw [au,ae,al];refine o.aw (b:=fb) (f:=0+1) (by repeat(first|exact af8|apply af7)) rfl ?_;rw [az,ba (n:= (at_:Int)+ (q:Int)) (by omega) (by omega)];refine aJ ?_;rw [af9,OH,aZ,show (64:Int) - ((f+t.length:Nat):Int)= ((64 - (f+t.length):Nat):Int) by omega,ba (by omega) (by omega)];refine lP (s:= [0]) (by omega) (by show 1*_≤_;omega) fun H1 hx=>?_;have o:=o.more hx;refine⟨o.aw (b:=fb) (f:=0+0) (by repeat(first|exact af8|apply af7)) rfl rfl,?_⟩;refine⟨o.aw (b:=fb) (f:=0+1) (by repeat(first|exact af8|apply af7)) rfl rfl,?_⟩;rw [lg];refine aP (by rw [af9,OH,agF];omega) ?_;rw [show (at_:Int)+ (q:Int)= ((at_+q:Nat):Int) by omega];exact Ae (d0.ni hx) h
 ·rw [a8]
  refine av (fun hc=>?_) (fun hc=>?_)
  ·have d0:=d
   obtain⟨lv,r,ov,lf,o,ok⟩:=d;rw [au,ae,al];refine o.aw (b:=fb) (f:=0+0) (by repeat(first|exact af8|apply af7)) rfl ?_;rw [au,ae,al];refine o.aw (b:=fb) (f:=0+1) (by repeat(first|exact af8|apply af7)) rfl ?_;rw [az,ba (n:= (at_:Int)+ (q:Int)) (by omega) (by omega),show (at_:Int)+ (q:Int)= ((at_+q:Nat):Int) by omega];refine vf d0 ?_;rw [Ah hq ho];refine ag rfl ?_;refine ag rfl ?_;rw [cA,decide_eq_false (by simp),aj];refine bg (l:=M.sec (at_+q)) (lo:=0) (hi:=f) (.inr ⟨rfl,rfl⟩) (.inl rfl) (by omega) (by omega) ?_;rw [agS,ahb];exact⟨rfl,rfl⟩
  ·have:f=0:=by omega
   subst this;exact⟨rfl,rfl⟩
structure Grown (M M' :Dk) (at_ n size:Nat) (s:List UInt8) (e:Int):Prop where
 n_:M'.n=M.n
 yes:e=0→M'.off=false∧(A1 M' at_ n).take (size+s.length)= (A1 M at_ n).take size++s
 no:e≠0→e=14∧M'.off=true
 safe: ∀C,C.length≤size→Safe M at_ C→Safe M' at_ C
 calm:M.cG=none→e=0∧M'.cG=none
 low:e=0→∀j,j<at_→M'.la j=M.la j∧M'.cs j=M.cs j
 la:M'.la=M.la
 gone:e≠0→M'.cs=fun _=>none
theorem Ce (d:dO H0 H b M (eo fb b at_ n size::L)) (hn:n≤65536) (hs:size≤64*n) (h:R (.int .i64 ((64*n - size:Nat):Int)) H):ab 111 #[ptr fb] H R:=by
 obtain⟨lv,r,ov,lf,o,ok⟩:=d;refine w3.vc _ _ _ ?_;rw [cB,aj,au,ae,al];refine o.aw (b:=fb) (f:=0+2) (by repeat(first|exact af8|apply af7)) rfl ?_;rw [mc,ba (n:= (n:Int)*64) (by omega) (by omega),au,ae,al];refine o.aw (b:=fb) (f:=0+3) (by repeat(first|exact af8|apply af7)) rfl ?_;rw [aZ,show (n:Int)*64 - (size:Int)= ((64*n - size:Nat):Int) by omega,ba (by omega) (by omega)];exact h
theorem append_nil {s:List UInt8} (h:R (.int .i64 1) H):ab 60 #[.pointer none,str s] H R:=by
 refine lU.vc _ _ _ _ ?_;rw [SY,aD];exact h
theorem GJ {s:List UInt8} (d:dO H0 H b M (eo fb b at_ n size::L)) (hn:at_+n≤M.n) (hs:size≤64*n) (hl:s.length≤64*n - size) (ho:M.off=false)
  (h: ∀H' M' e,Grown M M' at_ n size s e→dO H0 H' b M' (eo fb b at_ n (if e=0 then size+s.length else size)::L)→R (.int .i64 e) H'):ab 60 #[ptr fb,str s] H R:=by
 have w5:=d.DJ;refine lU.vc _ _ _ _ ?_;rw [cB,aj];refine aJ ?_;refine Ce d (by omega) hs ?_;rw [a8,decide_eq_false (by omega),aj,au,ae,al];have d0:=d;obtain⟨lv,r,ov,lf,o,ok⟩:=d;refine o.aw (b:=fb) (f:=0+3) (by repeat(first|exact af8|apply af7)) rfl ?_;refine⟨fun s1 z H' => ∃ (t u:List UInt8) (Mk:Dk),s=t++u∧s1=str u∧z= .int .i64 ((size+t.length:Nat):Int)∧Grown M Mk at_ n size t 0∧dO H0 H' b Mk (eo fb b at_ n size::L),fun s1 _ _=>match s1 with| .string x=>x.size|_=>0,⟨[],s,M,rfl,rfl,rfl,⟨rfl,fun _=> ⟨ho,by simp⟩,fun h=>absurd rfl h,fun C _ h=>h,fun h=> ⟨rfl,h⟩,fun _ j _=> ⟨rfl,rfl⟩,rfl,fun h=>absurd rfl h⟩,d0⟩,?_⟩;clear o ok d0;rintro _ _ _ H1 ⟨t,u,Mk,XP,rfl,rfl,g,d⟩;have hlen:t.length+u.length=s.length:=by rw [XP,af9]
 have hmk:=g.n_;have Bn:= (g.yes rfl).1;refine qh ?_;refine av (fun df=>?_) (fun he=>?_)
 ·have RP:1≤u.length:=by
   cases u with
   |nil=>exact absurd rfl df
   |cons a u=>simp
  obtain⟨z,hz⟩: ∃z,z=size+t.length:= ⟨_,rfl⟩;rw [←hz];obtain⟨k,hk⟩: ∃k,k=min u.length (64 - z%64):= ⟨_,rfl⟩;rw [jz];refine⟨by decide,?_⟩;rw [show ((z:Nat):Int).tmod 64= ((z%64:Nat):Int) from rfl];refine aJ ?_;rw [aZ,ba (n:=64 - ((z%64:Nat):Int)) (by omega) (by omega),iV,show min ((u.length:Nat):Int) (64 - ((z%64:Nat):Int))= (k:Int) by omega,ug];refine⟨by decide,?_⟩;rw [show ((z:Nat):Int).tdiv 64= ((z/64:Nat):Int) from rfl,ba (n:= ((z/64:Nat):Int)) (by omega) (by omega)];refine bg (lo:=0) (hi:=k) (.inr ⟨rfl,rfl⟩) (.inl rfl) (by omega) (by omega) ?_;rw [agS,ahb];have fG: (u.take k).length=k:=by rw [age];omega
  have hq:z/64<n:=by omega
  have ik: ∀j,j<n→(Mk.sec (at_+j)).length=64:=fun j hj=>d.Jp (by omega);refine GI d (by omega) Bn (by omega) fun H2 d2=>?_;have hX: (oy (Mk.sec (at_+z/64)) (u.take k) (z%64)).length=64:=B9 (ik _ hq) (by omega);rw [GF hX (by omega) Bn] at d2 ⊢;rw [cA]
  by_cases hf:Mk.cG=some 0
  ·rw [if_pos hf] at d2 ⊢
   rw [decide_eq_true (show (14:Int)≠0 by decide),aD];refine h H2 (Mk.ej []) 14 ⟨?_,fun h=>absurd h (by decide),fun _=> ⟨rfl,?_⟩,fun C hC wx=>?_,fun MG=>?_,fun h=>absurd h (by decide),?_,fun _=>?_⟩ (by rw [if_neg (by decide)];exact d2)
   ·unfold Dk.ej
    rw [if_neg (by rw [Bn];decide)];exact hmk
   ·unfold Dk.ej
    rw [if_neg (by rw [Bn];decide)]
   ·obtain⟨lv,r,ov,lf,o,ok⟩:=d
    exact Jl ok (g.safe C hC wx) (fun k hk=>by omega) []
   ·rw [(g.calm MG).2] at hf;cases hf
   ·unfold Dk.ej
    rw [if_neg (by rw [Bn];decide),←g.la]
    funext j
    show (match Mk.cs j with|some s=>ju (Mk.la j) s (kf [] (Mk.order.idxOf j)) |none=>Mk.la j)=Mk.la j
    cases Mk.cs j with
    |none=>rfl
    |some s=>rfl
   ·unfold Dk.ej
    rw [if_neg (by rw [Bn];decide)]
  ·rw [if_neg hf] at d2 ⊢
   rw [decide_eq_false (by simp),aj];refine bg (lo:=k) (hi:=u.length) (.inl rfl) (.inr ⟨rfl,rfl⟩) (by omega) (by omega) ?_;rw [agx (l:=u.drop k) (by rw [agl];omega),az,ba (n:= (z:Int)+ (k:Int)) (by omega) (by omega)];refine⟨⟨t++u.take k,u.drop k,Mk.put (at_+z/64) (oy (Mk.sec (at_+z/64)) (u.take k) (z%64)),?_,rfl,?_,⟨hmk,fun _=> ⟨Bn,?_⟩,fun h=>absurd rfl h,fun C hC wx=>?_,fun MG=> ⟨rfl,?_⟩,fun _ j hj=> ⟨(g.low rfl j hj).1,?_⟩,g.la,fun h=>absurd rfl h⟩,d2⟩,?_⟩
   ·rw [agc,agE];exact XP
   ·congr 1
    rw [af9,fG];omega
   ·have e:=Px (M:=Mk) (at_:=at_) (n:=n) (size:=z) (t:=u.take k) ik hq (by omega)
    rw [fG] at e;rw [af9,fG,show size+ (t.length+k)=z+k by omega,e,hz,(g.yes rfl).2,agc]
   ·refine GC (g.safe C hC wx) fun j hj he=>?_
    rw [B_ (ik _ hq) (by omega) (by omega),←he];exact Af (g.safe C hC wx) hj
   ·show Mk.cG.map _=none
    rw [(g.calm MG).2];rfl
   ·show qR Mk.cs (at_+z/64) _ j=M.cs j
    unfold qR;rw [if_neg (by omega)];exact(g.low rfl j hj).2
   ·show (u.drop k).toArray.size<u.toArray.size
    rw [ag1,ag1,agl];omega
 ·have hu:u= []:=by simpa using he
  subst hu;rw [agy] at XP;subst XP;obtain⟨lv,r,ov,lf,o,ok⟩:=d;rw [au,ae,al];refine o.bF (b:=fb) (f:=0+3) (by repeat(first|exact af8|apply af7)) (by simp) rfl (by repeat(first|exact aV.here|apply aV.there)) fun H2 o _=>?_;refine h H2 Mk 0 g ⟨lv,r,ov,lf,?_,ok⟩;rw [if_pos rfl];exact o
theorem Jr (d:dO H0 H b M (eo fb b at_ n size::L)) (h: ∀H',dO H0 H' b M.sync.1 (eo fb b at_ n size::L)→R (.int .i64 M.sync.2) H'):ab 62 #[ptr fb] H R:=by
 have d0:=d;obtain⟨lv,r,ov,lf,o,ok⟩:=d;refine wZ.vc _ _ _ ?_;rw [cB,aj,au,ae,al];refine o.aw (b:=fb) (f:=0+0) (by repeat(first|exact af8|apply af7)) rfl ?_;exact B6 d0 h
end
section
variable {H H0:ai} {R:Value→ai→Prop} {v:Value} {L:List It} {b fb at_ n size:Nat} {M:Dk}
theorem Mu {at_ n size:Int} (w: -9223372036854775808≤n∧n≤9223372036854775807) (d:dO H0 H b M L) (hn:1≤n) (nt: ¬ (0≤at_∧at_≤M.n∧n≤M.n - at_∧0≤size∧size≤n*64)→R (.tuple #[.pointer none,.int .i64 20]) H)
  (rL:0≤at_→at_≤M.n→n≤M.n - at_→0≤size→size≤n*64→∀H' fb,dO H0 H' b M (eo fb b at_.toNat n.toNat size.toNat::L)→R (.tuple #[ptr fb,.int .i64 0]) H'):ab 55 #[ptr b,.int .i64 at_,.int .i64 n,.int .i64 size] H R:=by
 have w5:=d.DJ;refine K2.vc _ _ _ _ _ _ ?_;rw [cB];refine aO ?_;rw [aN,decide_eq_false (by omega)];intro _;rw [aj,aN];have tR: ∀ {c:Bool} {A:Prop},c=true→¬ (0≤at_∧at_≤M.n∧n≤M.n - at_∧0≤size∧size≤n*64)→ao (.bool c) (R (.tuple #[.pointer none,.int .i64 20]) H) A:=fun hc hg=>by
  rw [hc,aD];exact nt hg
 by_cases h1:at_<0
 ·rw [decide_eq_true h1,cY]
  intro _;rw [cY];intro _;rw [cY];intro _;rw [cY];intro _;exact tR rfl (by omega)
 rw [decide_eq_false h1];refine aO ?_;refine gP d ?_;rw [a8];intro _
 by_cases h2: (M.n:Int)<at_
 ·rw [decide_eq_true h2,cY]
  intro _;rw [cY];intro _;rw [cY];intro _;exact tR rfl (by omega)
 rw [decide_eq_false h2];refine aO ?_;refine gP d ?_;rw [aZ,ba (n:= (M.n:Int) - at_) (by omega) (by omega),a8];intro _
 by_cases h3: (M.n:Int) - at_<n
 ·rw [decide_eq_true h3,cY]
  intro _;rw [cY];intro _;exact tR rfl (by omega)
 rw [decide_eq_false h3];refine aO ?_;rw [aN];intro _
 by_cases h4:size<0
 ·rw [decide_eq_true h4,cY]
  intro _;exact tR rfl (by omega)
 rw [decide_eq_false h4];refine aO ?_;rw [mc,ba (n:=n*64) (by omega) (by omega),a8];intro _
 by_cases h5:n*64<size
 ·exact tR (decide_eq_true h5) (by omega)
 rw [decide_eq_false h5,aj];obtain⟨lv,r,ov,lf,o,ok⟩:=d;refine aM rfl (by decide) ?_;refine aM rfl (by simp) ?_;refine aM rfl (by simp) ?_;refine aM rfl (by simp) ?_;rw [bz];refine o.box fun fb H1 o _=>?_;obtain⟨a',rfl⟩: ∃a' :Nat,at_=a' := ⟨at_.toNat,by omega⟩;obtain⟨n',rfl⟩: ∃n' :Nat,n=n' := ⟨n.toNat,by omega⟩;obtain⟨s',rfl⟩: ∃s' :Nat,size=s' := ⟨size.toNat,by omega⟩
 change ar H0 H1 (eo fb b a' n' s' ::_) at o
 refine rL (by omega) (by omega) (by omega) (by omega) (by omega) H1 fb ⟨lv,r,ov,lf,?_,ok⟩;exact o.eR (by repeat(first|exact bd.refl|exact bw.here|apply bd.cons|apply bw.there))
theorem PA {at_ n p k:Nat} (h: ∀j,j<n→(M.sec (at_+j)).length=64) (hk:p%64+k≤64) (hp:p+k≤64*n): ((A1 M at_ n).drop p).take k= ((M.sec (at_+p/64)).drop (p%64)).take k:=by
 have hl:=qB h;apply agX;intro i;rw [agV,agV]
 by_cases hi:i<k
 ·rw [if_pos hi,if_pos hi,ag7,ag7,qA h (by omega),show (p+i) /64=p/64 by omega,show (p+i) %64=p%64+i by omega]
 ·rw [if_neg hi,if_neg hi]
theorem Ak {a c:Int} (d:dO H0 H b M (eo fb b at_ n size::L)) (hn:at_+n≤M.n) (hs:size≤64*n) (ho:M.off=false)
  (nt: ¬ (0≤a∧0≤c∧a≤(size:Int)∧c≤(size:Int) - a)→R (.tuple #[str [],.int .i64 20]) H)
  (rL:0≤a→0≤c→a≤(size:Int)→c≤(size:Int) - a→∀H',Ext H H' →R (.tuple #[str (((A1 M at_ n).drop a.toNat).take c.toNat),.int .i64 0]) H'):ab 56 #[ptr fb,.int .i64 a,.int .i64 c] H R:=by
 have w5:=d.DJ;have ik: ∀j,j<n→(M.sec (at_+j)).length=64:=fun j hj=>d.Jp (by omega);have xi:=qB ik;have kg: ∀ {H' :ai} {K:Value→Prop},dO H0 H' b M (eo fb b at_ n size::L)→K (.int .i64 (size:Int))→aB (ptr fb) fun PV=>aa 3 PV fun V7=>ak H' V7 K:=fun d hK=>by
  obtain⟨lv,r,ov,lf,o,ok⟩:=d;rw [au,ae,al];exact o.aw (b:=fb) (f:=0+3) (by repeat(first|exact af8|apply af7)) rfl hK
 refine wY.vc _ _ _ _ _ ?_;rw [cB,aj,aN];have tR: ∀ {x:Bool} {A:Prop},x=true→¬ (0≤a∧0≤c∧a≤(size:Int)∧c≤(size:Int) - a)→ao (.bool x) (R (.tuple #[str [],.int .i64 20]) H) A:=fun hc hg=>by
  rw [hc,aD];exact nt hg
 by_cases h1:a<0
 ·rw [decide_eq_true h1,cY]
  intro _;rw [cY];intro _;rw [cY];intro _;exact tR rfl (by omega)
 rw [decide_eq_false h1];refine aO ?_;rw [aN];intro _
 by_cases h2:c<0
 ·rw [decide_eq_true h2,cY]
  intro _;rw [cY];intro _;exact tR rfl (by omega)
 rw [decide_eq_false h2];refine aO ?_;refine kg d ?_;rw [a8];intro _
 by_cases h3: (size:Int)<a
 ·rw [decide_eq_true h3,cY]
  intro _;exact tR rfl (by omega)
 rw [decide_eq_false h3];refine aO ?_;refine kg d ?_;rw [aZ,ba (n:= (size:Int) - a) (by omega) (by omega),a8];intro _
 by_cases h4: (size:Int) - a<c
 ·exact tR (decide_eq_true h4) (by omega)
 rw [decide_eq_false h4,aj];have hk:=rL (by omega) (by omega) (by omega) (by omega);obtain⟨x,rfl⟩: ∃x:Nat,a=x:= ⟨a.toNat,by omega⟩;obtain⟨y,rfl⟩: ∃y:Nat,c=y:= ⟨c.toNat,by omega⟩;rw [af_,af_] at hk;refine(ar.start (H:=H)).box fun sb H0b ob _=>?_;have bo:BO H H0b sb [] []:=BO.new ob;clear ob;rw [az,ba (n:= (x:Int)+ (y:Int)) (by omega) (by omega)];refine⟨fun p H' => ∃q:Nat,p= .int .i64 ((x+q:Nat):Int)∧q≤y∧BO H H' sb (((A1 M at_ n).drop x).take q) [],fun p _=>match p with| .int _ z=> (x+y) - z.toNat|_=>0,⟨0,rfl,by omega,bo⟩,?_⟩;clear bo;rintro _ _ H1 ⟨q,rfl,hq,hb⟩;have hx:=hb.ext;have d:=d.ni hx;rw [aN];refine av (fun hc=>?_) (fun hc=>?_)
 ·obtain⟨p,hp⟩: ∃p,p=x+q:= ⟨_,rfl⟩
  rw [←hp];have VU:p/64<n:=by omega
  have d0:=d;obtain⟨lv,r,ov,lf,o,ok⟩:=d;rw [au,ae,al];refine o.aw (b:=fb) (f:=0+0) (by repeat(first|exact af8|apply af7)) rfl ?_;rw [au,ae,al];refine o.aw (b:=fb) (f:=0+1) (by repeat(first|exact af8|apply af7)) rfl ?_;rw [ug];refine⟨by decide,?_⟩;rw [show ((p:Nat):Int).tdiv 64= ((p/64:Nat):Int) from rfl,ba (n:= ((p/64:Nat):Int)) (by omega) (by omega),az,show (at_:Int)+ ((p/64:Nat):Int)= ((at_+p/64:Nat):Int) by omega,ba (by omega) (by omega)];refine vf d0 ?_;rw [Ah (by omega) ho];refine ag rfl ?_;refine ag rfl ?_;rw [cA,decide_eq_false (by simp),aj,jz];refine⟨by decide,?_⟩;obtain⟨k,PJ⟩: ∃k,k=min (64 - p%64) (x+y - p):= ⟨_,rfl⟩;have hsq:=ik _ VU;rw [show ((p:Nat):Int).tmod 64= ((p%64:Nat):Int) from rfl,aZ,ba (n:=64 - ((p%64:Nat):Int)) (by omega) (by omega),aZ,ba (n:= (x:Int)+ (y:Int) - (p:Int)) (by omega) (by omega),iV,show min (64 - ((p%64:Nat):Int)) ((x:Int)+ (y:Int) - (p:Int))= (k:Int) by omega,az,show ((p%64:Nat):Int)+ (k:Int)= ((p%64+k:Nat):Int) by omega,ba (by omega) (by omega)];refine bg (l:=M.sec (at_+p/64)) (lo:=p%64) (hi:=p%64+k) (.inl rfl) (.inl rfl) (by omega) (by omega) ?_;rw [show p%64+k - p%64=k by omega,←PA ik (by omega) (by omega)];refine Gl (by simp only [age,agl];omega) hb fun H2 SF=>?_;rw [az,show (p:Int)+ (k:Int)= ((x+ (q+k):Nat):Int) by omega,ba (by omega) (by omega)];refine⟨⟨q+k,rfl,by omega,?_⟩,by show (x+y) - (((x+ (q+k):Nat):Int)).toNat< (x+y) - ((p:Nat):Int).toNat;omega⟩;have e: ((A1 M at_ n).drop x).take (q+k)= ((A1 M at_ n).drop x).take q++ ((A1 M at_ n).drop p).take k:=by
   rw [List.take_add,ahc,hp]
  rw [e];exact SF
 ·have:q=y:=by omega
  subst this;exact BV (by simp only [age,agl];omega) hb fun H2 bp a c o2=>hk H2 o2.ext
end
section
structure sf where
 se:Nat
 ep:Nat
 sz:Nat
 su:Nat
 dn:Bool
structure GK (s:sf):Prop where
 se:s.se<4294967296
 ep:s.ep<4294967296
 sz:s.sz≤4194304
 su:s.su<4294967296
def sf.zero:sf:= ⟨0,0,0,0,false⟩
def dB (s:sf):List UInt8:=aQ s.se 4++aQ s.ep 4++aQ s.sz 8++aQ s.su 4++aQ s.dn.toNat 1
theorem vi (s:sf): (dB s).length=21:=by
 unfold dB;simp only [af9,ay]
theorem tS {a b c:List UInt8} {i n:Nat} (hi:a.length=i) (hn:b.length=n): ((a++b++c).drop i).take n=b:=by
 rw [agc,ahk (by omega),ahN (by omega),agn,ahl (by omega),agx (by omega)]
theorem RF (s:sf): (dB s).take 4=aQ s.se 4:=by
 have:=tS (a:= []) (b:=aQ s.se 4) (c:=aQ s.ep 4++aQ s.sz 8++aQ s.su 4++aQ s.dn.toNat 1) (i:=0) (n:=4) rfl (ay _ _)
 simpa only [dB,agn,agc,agS] using this
theorem RG (s:sf): ((dB s).drop 4).take 4=aQ s.ep 4:=by
 have:=tS (a:=aQ s.se 4) (b:=aQ s.ep 4) (c:=aQ s.sz 8++aQ s.su 4++aQ s.dn.toNat 1) (i:=4) (n:=4) (ay _ _) (ay _ _)
 simpa only [dB,agc] using this
theorem RH (s:sf): ((dB s).drop 8).take 8=aQ s.sz 8:=by
 have:=tS (a:=aQ s.se 4++aQ s.ep 4) (b:=aQ s.sz 8) (c:=aQ s.su 4++aQ s.dn.toNat 1) (i:=8) (n:=8) (by rw [af9,ay,ay]) (ay _ _)
 simpa only [dB,agc] using this
theorem RI (s:sf): ((dB s).drop 16).take 4=aQ s.su 4:=by
 have:=tS (a:=aQ s.se 4++aQ s.ep 4++aQ s.sz 8) (b:=aQ s.su 4) (c:=aQ s.dn.toNat 1) (i:=16) (n:=4) (by simp only [af9,ay]) (ay _ _)
 simpa only [dB,agc] using this
theorem RJ (s:sf): (dB s).getD 20 0=UInt8.ofNat s.dn.toNat:=by
 have e:dB s= (aQ s.se 4++aQ s.ep 4++aQ s.sz 8++aQ s.su 4)++ [UInt8.ofNat (s.dn.toNat%256)]:=by
  unfold dB;rw [show aQ s.dn.toNat 1= [UInt8.ofNat (s.dn.toNat%256)] from by rw [vg];rfl]
 rw [e,agd,agQ (by simp only [af9,ay];omega)];simp only [af9,ay]
 cases s.dn<;>rfl
theorem WH {n:Nat} (h:n<4294967296):ji (aQ n 4)=n:=by
 rw [qC];exact agp (by show n<256 ^ 4;omega)
theorem WI {n:Nat} (h:n<18446744073709551616):ji (aQ n 8)=n:=by
 rw [qC];exact agp (by show n<256 ^ 8;omega)
end
section
variable {H H0:ai} {R:Value→ai→Prop} {v:Value} {L L' :List It} {b kb lb fb tb N m z:Nat} {M:Dk} {want C:List UInt8} {s s' :sf}
theorem vj {KV:Value→Prop} {bb f n:Nat} {cs ws:List Value} {t:TypeId} (o:ar H0 H L) (dz:It.box bb cs t∈L) (MG:f+n≤cs.length) (hw: (cs.drop f).take n=ws) (hk:KV (.agg ws.toArray)):aE H n (.pointer (some ⟨bb,f,none⟩)) KV:=by
 have h:=o.fZ dz;have e:=lM (o:=f) h n (by simpa using MG);simp only [aE,e];subst hw;exact hk
theorem Al {K:Value→ai→Prop} {bb f n:Nat} {cs vs:List Value} {t:TypeId} (o:ar H0 H L) (dz:It.box bb cs t∈L) (hn:vs.length=n) (MG:f+n≤cs.length) (hx:vs.all aK=true)
  (jC:aV (.box bb cs t) (.box bb (iI cs f vs) t) L L') (hk: ∀H',ar H0 H' L' →K undef H'):aC H n (.pointer (some ⟨bb,f,none⟩)) (.agg vs.toArray) K:=by
 subst hn;have h:=o.fZ dz;have e:=nA (o:=f) vs H cs.toArray 0 h hx (by simpa using MG);simp only [aC,eV,e];refine⟨by simp,hk _ (o.eX jC (by simp) (fun k hk df=>cD (by intro e;subst e;exact df rfl)) ?_ (fun k hk=> .inl hk))⟩;show _=_;rw [bN (bq h)]
 rfl
abbrev oR (s:sf):List Value:= [.int .u32 (s.se:Int),.int .u32 (s.ep:Int),.int .i64 (s.sz:Int),.int .u32 (s.su:Int),.bool s.dn]
theorem wy (hs:GK s) (h: ∀H',Ext H H' →R (str (dB s)) H'):ab 110 #[.agg (oR s).toArray] H R:=by
 have h1:=hs.se;have h2:=hs.ep;have h3:=hs.sz;have h4:=hs.su;have h5:s.dn.toNat<2:=by cases s.dn<;>decide
 refine wK.vc _ _ _ ?_;refine(ar.start (H:=H)).box fun sb H1 o _=>?_
 change ar H H1 [.box sb (oR s) 71] at o
 refine⟨fun dv H' =>dv= .int .u64 ((s.dn.toNat:Nat):Int)∧H1=H',?_,?_⟩
 ·rintro _ _ _ ⟨rfl,rfl⟩
  rw [ae,al];refine o.aw (b:=sb) (f:=0+0) (by repeat(first|exact af8|apply af7)) rfl ?_;rw [bR,cR (n:= ((s.se:Nat):Int)) (by omega) (by omega),ae,al];refine o.aw (b:=sb) (f:=0+1) (by repeat(first|exact af8|apply af7)) rfl ?_;rw [bR,cR (n:= ((s.ep:Nat):Int)) (by omega) (by omega),ae,al];refine o.aw (b:=sb) (f:=0+2) (by repeat(first|exact af8|apply af7)) rfl ?_;rw [bR,cR (n:= ((s.sz:Nat):Int)) (by omega) (by omega),ae,al];refine o.aw (b:=sb) (f:=0+3) (by repeat(first|exact af8|apply af7)) rfl ?_;rw [bR,cR (n:= ((s.su:Nat):Int)) (by omega) (by omega)];refine pB (n:=s.se) (kn:=4) rfl (by omega) (by decide) (by decide) fun H2 x=>?_;have o:=o.more x;refine⟨o.aw (b:=sb) (f:=0+1) (by repeat(first|exact af8|apply af7)) rfl rfl,o.aw (b:=sb) (f:=0+2) (by repeat(first|exact af8|apply af7)) rfl rfl,o.aw (b:=sb) (f:=0+3) (by repeat(first|exact af8|apply af7)) rfl rfl,?_⟩;refine pB (n:=s.ep) (kn:=4) rfl (by omega) (by decide) (by decide) fun H3 x=>?_;have o:=o.more x;refine⟨o.aw (b:=sb) (f:=0+2) (by repeat(first|exact af8|apply af7)) rfl rfl,o.aw (b:=sb) (f:=0+3) (by repeat(first|exact af8|apply af7)) rfl rfl,?_⟩;refine aP (by simp only [af9,ay];decide) ?_;refine pB (n:=s.sz) (kn:=8) rfl (by omega) (by decide) (by decide) fun H4 x=>?_;have o:=o.more x;refine⟨o.aw (b:=sb) (f:=0+3) (by repeat(first|exact af8|apply af7)) rfl rfl,?_⟩;refine aP (by simp only [af9,ay];decide) ?_;refine pB (n:=s.su) (kn:=4) rfl (by omega) (by decide) (by decide) fun H5 x=>?_;have o:=o.more x;refine aP (by simp only [af9,ay];decide) ?_;refine pB (n:=s.dn.toNat) (kn:=1) rfl (by omega) (by decide) (by decide) fun H6 x=>?_;have o:=o.more x;refine aP (by simp only [af9,ay];decide) ?_;exact h H6 o.ext
 ·rw [ae,al]
  refine o.aw (b:=sb) (f:=0+4) (by repeat(first|exact af8|apply af7)) rfl ?_;refine cy (fun hd=>?_) (fun hd=>?_)
  ·rw [hd];exact⟨rfl,rfl⟩
  ·rw [hd];exact⟨rfl,rfl⟩
theorem DN (hs:GK s) (h: ∀H',Ext H H' →R (.tuple #[.agg (oR s).toArray,.bool true]) H'):ab 54 #[str (dB s)] H R:=by
 have h1:=hs.se;have h2:=hs.ep;have h3:=hs.sz;have h4:=hs.su;have PW:=vi s;have pc: ∀ {n:Nat} {H' :ai} {K:Value→ai→Prop},n<4294967296→K (.int .u32 (n:Int)) H' →ab 109 #[str (aQ n 4)] H' fun x Km =>bm .u32 x fun y=>K y Km :=fun {n H' K} hn hK=>by
  refine mM (by rw [ay];decide) ?_;rw [if_pos (by rw [ay];decide),WH hn,bR,Cr (n:= (n:Int)) (by omega) (by omega)];exact hK
 refine HC.vc _ _ _ ?_;refine(ar.start (H:=H)).box fun rb H1 o _=>?_
 change ar H H1 [.box rb (oR sf.zero) 71] at o
 refine aJ ?_;rw [PW,cA,decide_eq_false (by decide),aj];refine bg (lo:=8) (hi:=16) (.inl rfl) (.inl rfl) (by decide) (by omega) ?_;rw [show 16 - 8=8 from rfl,RH];refine mM (by rw [ay];decide) ?_;rw [if_pos (by rw [ay];decide),WI (by omega)];refine⟨fun sv H' => ∃sb,sv=ptr sb∧ar H H' [.box sb (oR s) 71,.box rb (oR sf.zero) 71],?_,?_⟩
 ·clear o
  rintro _ _ H2 ⟨sb,rfl,o⟩;refine o.bf (b:=sb) (by repeat(first|exact af8|apply af7)) rfl ?_;refine o.bf (b:=sb) (by repeat(first|exact af8|apply af7)) rfl ?_;refine wy hs fun H3 hx=>?_;have o:=o.more hx;refine⟨o.bf (b:=sb) (by repeat(first|exact af8|apply af7)) rfl rfl,?_⟩;refine iW ?_;rw [decide_eq_true rfl];refine o.br (b:=rb) (by repeat(first|exact af8|apply af7)) rfl rfl rfl (by repeat(first|exact aV.here|apply aV.there)) fun H4 o _=>?_;refine o.bf (b:=rb) (by repeat(first|exact af8|apply af7)) rfl ?_;exact h H4 o.ext
 refine bg (lo:=0) (hi:=4) (.inr ⟨rfl,rfl⟩) (.inl rfl) (by decide) (by omega) ?_;rw [agS,ahb,RF];refine bg (lo:=4) (hi:=8) (.inl rfl) (.inl rfl) (by decide) (by omega) ?_;rw [show 8 - 4=4 from rfl,RG];rw [iV,show min ((s.sz:Nat):Int) 4194304= ((s.sz:Nat):Int) by omega,bR,ba (n:= ((s.sz:Nat):Int)) (by omega) (by omega)];refine bg (lo:=16) (hi:=20) (.inl rfl) (.inl rfl) (by decide) (by omega) ?_;rw [show 20 - 16=4 from rfl,RI,cf];refine⟨by decide,by rw [bu,PW];decide,?_⟩;rw [bu,show (20:Int).toNat=20 from rfl,RJ];rw [bc,show (decide ((((UInt8.ofNat s.dn.toNat).toNat:Nat):Int)=1))=s.dn from by cases s.dn<;>rfl];have mC: ∀ {H' :ai} {A:ai→Value→Prop} {K:Value→Prop},K (.agg (oR s).toArray)→aT [(.int .u32 0),(.int .u32 0),(.int .i64 0),(.int .u32 0),(.bool false)] [(0,1,.int .u32 (s.se:Int)),(1,1,.int .u32 (s.ep:Int)),(2,1,.int .i64 (s.sz:Int)),(3,1,.int .u32 (s.su:Int)),(4,1,.bool s.dn)] K:=fun hK=>by
  refine aM rfl (by decide) ?_;refine aM rfl (by simp) ?_;refine aM rfl (by simp) ?_;refine aM rfl (by simp) ?_;refine aM rfl (by simp) ?_;rw [bz];exact hK
 refine⟨pc h1 ⟨pc h2 ⟨pc h4 ?_,?_⟩,?_⟩,?_⟩
 ·refine mC (A:=fun _ _=>True) (H' :=H) ?_
  refine o.box fun sb H2 o _=>?_;refine o.br (b:=sb) (by repeat(first|exact af8|apply af7)) rfl rfl rfl (by repeat(first|exact aV.here|apply aV.there)) fun H4 o _=>?_;exact⟨sb,rfl,o⟩
 ·refine o.box fun sb H2 o _=>?_
  refine pc h4 ?_;refine mC (A:=fun _ _=>True) (H' :=H) ?_;refine o.br (b:=sb) (by repeat(first|exact af8|apply af7)) rfl rfl rfl (by repeat(first|exact aV.here|apply aV.there)) fun H4 o _=>?_;exact⟨sb,rfl,o⟩
 ·refine o.box fun sb H2 o _=>?_
  refine pc h2 ?_;refine pc h4 ?_;refine mC (A:=fun _ _=>True) (H' :=H) ?_;refine o.br (b:=sb) (by repeat(first|exact af8|apply af7)) rfl rfl rfl (by repeat(first|exact aV.here|apply aV.there)) fun H4 o _=>?_;exact⟨sb,rfl,o⟩
 ·refine o.box fun sb H2 o _=>?_
  refine pc h1 ?_;refine pc h2 ?_;refine pc h4 ?_;refine mC (A:=fun _ _=>True) (H' :=H) ?_;refine o.br (b:=sb) (by repeat(first|exact af8|apply af7)) rfl rfl rfl (by repeat(first|exact aV.here|apply aV.there)) fun H4 o _=>?_;exact⟨sb,rfl,o⟩
end
section
variable {H H0:ai} {R:Value→ai→Prop} {v:Value} {L L' :List It} {b kb lb fb tb N m z:Nat} {M:Dk} {want C:List UInt8} {s s' :sf}
abbrev iA (kb lb:Nat) (fv:Value) (tb:Nat) (s:sf):It:= .box kb [ptr lb,fv,ptr tb,.int .u32 (s.se:Int),.int .u32 (s.ep:Int),.int .i64 (s.sz:Int),.int .u32 (s.su:Int),.bool s.dn,.bool false] 125
abbrev lA (tb:Nat):It:= .box tb O7 170
theorem Js {k:Nat} {f g:Nat→Option (Nat × List UInt8)} (h:DI f k N want) (hk:1≤k) (e: ∀j,j<k→g j=f j):DI g k N want:=
 ⟨fun j hj q hq=>h.pos j hj q (by rw [←e j hj];exact hq),fun j hj q hq=>h.lt j hj q (by rw [←e j hj];exact hq),fun h1=>by rw [e _ (ag5 _ (by omega))];exact h.top h1,h.zero⟩
structure TD (M:Dk) (N m:Nat) (want C:List UInt8) (s:sf):Prop where
 hn:8+m=M.n
 cs:M.cs=fun _=>none
 wf:DI (cQ M 0) 8 N want
 Mt: ∀j,j<8→Good (M.la (0+j))
 nz:N=0∧s=sf.zero∨1≤N∧want=dB s
 ok:GK s
 sz:s.sz=C.length
 su:s.su=cS 0 C
 len:C.length≤64*m
 safe:Safe M 8 C
theorem TD.eX {M' :Dk} {C' :List UInt8} (t:TD M N m want C s) (hn:M'.n=M.n) (hc:M'.cs=fun _=>none) (hl: ∀j,j<8→M'.la j=M.la j) (hs:Safe M' 8 C):TD M' N m want C s:=by
 refine⟨t.hn.trans hn.symm,hc,Js t.wf (by decide) fun j hj=>?_,fun j hj=>?_,t.nz,t.ok,t.sz,t.su,t.len,hs⟩
 ·rw [qD hc,qD t.cs]
  show parse (M'.la (0+j))=parse (M.la (0+j));rw [hl (0+j) (by omega)]
 ·rw [hl (0+j) (by omega)]
  exact t.Mt j hj
theorem DO {M' :Dk} {at_:Nat} (h:Safe M at_ C) (hl:M'.la=M.la) (hc:M'.cs=fun _=>none):Safe M' at_ C:=fun k hk=> ⟨by rw [hl];exact(h k hk).1,fun s hs=>by rw [hc] at hs;cases hs⟩
theorem TD.same {M' :Dk} (t:TD M N m want C s) (hn:M'.n=M.n) (hc:M'.cs=fun _=>none) (hl:M'.la=M.la):TD M' N m want C s:=t.eX (C' :=C) hn hc (fun j _=>by rw [hl]) (DO t.safe hl hc)
theorem RL:GK sf.zero:= ⟨by decide,by decide,by decide,by decide⟩
theorem TD.new:TD (Dk.new (8+m)) 0 m [] [] sf.zero:=by
 have e:cQ (Dk.new (8+m)) 0=fun _=>none:=by
  funext j
  exact Jo
 refine⟨rfl,rfl,?_,fun _ _=> .inl rfl,.inl ⟨rfl,rfl⟩,RL,rfl,rfl,agK _,fun k hk=>by cases hk⟩;rw [e];exact⟨fun _ _ _ h=> (by cases h),fun _ _ _ h=> (by cases h),fun h=>absurd h (by decide),fun _=>rfl⟩
theorem TD.im (t:TD M N m want C s) (d:dO H0 H b M L): (A1 M 8 m).take C.length=C:=Py t.safe (fun j hj=>d.Jp (by have:=t.hn;omega)) t.len
theorem TD.put {C' :List UInt8} (t:TD M N m want C s) (ho:M.off=false) (hN:N≤1000000) (hs:GK s') (hz:s'.sz=C'.length) (hu:s'.su=cS 0 C') (hl:C'.length≤64*m) (wx:Safe M 8 C') (d:dO H0 H b M (ey lb b 0 8 want N false::L)) {H' :ai}
  (d' :dO H0 H' b (M.put (0+ (N+1) %8) (dZ (N+1) (dB s'))).flush (ey lb b 0 8 (dB s') (N+1) false::L)):TD (M.put (0+ (N+1) %8) (dZ (N+1) (dB s'))).flush (N+1) m (dB s') C' s' :=by
 have PW:=vi s';have w:WL H0 H b lb 0 8 N M want L:= ⟨d,by have:=t.hn;omega,by decide,ho,t.cs,t.wf,t.Mt⟩;have w' :=w.WG (s:=dB s') hN (by omega) d';exact⟨t.hn,rfl,w'.wf,w'.Mt,.inr ⟨by omega,rfl⟩,hs,hz,hu,hl,Ag (GC wx fun k hk he=>by omega)⟩
theorem tT {c:Bool} {fv:Value} (lE:s.dn=false) (d:dO H0 H b M L) (dz:iA kb lb fv tb s∈L) (h:R (.int .i64 0) H):ab 58 #[ptr kb,.bool c] H R:=by
 obtain⟨lv,r,ov,lf,o,ok⟩:=d;have dz:=af7 (.box b [lv,.map (some r),ov,.bool M.off,.bool M.cG.isSome,.int .i64 lf] 118) (af7 (.sl lv 1 (cH (fB M.n M.la))) (af7 (.aA (qS r (xg M.cs))) (af7 (.sl ov 1 (ox M.order)) dz)));refine wJ.vc _ _ _ _ ?_;rw [cB,aj,au,ae,al];refine o.aw (b:=kb) (f:=0+8) dz rfl ?_;refine aO ?_;rw [db];refine dM (d:=false) (fun _=>?_) ?_
 ·rw [au,ae,al,ae,al]
  refine o.aw (b:=kb) (f:=0+3+4) dz rfl ?_;exact⟨by rw [lE],rfl⟩
 intro _;rw [aiQ];intro _;rw [aj];exact h
theorem GL (h:R (.int .i64 0) H):ab 61 #[ptr kb,.int .i64 0] H R:=by
 refine pf.vc _ _ _ _ ?_;rw [cA,decide_eq_false (by decide),aj];exact h
theorem sg {e:Int} {cs:List Value} {t:TypeId} (he:e≠0) (o:ar H0 H L) (dz:It.box kb cs t∈L) (hc:8<cs.length) (hr:aV (.box kb cs t) (.box kb (cs.set (0+8) (.bool true)) t) L L') (h: ∀H',ar H0 H' L' →R (.int .i64 e) H'):ab 61 #[ptr kb,.int .i64 e] H R:=by
 refine pf.vc _ _ _ _ ?_;rw [cA,decide_eq_true he,aD,au,ae,al];refine o.bF (b:=kb) (f:=0+8) dz (by omega) rfl hr fun H' o _=>?_;exact h H' o
abbrev n5 (b kb lb fb tb N m z:Nat) (want:List UInt8) (s:sf) (L:List It):List It:=ey lb b 0 8 want N false::iA kb lb (ptr fb) tb s::eo fb b 8 m z::lA tb::L
theorem Am {C' :List UInt8} (d:dO H0 H b M (n5 b kb lb fb tb N m z want s L)) (t:TD M N m want C s) (ho:M.off=false) (hN:N≤1000000) (hs:GK s') (hz:s'.sz=C'.length) (hu:s'.su=cS 0 C') (hl:C'.length≤64*m) (wx:Safe M 8 C')
  (gl: ∀H' M' i,dO H0 H' b M' (n5 b kb lb fb tb (N+1) m z (dB s') s' (i::L))→TD M' (N+1) m (dB s') C' s' →M'.off=false→(M.cG=none→M'.cG=none)→R (.int .i64 0) H')
  (nI: ∀H' M' L',dO H0 H' b M' L' →TD M' N m want C s→M'.off=true→M.cG≠none→R (.int .i64 14) H'):ab 64 #[ptr kb,.agg (oR s').toArray] H R:=by
 have PW:=vi s';have hn:=t.hn;refine Ay.vc _ _ _ _ ?_;obtain⟨lv,r,ov,lf,o,ok⟩:=d;refine o.box fun sb H1 o _=>?_
 change ar H0 H1 (.box sb (oR s') 71::_) at o
 rw [au,ae,al];refine o.aw (b:=kb) (f:=0+0) (by repeat(first|exact af8|apply af7)) rfl ?_;refine o.bf (b:=sb) (by repeat(first|exact af8|apply af7)) rfl ?_;refine wy hs fun H2 hx=>?_;have o:=o.more hx;refine⟨o.aw (b:=kb) (f:=0+0) (by repeat(first|exact af8|apply af7)) rfl rfl,?_⟩;have d:dO H0 H2 b M (ey lb b 0 8 want N false:: .box sb (oR s') 71::iA kb lb (ptr fb) tb s::eo fb b 8 m z::lA tb::L):= ⟨lv,r,ov,lf,o.eR (by repeat(first|exact bd.refl|exact bw.here|apply bd.cons|apply bw.there)),ok⟩;clear o ok;refine Aj d ho (by decide) (by omega) hN (fun g=>by omega) (fun _ g=>by cases g) (fun _ _ hf H3 d' =>?_) (fun _ _ hf H3 M' g1 g2 g3 g4 d' =>?_)
 ·have t' :=t.put ho hN hs hz hu hl wx d d'
  have DX :M.cG=none→((M.put (0+ (N+1) %8) (dZ (N+1) (dB s'))).flush).cG=none:=fun g=>by show M.cG.map _=none;rw [g];rfl
  have ub : ((M.put (0+ (N+1) %8) (dZ (N+1) (dB s'))).flush).off=false:=ho;generalize (M.put (0+ (N+1) %8) (dZ (N+1) (dB s'))).flush=M' at d' t' DX ub;refine⟨fun H' =>dO H0 H' b M' (n5 b kb lb fb tb (N+1) m z (dB s') s' (.box sb (oR s') 71::L)),fun _ H' d=>?_,?_⟩
  ·exact GL (gl H' M' _ d t' ub DX)
  ·rw [bc,decide_eq_true (show (0:Int)=0 from rfl),aD]
   obtain⟨lv,r,ov,lf,o,ok⟩:=d';refine o.bf (b:=sb) (by repeat(first|exact af8|apply af7)) rfl ?_;rw [au,ae,al];refine Al o (bb:=kb) (f:=0+3) (vs:=oR s') (by repeat(first|exact af8|apply af7)) rfl (by simp) rfl (by repeat(first|exact aV.here|apply aV.there)) fun H4 o=>?_;have d:dO H0 H4 b M' (ey lb b 0 8 (dB s') (N+1) false:: .box sb (oR s') 71::iA kb lb (ptr fb) tb s' ::eo fb b 8 m z::lA tb::L):= ⟨lv,r,ov,lf,o,ok⟩;exact d.T8 (by repeat(first|exact bd.refl|exact bw.here|apply bd.cons|apply bw.there))
 ·have t' :=t.same g4 g2 g1
  refine⟨fun H' =>dO H0 H' b M' (ey lb b 0 8 want N true:: .box sb (oR s') 71::iA kb lb (ptr fb) tb s::eo fb b 8 m z::lA tb::L),fun _ H' d=>?_,?_⟩
  ·obtain⟨lv,r,ov,lf,o,ok⟩:=d
   refine sg (e:=14) (by decide) o (kb:=kb) (by repeat(first|exact af8|apply af7)) (by simp) (by repeat(first|exact aV.here|apply aV.there)) fun H4 o=>?_;exact nI H4 M' _ ⟨lv,r,ov,lf,o,ok⟩ t' g3 (fun g=>by rw [g] at hf;rcases hf with hf|hf<;>cases hf)
  ·rw [bc,decide_eq_false (show ¬ (14:Int)=0 by decide),aj]
   exact d'
theorem re {f:Value} {c:Bool} (lE:s.dn=false) (d:dO H0 H b M (n5 b kb lb fb tb N m z want s L)) (t:TD M N m want C s) (ho:M.off=false) (hN:N≤1000000) (hs:GK s') (hz:s'.sz=C.length) (hu:s'.su=cS 0 C)
  (hf: ∀ {A H:ai} {L L2:List It} {sb:Nat} {K:Value→ai→Prop},ar A H L→It.box sb (oR s) 71∈L→aV (.box sb (oR s) 71) (.box sb (oR s') 71) L L2→(∀H',ar A H' L2→K (.tuple #[]) H')→jk Tryz.prog Tryz.C f [ptr sb] H K)
  (gl: ∀H' M' L',dO H0 H' b M' (n5 b kb lb fb tb (N+1) m z (dB s') s' L')→TD M' (N+1) m (dB s') C s' →M'.off=false→(M.cG=none→M'.cG=none)→R (.int .i64 0) H')
  (nI: ∀H' M' L',dO H0 H' b M' L' →TD M' N m want C s→M'.off=true→M.cG≠none→R (.int .i64 14) H'):ab 65 #[ptr kb,.bool c,f] H R:=by
 refine uj.vc _ _ _ _ _ ?_;refine tT (fv:=ptr fb) (lb:=lb) (tb:=tb) lE d (by repeat(first|exact af8|apply af7)) ?_;rw [cA,decide_eq_false (by decide),aj,au,ae,al];obtain⟨lv,r,ov,lf,o,ok⟩:=d;refine vj o (bb:=kb) (f:=0+3) (ws:=oR s) (by repeat(first|exact af8|apply af7)) (by simp) rfl ?_;refine o.box fun sb H1 o _=>?_;refine o.br (b:=sb) (vs:=oR s) (by repeat(first|exact af8|apply af7)) rfl rfl rfl (by repeat(first|exact aV.here|apply aV.there)) fun H2 o _=>?_;refine hf o (by repeat(first|exact af8|apply af7)) (by repeat(first|exact aV.here|apply aV.there)) fun H3 o=>?_;refine o.bf (b:=sb) (by repeat(first|exact af8|apply af7)) rfl ?_;have d:dO H0 H3 b M (n5 b kb lb fb tb N m z want s (.box sb (oR s') 71::L)):= ⟨lv,r,ov,lf,o.eR (by repeat(first|exact bd.refl|exact bw.here|apply bd.cons|apply bw.there)),ok⟩;exact Am d t ho hN hs hz hu t.len t.safe (fun H4 M' i d t' =>gl H4 M' _ d t') nI
theorem DP (lE:s.dn=false) (d:dO H0 H b M (n5 b kb lb fb tb N m z want s L)) (t:TD M N m want C s) (ho:M.off=false) (DG:M.cG=none) (hN:N≤1000000) (hep:s.ep+1<4294967296)
  (h: ∀H' M' L',dO H0 H' b M' (n5 b kb lb fb tb (N+1) m z (dB {s with ep:=s.ep+1}) {s with ep:=s.ep+1} L')→TD M' (N+1) m (dB {s with ep:=s.ep+1}) C {s with ep:=s.ep+1}→M'.off=false→M'.cG=none→R (.int .i64 0) H'):ab 47 #[ptr kb] H R:=by
 refine wI.vc _ _ _ ?_;refine re (s' := {s with ep:=s.ep+1}) lE d t ho hN ⟨t.ok.se,hep,t.ok.sz,t.ok.su⟩ t.sz t.su (fun {A H L L2 sb K} o dz hr hK=>?_) (fun H' M' L' d t' ub DX =>h H' M' L' d t' ub (DX DG)) (fun _ _ _ _ _ _ g=>absurd DG g);refine tP (by decide+kernel) ?_;refine ry.vc _ _ _ ?_;rw [au,ae,al];refine o.aw (b:=sb) (f:=0+1) dz rfl ?_;rw [az,show ((s.ep:Nat):Int)+1= ((s.ep+1:Nat):Int) by omega,Cr (by omega) (by omega),au,ae,al];exact o.bF (b:=sb) (f:=0+1) dz (by simp) rfl hr fun H' o _=>hK H' o
theorem A2 (lE:s.dn=false) (d:dO H0 H b M (n5 b kb lb fb tb N m z want s L)) (t:TD M N m want C s) (ho:M.off=false) (hN:N≤1000000)
  (gl: ∀H' M' L',dO H0 H' b M' (n5 b kb lb fb tb (N+1) m z (dB {s with dn:=true}) {s with dn:=true} L')→R (.int .i64 0) H')
  (nI: ∀H' M' L',dO H0 H' b M' L' →TD M' N m want C s→M'.off=true→M.cG≠none→R (.int .i64 14) H'):ab 25 #[ptr kb] H R:=by
 refine ui.vc _ _ _ ?_;refine re (s' := {s with dn:=true}) lE d t ho hN ⟨t.ok.se,t.ok.ep,t.ok.sz,t.ok.su⟩ t.sz t.su (fun {A H L L2 sb K} o dz hr hK=>?_) (fun H' M' L' d t' ub DX =>gl H' M' L' d) nI;refine tP (by decide+kernel) ?_;refine qH.vc _ _ _ ?_;rw [au,ae,al];exact o.bF (b:=sb) (f:=0+4) dz (by simp) rfl hr fun H' o _=>hK H' o
theorem GM (lE:s.dn=false) (d:dO H0 H b M (n5 b kb lb fb tb N m z want s L)) (hm:8+m=M.n) (hz:z≤64*m) (h:R (.int .i64 ((64*m - z:Nat):Int)) H):ab 59 #[ptr kb] H R:=by
 have w5:=d.DJ;obtain⟨lv,r,ov,lf,o,ok⟩:=d;refine yi.vc _ _ _ ?_;rw [cB];refine aO ?_;rw [au,ae,al,ae,al];refine o.aw (b:=kb) (f:=0+3+4) (by repeat(first|exact af8|apply af7)) rfl ?_;intro _;rw [lE,aj,au,ae,al];refine o.aw (b:=kb) (f:=0+1) (by repeat(first|exact af8|apply af7)) rfl ?_;have d:dO H0 H b M (eo fb b 8 m z::ey lb b 0 8 want N false::iA kb lb (ptr fb) tb s::lA tb::L):= ⟨lv,r,ov,lf,o.eR (by repeat(first|exact bd.refl|exact bw.here|apply bd.cons|apply bw.there)),ok⟩;exact Ce d (by omega) hz h
theorem kF (d:dO H0 H b M (n5 b kb lb fb tb N m z want s L)) (h: ∀H',Ext H H' →R (.agg (oR s).toArray) H'):ab 22 #[ptr kb] H R:=by
 obtain⟨lv,r,ov,lf,o,ok⟩:=d;refine wH.vc _ _ _ ?_;refine(ar.start (H:=H)).box fun rb H1 o1 _=>?_;have o:=o.more o1.ext;rw [cB,aj,au,ae,al];refine vj o (bb:=kb) (f:=0+3) (ws:=oR s) (by repeat(first|exact af8|apply af7)) (by simp) rfl ?_;refine o1.br (b:=rb) (vs:=oR s) (by repeat(first|exact af8|apply af7)) rfl rfl rfl (by repeat(first|exact aV.here|apply aV.there)) fun H2 o1 _=>?_;refine o1.bf (b:=rb) (by repeat(first|exact af8|apply af7)) rfl ?_;exact h H2 o1.ext
theorem GN {n:Nat} (d:dO H0 H b M (n5 b kb lb fb tb N m C.length want s L)) (t:TD M N m want C s) (ho:M.off=false) (hn:n=C.length) (h: ∀H',Ext H H' →R (.tuple #[str C,.int .i64 0]) H'):ab 23 #[ptr kb,.int .i64 0,.int .i64 (n:Int)] H R:=by
 subst hn;have hm:=t.hn;have Up:=t.im d;obtain⟨lv,r,ov,lf,o,ok⟩:=d;refine yh.vc _ _ _ _ _ ?_;rw [cB,aj,au,ae,al];refine o.aw (b:=kb) (f:=0+1) (by repeat(first|exact af8|apply af7)) rfl ?_;have d:dO H0 H b M (eo fb b 8 m C.length::ey lb b 0 8 want N false::iA kb lb (ptr fb) tb s::lA tb::L):= ⟨lv,r,ov,lf,o.eR (by repeat(first|exact bd.refl|exact bw.here|apply bd.cons|apply bw.there)),ok⟩;refine Ak d (by omega) t.len ho (fun g=>absurd ⟨by decide,by omega,by omega,by omega⟩ g) fun _ _ _ _ H2 hx=>?_;refine ag rfl ?_;refine ag rfl ?_;rw [show (0:Int).toNat=0 from rfl,agS,af_,Up];exact h H2 hx
theorem rf {x:List UInt8} (lE:s.dn=false) (d:dO H0 H b M (n5 b kb lb fb tb N m C.length want s L)) (t:TD M N m want C s) (ho:M.off=false) (hN:N≤1000000) (hC:C.length+x.length≤64*m) (hC2:C.length+x.length≤4194304)
  (gl: ∀H' M' L',dO H0 H' b M' (n5 b kb lb fb tb (N+1) m (C++x).length (dB ⟨s.se,s.ep,(C++x).length,cS 0 (C++x),false⟩) ⟨s.se,s.ep,(C++x).length,cS 0 (C++x),false⟩ L')→TD M' (N+1) m (dB ⟨s.se,s.ep,(C++x).length,cS 0 (C++x),false⟩) (C++x) ⟨s.se,s.ep,(C++x).length,cS 0 (C++x),false⟩→M'.off=false→(M.cG=none→M'.cG=none)→R (.int .i64 0) H')
  (nI: ∀H' M' L',dO H0 H' b M' L' →TD M' N m want C s→M'.off=true→M.cG≠none→R (.int .i64 14) H'):ab 24 #[ptr kb,str x] H R:=by
 have hm:=t.hn;have Su:=t.len;refine uh.vc _ _ _ _ ?_;refine tT (fv:=ptr fb) (lb:=lb) (tb:=tb) lE d (by repeat(first|exact af8|apply af7)) ?_;rw [cA,decide_eq_false (by decide),aj];refine aJ ?_;refine GM lE d hm Su ?_;rw [a8,decide_eq_false (by omega),aj,au,ae,al];have hmx:=d.DJ;have Up:=t.im d;have PB:=t.safe;obtain⟨lv,r,ov,lf,o,ok⟩:=d;refine o.aw (b:=kb) (f:=0+1) (by repeat(first|exact af8|apply af7)) rfl ?_;have d:dO H0 H b M (eo fb b 8 m C.length::ey lb b 0 8 want N false::iA kb lb (ptr fb) tb s::lA tb::L):= ⟨lv,r,ov,lf,o.eR (by repeat(first|exact bd.refl|exact bw.here|apply bd.cons|apply bw.there)),ok⟩;clear o ok;refine GJ d (by omega) Su (by omega) ho fun H1 M1 e g d=>?_;have gW:=g.safe C (aga _) PB;have T9:=g.la;have xl:M1.n=M.n:=g.n_
 by_cases he:e=0
 ·subst he
  obtain⟨MH,Z1⟩:=g.yes rfl;rw [if_pos rfl] at d;rw [cA,decide_eq_false (by decide),aj,au,ae,al];have Ll:=g.low rfl;have GO:=g.calm;clear g;have d1:=d;obtain⟨lv,r,ov,lf,o,ok⟩:=d;refine o.aw (b:=kb) (f:=0+1) (by repeat(first|exact af8|apply af7)) rfl ?_;have d:dO H0 H1 b M1 (eo fb b 8 m (C.length+x.length)::ey lb b 0 8 want N false::iA kb lb (ptr fb) tb s::lA tb::L):= ⟨lv,r,ov,lf,o,ok⟩;clear o ok;refine Jr d fun H2 d=>?_;unfold Dk.sync at d ⊢;rw [if_neg (by rw [MH];decide)] at d ⊢
  by_cases hf:M1.cG=some 0
  ·rw [if_pos hf] at d ⊢
   rw [cA,decide_eq_true (show (14:Int)≠0 by decide),aD];have hc:=vh MH [];have dX:=n3 MH;have t' :TD (M1.ej []) N m want C s:=t.eX (C' :=C) (hc.2.2.trans xl) hc.2.1 (fun j _=>by rw [dX,T9]) (DO gW dX hc.2.1)
   change dO H0 H2 b (M1.ej []) _ at d
   obtain⟨lv,r,ov,lf,o,ok⟩:=d;refine sg (e:=14) (by decide) o (kb:=kb) (by repeat(first|exact af8|apply af7)) (by simp) (by repeat(first|exact aV.here|apply aV.there)) fun H4 o=>?_;exact nI H4 (M1.ej []) _ ⟨lv,r,ov,lf,o,ok⟩ t' hc.1 (fun g=>by rw [(GO g).2] at hf;cases hf)
  ·rw [if_neg hf] at d ⊢
   change dO H0 H2 b M1.flush _ at d
   rw [cA,decide_eq_false (by simp),aj,au,ae,al];obtain⟨lv,r,ov,lf,o,ok⟩:=d;refine vj o (bb:=kb) (f:=0+3) (ws:=oR s) (by repeat(first|exact af8|apply af7)) (by simp) rfl ?_;refine o.box fun nb H3 o _=>?_;refine o.br (b:=nb) (vs:=oR s) (by repeat(first|exact af8|apply af7)) rfl rfl rfl (by repeat(first|exact aV.here|apply aV.there)) fun H4 o _=>?_;rw [ae,al];refine o.aw (b:=nb) (f:=0+2) (by repeat(first|exact af8|apply af7)) rfl ?_;refine aJ ?_;have kg:=t.sz;rw [az,show ((s.sz:Nat):Int)+ ((x.length:Nat):Int)= (((C++x).length:Nat):Int) by rw [af9];omega,ba (by rw [af9];omega) (by rw [af9];omega),au,ae,al];refine o.aw (b:=kb) (f:=0+2) (by repeat(first|exact af8|apply af7)) rfl ?_;rw [ae,al];refine o.aw (b:=nb) (f:=0+3) (by repeat(first|exact af8|apply af7)) rfl ?_;rw [ae,al];refine zK (s:=s.su) t.ok.su (by omega) ⟨o.fZ (b:=tb) (by repeat(first|exact af8|apply af7))⟩ ?_;rw [t.su,AW];refine⟨o.aw (b:=nb) (f:=0+2) (by repeat(first|exact af8|apply af7)) rfl rfl,?_⟩;refine o.bF (b:=nb) (f:=0+2) (by repeat(first|exact af8|apply af7)) (by simp) rfl (by repeat(first|exact aV.here|apply aV.there)) fun H5 o _=>?_;rw [ae,al];refine o.bF (b:=nb) (f:=0+3) (by repeat(first|exact af8|apply af7)) (by simp) rfl (by repeat(first|exact aV.here|apply aV.there)) fun H6 o _=>?_;refine o.bf (b:=nb) (by repeat(first|exact af8|apply af7)) rfl ?_;have Z2: ∀j,j<8→M1.flush.la j=M.la j:=fun j hj=>by
    show (M1.cs j).getD (M1.la j)=M.la j;rw [(Ll j hj).1,(Ll j hj).2,t.cs];rfl
   have t1:TD M1.flush N m want C s:=t.eX (C' :=C) xl rfl Z2 (Ag gW);have hCx: (C++x).length=C.length+x.length:=af9;have lV:Safe M1.flush 8 (C++x):=GD (n:=m) (fun j hj=>d1.Jp (by omega)) (by omega) (by rw [hCx,Z1,Up]);have d:dO H0 H6 b M1.flush (n5 b kb lb fb tb N m (C.length+x.length) want s (.box nb (oR ⟨s.se,s.ep,(C++x).length,cS 0 (C++x),s.dn⟩) 71::L)):= ⟨lv,r,ov,lf,o.eR (by repeat(first|exact bd.refl|exact bw.here|apply bd.cons|apply bw.there)),ok⟩;have jM: (oR ⟨s.se,s.ep,(C++x).length,cS 0 (C++x),s.dn⟩)=oR ⟨s.se,s.ep,(C++x).length,cS 0 (C++x),false⟩:=by rw [lE]
   show ab 64 #[ptr kb,.agg (oR ⟨s.se,s.ep,(C++x).length,cS 0 (C++x),s.dn⟩).toArray] H6 _;rw [jM];refine Am d t1 MH hN ⟨t.ok.se,t.ok.ep,by show (C++x).length≤_;omega,u0 _ _⟩ rfl rfl (by omega) lV (fun H7 M2 i d2 t2 Hp MD=>?_) (fun H7 M2 L2 d2 t2 Hp MD=>?_)
   ·rw [←af9] at d2
    exact gl H7 M2 _ d2 t2 Hp (fun g=>MD (GO g).2)
   ·exact nI H7 M2 L2 d2 t2 Hp (fun g=>MD (GO g).2)
 ·obtain⟨rfl,A0⟩:=g.no he
  have Sv:=g.gone he;have GO:=g.calm;rw [if_neg (by decide)] at d;rw [cA,decide_eq_true (show (14:Int)≠0 by decide),aD];have t' :TD M1 N m want C s:=t.eX (C' :=C) xl Sv (fun j _=>by rw [T9]) (DO PB T9 Sv);obtain⟨lv,r,ov,lf,o,ok⟩:=d;refine sg (e:=14) (by decide) o (kb:=kb) (by repeat(first|exact af8|apply af7)) (by simp) (by repeat(first|exact aV.here|apply aV.there)) fun H4 o=>?_;exact nI H4 M1 _ ⟨lv,r,ov,lf,o,ok⟩ t' A0 (fun g=>absurd (GO g).1 (by decide))
theorem GP {i:List UInt8} (d:dO H0 H b M L) (hn:8+m=M.n) (UC:1≤m) (ho:M.off=false) (wf:DI (cQ M 0) 8 N want)
  (nz:N=0∧s=sf.zero∨1≤N∧want=dB s) (hs:GK s) (kg:s.sz≤64*m) (hi:i= (A1 M 8 m).take s.sz)
  (rL:s.su=cS 0 i→∀H' kb lb fb tb i0,dO H0 H' b M (ey lb b 0 8 want N false::iA kb lb (ptr fb) tb s::eo fb b 8 m s.sz::lA tb::i0::L)→R (.tuple #[ptr kb,.int .i64 0]) H')
  (nt:s.su≠cS 0 i→∀H',Ext H0 H' →R (.tuple #[.pointer none,.int .i64 7]) H'):ab 21 #[ptr b] H R:=by
 have w5:=d.DJ;have hN:N<18446744073709551616:=by
  rcases nz with h|h
  ·omega
  ·exact(Ai (wf.top h.1)).2.1
 refine KI.vc _ _ _ ?_;rw [cB,aj];refine gP d ?_;rw [aN,decide_eq_false (by omega),aj];refine GH (a:=0) (m:=8) (by decide) d ho (by decide) (fun g=>absurd (by omega) g) fun _ _ _ H1 lb d=>?_;rw [show (0:Int).toNat=0 from rfl,show (8:Int).toNat=8 from rfl,Ms (by decide) wf] at d;refine ag rfl ?_;refine ag rfl ?_;rw [cA,decide_eq_false (by simp),aj];refine nX fun H2 tb ht x2 YZ=>?_;obtain⟨lv,r,ov,lf,o,ok⟩:=d;have o:=o.add x2 (i:=lA tb) ht.fZ (by intro k hk;simp only [It.cN] at hk;omega);refine aM rfl (by decide) ?_;refine aM rfl (by simp) ?_;rw [bz];refine o.box fun kb H3 o _=>?_;have d:dO H0 H3 b M (ey lb b 0 8 want N false::iA kb lb (.pointer none) tb sf.zero::lA tb::L):= ⟨lv,r,ov,lf,o.eR (by repeat(first|exact bd.refl|exact bw.here|apply bd.cons|apply bw.there)),ok⟩;clear o ok;refine⟨fun H' => ∃i0,dO H0 H' b M (ey lb b 0 8 want N false::iA kb lb (.pointer none) tb s::lA tb::i0::L),?_,?_⟩
 ·clear d
  rintro _ H4 ⟨i0,d⟩;obtain⟨lv,r,ov,lf,o,ok⟩:=d;rw [au,ae,al,ae,al];refine o.aw (b:=kb) (f:=0+3+2) (by repeat(first|exact af8|apply af7)) rfl ?_;have d:dO H0 H4 b M (ey lb b 0 8 want N false::iA kb lb (.pointer none) tb s::lA tb::i0::L):= ⟨lv,r,ov,lf,o,ok⟩;refine gP d ?_;refine⟨o.aw (b:=kb) (f:=0+3+2) (by repeat(first|exact af8|apply af7)) rfl rfl,?_⟩;rw [aZ,show (M.n:Int) - 8= (m:Int) by omega,ba (by omega) (by omega)];refine Mu (by omega) d (by omega) (fun g=>absurd ⟨by decide,by omega,by omega,by omega,by omega⟩ g) fun _ _ _ _ _ H5 fb d=>?_;rw [show (8:Int).toNat=8 from rfl,af_,af_] at d;refine ag rfl ?_;refine ag rfl ?_;obtain⟨lv,r,ov,lf,o,ok⟩:=d;rw [au,ae,al];refine o.bF (b:=kb) (f:=0+1) (by repeat(first|exact af8|apply af7)) (by simp) rfl (by repeat(first|exact aV.here|apply aV.there)) fun H6 o _=>?_;have o:ar H0 H6 (Kk b lv r ov lf M (eo fb b 8 m s.sz::ey lb b 0 8 want N false::iA kb lb (ptr fb) tb s::lA tb::i0::L)):=o;rw [cA,decide_eq_false (by decide),aj,au,ae,al];refine o.aw (b:=kb) (f:=0+1) (by repeat(first|exact af8|apply af7)) rfl ?_;rw [au,ae,al,ae,al];refine o.aw (b:=kb) (f:=0+3+2) (by repeat(first|exact af8|apply af7)) rfl ?_;have d:dO H0 H6 b M (eo fb b 8 m s.sz::ey lb b 0 8 want N false::iA kb lb (ptr fb) tb s::lA tb::i0::L):= ⟨lv,r,ov,lf,o,ok⟩;have xi: (A1 M 8 m).length=64*m:=qB fun j hj=>d.Jp (by omega);refine Ak d (by omega) kg ho (fun g=>absurd ⟨by decide,by omega,by omega,by omega⟩ g) fun _ _ _ _ H7 hx=>?_;have o:=o.more hx;refine ag rfl ?_;refine ag rfl ?_;rw [show (0:Int).toNat=0 from rfl,agS,af_,←hi];have hl:i.length=s.sz:=by rw [hi,age];omega
  rw [cA,decide_eq_false (by decide),aj,au,ae,al];refine o.aw (b:=kb) (f:=0+2) (by repeat(first|exact af8|apply af7)) rfl ?_;rw [au,ae,al,ae,al];refine o.aw (b:=kb) (f:=0+3+3) (by repeat(first|exact af8|apply af7)) rfl ?_;refine qw (by omega) ⟨o.fZ (b:=tb) (by repeat(first|exact af8|apply af7))⟩ ?_;refine⟨o.aw (b:=kb) (f:=0+3+3) (by repeat(first|exact af8|apply af7)) rfl rfl,?_⟩;show ea 0 (.int .u32 ((cS 0 i:Nat):Int)) (.int .u32 ((s.su:Nat):Int)) _;rw [cA]
  by_cases hc:s.su=cS 0 i
  ·rw [decide_eq_false (by omega),aj]
   exact rL hc H7 kb lb fb tb i0 ⟨lv,r,ov,lf,o.eR (by repeat(first|exact bd.refl|exact bw.here|apply bd.cons|apply bw.there)),ok⟩
  ·rw [decide_eq_true (by omega),aD]
   exact nt hc H7 o.ext
 ·refine Cd d ?_
  refine ag rfl ?_;refine ag rfl ?_;rw [a8];refine av (fun hc=>?_) (fun hc=>?_)
  ·obtain⟨_,hw⟩:1≤N∧want=dB s:=by
    rcases nz with g|g
    ·omega
    ·exact g
   subst hw;refine DN hs fun H4 hx=>?_;have d:=d.ni hx;refine ag rfl ?_;refine ag rfl ?_;obtain⟨lv,r,ov,lf,o,ok⟩:=d;refine o.box fun sb H5 o _=>?_;refine o.br (b:=sb) (vs:=oR s) (by repeat(first|exact af8|apply af7)) rfl rfl rfl (by repeat(first|exact aV.here|apply aV.there)) fun H6 o _=>?_;rw [db,ahn,aj];refine o.bf (b:=sb) (by repeat(first|exact af8|apply af7)) rfl ?_;rw [au,ae,al];refine Al o (bb:=kb) (f:=0+3) (vs:=oR s) (by repeat(first|exact af8|apply af7)) rfl (by simp) rfl (by repeat(first|exact aV.here|apply aV.there)) fun H7 o=>?_;exact⟨.box sb (oR s) 71,lv,r,ov,lf,o.eR (by repeat(first|exact bd.refl|exact bw.here|apply bd.cons|apply bw.there)),ok⟩
  ·have VX:s=sf.zero:=by
    rcases nz with g|g
    ·exact g.2
    ·omega
   subst VX;obtain⟨lv,r,ov,lf,o,ok⟩:=d;have o:=o.add (Ext.refl _) (i:= .sl (.slice none 0 0) 1 []) ⟨by decide,.inl ⟨rfl,rfl⟩⟩ (by intro k hk;exact absurd hk (by simp [It.cN,aS]));exact⟨.sl (.slice none 0 0) 1 [],lv,r,ov,lf,o.eR (by repeat(first|exact bd.refl|exact bw.here|apply bd.cons|apply bw.there)),ok⟩
theorem TD.open (t:TD M N m want C s) (d:dO H0 H b M L) (hm:1≤m) (ho:M.off=false) (h: ∀H' kb lb fb tb i0,dO H0 H' b M (n5 b kb lb fb tb N m C.length want s (i0::L))→R (.tuple #[ptr kb,.int .i64 0]) H'):ab 21 #[ptr b] H R:=by
 have kg:=t.sz;have hlen:=t.len;refine GP (i:=C) d t.hn hm ho t.wf t.nz t.ok (by omega) (by rw [kg,t.im d]) (fun _ H' kb lb fb tb i0 d=>?_) (fun g=>absurd t.su g);rw [kg] at d;exact h H' kb lb fb tb i0 d
end
section
variable {s:List UInt8} {G:List Tok}
theorem r4.Z3 {k:Nat} {X Y:List Bool} (h:r4 0 true s G k X) (g:r4 0 false s G k Y) (hk:k≠0):X.length=Y.length:=by
 cases h with
 |stored=>exact absurd rfl hk
 |fixed=>rw [g.one .fixed];rfl
 |dyn hD=>rw [g.one (.dyn hD)];rfl
theorem GY.le {k b d:Nat} (h:GY s G k b d):b≤35+8*s.length∧(d=0∨∃Y,r4 0 false s G d Y∧Y.length=b):=by
 induction h with
 |zero=>exact⟨aga _,.inl rfl⟩
 |less h hX cF ih=>exact⟨by omega,.inr ⟨_,hX,rfl⟩⟩
 |more h hX cF ih=>exact ih
theorem PC {l:Bool} {r:List Bool}: (F1 l r s).length=35+r.length+8*s.length:=by
 have ik:=bA s;unfold F1;simp only [agi,af9,aR,ik];omega
theorem PD {l:Nat} {out:List UInt8} (h:F_ s l out):out.length≤s.length+5:=by
 obtain⟨X,⟨kind,b,h1,hX⟩,rfl⟩:=h;have Dq:=pK X;have hlen: (bG (iL X)).length= (iL X).length/8:=j1 _ _ rfl;have key:X.length≤40+8*s.length:=by
  by_cases hk:kind=0
  ·subst hk
   cases hX
   rw [PC,show (Dr (0+3)).length=5 from rfl];omega
  ·rcases h1 with ⟨_,h0⟩ | ⟨_,hc⟩
   ·exact absurd h0 hk
   ·obtain⟨h2,h3⟩:=hc.le
    rcases h3 with h3| ⟨Y,hY,hl⟩
    ·exact absurd h3 hk
    ·rw [hX.Z3 hY hk];omega
 omega
theorem Kf.le {lev:Nat} {x:Fp} (h:Kf lev x) (hd:x.1.iO.length≤400):x.2.length≤405:=by
 by_cases h0:x.1.iO= []
 ·rw [h.1 h0];exact agK _
 ·have:=PD (h.2.1 h0).1
  omega
theorem GQ {l:List Fp} {lev:Nat} (g:eP l) (hk: ∀x∈l,Kf lev x): (bh l).length≤551*l.length:=by
 have: ∀m:List Fp,(∀x∈m,x∈l)→(bh m).length≤551*m.length:=by
  intro m
  induction m with
  |nil=>intro _;simp [bh]
  |cons x m ih=>
   intro hm;have hx:=hm x af8;have h1:= (g.UQ hx).2;have h2:=ih fun y hy=>hm y (af7 _ hy);have h3:=nY (dw x 0);have h4:= (hk x hx).le (g.Ro.iO _ (agP.2 ⟨x,hx,rfl⟩));have h5: (gV x).length≤551:=by
    unfold gV;simp only [af9];omega
   have: (bh (x::m)).length= (gV x).length+ (bh m).length:=by simp [bh]
   rw [agi];omega
 exact this l fun _ h=>h
theorem vd.small {fs:List Fl} {lev:Nat} {X:List UInt8} (h:vd fs lev X):X.length≤3507:=by
 obtain⟨l,g,hk,_,rfl⟩:=h;have h1:=zR g;have h2:=GQ g hk;have h3:=g.len;unfold kD;rw [af9];omega
theorem p8 {l:List (List UInt8)} {n:Nat} (h:n<l.length): (l.take (n+1)).flatten= (l.take n).flatten++l[n]:=by
 rw [agz,agb h,ahz]
 simp
theorem jS (l:List (List UInt8)) (n:Nat): (l.take n).flatten=l.flatten.take (l.take n).flatten.length:=by
 have e:l.flatten= (l.take n).flatten++ (l.drop n).flatten:=by rw [←ahz,agE]
 rw [e,ahl (aga _),agr]
theorem An (l:List (List UInt8)) {n j:Nat} (h:n≤j): (l.take n).flatten.length≤(l.take j).flatten.length:=by
 obtain⟨d,rfl⟩:=Nat.le.dest h;rw [List.take_add,ahz,af9];exact ah7 _ _
theorem n7 (l:List (List UInt8)) (n:Nat): (l.take n).flatten.length≤l.flatten.length:=by
 have:=jS l n;rw [this,age];omega
theorem DQ {l:List (List UInt8)} {n j:Nat} (h: (l.take n).flatten.length= (l.take j).flatten.length): (l.take n).flatten= (l.take j).flatten:=by
 rw [jS l n,jS l j,h]
end
section
variable {H:ai} {R:Value→ai→Prop}
theorem DR {s:Nat} (hs:s<4294967296) (h:R (n32 (tn 8 s)) H):ab 86 #[n32 s] H R:=by
 refine ta.vc _ _ _ ?_;refine⟨fun v u H' => ∃j:Nat,u= .int .i64 j∧j≤8∧v=n32 (tn j s)∧H=H',fun v u _=>match u with| .int _ k=> (8 - k).toNat|_=>0,⟨0,rfl,by omega,rfl,rfl⟩,?_⟩;rintro _ _ _ _ ⟨j,rfl,hj,rfl,rfl⟩;have cF:=Gb j hs;simp only [az,ug,ne_eq,Int.reduceEq,not_false_eq_true,cd,true_and,jz,bc,aN];refine av (fun f_=>?_) (fun f_=>?_)
 ·refine⟨fun v H' =>v=n32 (tn (j+1) s)∧H=H',?_,?_⟩
  ·rintro _ _ _ ⟨rfl,rfl⟩
   simp only [and_true];rw [ba (by omega) (by omega)];exact⟨⟨j+1,rfl,by omega,rfl⟩,by show (_:Int).toNat< (_:Int).toNat;omega⟩
  ·rw [ahy (by omega),aix (by omega),Cr (n:= ((tn j s:Nat):Int) /2) (by omega) (by omega)]
   have e2: ((tn j s:Nat):Int) /2= ((tn j s/2 ^ 1:Nat):Int):=by omega
   refine av (fun Ar=>?_) (fun Ar=>?_)
   ·rw [e2,show (3988292384:Int)= ((3988292384:Nat):Int) from rfl,sO (by omega) (by decide),←O6 (by omega)]
    exact⟨by rw [xv],rfl⟩
   ·rw [e2,←Kd (by omega)]
    exact⟨by rw [xv],rfl⟩
 ·have PL:j=8:=by omega
  subst PL;exact h
theorem DS {s:Nat} {l:List UInt8} (hs:s<4294967296) (hl:l.length≤9223372036854775807) (h:R (n32 (cS s l)) H):ab 37 #[n32 s,str l] H R:=by
 refine s_.vc _ _ _ _ ?_;simp only [qf,bu,aZ];have e0: ∀z:Nat,z<4294967296→IntKind.u32.wrap (4294967295 - (z:Int))= ((4294967295 - z:Nat):Int):=by
  intro z hz;rw [Cr (by omega) (by omega)];omega
 rw [e0 s hs];refine⟨fun v u H' => ∃j:Nat,u= .int .i64 j∧j≤l.length∧v=n32 (ja (4294967295 - s) (l.take j))∧H=H',fun v u _=>match u with| .int _ k=> (l.length - k).toNat|_=>0,⟨0,rfl,by omega,by rw [ahW];rfl,rfl⟩,?_⟩;rintro _ _ _ _ ⟨j,rfl,hj,rfl,rfl⟩;have cF:=qv (l.take j) (s:=4294967295 - s) (by omega);simp only [az,cf,bu,bR,cd,aZ,aN];refine av (fun hc=>?_) (fun hc=>?_)
 ·refine⟨by omega,by omega,?_⟩
  have Aw:j<l.length:=by omega
  rw [af_,agd,agb Aw,ahi];have zL:ja (4294967295 - s) (l.take (j+1))=tn 8 (ja (4294967295 - s) (l.take j) ^^^ (l[j]).toNat):=by
   rw [agz,agb Aw,mj];rfl
  generalize ja (4294967295 - s) (l.take j)=f at*;generalize l[j]=x at*;have hx:x.toNat<256:=x.toNat_lt;rw [Cr (n:= (x.toNat:Int)) (by omega) (by omega),sO cF (by omega)];have JQ:f ^^^ x.toNat<2 ^ 32:=ahK (by omega) (by omega);refine DR (by omega) ?_;simp only [and_true];rw [ba (by omega) (by omega)];exact⟨⟨j+1,rfl,by omega,by rw [zL]⟩,by show (_:Int).toNat< (_:Int).toNat;omega⟩
 ·have PL:j=l.length:=by omega
  subst PL;rw [e0 _ cF,agr];exact h
end
section
variable {H H0:ai} {R:Value→ai→Prop} {L:List It} {b kb lb fb tb N k:Nat} {M:Dk} {want C:List UInt8} {s:sf} {bE:List (List UInt8)}
theorem PE {o:Nat} {l:List Value} {w:Value} {K:Value→Prop} (h:l[o]? =some w) (hk:K w):ic o (.agg l.toArray) K:=by rw [Be,h];exact hk
theorem Z4 (s:sf):cI [0,0,0,0,2] (oR s) (oR s)=some true:=by simp [cI,kT]
theorem WJ {K:Value→Prop} (h:K (.bool true)):GZ [0,0,0,0,2] (.agg (oR s).toArray) (.agg (oR s).toArray) K:=by
 simp only [GZ,Z4];exact h
theorem TD.cG {m:Nat} {f:Option Nat} (t:TD M N m want C s):TD {M with cG:=f} N m want C s:=t.same rfl t.cs rfl
theorem Mv (hT:Reads H ⟨5,0,none⟩ eT) (hG:Reads H ⟨0,0,none⟩ ff) (hI:Reads H ⟨4,0,none⟩ ff) (h: ∀H',Ext H H' →R (.bool true) H'):ab 17 #[] H R:=by
 refine xd.vc _ _ ?_;refine B8 (n:=12) (ar.start (H:=H)) (by decide) (by decide) fun H1 b d=>?_;refine ag rfl ?_;refine ag rfl ?_;refine(TD.new (m:=4)).open d (by decide) rfl fun H2 kb lb fb tb i0 d=>?_;refine ag rfl ?_;refine ag rfl ?_;rw [cA,decide_eq_false (by simp)];refine aO ?_;refine DP rfl d (TD.new (m:=4)) rfl rfl (by decide) (by decide) fun H3 M3 L3 d t ho hf=>?_;rw [cA,decide_eq_false (by simp)];intro _;refine aO ?_;refine rf (x:= [97,98,99]) rfl d t ho (by decide) (by decide) (by decide) (fun H4 M4 L4 d t ho MD=>?_) (fun _ _ _ _ _ _ g=>absurd hf g);rw [cA,decide_eq_false (by simp)];intro _;rw [aj];refine t.open d (by decide) ho fun H5 kb lb fb tb i0 d=>?_;refine ag rfl ?_;refine ag rfl ?_;refine AZ (hT.ext d.ext) (hG.ext d.ext) (hI.ext d.ext) fun H6 hx=>?_;have d:=d.ni hx;refine bB ?_;rw [bc,decide_eq_true (by rfl)];intro _;refine bB ?_;refine kF d fun H7 hx=>?_;have d:=d.ni hx;refine DS (s:=0) (l:= [97,98,99]) (by decide) (by decide) ?_;refine aM rfl (by decide) ?_;refine aM rfl (by simp) ?_;refine aM rfl (by simp) ?_;rw [bz];refine WJ ?_;intro _;exact h H7 d.ext
def OnK (H0 H:ai) (b kb lb fb tb k N j:Nat) (bE:List (List UInt8)):Prop:=
 ∃ (N' :Nat) (M:Dk) (want:List UInt8) (s:sf) (L:List It),N' ≤N+j∧s.dn=false∧M.off=false∧(k<20∨M.cG=none)∧TD M N' 120 want (bE.take j).flatten s∧dO H0 H b M (n5 b kb lb fb tb N' 120 (bE.take j).flatten.length want s L)
def T_ (H0 H:ai) (b k N:Nat) (bE:List (List UInt8)):Prop:=
 ∃ (N' j:Nat) (M:Dk) (want:List UInt8) (s:sf) (L:List It),k<20∧N' ≤N+bE.length∧j≤bE.length∧s.dn=false∧TD M N' 120 want (bE.take j).flatten s∧M.off=true∧dO H0 H b M L
def WK (H0 H:ai) (b kb lb fb tb:Nat) (bE:List (List UInt8)):Prop:=
 ∃ (N' z:Nat) (M:Dk) (want:List UInt8) (s:sf) (L:List It),s.dn=true∧s.sz=bE.flatten.length∧dO H0 H b M (n5 b kb lb fb tb N' 120 z want s L)
set_option maxHeartbeats 2000000 in
theorem DT (a:Option Addr) (len cap:Nat) (a1:Option Addr) (qL DU:Nat) (zs1:List Int) (a2:Option Addr) (DV DW:Nat) (zs2:List Int) (hT:Reads H ⟨5,0,none⟩ eT) (hG:Reads H ⟨0,0,none⟩ ff) (hI:Reads H ⟨4,0,none⟩ ff)
  (w0:kH [.int .i64,.string] H a len cap) (w1:ir .i64 H a1 qL DU zs1) (w2:ir .i64 H a2 DV DW zs2):ab 5 #[.slice a len cap,.slice a1 qL DU,.slice a2 DV DW] H (RW H):=by
 have w5:maxLen=9223372036854775807:=rfl;obtain⟨LL,hLl,hlm,Yz,hL2,hS⟩:=w0.rows (by decide);obtain⟨T,hT1,ZA,hT3⟩:=Ps LL Yz hL2;have hS:Sl H (.slice a len cap) 2 (DE T):=by rw [ZA];exact hS
 have R_:T.length=len:=hT1.trans hLl;obtain⟨fu,Xv,hum,hur,DG⟩:=EP w1;obtain⟨fa,Cx,ham,_,Z5⟩:=EP w2;have ME: (aH fu).length=fu.length*1:=by rw [aL,agh]
 refine qN.vc _ _ _ _ _ ?_;refine Mv hT hG hI fun H1 kr=>?_;rw [db,ahn,aj];refine Jh (hS.ext kr) (by omega) hT3 fun H2 fv fs My _ o2=>?_;have kO:=kr.trans o2.ext;have WM:=o2.sl (v:=fv) (by repeat(first|exact af8|apply af7));clear o2;refine BX (lev:=1) (hT.ext kO) (hG.ext kO) WM My (by decide) fun H3 sv bE ha hl3 o3=>?_;have q7:=kO.trans o3.ext;have WN:=o3.sl (v:=sv) (by repeat(first|exact af8|apply af7));have WM:=WM.ext o3.ext;clear o3;refine ag (vs:= [sv,.int .i64 0]) rfl ?_;refine ag (vs:= [sv,.int .i64 0]) rfl ?_;refine BY (lev:=1) (hT.ext q7) (hG.ext q7) WM My (by decide) fun H4 X hX oQ=>?_;obtain rfl:=hX.one ha;refine ag (vs:= [str bE.flatten,.int .i64 0]) rfl ?_;refine ag (vs:= [str bE.flatten,.int .i64 0]) rfl ?_;have Z6:=q7.trans oQ;have WN:=WN.ext oQ;have DG:=DG.ext Z6;have Z5:=Z5.ext Z6;have hsm:=ha.small;have dI: (cH bE).length=bE.length*1:=by rw [eY,agh]
 clear hX ha WM hS hT hG hI kr kO q7 oQ hL2 hT3 w0 w1 w2;refine B8 (n:=128) (ar.start (H:=H4)) (by decide) (by decide) fun H5 b d=>?_;refine ag rfl ?_;refine ag rfl ?_;refine⟨fun i H' => ∃ (k N j:Nat) (M:Dk) (want:List UInt8) (s:sf) (L:List It),i= .int .i64 (k:Int)∧k≤20∧N≤k*36001∧j≤bE.length∧s.dn=false∧M.off=false∧TD M N 120 want (bE.take j).flatten s∧dO H4 H' b M L,fun i _=>match i with| .int _ x=> (30 - x).toNat|_=>0,⟨0,0,0,_,[],sf.zero,[],rfl,agK _,agK _,agK _,rfl,rfl,TD.new (m:=120),d⟩,?_⟩;clear d;rintro _ _ H6 ⟨k,N,j,M0,want,s,L,rfl,hk,hN,hj,lE,ho0,t0,d⟩;rw [aN,decide_eq_true (by omega),aD];refine B7 (by decide) d fun H7 d7=>?_;clear d;have d:=d7;clear d7;have t1:TD {M0 with cG:=if (0:Int)≤ -1 then some (-1:Int).toNat else none} N 120 want (bE.take j).flatten s:=t0.cG;have MH: ({M0 with cG:=if (0:Int)≤ -1 then some (-1:Int).toNat else none}:Dk).off=false:=ho0;have PY: ({M0 with cG:=if (0:Int)≤ -1 then some (-1:Int).toNat else none}:Dk).cG=none:=by show (if (0:Int)≤ -1 then some (-1:Int).toNat else none)=none;rw [if_neg (by decide)]
 generalize ({M0 with cG:=if (0:Int)≤ -1 then some (-1:Int).toNat else none}:Dk)=M1 at d t1 MH PY;clear t0 ho0 M0;refine⟨fun H' => ∃M,TD M N 120 want (bE.take j).flatten s∧M.off=false∧(k<20∨M.cG=none)∧dO H4 H' b M L,?_,?_⟩
 rotate_left
 ·refine(DG.ext d.ext).len ME (by decide) ?_
  rw [aN];refine dM (d:=decide ((k:Int)<20)) (fun _=>by rw [aN];exact⟨rfl,rfl⟩) ?_;intro _;refine cy (fun hc=>?_) (fun _=> ⟨M1,t1,MH,.inr PY,d⟩);rw [agk,decide_eq_true_eq,decide_eq_true_eq] at hc;have XN:k<fu.length:=by omega
  refine(DG.ext d.ext).at_ ME (by decide) (by omega) (by omega) fun p hp=>?_;refine hp.load (DG.ext d.ext) (w:= .int .i64 fu[k]) (by rw [af_,agh,bM XN]) ?_;rw [cd,nx (k:=4) (by decide) (by decide)];have P3:=aiH fu[k] (show (0:Int)<2 ^ 4 by decide);refine B7 (by omega) d fun H8 d=>?_;refine⟨_,?_,?_,.inl (by omega),d⟩
  ·exact t1.cG
  ·exact MH
 clear d t1 MH PY;rintro _ H8 ⟨M,t,ho,hf,d⟩;refine t.open d (by decide) ho fun H9 kb lb fb tb i0 d=>?_;refine ag (vs:= [ptr kb,.int .i64 0]) rfl ?_;refine ag (vs:= [ptr kb,.int .i64 0]) rfl ?_;rw [cA,decide_eq_false (by simp),aj];refine kF d fun Q7 hx=>?_;have d:=d.ni hx;have zG:=jS bE j;have WO:=n7 bE j;refine PE (w:= .int .i64 (s.sz:Int)) rfl ?_;rw [t.sz];refine GN d t ho rfl fun R9 hx=>?_;have d:=d.ni hx;refine ag (vs:= [str (bE.take j).flatten,.int .i64 0]) rfl ?_;refine ag (vs:= [str (bE.take j).flatten,.int .i64 0]) rfl ?_;rw [cA,decide_eq_false (by simp)];refine aO ?_;refine aJ ?_;rw [a8,decide_eq_false (by omega)];intro _;refine aO ?_;refine bg (lo:=0) (hi:= (bE.take j).flatten.length) (.inr ⟨rfl,rfl⟩) (.inl rfl) (agK _) WO ?_;rw [agS,ahb,←zG];refine qh ?_;rw [decide_eq_false (by simp)];intro _;rw [aj];refine⟨fun n at' H' => ∃q:Nat,n= .int .i64 (q:Int)∧at' = .int .i64 ((bE.take q).flatten.length:Int)∧q≤j∧R9=H',fun n _ _=>match n with| .int _ x=> (bE.length - x).toNat|_=>0,⟨0,rfl,rfl,agK _,rfl⟩,?_⟩;rintro _ _ _ _ ⟨q,rfl,rfl,hq,rfl⟩;have RM:=WN.ext d.ext;have WQ:=An bE hq;refine RM.len dI (by decide) ?_;rw [aN];refine dM (d:=decide (((bE.take q).flatten.length:Int)< ((bE.take j).flatten.length:Int))) (fun _=>by rw [aN];exact⟨rfl,rfl⟩) ?_;intro _;refine cy (fun hc=>?_) (fun hc=>?_)
 ·rw [agk,decide_eq_true_eq,decide_eq_true_eq] at hc
  have UN:q<bE.length:=by omega
  have hqj:q<j:=by
   rcases ag6 q j with g|g
   ·exact g
   ·obtain rfl:q=j:=by omega
    omega
  refine RM.at_ dI (by decide) (by omega) (by omega) fun p hp=>?_;refine hp.load RM (w:=str bE[q]) (by rw [af_,agh,qk UN]) ?_;refine aJ ?_;have hle:=n7 bE (q+1);have e: (bE.take (q+1)).flatten.length= (bE.take q).flatten.length+bE[q].length:=by rw [p8 UN,af9]
  rw [az,ba (by omega) (by omega),az,ba (by omega) (by omega)];exact⟨⟨q+1,rfl,congrArg (Value.int .i64) (by omega),by omega,rfl⟩,by show (_:Int).toNat< (_:Int).toNat;omega⟩
 have J9: (bE.take q).flatten.length= (bE.take j).flatten.length:=by
  rw [Bool.and_eq_false_iff,decide_eq_false_iff_not,decide_eq_false_iff_not] at hc;rcases hc with hc|hc
  ·obtain rfl:q=j:=by omega
   rfl
  ·omega
 have hCe:=DQ J9;rw [cA,decide_eq_false (by omega),aj];have UN:q≤bE.length:=by omega
 rw [←hCe] at t d;clear zG WO WQ J9 hCe hc RM hj hq;refine⟨fun e n H' => ∃ (r:Nat) (ec:Int),e= .int .i64 ec∧n= .int .i64 (r:Int)∧r≤bE.length∧((ec=0∧OnK H4 H' b kb lb fb tb k N r bE)∨(ec=14∧T_ H4 H' b k N bE)),fun _ n _=>match n with| .int _ x=> (bE.length - x).toNat|_=>0,⟨q,0,rfl,rfl,UN,.inl ⟨rfl,N,M,want,s,_,by omega,lE,ho,hf,t,d⟩⟩,?_⟩;rintro _ _ _ Sg ⟨r,ec,rfl,rfl,hr,jq⟩;have RN:Sl Sg sv 1 (cH bE):=by
  rcases jq with ⟨_,N',M,want,s,L,_,_,_,_,_,d⟩ | ⟨_,N',j',M,want,s,L,_,_,_,_,_,_,d⟩
  ·exact WN.ext d.ext
  ·exact WN.ext d.ext
 refine RN.len dI (by decide) ?_;rw [aN];refine dM (d:=decide (ec=0)) (fun _=>by rw [bc];exact⟨rfl,rfl⟩) ?_;intro _;refine cy (fun hc=>?_) (fun hc=>?_)
 ·rw [agk,decide_eq_true_eq,decide_eq_true_eq] at hc
  have Xi:r<bE.length:=by omega
  rcases jq with ⟨_,N',M,want,s,L,hN',lE,ho,hf,t,d⟩ | ⟨h14,_⟩
  ·refine RN.at_ dI (by decide) (by omega) (by omega) fun p hp=>?_
   refine hp.load RN (w:=str bE[r]) (by rw [af_,agh,qk Xi]) ?_;have e:=p8 Xi;have hle:=n7 bE (r+1);rw [e,af9] at hle;refine rf (x:=bE[r]) lE d t ho (by omega) (by omega) (by omega) (fun Re M' L' d' t' ub DX =>?_) (fun Re M' L' d' t' ub DX =>?_)
   ·rw [az,ba (by omega) (by omega)]
    rw [←e] at d' t';exact⟨⟨r+1,0,rfl,rfl,by omega,.inl ⟨rfl,N' +1,M',_,_,L',by omega,rfl,ub,hf.imp id DX,t',d'⟩⟩,by show (_:Int).toNat< (_:Int).toNat;omega⟩
   ·rw [az,ba (by omega) (by omega)]
    exact⟨⟨r+1,14,rfl,rfl,by omega,.inr ⟨rfl,N',r,M',want,s,L',hf.resolve_right DX,by omega,hr,lE,t',ub,d'⟩⟩,by show (_:Int).toNat< (_:Int).toNat;omega⟩
  ·omega
 have jq: (ec=0∧OnK H4 Sg b kb lb fb tb k N bE.length bE)∨(ec=14∧T_ H4 Sg b k N bE):=by
  rcases jq with ⟨h0,hon⟩ |A0
  ·rw [Bool.and_eq_false_iff,decide_eq_false_iff_not,decide_eq_false_iff_not] at hc
   obtain rfl:r=bE.length:=by omega
   exact .inl ⟨h0,hon⟩
  ·exact .inr A0
 clear hc hr RN;refine⟨fun e H' => ∃ec:Int,e= .int .i64 ec∧((ec=0∧WK H4 H' b kb lb fb tb bE)∨(ec=14∧T_ H4 H' b k N bE)),?_,?_⟩
 rotate_left
 ·rw [bc]
  rcases jq with ⟨rfl,N',M,want,s,L,hN',lE,ho,hf,t,d⟩ | ⟨rfl,A0⟩
  ·rw [decide_eq_true (show (0:Int)=0 from rfl),aD]
   refine A2 lE d t ho (by omega) (fun Re M' L' d' =>?_) (fun Re M' L' d' t' ub DX =>?_)
   ·have kg:=t.sz
    rw [agr] at kg;exact⟨0,rfl,.inl ⟨rfl,N' +1,_,M',_,{s with dn:=true},L',rfl,kg,d'⟩⟩
   ·exact⟨14,rfl,.inr ⟨rfl,N',bE.length,M',want,s,L',hf.resolve_right DX,by omega,aga _,lE,t',ub,d'⟩⟩
  ·rw [decide_eq_false (show ¬ (14:Int)=0 by decide),aj]
   exact⟨14,rfl,.inr ⟨rfl,A0⟩⟩
 clear jq;rintro _ _ Re ⟨ec',rfl,hd⟩;rw [bc];rcases hd with ⟨rfl,N',z,M,want,s,L,lE,kg,d⟩ | ⟨rfl,N',j',M,want,s,L,aeH,hN',Hg,lE,t,ho,d⟩
 ·rw [decide_eq_true (show (0:Int)=0 from rfl),aD]
  refine kF d fun TJ hx=>?_;have d:=d.ni hx;refine PE (w:= .bool s.dn) rfl ?_;rw [lE];refine bB ?_;refine kF d fun Zx hx=>?_;have d:=d.ni hx;refine PE (w:= .int .i64 (s.sz:Int)) rfl ?_;refine aJ ?_;rw [bc,kg,decide_eq_true rfl];intro _;exact⟨rfl,Z6.trans d.ext⟩
 ·rw [decide_eq_false (show ¬ (14:Int)=0 by decide),aj,cA,decide_eq_false (by simp),cW]
  intro _;rw [aj,bc,decide_eq_false (show ¬ (14:Int)=16 by decide),cW];intro _;rw [aj];refine Ac d (.inl Z5) (by omega) fun TJ d=>?_;have hcr:M.ej fa=M:=by unfold Dk.ej;rw [if_pos ho]
  rw [hcr] at d;refine Jk d fun Zx d=>?_;rw [az,ba (by omega) (by omega)];exact⟨⟨k+1,N',j',{M with off:=false},want,s,L,rfl,by omega,by omega,Hg,lE,rfl,t.same rfl t.cs rfl,d⟩,by show (_:Int).toNat< (_:Int).toNat;omega⟩
end
end Go.Proofs.YtpcgccdmmoggmaaGreatDoor
