/- Part 4 of the proof of RowTopMended: what it is built on, in the order of its needs. -/
import Derived.Test.YtpcgccdmmoggmaaGreatDoorPkC
import Derived.RangeFuncNested
import Derived.RangeFuncBound
import Derived.RangeFuncCalls
import Derived.RangeFuncLeaves
import Derived.Shelf.Abstract
import Derived.Shelf.RegionOpen
import Derived.WalkKit
import Derived.OwnWalkIn
import Derived.TacticsInMore
import Derived.LoopNIn
import Derived.LoopIn
set_option linter.unusedSimpArgs false
set_option linter.unusedVariables false
namespace Go.Proofs.YtpcgccdmmoggmaaGreatDoor
open Go Go.Vc Go.Proofs
section
set_option maxRecDepth 100000
variable {H:ak} {R:Value→ak→Prop} {v:Value} {zs:List Int}
theorem wj {P:Program} {C:List Nat} {g:Nat} {first cap:Array Value} {args:List Value} {K:Value→ak→Prop} (hm:re g C=true) (h:ab P g (first.toList++args++cap.toList).toArray H K):rX P C (.func (.func g) first cap) args H K:=by
 show (bif re g C then ab P g (first.toList++args++cap.toList).toArray H K else False);rw [hm];exact h
def E2 (zs:List Int):Bool:=zs.all fun z=>decide (0≤z∧z≤15)
theorem zz:E2 zs=true↔∀z∈zs,0≤z∧z≤15:=by simp [E2]
theorem Rl {z:Int} (h:R (.bool (!decide (0≤z∧z≤15))) H):ab Tryz.prog 202 #[.int .i64 z] H R:=by
 refine lV.vc _ _ _ ?_;unfold lV.res;rw [aQ];refine oy (d:=decide (15<z)) (fun _=>by rw [bU];exact⟨rfl,rfl⟩) ?_;intro _;have e: (decide (z<0) ||decide (15<z))= !decide (0≤z∧z≤15):=by
  rw [ala,ak5,decide_eq_true_eq,decide_eq_true_eq,alO,decide_eq_false_iff_not];omega
 rw [e];exact h
theorem Ii (hs:Sl H v 1 (aM zs)) (hlen:zs.length≤maxLen) (h:R (.bool (!E2 zs)) H):ab Tryz.prog 203 #[v,.func (.func 202) #[] #[]] H R:=by
 have Rm:maxLen=9223372036854775807:=rfl;have iv: (aM zs).length=zs.length*1:=by rw [aS];omega
 refine bm.vc _ _ _ _ ?_;unfold bm.res;refine bD.vc _ _ _ _ ?_;unfold bD.res;refine hs.len iv (by decide) ?_;refine⟨fun i H' => ∃k:Nat,i= .int .i64 k∧k≤zs.length∧(∀z∈zs.take k,0≤z∧z≤15)∧H=H',fun i _=>match i with| .int _ x=> (9223372036854775807 - x).toNat|_=>0,⟨0,rfl,by omega,by simp,rfl⟩,?_⟩;rintro _ _ _ ⟨k,rfl,hk,pJ,rfl⟩;rw [aQ];refine ax (fun hc=>?_) (fun hc=>?_)
 ·have jR:k<zs.length:=by omega
  refine hs.at_ iv (by decide) (by omega) (by omega) fun p hp=>?_;refine hp.load hs (w:= .int .i64 zs[k]) (by rw [ajS,aj0,dE jR]) ?_;refine wj (by kernel_rfl) ?_;refine Rl ?_;refine fI (fun hb=>?_) (fun hb=>?_)
  ·have: ¬ (0≤zs[k]∧zs[k]≤15):=by rw [alO,decide_eq_false_iff_not] at hb;exact hb
   show rS _ _ _;rw [iU,decide_eq_true (by omega)];have e:E2 zs=false:=by
    rw [←Bool.not_eq_true,zz];exact fun g=>this (g _ (ajZ jR))
   rw [e] at h;exact h
  ·have hz:0≤zs[k]∧zs[k]≤15:=by simpa using hb
   rw [aC,bH (n:= (k:Int)+1) (by omega) (by omega)];refine⟨⟨k+1,rfl,by omega,fun z Ad =>?_,rfl⟩,by show (_:Int).toNat< (_:Int).toNat;omega⟩;rw [wh jR] at Ad;rcases akg.1 Ad with g|g
   ·exact pJ z g
   ·rw [akt.1 g];exact hz
 ·have:k=zs.length:=by omega
  rw [this,aj8] at pJ;rw [zz.2 pJ] at h;show rS _ _ _;rw [iU,decide_eq_false (by decide)];exact h
theorem CD (hs:Sl H v 1 (aM zs)) (hlen:zs.length≤1000) (h: ∀y H',aw H H' [.sl y 1 (aM zs)]→R y H'):ab Tryz.prog 204 #[v] H R:=by
 refine eD.vc _ _ _ ?_;unfold eD.res;have Au: (∃n c,v= .slice none n c∧zs= [])∨∃a n c,v= .slice (some a) n c:=by
  rcases hs with ⟨rfl,h0⟩ | ⟨a,m,cap,rfl,_⟩
  ·exact .inl ⟨_,_,rfl,by have:=congrArg List.length h0;rw [aS] at this;exact amt.1 this⟩
  ·exact .inr ⟨a,m,cap,rfl⟩
 have zx:aX H 3 0 [] [] fun x5 a_=>bg a_ 3 1 8 [(.int .i64 0)] x5 v fun x7 bf=>R x7 bf:=by
  refine(aw.start (H:=H)).QG 1 (by decide) fun y H1 o=>?_;refine o.app (by repeat(first|exact bu.here|apply bu.there)) (hs.ext o.ext) N6 (by rw [aS];show 2* (0+_)*8≤_;omega) fun z H2 o=>?_;exact h z H2 o
 rcases Au with ⟨n,c,rfl,rfl⟩ | ⟨a,n,c,rfl⟩
 ·rw [Qx,aH]
  refine h _ _ ?_;exact aw.start.add (Ext.refl _) ⟨by decide,.inl ⟨rfl,rfl⟩⟩ (by intro k hk;exact absurd hk (by simp [It.eL,aV]))
 ·rw [Qy,ao]
  exact zx
abbrev uj (zs:List Int) (b:Nat) (lv wv sv:Value):List It:=
 [.box b (cW lv wv (dB (natL zs)) sv) 285,.sl lv 1 (aM zs),.sl wv 2 (rB (natL zs)),.sl sv 1 (sc (pX (natL zs) 16))]
theorem Av (ls:List Nat):oq ls 15=32768 - (shareL ls 15:Nat):=by unfold oq;rw [xf];rfl
theorem Od {loose:Bool} (hs:Sl H v 1 (aM zs)) (hlen:zs.length≤maxLen)
  (Ah: ∀H',Ext H H' →lY zs loose≠0→R (.tuple #[.pointer none,.int .i64 (lY zs loose)]) H')
  (Xb: ∀H' b lv wv sv,aw H H' (uj zs b lv wv sv)→okZ zs→lY zs loose=0→R (.tuple #[.pointer (some ⟨b,0,none⟩),.int .i64 0]) H'):ab Tryz.prog 162 #[v,.bool loose] H R:=by
 have Rm:maxLen=9223372036854775807:=rfl;have iv: (aM zs).length=zs.length*1:=by rw [aS];omega
 refine qU.vc _ _ _ _ ?_;unfold qU.res;refine hs.len iv (by decide) ?_;rw [bU];refine oy (d:= !E2 zs) (fun _=>Ii hs hlen ⟨rfl,rfl⟩) ?_;intro _;have Ug: (decide (288< (zs.length:Int)) || !E2 zs)=true↔¬okZ zs:=by
  rw [ak5,decide_eq_true_eq,alO,←Bool.not_eq_true,zz];unfold okZ
  constructor
  ·rintro(g|g) h
   ·omega
   ·exact g h.2
  ·intro g
   by_cases g1:288< (zs.length:Int)
   ·exact .inl g1
   ·exact .inr fun g2=>g ⟨by omega,g2⟩
 refine fI (fun hb=>?_) (fun hb=>?_)
 ·have h1:=Rb (loose:=loose) (Ug.1 hb)
  have:=Ah H (Ext.refl H);rw [h1] at this;exact this (by decide)
 have pJ:okZ zs:=by
  by_cases g:okZ zs
  ·exact g
  ·rw [Ug.2 g] at hb;cases hb
 have Ij:=zu (loose:=loose) pJ;have agX:=pJ.1;refine CD hs (by omega) fun lv H1 o=>?_;refine aU (o.sl (v:=lv) (by repeat(first|exact ajP|apply ajO))).one (by decide) ?_;rw [bG];refine o.box fun b H2 o _=>?_
 change aw H H2 [.box b (cW lv (.slice none 0 0) (dB []) (.slice none 0 0)) _,_] at o
 refine N_ pJ o fun H3 r o hr=>?_;rw [Av] at hr;rw [aQ];refine ax (fun hc=>?_) (fun hc=>?_)
 ·have Tk:32768<shareL (natL zs) 15:=by
   split at hr<;>omega
  rw [if_pos Tk] at Ij;have:=Ah H3 o.ext;rw [Ij] at this;exact this (by decide)
 rw [bU];rw [if_neg (by intro g;rw [if_pos g] at hr;omega)] at hr;refine kn (d:= !(loose && slackL (natL zs))) (fun NS=>?_) ?_
 ·refine kn (d:=slackL (natL zs)) (fun _=>KY pJ o ⟨rfl,rfl⟩) ?_
  intro _;rw [fc];exact⟨rfl,rfl⟩
 intro _;rw [if_neg (show ¬32768<shareL (natL zs) 15 by omega)] at Ij;refine fI (fun hb=>?_) (fun hb=>?_)
 ·rw [aj3,decide_eq_true_eq,alO] at hb
  rw [if_pos ⟨by omega,hb.2⟩] at Ij;have:=Ah H3 o.ext;rw [Ij] at this;exact this (by decide)
 ·have h0:lY zs loose=0:=by
   rw [Ij,if_neg];rintro⟨g1,g2⟩;rw [g2,decide_eq_true (by omega)] at hb
   cases hb
  refine Ig pJ o fun H4 wv sv o=>?_;exact Xb H4 b lv wv sv o pJ h0
end
section
set_option maxRecDepth 100000
variable {H:ak} {R:Value→ak→Prop} {v:Value} {zs:List Int}
def Ik (ls:List Nat) (i:Int):Nat × Nat:=if 0≤i∧i<ls.length then (gI (jB ls i.toNat) (ls.getD i.toNat 0),ls.getD i.toNat 0) else (0,0)
theorem CE (ls:List Nat): (rB ls).length=ls.length*2:=by
 unfold rB;rw [s_ (n:=2) _ (by intro r hr;obtain⟨s,_,rfl⟩:=akn.1 hr;rfl),aka,ang]
theorem Oe {n:Nat} {L:List (List Value)} {i j:Nat} {r:List Value} (hl: ∀r∈L,r.length=n) (hi:L[i]? =some r) (hj:j<n):L.flatten[i*n+j]? =r[j]? :=by
 have KC:= (aku.1 hi).1;have hir:= (aku.1 hi).2;have e:L=L.take i++r::L.drop (i+1):=by rw [←hir,←akN KC,akf]
 have hp: (L.take i).flatten.length=i*n:=by
  rw [s_ (L.take i) (fun x hx=>hl x (akL hx)),ajW,aks (by omega)]
 have hr:r.length=n:=by rw [←hir];exact hl _ (ajZ KC)
 rw [e,alX,akP,akB (by omega),akx (by omega)]
 congr 1
 omega
theorem wk {ls:List Nat} {s j:Nat} (h:s<ls.length) (hj:j<2): (rB ls)[s*2+j]? = (wO ls s)[j]? :=
 Oe (by intro r hr;obtain⟨s,_,rfl⟩:=akn.1 hr;rfl) (by rw [ake,ak8 h];rfl) hj
theorem Of {H0:ak} {L:List It} {b:Nat} {lv wv sv:Value} {i:Int} (o:aw H0 H L) (h1:It.box b (cW lv wv (dB (natL zs)) sv) 285∈L) (h2:It.sl wv 2 (rB (natL zs))∈L) (hlen:zs.length≤288)
  (h:R (.tuple #[.int .u64 (Ik (natL zs) i).1,.int .i64 (Ik (natL zs) i).2]) H):ab Tryz.prog 208 #[.pointer (some ⟨b,0,none⟩),.int .i64 i] H R:=by
 have hl: (natL zs).length≤288:=by rw [kD];exact hlen
 generalize natL zs=ls at*;have Uh:=CE ls;refine jt.vc _ _ _ _ ?_;unfold jt.res;rw [iA];refine bh ?_;rw [aQ];intro _;refine oy (d:=decide ((ls.length:Int)≤i)) (fun _=>?_) ?_
 ·rw [aA,ag,au]
  refine o.az (f:=0+1) h1 rfl ?_;refine(o.sl h2).len Uh (by decide) ?_;rw [iU];exact⟨rfl,rfl⟩
 intro _;refine fI (fun hb=>?_) (fun hb=>?_)
 ·rw [ak5,decide_eq_true_eq,decide_eq_true_eq] at hb
  have e:Ik ls i= (0,0):=if_neg (by omega);rw [e] at h;exact h
 ·rw [alu,decide_eq_false_iff_not,decide_eq_false_iff_not] at hb
  have e:Ik ls i= (gI (jB ls i.toNat) (ls.getD i.toNat 0),ls.getD i.toNat 0):=if_pos (by omega);rw [e] at h;have hi:i.toNat<ls.length:=by omega
  rw [aA,ag,au];refine o.az (f:=0+1) h1 rfl ?_;refine(o.sl h2).at_ Uh (by decide) (by omega) (by omega) fun p hp=>?_;refine hp.field (f:=0) fun q hq=>?_;refine hq.load (o.sl h2) (by rw [wk hi (by decide)];rfl) ?_;rw [aA,ag,au];refine o.az (f:=0+1) h1 rfl ?_;refine(o.sl h2).at_ Uh (by decide) (by omega) (by omega) fun p hp=>?_;refine hp.field (f:=1) fun q hq=>?_;refine hq.load (o.sl h2) (by rw [wk hi (by decide)];rfl) ?_;exact h
theorem Og {H0:ak} {L:List It} {b:Nat} {lv wv sv:Value} (o:aw H0 H L) (h1:It.box b (cW lv wv (dB (natL zs)) sv) 285∈L) (h2:It.sl lv 1 (aM zs)∈L) (hlen:zs.length≤288)
  (h: ∀y H',aw H H' [.sl y 1 (aM zs)]→R y H'):ab Tryz.prog 172 #[.pointer (some ⟨b,0,none⟩)] H R:=by
 refine gp.vc _ _ _ ?_;unfold gp.res;rw [iA,ao,aA,ag];refine o.az h1 rfl ?_;exact CD (o.sl h2) (by omega) h
theorem Il (v k:Nat): ∀n,gI v (k+n) %2 ^ n=gI (v/2 ^ k) n
 |0=>by rw [amf,amr];rfl
 |n+1=>by
  have ih:=Il v k n;rw [←aly,gI,gI,←ih,anb,←alZ,akF];have h2:v/2 ^ (k+n) %2<2:=alb _ (by decide);generalize v/2 ^ (k+n) %2=c at*;generalize gI v (k+n)=x at*;generalize 2 ^ n=P at*;have e: (2*x+c) % (2*P)=c+2* (x%P):=by rw [Nat.mod_mul,show (2*x+c) %2=c by omega,show (2*x+c) /2=x by omega]
  rw [akE P 2,e];omega
theorem Im {a b:Nat}: ∀ {n:Nat},gI a n=gI b n→a%2 ^ n=b%2 ^ n
 |0,_=>by rw [amf,amr,amr]
 |n+1,h=>by
  rw [gI,gI] at h;have h1:a/2 ^ n%2<2:=alb _ (by decide);have h2:b/2 ^ n%2<2:=alb _ (by decide);have ih:=Im (a:=a) (b:=b) (n:=n) (by omega);rw [Nat.mod_pow_succ,Nat.mod_pow_succ,ih]
  congr 2
  omega
theorem Rn {ls:List Nat} (h:shareL ls 15≤32768) {n:Nat} (hn:n≤15):ke ls n≤2 ^ n:=by
 have Yy:=Av ls;rcases Int.lt_or_le (oq ls n) 0 with g|g
 ·have:=ER ls g hn
  omega
 ·unfold oq at g
  omega
theorem yk {ls:List Nat} (h:shareL ls 15≤32768) (hle: ∀k∈ls,k≤15) {s:Nat} (hs:s<ls.length) (h1:1≤ls.getD s 0):jB ls s<2 ^ ls.getD s 0:=by
 have hg:ls.getD s 0=ls[s]:=by rw [ajX,ajV hs];rfl
 exact akO (F_ hs h1) (Rn h (by rw [hg];exact hle _ (ajZ hs)))
theorem K3 {ls:List Nat} (h:shareL ls 15≤32768) (hle: ∀k∈ls,k≤15) {s t:Nat} (hs:s<ls.length) (ht:t<ls.length) (d_:s≠t) (h1:1≤ls.getD s 0) (h2:ls.getD s 0≤ls.getD t 0):
  gI (jB ls s) (ls.getD s 0)≠gI (jB ls t) (ls.getD t 0) %2 ^ ls.getD s 0:=by
 intro he;have hc:=yk h hle hs h1;have hd:=yk h hle ht (by omega);have e:ls.getD t 0= (ls.getD t 0 - ls.getD s 0)+ls.getD s 0:=by omega
 rw [e,Il] at he;have he:=Im he;rw [aj_ hc] at he;have hq:jB ls t/2 ^ (ls.getD t 0 - ls.getD s 0)<2 ^ ls.getD s 0:=by
  rw [Nat.div_lt_iff_lt_mul (alU _),←alZ,alw,←e];exact hd
 rw [aj_ hq] at he;rcases Nat.lt_or_eq_of_le h2 with g|g
 ·exact Gb hs ht h1 g he.symm
 ·rw [g,ali,amf,Nat.div_one] at he
  exact Q7 hs ht d_ g he
theorem CF (hz:okZ zs): ∀k∈natL zs,k≤15:=fun k hk=>by
 obtain⟨z,Ad,rfl⟩:=akn.1 hk;have:=hz.2 z Ad;omega
theorem Oh {loose:Bool} (hz:okZ zs) (h:lY zs loose=0):shareL (natL zs) 15≤32768:=by
 rw [zu hz] at h
 split at h
 ·cases h
 ·omega
theorem Ro {ls:List Nat} {k:Nat} (h:k<ls.length):Ik ls (k:Int)= (gI (jB ls k) (ls.getD k 0),ls.getD k 0):=if_pos (by omega)
theorem wo {ls:List Nat} (hle: ∀k∈ls,k≤15) (k:Nat):ls.getD k 0≤15:=by
 rcases akz k ls.length with h|h
 ·have hg:ls.getD k 0=ls[k]:=by rw [ajX,ajV h];rfl
  rw [hg];exact hle _ (ajZ h)
 ·rw [ajX,akc h];exact akj _
end
section
set_option maxRecDepth 100000
variable {H:ak} {R:Value→ak→Prop} {v:Value} {zs:List Int}
theorem K4 (v n:Nat):aW v (n+1)=aW v n++ [v.testBit n]:=by unfold aW;rw [ame,aky];rfl
theorem tA (c:Nat): ∀n,aW (gI c n) n= (aW c n).reverse
 |0=>rfl
 |n+1=>by
  have h2:c/2 ^ n%2<2:=alb _ (by decide);rw [K4 c,List.reverse_append,w_,←tA c n,gI];have e1: (2*gI c n+c/2 ^ n%2) /2=gI c n:=by omega
  have e2: (2*gI c n+c/2 ^ n%2).testBit 0=c.testBit n:=by
   rw [amc,Nat.testBit_eq_decide_div_mod_eq]
   congr 1
   have: (2*gI c n+c/2 ^ n%2) %2=c/2 ^ n%2:=by omega
   rw [this]
  rw [e1,e2]
  rfl
def gY (ls:List Nat) (s:Nat):List Bool:=aW (gI (jB ls s) (ls.getD s 0)) (ls.getD s 0)
section
variable {α:Type} {f:Nat→α} {z:α} {ls:List Nat} {n x:Nat}
end
end
section
set_option maxRecDepth 100000
variable {H:ak} {R:Value→ak→Prop} {v:Value} {zs:List Int} {ls:List Nat} {B:List Bool}
def hit (ls:List Nat) (B:List Bool) (s:Nat):Prop:=s<ls.length∧1≤ls.getD s 0∧B.take (ls.getD s 0)=gY ls s
def more (ls:List Nat) (B:List Bool):Prop:= ∃s,s<ls.length∧B.length<ls.getD s 0∧(gY ls s).take B.length=B
theorem zA (ls:List Nat) (s:Nat): (gY ls s).length=ls.getD s 0:=aR _ _
theorem ym {s:Nat} (h:hit ls B s):ls.getD s 0≤B.length:=by
 have:=congrArg List.length h.2.2;rw [zA,ajW] at this;omega
theorem uk {v n m:Nat} (h:n≤m): (aW v m).take n=aW v n:=by
 obtain⟨k,rfl⟩: ∃k,m=n+k:= ⟨m - n,by omega⟩;rw [oK,akM (by rw [aR];omega),aj9 (by rw [aR];omega)]
theorem zB {a b n:Nat} (h:aW a n=aW b n):a%2 ^ n=b%2 ^ n:=by
 have:=congrArg lE h
 rwa [lF,lF] at this
theorem Ui (h:shareL ls 15≤32768) (hle: ∀k∈ls,k≤15) {s t:Nat} (hs:hit ls B s) (ht:hit ls B t):s=t:=by
 by_cases d_:s=t
 ·exact d_
 exfalso
 have key: ∀ {s t:Nat},hit ls B s→hit ls B t→s≠t→ls.getD s 0≤ls.getD t 0→False:=by
  intro s t hs ht d_ h2;refine K3 h hle hs.1 ht.1 d_ hs.2.1 h2 ?_;have e1: (gY ls t).take (ls.getD s 0)=gY ls s:=by rw [←ht.2.2,akQ,aks h2];exact hs.2.2
  unfold gY at e1;rw [uk h2] at e1;have:=zB e1;rw [aj_ (r9 _ _)] at this;exact this.symm
 rcases Nat.le_total (ls.getD s 0) (ls.getD t 0) with g|g
 ·exact key hs ht d_ g
 ·exact key ht hs (ak6 d_) g
theorem Io {n:Nat}: ∀ {x r:Nat},x≤ls.length→r<fY (ls.take x) n→∃s,s<x∧ls.getD s 0=n∧fY (ls.take s) n=r∧(pW ls n x)[r]? =some s
 |0,r,_,h=>by simp [fY] at h
 |x+1,r,hx,h=>by
  have Vt:x<ls.length:=by omega
  have hg:ls.getD x 0=ls[x]:=by rw [ajX,ajV Vt];rfl
  have hlen:=wi (ls:=ls) (n:=n) x (by omega);have e:fY (ls.take (x+1)) n=fY (ls.take x) n+ (if ls.getD x 0=n then 1 else 0):=by
   rw [wh Vt,kg,qR,hg];simp [fY]
  by_cases hr:r<fY (ls.take x) n
  ·obtain⟨s,h1,h2,h3,h4⟩:=Io (x:=x) (by omega) hr
   refine⟨s,by omega,h2,h3,?_⟩
   by_cases hh:ls.getD x 0=n
   ·rw [zy hh,akx (by omega)];exact h4
   ·rw [CA hh];exact h4
  ·by_cases hh:ls.getD x 0=n
   ·rw [if_pos hh] at e
    refine⟨x,by omega,hh,by omega,?_⟩;rw [zy hh,akB (by omega),show r - (pW ls n x).length=0 by omega];rfl
   ·rw [if_neg hh] at e;omega
theorem Rp {n r:Nat} (h1:1≤n) (hr:r<fY ls n): ∀m,n<m→∃s,s<ls.length∧ls.getD s 0=n∧ye ls s=r∧(pX ls m)[tw ls n+r]? =some s:=by
 intro m hm
 induction m with
 |zero=>omega
 |succ m ih=>
  rw [pX]
  by_cases he:n=m
  ·subst he
   obtain⟨s,g1,g2,g3,g4⟩:=Io (ls:=ls) (x:=ls.length) (ajR _) (by rw [aj8];exact hr);refine⟨s,g1,g2,by unfold ye;rw [g2];exact g3,?_⟩;rw [if_neg (by omega),akB (by rw [tx];omega),tx,show tw ls n+r - tw ls n=r by omega];exact g4
  ·obtain⟨s,g1,g2,g3,g4⟩:=ih (by omega)
   refine⟨s,g1,g2,g3,?_⟩;rw [akx (aku.1 g4).1];exact g4
theorem K5 {s n x:Nat} (hn:ls.getD s 0=n) (h:jB ls s=gI x n):gY ls s=aW x n:=by
 unfold gY;rw [hn,h,tA,tA,List.reverse_reverse]
theorem K6 (PQ:shareL ls 15≤32768) (hle: ∀k∈ls,k≤15) {s n x:Nat} (hs:s<ls.length) (h1:1≤n) (hn:ls.getD s 0=n) (h:gY ls s=aW x n):jB ls s=gI x n:=by
 unfold gY at h;rw [hn] at h;have hc:=yk PQ hle hs (by omega);rw [hn] at hc;rw [tA] at h;have h2:aW (jB ls s) n=aW (gI x n) n:=by rw [tA,←h,List.reverse_reverse]
 have:=zB h2
 rwa [aj_ hc,aj_ (r9 _ _)] at this
theorem Xc {r c:Nat} (hc:c<2) (hr:r<4294967296):bitsOf .or .i64 ((2*r:Nat):Int) (c:Int)= ((2*r+c:Nat):Int):=by
 have e: ((BitVec.ofInt 64 ((2*r:Nat):Int)) ||| (BitVec.ofInt 64 (c:Int))).toNat=2*r+c:=by
  rw [am6,akC,akC,akD,akD,aj_ (by omega),aj_ (by omega),al7,akE];have:=yb (a:=c) (v:=r) (n:=1) (by simpa using hc);rw [Nat.pow_one] at this;rw [this];omega
 show IntKind.i64.wrap ((((BitVec.ofInt 64 ((2*r:Nat):Int)) ||| (BitVec.ofInt 64 (c:Int))).toNat:Nat):Int)=_;rw [e,bH (by omega) (by omega)]
theorem find_spec {H0:ak} {L:List It} {b:Nat} {lv wv sv:Value} {x n:Nat} (hz:okZ zs) (PQ:shareL (natL zs) 15≤32768) (o:aw H0 H L) (m1:It.box b (cW lv wv (dB (natL zs)) sv) 285∈L) (m2:It.sl sv 1 (sc (pX (natL zs) 16))∈L)
  (hx:x<2 ^ n) (hn:n≤15) (h1: ∀s,hit (natL zs) (aW x n) s→R (.tuple #[.int .i64 (s:Nat),.int .i64 ((natL zs).getD s 0:Nat)]) H) (h2: (∀s,¬hit (natL zs) (aW x n) s)→R (.tuple #[.int .i64 0,.int .i64 0]) H):
  ab Tryz.prog 278 #[.pointer (some ⟨b,0,none⟩),.int .u64 (x:Int),.int .i64 (n:Int)] H R:=by
 have hle:=CF hz;have hlen: (natL zs).length≤288:=by rw [kD];exact hz.1
 generalize natL zs=ls at*;have Bd:=MU (ls:=ls) hlen;have Gh:=Bt hlen;have hxp:2 ^ n≤2 ^ 15:=akd (by decide) hn;have K7: ∀k:Nat,k≤15→(cW lv wv (dB ls) sv)[2+k]? =some (.int .i64 (if k=0 then 0 else ((fY ls k:Nat):Int))):=fun k hk=>by
  rw [mF (by rw [eK];omega),kq (by omega)]
 refine jv.vc _ _ _ _ _ ?_;unfold jv.res;refine⟨fun a w f d i H' => ∃k:Nat,i= .int .i64 ((k+1:Nat):Int)∧k≤n∧a= .int .u64 ((x/2 ^ k:Nat):Int)∧w= .int .i64 ((2*gI x k:Nat):Int)∧f= .int .i64 ((2*ke ls k:Nat):Int)∧d= .int .i64 ((tw ls (k+1):Nat):Int)∧ke ls k≤gI x k∧(∀s,hit ls (aW x n) s→k<ls.getD s 0)∧H=H',fun _ _ _ _ i _=>match i with| .int _ x=> (1000 - x).toNat|_=>0,⟨0,rfl,by omega,by rw [amf,Nat.div_one],rfl,rfl,rfl,ajR _,fun s h=>h.2.1,rfl⟩,?_⟩;rintro _ _ _ _ _ _ _ ⟨k,rfl,hk,rfl,rfl,rfl,rfl,Vu,Ah,rfl⟩;have hr:=r9 x k;have hkp:2 ^ k≤2 ^ 15:=akd (by decide) (by omega);rw [qw];refine ax (fun hc=>?_) (fun hc=>?_)
 ·have rO:k+1≤n:=by omega
  have hd:x/2 ^ k≤x:=Nat.div_le_self _ _;have h2' :x/2 ^ k%2<2:=alb _ (by decide);have he:=Bd k;have J1:=Bd (k+1);have iz:fY ls (k+1)≤288:=akk ams hlen;have mH:tw ls (k+1)≤16*288:=akk (Gh (k+1)) (akZ _ (by omega));have e2:bitsOf .and .u64 ((x/2 ^ k:Nat):Int) 1= ((x/2 ^ k%2:Nat):Int):=by
   have:=F7 (a:=x/2 ^ k) (b:=1) (by omega) (by omega);rw [Nat.and_one_is_mod] at this;exact this
  have hrs:gI x (k+1)=2*gI x k+x/2 ^ k%2:=rfl;rw [dF,e2,eH,bH (n:= ((x/2 ^ k%2:Nat):Int)) (by omega) (by omega),dF];have e3:bitsOf .or .i64 ((2*gI x k:Nat):Int) ((x/2 ^ k%2:Nat):Int)= ((gI x (k+1):Nat):Int):=by
   rw [hrs];exact Xc h2' (by omega)
  rw [e3,ql];refine⟨by decide,?_⟩;rw [show min (1:Int).toNat IntKind.u64.bits=1 from rfl,nM (j:=1) rfl,anb,show 2 ^ k*2 ^ 1=2 ^ (k+1) from rfl];have hld: ∀ {K:Value→Prop},K (.int .i64 ((fY ls (k+1):Nat):Int))→gO 16 1 (.pointer (some ⟨b,0+2,none⟩)) (.int .i64 ((k+1:Nat):Int)) fun y=>al H y K:=fun {K} hK=>by
   rw [lR];refine⟨by omega,by omega,?_⟩;rw [au,show 0+2+ ((k+1:Nat):Int).toNat*1=2+ (k+1) by omega];refine o.az m1 (K7 (k+1) (by omega)) ?_;rw [if_neg (by omega)];exact hK
  rw [aA,ag,au];refine hld ?_;rw [bE,bH (by omega) (by omega),aQ];refine ax (fun eF=>?_) (fun eF=>?_)
  ·have A3:gI x (k+1) - 2*ke ls k<fY ls (k+1):=by omega
   obtain⟨s,g1,g2,g3,g4⟩:=Rp (ls:=ls) (n:=k+1) (by omega) A3 16 (by omega);have PK:jB ls s=gI x (k+1):=by
    unfold jB;rw [g2,g3];unfold qt;rw [alY];omega
   have hb:=K5 g2 PK;have hh:hit ls (aW x n) s:= ⟨g1,by omega,by rw [g2,uk rO,hb]⟩;rw [aA,ag,au];refine o.az (f:=0+18) m1 rfl ?_;rw [aC,bH (by omega) (by omega),bE,bH (by omega) (by omega)];have n_:=tx (ls:=ls) 16;have KC:= (aku.1 g4).1;refine(o.sl m2).at_ (n:= (pX ls 16).length) (by rw [EY,aj0]) (by decide) (by omega) (by omega) fun p hp=>?_;refine hp.load (o.sl m2) (w:= .int .i64 (s:Nat)) ?_ ?_
   ·unfold sc
    rw [ake,show ((((tw ls (k+1):Nat):Int)+ ((gI x (k+1):Nat):Int) - ((2*ke ls k:Nat):Int)).toNat*1)=tw ls (k+1)+ (gI x (k+1) - 2*ke ls k) by omega,g4]
    rfl
   ·have:=h1 s hh
    rw [g2] at this;exact this
  ·rw [aA,ag,au]
   refine hld ?_;rw [aC,bH (by omega) (by omega)];rw [aA,ag,au];refine hld ?_;have hek:ke ls (k+1)=2*ke ls k+fY ls (k+1):=rfl;have A3:=r9 x (k+1);have ag1:2 ^ (k+1)≤2 ^ 15:=akd (by decide) (by omega);rw [aC,show ((2*ke ls k:Nat):Int)+ ((fY ls (k+1):Nat):Int)= ((ke ls (k+1):Nat):Int) by omega,bH (n:= ((ke ls (k+1):Nat):Int)) (by omega) (by omega),jg];refine⟨by decide,?_⟩;rw [show min (1:Int).toNat IntKind.i64.bits=1 from rfl,show ((ke ls (k+1):Nat):Int)*2 ^ 1= ((2*ke ls (k+1):Nat):Int) by omega,bH (n:= ((2*ke ls (k+1):Nat):Int)) (by omega) (by omega),jg];refine⟨by decide,?_⟩;rw [show min (1:Int).toNat IntKind.i64.bits=1 from rfl,show ((gI x (k+1):Nat):Int)*2 ^ 1= ((2*gI x (k+1):Nat):Int) by omega,bH (n:= ((2*gI x (k+1):Nat):Int)) (by omega) (by omega),aC,bH (n:= ((k+1:Nat):Int)+1) (by omega) (by omega)];refine⟨⟨k+1,rfl,rO,rfl,rfl,rfl,?_,by omega,fun s hh=>?_,rfl⟩,by show (_:Int).toNat< (_:Int).toNat;omega⟩
   ·rw [tw.eq_2 ls (k+1),if_neg (by omega)];rfl
   ·have h3:=Ah s hh
    by_cases Qn:ls.getD s 0=k+1
    ·exfalso
     have hw:=hh.2.2;rw [Qn,uk rO] at hw;have YA:=K6 PQ hle hh.1 (by omega) Qn hw.symm;have:=F_ hh.1 hh.2.1;rw [Qn] at this;omega
    ·omega
 ·have jR:k=n:=by omega
  subst jR;refine h2 fun s hh=>?_;have h3:=Ah s hh;have h4:=ym hh;rw [aR] at h4;omega
end
section
set_option maxRecDepth 100000
variable {H:ak} {R:Value→ak→Prop} {v:Value} {zs:List Int} {ls:List Nat} {B:List Bool}
theorem K8 {H0:ak} {L:List It} {hb mb vb:Nat} {th tm tv:TypeId} {x n a m:Nat} (o:aw H0 H L) (hn:n≤15) (ha:a<18446744073709551616) (m1:It.box hb [.int .i64 (n:Int)] th∈L) (m2:It.box mb [.int .u64 (IntKind.u64.wrap (IntKind.u64.wrap (1*2 ^ min ((n:Int)).toNat IntKind.u64.bits) - 1))] tm∈L) (m3:It.box vb [.int .u64 (x:Int)] tv∈L)
  (h: ∀H',aw H0 H' L→R (.bool (decide (n<m) && decide (a%2 ^ n=x))) H'):
  ab Tryz.prog 298 #[.agg #[.int .u64 (a:Int),.int .i64 (m:Int)],.pointer (some ⟨hb,0,none⟩),.pointer (some ⟨mb,0,none⟩),.pointer (some ⟨vb,0,none⟩)] H R:=by
 refine gq.vc _ _ _ _ _ _ ?_;unfold gq.res;refine o.box fun wb H1 o1 _=>?_
 change aw H0 H1 (.box wb [.int .u64 (a:Int),.int .i64 (m:Int)] _::L) at o1
 rw [ag,au];refine o1.az (f:=0+1) (by repeat(first|exact ajP|apply ajO)) rfl ?_;refine o1.az (ajO _ m1) rfl ?_;rw [bU];refine kn (d:=decide (a%2 ^ n=x)) (fun _=>?_) ?_
 ·rw [ag,au]
  refine o1.az (f:=0+0) (by repeat(first|exact ajP|apply ajO)) rfl ?_;refine o1.az (ajO _ m2) rfl ?_;rw [dF,Cp ha (by omega)];refine o1.az (ajO _ m3) rfl ?_;rw [bj];refine⟨?_,rfl⟩
  congr 1
  rw [ala,decide_eq_true_eq,decide_eq_true_eq];omega
 intro _;have:=h H1 (o1.pick (ak2 _ _));rw [show decide ((n:Int)< (m:Int))=decide (n<m) by rw [ala,decide_eq_true_eq,decide_eq_true_eq];omega];exact this
theorem K9 {s n x:Nat} (h:n≤ls.getD s 0) (hx:x<2 ^ n): (gY ls s).take n=aW x n↔gI (jB ls s) (ls.getD s 0) %2 ^ n=x:=by
 unfold gY;rw [uk h]
 constructor
 ·intro g
  have:=zB g
  rwa [aj_ hx] at this
 ·intro g
  rw [←qP,g]
open Classical in
theorem Oi {H0:ak} {L:List It} {b:Nat} {lv wv sv:Value} {x n:Nat} (hz:okZ zs) (o:aw H0 H L) (m1:It.box b (cW lv wv (dB (natL zs)) sv) 285∈L) (m2:It.sl wv 2 (rB (natL zs))∈L)
  (hx:x<2 ^ n) (hn:n≤15) (h: ∀H',aw H0 H' L→R (.bool (decide (more (natL zs) (aW x n)))) H'):
  ab Tryz.prog 279 #[.pointer (some ⟨b,0,none⟩),.int .u64 (x:Int),.int .i64 (n:Int)] H R:=by
 have hle:=CF hz;have hlen: (natL zs).length≤288:=by rw [kD];exact hz.1
 generalize natL zs=ls at*;have Uh:=CE ls;refine jw.vc _ _ _ _ _ ?_;unfold jw.res;refine o.box fun vb H1 o1 _=>?_
 change aw H0 H1 (.box vb [.int .u64 (x:Int)] _::L) at o1
 refine o1.box fun hb H2 o2 _=>?_
 change aw H0 H2 (.box hb [.int .i64 (n:Int)] _:: .box vb [.int .u64 (x:Int)] _::L) at o2
 refine o2.az (by repeat(first|exact ajP|apply ajO)) rfl ?_;rw [jg];refine⟨by omega,?_⟩;rw [bE];refine o2.box fun mb H3 o3 _=>?_
 change aw H0 H3 (.box mb [.int .u64 0] _:: .box hb [.int .i64 (n:Int)] _:: .box vb [.int .u64 (x:Int)] _::L) at o3
 refine o3.bK (by repeat(first|exact ajP|apply ajO)) (by decide) rfl (bd.here) fun H4 o4 _=>?_;rw [ak9] at o4;rw [aA,ag,au];have mem: ∀ {i:It},i∈L→∀ {a b c:It},i∈a::b::c::L:=fun {i} h {a b c}=>ajO _ (ajO _ (ajO _ h));refine o4.az (f:=0+1) (mem m1) rfl ?_;refine bo.vc _ _ _ _ ?_;unfold bo.res;refine bB.vc _ _ _ _ ?_;unfold bB.res;refine(o4.sl (mem m2)).len Uh (by decide) ?_;have Bd: ∀ {H' a b c},aw H0 H' (a::b::c::L)→aw H0 H' L:=fun o=>o.pick (List.Sublist.cons _ (List.Sublist.cons _ (ak2 _ _)));refine⟨fun i H' => ∃k:Nat,i= .int .i64 k∧k≤ls.length∧aw H0 H' (.box mb [.int .u64 (IntKind.u64.wrap (IntKind.u64.wrap (1*2 ^ min ((n:Int)).toNat IntKind.u64.bits) - 1))] 41:: .box hb [.int .i64 (n:Int)] 3:: .box vb [.int .u64 (x:Int)] 41::L)∧∀s,s<k→¬ (n<ls.getD s 0∧(gY ls s).take n=aW x n),fun i _=>match i with| .int _ x=> (1000 - x).toNat|_=>0,⟨0,rfl,by omega,o4,by omega⟩,?_⟩;clear o o1 o2 o3 o4;rintro _ _ H5 ⟨k,rfl,hk,o4,Ah⟩;rw [aQ];refine ax (fun hc=>?_) (fun hc=>?_)
 ·have j5:k<ls.length:=by omega
  refine(o4.sl (mem m2)).at_ Uh (by decide) (by omega) (by omega) fun p hp=>?_;rw [ajS] at hp;refine hp.kf (o4.sl (mem m2)) (ws:=wO ls k) ?_ rfl ?_
  ·have e0:=wk (ls:=ls) (s:=k) (j:=0) j5 (by decide)
   have e1:=wk (ls:=ls) (s:=k) (j:=1) j5 (by decide);apply akV;intro i;rw [alQ]
   split
   ·rename_i hi
    rw [ak7]
    match i,hi with
    |0,_=>exact e0
    |1,_=>exact e1
   ·rename_i hi
    rw [akc (by show 2≤i;omega)]
  refine wj (by kernel_rfl) ?_;have hr:=r9 (jB ls k) (ls.getD k 0);have D8:2 ^ ls.getD k 0≤2 ^ 15:=akd (by decide) (wo hle k);refine K8 (a:=gI (jB ls k) (ls.getD k 0)) (m:=ls.getD k 0) o4 hn (by omega) (by repeat(first|exact ajP|apply ajO)) (by repeat(first|exact ajP|apply ajO)) (by repeat(first|exact ajP|apply ajO)) fun H6 o5=>?_;have Oj:= @K9 ls k n x;refine fI (fun hb=>?_) (fun hb=>?_)
  ·rw [aj3,decide_eq_true_eq,decide_eq_true_eq] at hb
   show rS _ _ _;rw [iU,decide_eq_true (by omega)];have hm:more ls (aW x n):= ⟨k,j5,by rw [aR];exact hb.1,by rw [aR];exact(Oj (by omega) hx).2 hb.2⟩;have:=h H6 (Bd o5);rw [decide_eq_true hm] at this;exact this
  ·rw [aC,bH (n:= (k:Int)+1) (by omega) (by omega)]
   refine⟨⟨k+1,rfl,by omega,o5,fun s hs=>?_⟩,by show (_:Int).toNat< (_:Int).toNat;omega⟩
   by_cases he:s=k
   ·subst he
    rintro⟨g1,g2⟩;rw [decide_eq_true g1,decide_eq_true ((Oj (by omega) hx).1 g2)] at hb
    cases hb
   ·exact Ah s (by omega)
 ·have j5:k=ls.length:=by omega
  subst j5;show rS _ _ _;rw [iU,decide_eq_false (by decide)];have hm: ¬more ls (aW x n):=by
   rintro⟨s,g1,g2,g3⟩;rw [aR] at g2 g3;exact Ah s g1 ⟨g2,g3⟩
  have:=h H5 (Bd o4);rw [decide_eq_false hm] at this;exact this
end
section
set_option maxRecDepth 100000
variable {H:ak} {R:Value→ak→Prop}
abbrev at_ (b o:Nat):Value:= .pointer (some ⟨b,o,none⟩)
abbrev u64 (n:Nat):Value:= .int .u64 (n:Int)
abbrev i64 (n:Nat):Value:= .int .i64 (n:Int)
structure Rd (H:ak) (b o:Nat) (B:List Bool):Prop where
 sub: ∃ (rest:List UInt8) (acc n:Nat),qo H b o [str rest,u64 acc,i64 n]∧B=aW acc n++toBits rest∧acc<2 ^ n∧n<40
 Aw:B.length≤1152921504606846976
theorem Rd.ext {H' :ak} {b o:Nat} {B:List Bool} (h:Rd H b o B) (hx:Ext H H'):Rd H' b o B:=by
 obtain⟨⟨rest,acc,n,h1,h2⟩,h3⟩:=h;exact⟨⟨rest,acc,n,h1.ext hx,h2⟩,h3⟩
theorem Rd.lt {b o:Nat} {B:List Bool} (h:Rd H b o B):b<H.size:=by
 obtain⟨⟨rest,acc,n,h1,h2⟩,h3⟩:=h;exact h1.lt
theorem Rd.new {b o:Nat} (h:qo H b o [str [],.int .u64 0,.int .i64 0]):Rd H b o []:= ⟨⟨[],0,0,h,rfl,by decide,by decide⟩,by simp⟩
variable {b o:Nat} {B:List Bool}
theorem um (hr:Rd H b o B) (h:R (i64 B.length) H):ab Tryz.prog 177 #[at_ b o] H R:=by
 obtain⟨⟨rest,acc,n,hs,rfl,ha,hn⟩,hb⟩:=hr;rw [ajQ,aR,bs] at hb h;refine iL.vc _ _ _ ?_;unfold iL.res;simp only [aA,ag,au,akp,ba (hs.cell0 rfl),xQ,cn,vf,ba (hs.cell (k:=2) rfl),aC,iA,ao];rw [bH (n:=8* (rest.length:Int)) (by omega) (by omega),bH (by omega) (by omega),show (n:Int)+8* (rest.length:Int)= ((n+8*rest.length:Nat):Int) by omega];exact h
theorem K_ {s:List UInt8} (hr:Rd H b o B) (il:B.length+8*s.length≤1152921504606846976) (h: ∀H',Rd H' b o (B++toBits s)→oG b o 3 none_ none_ H H' →R (.tuple #[]) H'):ab Tryz.prog 173 #[at_ b o,str s] H R:=by
 obtain⟨⟨rest,acc,n,hs,rfl,ha,hn⟩,hb⟩:=hr;rw [ajQ,aR,bs] at hb il;refine iJ.vc _ _ _ _ ?_;unfold iJ.res;simp only [aA,ag,au,akp,ba (hs.cell0 rfl),Ky,xO,cn,Cc,aH];refine⟨by first|omega| (simp [ByteArray.size];omega),?_⟩;refine mR (F:=none_) (n:=3) hs rfl (by simp) rfl fun H1 s1 mH c1=>?_;refine h H1 ⟨⟨rest++s,acc,n,mH,by rw [ey,ajT],ha,hn⟩,?_⟩ c1;rw [ajQ,ajQ,aR,bs,bs];omega
theorem La {k:Nat} (hk:k≤32) {rest:List UInt8} {acc n:Nat} (hs:qo H b o [str rest,u64 acc,i64 n]) (ha:acc<2 ^ n) (hn:n<40) (hl:k≤n+8*rest.length) (il:rest.length≤1152921504606846976)
  (h: ∀H' qz jS n',qo H' b o [str qz,u64 jS,i64 n']→aW jS n' ++toBits qz =aW acc n++toBits rest→jS <2 ^ n' →n' <40→k≤n' →oG b o 3 none_ none_ H H' →R (.tuple #[]) H'):ab Tryz.prog 296 #[at_ b o,i64 k] H R:=by
 refine iN.vc _ _ _ _ ?_;unfold iN.res;refine⟨fun H' => ∃ (qz :List UInt8) (jS n' :Nat),qo H' b o [str qz,u64 jS,i64 n']∧aW jS n' ++toBits qz =aW acc n++toBits rest∧jS <2 ^ n' ∧n' <40∧qz.length≤rest.length∧oG b o 3 none_ none_ H H',
  fun H' =>match cellAt H' ⟨b,o+2,none⟩ with|some (.int _ q)=> (100 - q).toNat|_=>0,⟨rest,acc,n,hs,rfl,ha,hn,ajR _,oG.refl⟩,?_⟩
 rintro _ H1 ⟨qz,jS,n',mH,he,tQ,Hb,Gi,c1⟩;have hlen:n' +8*qz.length=n+8*rest.length:=by
  have:=congrArg List.length he;rw [ajQ,ajQ,aR,aR,bs,bs] at this;exact this
 simp only [aA,ag,au,akp,ba (mH.cell0 rfl),Vi,cn,ne_eq,ba (mH.cell (k:=2) rfl),aQ,ox,vU,dU,Int.reduceLE,eH,jg,true_and,ba (mH.cell (k:=1) rfl),dF];refine fun _=>ax (fun hc=>?_) (fun hc=>?_)
 ·obtain⟨x,t,rfl⟩: ∃x t,qz =x::t:=by
   cases qz with
   |nil=>exact absurd rfl hc.2
   |cons x t=>exact⟨x,t,rfl⟩
  have hx:x.toNat<256:=x.toNat_lt;have hpw: (2:Nat) ^ n' ≤2 ^ 31:=akd (by decide) (by omega);have hm:x.toNat*2 ^ n' ≤255*2 ^ 31:=ane (by omega) hpw;simp only [Int.reduceToNat,List.getD_cons_zero];refine⟨by simp,by omega,?_⟩;rw [eX (n:= (x.toNat:Int)) (by omega) (by omega),MH (by omega) (by omega),zk (by omega) (by omega),yb tQ];have ag2 :qo H1 b o [str (x::t),u64 jS,i64 n']:=mH;refine ko (F:=none_) (k:=1) (n:=3) mH rfl (by simp) rfl fun H2 s2 sP c2=>?_;simp only [ba (sP.cell0 rfl),sZ,cn,aj2,rp,Int.reduceLE,true_and];refine⟨by omega,?_⟩;simp only [Int.reduceToNat,List.drop_succ_cons,ako];rw [aj9 (by simp)];refine mR (F:=none_) (n:=3) sP rfl (by simp) rfl fun H3 s3 J3 c3=>?_;simp only [ba (J3.cell (k:=2) rfl),aC];rw [bH (n:= (n' :Int)+8) (by omega) (by omega)];refine ko (F:=none_) (k:=2) (n:=3) J3 rfl (by simp) rfl fun H4 s4 Ol c4=>?_;refine⟨⟨t,jS +x.toNat*2 ^ n',n' +8,Ol,?_,?_,by omega,by simp at Gi;omega,((c1.trans c2).trans c3).trans c4⟩,?_⟩
  ·rw [←he,Cn tQ,r7,ajT]
  ·rw [alZ]
   have h1:x.toNat*2 ^ n' ≤255*2 ^ n' :=akZ _ (by omega);have: (2:Nat) ^ 8=256:=rfl;omega
  ·rw [Ol.cell (k:=2) rfl,mH.cell (k:=2) rfl]
   show (100 - ((n' :Int)+8)).toNat< (100 - (n' :Int)).toNat;omega
 ·refine h H1 qz jS n' mH he tQ Hb ?_ c1
  by_cases PR:qz = []
  ·subst PR;simp at hlen;omega
  ·have: ¬ ((n' :Int)< (k:Int)):=fun h' =>hc ⟨h',PR⟩
   omega
theorem xg {k:Nat} {rest:List UInt8} {acc n:Nat} (hs:qo H b o [str rest,u64 acc,i64 n]) (hk:k≤n) (hn:n<40)
  (h: ∀H',qo H' b o [str rest,u64 (acc/2 ^ k),i64 (n - k)]→oG b o 3 none_ none_ H H' →R (.tuple #[]) H'):ab Tryz.prog 224 #[at_ b o,i64 k] H R:=by
 refine iM.vc _ _ _ _ ?_;unfold iM.res;simp only [aA,ag,au,ba (hs.cell (k:=1) rfl),ql];refine⟨by omega,?_⟩;rw [MI (show k≤64 by omega)];refine ko (F:=none_) (k:=1) (n:=3) hs rfl (by simp) rfl fun H2 s2 sP c2=>?_;simp only [ba (sP.cell (k:=2) rfl),bE];rw [bH (n:= (n:Int) - (k:Int)) (by omega) (by omega),show (n:Int) - (k:Int)= ((n - k:Nat):Int) by omega];refine ko (F:=none_) (k:=2) (n:=3) sP rfl (by simp) rfl fun H3 s3 J3 c3=>?_;exact h H3 J3 (c2.trans c3)
theorem E3 {acc n k:Nat} {rest:List UInt8} (hk:k≤n):aW (acc/2 ^ k) (n - k)++toBits rest= (aW acc n++toBits rest).drop k:=by
 rw [akH (by rw [aR];exact hk)]
 congr 1
 conv=>rhs;rw [show n=k+ (n - k) by omega,oK]
 rw [akH (by rw [aR];exact ajR _),alj (by rw [aR];exact ajR _),aj4]
theorem Gm {acc n k:Nat} (h:acc<2 ^ n) (hk:k≤n):acc/2 ^ k<2 ^ (n - k):=by
 rw [Nat.div_lt_iff_lt_mul (alU k),←alZ,show n - k+k=n by omega];exact h
theorem Rq {n:Int} (hr:Rd H b o B) (Ah: ¬ (0≤n∧n≤32∧n≤(B.length:Int))) (h:R (.tuple #[.int .u64 0,.bool false]) H):ab Tryz.prog 277 #[at_ b o,.int .i64 n] H R:=by
 refine fh.vc _ _ _ _ ?_;unfold fh.res;simp only [aQ,bU,jg,bE,aA,ag,au,iA,kA,al4,qk]
 intros
 refine oy (d:=decide ((B.length:Int)<n)) (fun _=>?_) ?_
 ·refine um hr ?_
  simp only [and_true,aQ]
 refine fun _=>fI (fun _=>h) (fun hc=>?_);simp only [alu,decide_eq_false_iff_not] at hc;omega
theorem CG {k:Nat} (hr:Rd H b o B) (hk:k≤32) (hkB:k≤B.length)
  (h: ∀H' rest acc n,qo H' b o [str rest,u64 acc,i64 n]→B=aW acc n++toBits rest→acc<2 ^ n→n<40→k≤n→oG b o 3 none_ none_ H H' →R (.tuple #[u64 (lE (B.take k)),.bool true]) H'):ab Tryz.prog 277 #[at_ b o,i64 k] H R:=by
 have Wa :=hr;obtain⟨⟨rest,acc,n,hs,he,ha,hn⟩,hb⟩:=hr;have hlen:B.length=n+8*rest.length:=by rw [he,ajQ,aR,bs]
 refine fh.vc _ _ _ _ ?_;unfold fh.res;simp only [aQ,bU,jg,bE,aA,ag,au,iA,kA,al4,qk]
 intros
 refine oy (d:=false) (fun _=>?_) ?_
 ·refine um Wa ?_
  simp only [and_true,aQ];rw [decide_eq_false (by omega)]
 rw [decide_eq_false (by omega)];refine fun _=>?_;simp only [Bool.or_false,ao];refine La hk hs ha hn (by omega) (by omega) fun H1 qz jS n' mH J1 tQ Hb rO c1=>?_;simp only [ba (mH.cell (k:=1) rfl),dF];refine⟨by omega,?_⟩;have hpw: (2:Nat) ^ n' ≤2 ^ 39:=akd (by decide) (by omega);rw [Cp (by omega) hk];have hv:jS %2 ^ k=lE (B.take k):=by
  rw [he,←J1,akM (by rw [aR];exact rO)];have: (aW jS n').take k=aW jS k:=by
   conv=>lhs;rw [show n' =k+ (n' - k) by omega,oK]
   rw [akM (by rw [aR];exact ajR _),aj9 (by rw [aR];exact ajR _)]
  rw [this,lF]
 rw [hv];exact h H1 qz jS n' mH (by rw [he,J1]) tQ Hb rO c1
theorem Lb {k:Nat} (hr:Rd H b o B) (hk:k≤32) (hkB:k≤B.length) (h: ∀H',Rd H' b o B→oG b o 3 none_ none_ H H' →R (.tuple #[u64 (lE (B.take k)),.bool true]) H'):ab Tryz.prog 277 #[at_ b o,i64 k] H R:=
 CG hr hk hkB fun H' rest acc n hs he ha hn rO c=>h H' ⟨⟨rest,acc,n,hs,he,ha,hn⟩,hr.Aw⟩ c
theorem Rr {n:Int} (hr:Rd H b o B) (Ah: ¬ (0≤n∧n≤32∧n≤(B.length:Int))) (h:R (.tuple #[.int .u64 0,.bool false]) H):ab Tryz.prog 274 #[at_ b o,.int .i64 n] H R:=by
 refine fg.vc _ _ _ _ ?_;unfold fg.res;refine Rq hr Ah ?_;simp only [mI,akm,akl,ao];exact⟨fun H' =>H=H',fun _ H' e=>e ▸ h,rfl⟩
theorem CH {k:Nat} (hr:Rd H b o B) (hk:k≤32) (hkB:k≤B.length) (h: ∀H',Rd H' b o (B.drop k)→oG b o 3 none_ none_ H H' →R (.tuple #[u64 (lE (B.take k)),.bool true]) H'):ab Tryz.prog 274 #[at_ b o,i64 k] H R:=by
 have hb:=hr.Aw;refine fg.vc _ _ _ _ ?_;unfold fg.res;refine CG hr hk hkB fun H1 rest acc n hs he ha hn rO c1=>?_;simp only [mI,akm,akl,aH];refine⟨fun H' =>Rd H' b o (B.drop k)∧oG b o 3 none_ none_ H H',fun _ H' e=>h H' e.1 e.2,?_⟩;refine xg hs rO hn fun H2 sP c2=> ⟨⟨⟨rest,acc/2 ^ k,n - k,sP,by rw [he,E3 rO],Gm ha rO,by omega⟩,by rw [aj1];omega⟩,c1.trans c2⟩
theorem Ax (hr:Rd H b o B) (h: ∀H' rest acc n,qo H' b o [str rest,u64 acc,i64 n]→B.drop (B.length%8)=aW acc n++toBits rest→acc<2 ^ n→n<40→n%8=0→oG b o 3 none_ none_ H H' →R (.tuple #[]) H'):ab Tryz.prog 223 #[at_ b o] H R:=by
 obtain⟨⟨rest,acc,n,hs,he,ha,hn⟩,hb⟩:=hr;have hlen:B.length=n+8*rest.length:=by rw [he,ajQ,aR,bs]
 refine gV.vc _ _ _ ?_;unfold gV.res;simp only [aA,ag,au,ba (hs.cell (k:=2) rfl),sD,ne_eq,Int.reduceEq,not_false_eq_true,true_and,Cc,aH];rw [ale (by omega),show (n:Int) %8= ((n%8:Nat):Int) by omega];refine xg hs (by omega) hn fun H2 sP c2=>?_;refine h H2 rest _ _ sP ?_ (Gm ha (by omega)) (by omega) (by omega) c2;rw [E3 (by omega),←he,show B.length%8=n%8 by omega]
theorem Ay (hr:Rd H b o B) (h: ∀H',Rd H' b o (B.drop (B.length%8))→oG b o 3 none_ none_ H H' →R (.tuple #[]) H'):ab Tryz.prog 223 #[at_ b o] H R:=
 Ax hr fun H' rest acc n hs he ha hn h8 c=>h H' ⟨⟨rest,acc,n,hs,he,ha,hn⟩,by have:=hr.Aw;rw [aj1];omega⟩ c
theorem CI {n:Int} (Hb:n≤9223372036854775807) (hr:Rd H b o B)
  (h: ∀H' (k:Nat),k=min n.toNat ((B.length - B.length%8) /8)→Rd H' b o ((B.drop (B.length%8)).drop (8*k))→oG b o 3 none_ none_ H H' →R (str (a7 ((B.drop (B.length%8)).take (8*k)))) H'):ab Tryz.prog 176 #[at_ b o,.int .i64 n] H R:=by
 have hb:=hr.Aw;have hbH:=hr.lt;refine iK.vc _ _ _ _ ?_;unfold iK.res;simp only [aA,ag,au,akp,qw,iA,ao];refine Ax hr fun H1 rest acc m hs he ha hm h8 c1=>?_;generalize hC:B.drop (B.length%8)=C at*;have ZP:C.length=B.length - B.length%8:=by rw [←hC,aj1]
 rw [←ZP] at h;have Xd:C.length=m+8*rest.length:=by rw [he,ajQ,aR,bs]
 refine ax (fun hc=>?_) (fun hc=>?_)
 ·have h:=h H1 0 (by omega) ⟨⟨rest,acc,m,hs,by simpa using he,ha,hm⟩,by simp;omega⟩ c1
  simpa [a7] using h
 refine⟨fun n1 v H' => ∃ (j jS m' :Nat) (D:List UInt8),n1= .int .i64 (n - j)∧(j:Int)≤n∧qo H' b o [str rest,u64 jS,i64 m']∧jS <2 ^ m' ∧m' <40∧m' %8=0∧D.length=j∧toBits D++ (aW jS m' ++toBits rest)=C∧pB H' v 1 (D.map cY)∧(∀k,aV v=some k→H.size≤k)∧oG b o 3 none_ none_ H H',
  fun n1 _ _=>match n1 with| .int _ x=>x.toNat|_=>0,⟨0,acc,m,[],by simp,by omega,hs,ha,hm,h8,rfl,by rw [he];rfl,.inl ⟨rfl,rfl⟩,by simp [aV],c1⟩,?_⟩
 rintro _ _ v H2 ⟨j,jS,m',D,rfl,hj,sP,Wj,Lc,h82,ZQ,hDC,o2,k2,c2⟩;have ae_:8*j+m' =m:=by
  have:=congrArg List.length hDC;rw [ajQ,ajQ,aR,bs,bs,Xd,ZQ] at this;omega
 simp only [ba (sP.cell (k:=2) rfl),bU,bE,ox,vU,ba (sP.cell (k:=1) rfl),eH,ba (sP.cell0 rfl),sZ,cn,xQ,qm,rp,f_,ako];refine fun _=>ax (fun lz=>?_) (fun lz=>?_)
 ·rw [yc]
  refine o2.TV (n:=j) (by decide) rfl rfl rfl (by simp [ZQ]) (by omega) fun v2 H3 o3 i3 s3 k3=>?_;have Xe:aV v≠some b:=fun e=>by have:=k2 b e;omega
  have J3:qo H3 b o [str rest,u64 jS,i64 m']:=sP.same (i3 b sP.lt Xe);have c3:oG b o 3 none_ none_ H H3:= ⟨by have:=c2.size;omega,fun i hi hib _=>by
    rw [i3 i (by have:=c2.size;omega) (fun e=>by have:=k2 i e;omega)];exact c2.ne i hi hib (fun h=>h),fun cs t fr hc=>by
    obtain⟨c',g1,g2⟩:=c2.ll cs t fr hc;exact⟨c',by rw [i3 b sP.lt Xe];exact g1,g2⟩,fun k hk=>hk.elim⟩
  refine xg (k:=8) J3 (by omega) Lc fun H4 Ol c4=>?_;rw [bH (n:=n - (j:Int) - 1) (by omega) (by omega)];refine⟨⟨j+1,jS /2 ^ 8,m' - 8,D++ [UInt8.ofNat (jS %256)],by congr 1;omega,by omega,Ol,Gm Wj (by omega),by omega,by omega,by simp [ZQ],?_,?_,fun k hk=>?_,c3.trans c4⟩,by show (_:Int).toNat< (_:Int).toNat;omega⟩
  ·rw [←hDC,ey,ajT,wN (n:=m') (by omega),ajT]
  ·rw [aky]
   have HK:aV v2≠some b:=fun e=>by
    rcases k3 b e with h' |h'
    ·exact Xe h'
    ·have:=sP.lt;omega
   exact c4.own o3 HK (fun k hk h=>h)
  ·rcases k3 k hk with h' |h'
   ·exact k2 k h'
   ·have:=c2.size;omega
 ·have ff: (o2.sl (by decide)).str (K:=fun z=>True) trivial= (o2.sl (by decide)).str (K:=fun z=>True) trivial:=rfl
  refine Sl.str (o2.sl (by decide)) ?_;simp only [Ky,xO,cn];have PR:rest.length≤9223372036854775807:=by omega
  have ZR:0≤min (n - (j:Int)) (rest.length:Int):=by omega
  refine⟨by omega,by omega,by rw [ajW];omega,by omega,by omega,?_⟩;refine mR (F:=none_) (n:=3) sP rfl (by simp) rfl fun H3 s3 J3 c3=>?_;generalize hq: (min (n - (j:Int)) (rest.length:Int)).toNat=q at*;have Au:j+q=min n.toNat (C.length/8):=by
   by_cases JZ:m' =0
   ·subst JZ;omega
   ·have: (j:Int)=n:=by
     rcases Int.lt_or_eq_of_le hj with h' |h'
     ·exact absurd ⟨by omega,by omega⟩ lz
     ·exact h'
    omega
  have adn:q≠0→m' =0:=fun h0=>by
   rcases alR m' with h' |h'
   ·exact h'
   ·exact absurd ⟨by omega,by omega⟩ lz
  have Tl:q≤rest.length:=by omega
  have KH:C=toBits (D++rest.take q)++ (aW jS m' ++toBits (rest.drop q)):=by
   rw [←hDC,ey,ajT]
   congr 1
   by_cases h0:q=0
   ·subst h0;simp [toBits]
   ·have JZ:=adn h0
    subst JZ;rw [w9,aj4,aj4,←ey,akf]
  have h:=h H3 (j+q) Au ⟨⟨rest.drop q,jS,m',?_,?_,Wj,Lc⟩,by rw [aj1];omega⟩ (c2.trans c3)
  ·have afa:rest=rest:=rfl
   have e1:a7 (C.take (8* (j+q)))=D++rest.take q:=by
    have hl: (toBits (D++rest.take q)).length=8* (j+q):=by rw [bs,ajQ,ajW,ZQ];omega
    rw [KH,←hl,akM (ajR _),aj8,qq]
   rw [e1] at h
   simpa using h
  ·have e2:List.take (rest.length - q) (List.drop q rest)=rest.drop q:=by rw [aj9 (by rw [aj1];omega)]
   rw [e2] at J3;exact J3
  ·have hl: (toBits (D++rest.take q)).length=8* (j+q):=by rw [bs,ajQ,ajW,ZQ];omega
   conv=>lhs;rw [KH]
   rw [←hl,akH (ajR _),alj (ajR _),aj4]
end
section
set_option maxRecDepth 100000
def dZ:Nat→List UInt8→Nat→List UInt8
 |0,b,_=>b
 |k+1,b,d=>dZ k (b++ [b.getD (b.length - d) 0]) d
theorem zC: ∀ (k:Nat) (b:List UInt8) (d:Nat),dZ (k+1) b d=dZ k b d++ [(dZ k b d).getD ((dZ k b d).length - d) 0]
 |0,b,d=>rfl
 |k+1,b,d=>by
  rw [dZ,zC k,←dZ]
theorem wq: ∀ (k:Nat) (b:List UInt8) (d:Nat),(dZ k b d).length=b.length+k
 |0,b,d=>rfl
 |k+1,b,d=>by rw [dZ,wq k];simp;omega
theorem E5: ∀ (k:Nat) (b:List UInt8) (d:Nat),∃t,dZ k b d=b++t∧t.length=k
 |0,b,d=> ⟨[],by simp [dZ],rfl⟩
 |k+1,b,d=>by
  obtain⟨t,h1,h2⟩:=E5 k (b++ [b.getD (b.length - d) 0]) d;exact⟨b.getD (b.length - d) 0::t,by rw [dZ,h1];simp,by simp [h2]⟩
theorem Ld (k:Nat) (b:List UInt8) (d:Nat): (dZ k b d).take b.length=b:=by
 obtain⟨t,h1,h2⟩:=E5 k b d;rw [h1];simp
end
section
set_option maxRecDepth 100000
variable {H:ak} {R:Value→ak→Prop}
structure Tok where
 (b:UInt8) (n d:Int)
abbrev Tok.cells (t:Tok):List Value:= [cY t.b,.int .i64 t.n,.int .i64 t.d]
abbrev Tok.v (t:Tok):Value:= .agg t.cells.toArray
def Tok.obj (t:Tok):Obj:= .cells t.cells.toArray 145 (0,0)
def eu (l:List Tok):List Value:=l.flatMap Tok.cells
theorem l7: ∀l:List Tok,(eu l).length=l.length*3
 | []=>rfl
 |t::r=>by
  have:=l7 r;simp only [eu,alp,ajQ,aj2,aj7] at this ⊢;omega
theorem yn: ∀ (l:List Tok) (i:Nat) (t:Tok),l[i]? =some t→((eu l).drop (i*3)).take 3=t.cells
 | [],i,t,h=>by simp at h
 |u::r,0,t,h=>by
  simp only [akl,ajY] at h;subst h
  simp [eu,Tok.cells]
 |u::r,i+1,t,h=>by
  simp only [akm] at h;have:=yn r i t h;rw [←this];show ((u.cells++eu r).drop ((i+1)*3)).take 3=_;rw [show (i+1)*3=u.cells.length+i*3 by simp [Tok.cells];omega,List.drop_append];simp only [ak3 (show [cY u.b,Value.int IntKind.i64 u.n,Value.int IntKind.i64 u.d].length≤ [cY u.b,Value.int IntKind.i64 u.n,Value.int IntKind.i64 u.d].length+i*3 by omega),aj4];rw [show u.cells.length+i*3 - u.cells.length=i*3 by omega]
def jC (t:Tok):Bool:=if t.n=0 then decide (t.d=0) else decide ((t.b.toNat:Int)=0∧3≤t.n∧t.n≤258∧1≤t.d∧t.d≤32768)
theorem Gn {t:Tok} (h: ∀H',Ext H H' →R (.bool (jC t)) H'):ab Tryz.prog 159 #[t.v] H R:=by
 refine kQ.vc _ _ _ ?_;unfold kQ.res;refine jY fun H1 s1 e1 b1=>?_;have b1:H1[H.size]? =some t.obj:=b1;have h:=h H1 e1;simp only [ag,au,aj6,vd b1,akm,akl,bj,iU,akp,ox,vU,qw];refine ax (fun hc=>?_) (fun hc=>?_)
 ·rw [jC,if_pos hc] at h;exact h
 ·rw [jC,if_neg hc] at h
  intros
  refine MA ?_ h;rw [ala];simp only [decide_eq_true_eq];omega
def ja:List Tok→List UInt8→Option (List UInt8)
 | [],b=>some b
 |t::r,b=>if jC t=true∧t.d≤(b.length:Int) then ja r (dZ t.n.toNat (if t.n=0 then b++ [t.b] else b) t.d.toNat) else none
theorem mY {t:Tok} (h:jC t=true): (t.n=0∧t.d=0)∨(3≤t.n∧t.n≤258∧1≤t.d∧t.d≤32768):=by
 unfold jC at h
 split at h
 ·left;exact⟨by assumption,by simpa using h⟩
 ·right;simp only [decide_eq_true_eq] at h;omega
end
section
set_option maxRecDepth 100000
variable {H:ak} {R:Value→ak→Prop}
def zD:Nat→Int→Int→Nat→Int→Int × Int
 |0,k,a,e,_=> (a+k*2 ^ e,e)
 |f+1,k,a,e,st=>if st≤k then zD f (k - st) (a+st*2 ^ e) (e+1) st else (a+k*2 ^ e,e)
def CJ (k least free st:Int):Int × Int:=if k<free then (least+k,0) else zD 40 (k - free) (least+free) 1 st
theorem CK {k least free st:Int} (hk:0≤k) (D4:k≤31) (hl:0≤least) (Uj:least≤3) (hf:0≤free) (hf2:free≤8) (hs:2≤st) (sP:st≤4)
  (h:R (.tuple #[.int .i64 (CJ k least free st).1,.int .i64 (CJ k least free st).2]) H):ab Tryz.prog 242 #[.int .i64 k,.int .i64 least,.int .i64 free,.int .i64 st] H R:=by
 refine tu.vc _ _ _ _ _ _ ?_;unfold tu.res;simp only [aC,bE,aQ];unfold CJ at h;refine ax (fun hc=>?_) (fun hc=>?_)
 ·rw [if_pos hc] at h
  rw [bH (by omega) (by omega)];exact h
 rw [if_neg hc] at h;rw [bH (by omega) (by omega),bH (by omega) (by omega)];refine⟨fun v a e H' => ∃ (k' a' :Int) (e' f:Nat),v= .int .i64 k' ∧a= .int .i64 a' ∧e= .int .i64 e' ∧H=H' ∧0≤k' ∧k' +e' ≤32∧1≤e' ∧e' +f=41∧0≤a' ∧a' ≤300+32*2 ^ e' ∧zD f k' a' e' st=zD 40 (k - free) (least+free) 1 st,
  fun v _ _ _=>match v with| .int _ i=>i.toNat|_=>0,⟨k - free,least+free,1,40,rfl,rfl,rfl,rfl,by omega,by omega,by omega,by omega,by omega,by omega,rfl⟩,?_⟩
 rintro _ _ _ _ _ ⟨k',a',e',f,rfl,rfl,rfl,rfl,h1,h2,h3,h4,h5,h6,h7⟩;have hP: (1:Int)≤2 ^ e' :=by
  have: (0:Int)<2 ^ e' :=al5 (by decide);omega
 have hP2: (2:Int) ^ e' ≤2 ^ 32:=by
  have: (2:Nat) ^ e' ≤2 ^ 32:=akd (by decide) (by omega)
  exact_mod_cast this
 have ZR:min ((e' :Int)).toNat IntKind.i64.bits=e' :=by
  show min ((e' :Int)).toNat 64=e';omega
 have hkP:k' *2 ^ e' ≤32*2 ^ e' :=anw (by omega) (by omega);have ag4:0≤k' *2 ^ e' :=Int.mul_nonneg h1 (by omega);have hsP:st*2 ^ e' ≤4*2 ^ e' :=anw (by omega) (by omega);have ag5:0≤st*2 ^ e' :=Int.mul_nonneg (by omega) (by omega);simp only [true_and,bE,aC,jg,ZR,iU]
 match f,h4,h7 with
 |0,h4,h7=>omega
 |f+1,h4,h7=>
  have h7: (if st≤k' then zD f (k' - st) (a' +st*2 ^ e') (e' +1) st else (a' +k' *2 ^ e',(e' :Int)))=zD 40 (k - free) (least+free) 1 st:=h7;refine ax (fun lz=>?_) (fun lz=>?_)
  ·rw [if_pos lz] at h7
   refine⟨by omega,?_⟩;rw [bH (n:=st*2 ^ e') (by omega) (by omega),bH (n:=a' +st*2 ^ e') (by omega) (by omega),bH (n:= (e' :Int)+1) (by omega) (by omega),bH (n:=k' - st) (by omega) (by omega)];refine⟨⟨k' - st,a' +st*2 ^ e',e' +1,f,rfl,rfl,rfl,by omega,by omega,by omega,by omega,by omega,?_,h7⟩,by show (_:Int).toNat< (_:Int).toNat;omega⟩;have hpe: (2:Int) ^ (e' +1)=2 ^ e' *2:=Int.pow_succ _ _;rw [hpe];omega
  ·rw [if_neg lz] at h7
   rw [←h7] at h;refine⟨by omega,?_⟩;rw [bH (n:=k' *2 ^ e') (by omega) (by omega),bH (by omega) (by omega)];exact h
def lenOf (s:Int):Int × Int:=if s=285 then (258,0) else CJ (s - 257) 3 8 4
def cu (s:Int):Int × Int:=CJ s 1 4 2
theorem sH {s:Int} (h:R (if s<257∨285<s then .tuple #[.int .i64 0,.int .i64 0,.bool false] else .tuple #[.int .i64 (lenOf s).1,.int .i64 (lenOf s).2,.bool true]) H):ab Tryz.prog 210 #[.int .i64 s] H R:=by
 refine mV.vc _ _ _ ?_;unfold mV.res;simp only [bU,bE,bj,aQ,kA,qk];refine fun _=>ax (fun hc=>?_) (fun hc=>?_)
 ·rw [if_pos hc] at h;exact h
 rw [if_neg hc] at h;refine ax (fun lz=>?_) (fun lz=>?_)
 ·rw [lenOf,if_pos lz] at h;exact h
 ·rw [lenOf,if_neg lz] at h
  rw [bH (by omega) (by omega)];refine CK (by omega) (by omega) (by decide) (by decide) (by decide) (by decide) (by decide) (by decide) ?_;simp only [mI,akm,akl];exact h
theorem Az {s:Int} (h:R (if s<0∨29<s then .tuple #[.int .i64 0,.int .i64 0,.bool false] else .tuple #[.int .i64 (cu s).1,.int .i64 (cu s).2,.bool true]) H):ab Tryz.prog 211 #[.int .i64 s] H R:=by
 refine qT.vc _ _ _ ?_;unfold qT.res;simp only [bU,aQ,kA,qk];refine fun _=>ax (fun hc=>?_) (fun hc=>?_)
 ·rw [if_pos hc] at h;exact h
 rw [if_neg hc] at h;refine CK (by omega) (by omega) (by decide) (by decide) (by decide) (by decide) (by decide) (by decide) ?_;simp only [mI,akm,akl];exact h
def findF (g:Int→Int × Int) (n:Int):Nat→Int→Int
 |0,s=>s
 |k+1,s=>if (g s).1≤n then s else findF g n k (s - 1)
abbrev Uk (s b v:Int):Value:= .agg #[.int .i64 s,.int .i64 b,.int .u64 v]
theorem CL {g:Int→Int × Int} {fv:Value} {n first last:Int} (Ul:first≤last) (h0:0≤first) (h1:last≤1000)
  (hg: ∀ (s:Int) (H:ak) (R:Value→ak→Prop),first≤s→s≤last→R (.tuple #[.int .i64 (g s).1,.int .i64 (g s).2,.bool true]) H→rX Tryz.prog Tryz.C fv [.int .i64 s] H R)
  (h: ∀H',Ext H H' →R (Uk (findF g n (last - first).toNat last) (g (findF g n (last - first).toNat last)).2 (IntKind.u64.wrap (IntKind.i64.wrap (n - (g (findF g n (last - first).toNat last)).1)))) H'):
  ab Tryz.prog 209 #[.int .i64 n,.int .i64 first,.int .i64 last,fv] H R:=by
 refine wg.vc _ _ _ _ _ _ ?_;unfold wg.res;refine jY fun H1 s1 e1 b1=>?_;refine⟨fun v H' => ∃ (s:Int) (k:Nat),v= .int .i64 s∧H1=H' ∧s=first+k∧s≤last∧findF g n k s=findF g n (last - first).toNat last,fun v _=>match v with| .int _ i=> (i - first).toNat|_=>0,⟨last,(last - first).toNat,rfl,rfl,by omega,by omega,rfl⟩,?_⟩;rintro _ _ _ ⟨s,k,rfl,rfl,hs,n_,PT⟩;simp only [fV,oD,akI,aj2,aj7,aj6,Nat.reduceAdd,Nat.reduceLeDiff,List.kB,eN,ak9,iq,bG,true_and,bE,bU];refine ax (fun hc=>?_) (fun hc=>?_)
 ·refine hg s _ _ (by omega) n_ ?_
  simp only [true_and,mI,akm,akl,oD,akI,aj2,aj7,aj6,List.kB,eN,ak1,ak9,Nat.reduceAdd,iq,xP,bE,eH,qw]
  match k,hs,PT with
  |0,hs,PT=>omega
  |k+1,hs,PT=>
   rw [findF] at PT;refine ax (fun lz=>?_) (fun lz=>?_)
   ·rw [if_pos lz] at PT
    refine ei b1 (by rfl) (by rfl) (by rfl) fun H2 _ u2=>?_;rw [eh u2.at_ (by rfl)];have h:=h H2 (u2.ext e1 (ajR _));rw [←PT] at h;exact h
   ·rw [if_neg lz] at PT
    rw [bH (by omega) (by omega)];exact⟨⟨s - 1,k,rfl,by omega,by omega,PT⟩,by show (_:Int).toNat< (_:Int).toNat;omega⟩
 ·refine hg first _ _ (by omega) Ul ?_
  simp only [mI,akm,akl,oD,akI,aj2,aj7,aj6,List.kB,eN,ak1,ak9,Nat.reduceAdd,iq,xP,true_and,bE,eH];have hk:k=0:=by omega
  subst hk;have hsf:s=first:=by omega
  subst hsf;refine ei b1 (by rfl) (by rfl) (by rfl) fun H2 _ u2=>?_;rw [eh u2.at_ (by rfl)];have h:=h H2 (u2.ext e1 (ajR _));rw [←PT] at h;exact h
def my (n:Int):Int:=findF lenOf n 28 285
def mK (n:Int):Int:=findF cu n 29 29
def Om (n:Int):Value:=if n<3∨258<n then Uk 0 0 0 else Uk (my n) (lenOf (my n)).2 (IntKind.u64.wrap (IntKind.i64.wrap (n - (lenOf (my n)).1)))
def E6 (n:Int):Value:=if n<1∨32768<n then Uk 0 0 0 else Uk (mK n) (cu (mK n)).2 (IntKind.u64.wrap (IntKind.i64.wrap (n - (cu (mK n)).1)))
theorem AA {n:Int} (h: ∀H',Ext H H' →R (Om n) H'):ab Tryz.prog 164 #[.int .i64 n] H R:=by
 refine qS.vc _ _ _ ?_;unfold qS.res;refine jY fun H1 s1 e1 b1=>?_;simp only [bU,bG,aQ,kA,qk];refine fun _=>ax (fun hc=>?_) (fun hc=>?_)
 ·refine ei b1 (by rfl) (by rfl) (by rfl) fun H2 _ u2=>?_
  rw [eh u2.at_ (by rfl)];have h:=h H2 (u2.ext e1 (ajR _));rw [Om,if_pos hc] at h;exact h
 ·refine CL (g:=lenOf) (by decide) (by decide) (by decide) (fun s H R mH sP hR=>?_) fun H2 e2=>?_
  ·refine sH ?_
   rw [if_neg (by omega)];exact hR
  ·refine ei (e2.ll b1) (by rfl) (by rfl) (by rfl) fun H3 _ u3=>?_
   rw [eh u3.at_ (by rfl)];have h:=h H3 (u3.ext (e1.trans e2) (ajR _));rw [Om,if_neg hc] at h;exact h
theorem E7 {n:Int} (h: ∀H',Ext H H' →R (E6 n) H'):ab Tryz.prog 165 #[.int .i64 n] H R:=by
 refine we.vc _ _ _ ?_;unfold we.res;refine jY fun H1 s1 e1 b1=>?_;simp only [bU,bG,aQ,kA,qk];refine fun _=>ax (fun hc=>?_) (fun hc=>?_)
 ·refine ei b1 (by rfl) (by rfl) (by rfl) fun H2 _ u2=>?_
  rw [eh u2.at_ (by rfl)];have h:=h H2 (u2.ext e1 (ajR _));rw [E6,if_pos hc] at h;exact h
 ·refine CL (g:=cu) (by decide) (by decide) (by decide) (fun s H R mH sP hR=>?_) fun H2 e2=>?_
  ·refine Az ?_
   rw [if_neg (by omega)];exact hR
  ·refine ei (e2.ll b1) (by rfl) (by rfl) (by rfl) fun H3 _ u3=>?_
   rw [eh u3.at_ (by rfl)];have h:=h H3 (u3.ext (e1.trans e2) (ajR _));rw [E6,if_neg hc] at h;exact h
theorem xh (g:Int→Int × Int) (n:Int): ∀ (k:Nat) (s first:Int),s=first+k→(g first).1≤n→(∀s',s<s' →s' ≤s+1→True)→
  first≤findF g n k s∧findF g n k s≤s∧(g (findF g n k s)).1≤n∧(findF g n k s=s∨n< (g (findF g n k s+1)).1)
 |0,s,first,hs,hf,_=>by
  have:s=first:=by omega
  subst this;exact⟨al9 _,al9 _,hf,.inl rfl⟩
 |k+1,s,first,hs,hf,_=>by
  rw [findF]
  by_cases hc: (g s).1≤n
  ·rw [if_pos hc];exact⟨by omega,al9 _,hc,.inl rfl⟩
  ·rw [if_neg hc]
   obtain⟨h1,h2,h3,h4⟩:=xh g n k (s - 1) first (by omega) hf (fun _ _ _=>trivial);refine⟨h1,by omega,h3,.inr ?_⟩;rcases h4 with h4|h4
   ·rw [h4,show s - 1+1=s by omega];omega
   ·exact h4
theorem On: ∀k:Fin 28,(lenOf (257+ ((k.val:Nat):Int)+1)).1≤(lenOf (257+ ((k.val:Nat):Int))).1+2 ^ (lenOf (257+ ((k.val:Nat):Int))).2.toNat∧0≤(lenOf (257+ ((k.val:Nat):Int))).2∧(lenOf (257+ ((k.val:Nat):Int))).2≤5:=by decide+kernel
theorem Le: ∀k:Fin 30,(k.val<29→(cu (((k.val:Nat):Int)+1)).1≤(cu ((k.val:Nat):Int)).1+2 ^ (cu ((k.val:Nat):Int)).2.toNat)∧0≤(cu ((k.val:Nat):Int)).2∧(cu ((k.val:Nat):Int)).2≤13:=by decide+kernel
theorem uo {n:Int} (h0:3≤n) (h1:n≤258):257≤my n∧my n≤285∧(lenOf (my n)).1≤n∧n< (lenOf (my n)).1+2 ^ (lenOf (my n)).2.toNat∧0≤(lenOf (my n)).2∧(lenOf (my n)).2≤5:=by
 obtain⟨f1,f2,f3,f4⟩:=xh lenOf n 28 285 257 (by decide) (by rw [show (lenOf 257).1=3 by decide+kernel];omega) (fun _ _ _=>trivial);refine⟨f1,f2,f3,?_⟩
 change 257≤my n at f1
 change my n≤285 at f2
 change (lenOf (my n)).1≤n at f3
 change my n=285∨n< (lenOf (my n+1)).1 at f4
 generalize my n=s at*
 by_cases hs:s=285
 ·subst hs
  have e1: (lenOf 285).1=258:=by decide+kernel
  have e2: (lenOf 285).2=0:=by decide+kernel
  rw [e1,e2];exact⟨by simp;omega,by decide,by decide⟩
 ·have hk:=On ⟨(s - 257).toNat,by omega⟩
  dsimp only at hk
  rw [show (257:Int)+ (((s - 257).toNat:Nat):Int)=s by omega] at hk;refine⟨?_,hk.2⟩;rcases f4 with f4|f4<;>omega
theorem uq {n:Int} (h0:1≤n) (h1:n≤32768):0≤mK n∧mK n≤29∧(cu (mK n)).1≤n∧n< (cu (mK n)).1+2 ^ (cu (mK n)).2.toNat∧0≤(cu (mK n)).2∧(cu (mK n)).2≤13:=by
 obtain⟨f1,f2,f3,f4⟩:=xh cu n 29 29 0 (by decide) (by rw [show (cu 0).1=1 by decide+kernel];omega) (fun _ _ _=>trivial);refine⟨f1,f2,f3,?_⟩
 change 0≤mK n at f1
 change mK n≤29 at f2
 change (cu (mK n)).1≤n at f3
 change mK n=29∨n< (cu (mK n+1)).1 at f4
 generalize mK n=s at*;have hk:=Le ⟨s.toNat,by omega⟩
 dsimp only at hk
 rw [show ((s.toNat:Nat):Int)=s by omega] at hk;refine⟨?_,hk.2⟩
 by_cases hs:s=29
 ·subst hs
  have e1: (cu 29).1=24577:=by decide+kernel
  have e2: (cu 29).2=13:=by decide+kernel
  rw [e1,e2];show n<24577+8192;omega
 ·have:=hk.1 (by omega)
  rcases f4 with f4|f4<;>omega
end
section
set_option maxRecDepth 100000
inductive Rs (α:Type) where
 |ok (a:α) (B:List Bool)
 |er (e:Int)
def Rs.bind {α β:Type}:Rs α→(α→List Bool→Rs β)→Rs β
 | .ok a B,f=>f a B
 | .er e,_=> .er e
def gK (n:Nat) (B:List Bool):Rs Nat:=if n≤B.length then .ok (lE (B.take n)) (B.drop n) else .er 2
open Classical in
noncomputable def iX (zs:List Int) (B:List Bool):Rs Nat:=
 if h: ∃s,hit (natL zs) B s then .ok h.choose (B.drop ((natL zs).getD h.choose 0)) else .er (if more (natL zs) (B.take 15) then 2 else 4)
def wF (s:Nat) (ah:List Int) (B:List Bool):Rs (Nat × Int):=
 if s=16 then (if ah= [] then .er 3 else (gK 2 B).bind fun n B=> .ok (3+n,ah.getD (ah.length - 1) 0) B)
 else if s=17 then (gK 3 B).bind fun n B=> .ok (3+n,0) B
 else if s=18 then (gK 7 B).bind fun n B=> .ok (11+n,0) B
 else .ok (1,(s:Int)) B
noncomputable def rC:Nat→List Int→Nat→List Int→List Bool→Rs (List Int)
 |0,_,_,_,_=> .er 1
 |k+1,zs,n,out,B=>if n≤out.length then .ok out B else
  (iX zs B).bind fun s B1=> (wF s out B1).bind fun r B2=>
  if n<out.length+r.1 then .er 20 else rC k zs n (out++List.replicate r.1 r.2) B2
def cz:List Nat:= [16,17,18,0,8,7,9,6,10,5,11,4,12,3,13,2,14,1,15]
def se:List Nat→List Int→List Bool→Rs (List Int)
 | [],l,B=> .ok l B
 |s::r,l,B=> (gK 3 B).bind fun v B=>se r (l.set s (v:Int)) B
noncomputable def xi (B:List Bool):Rs (List Int × List Int):=
 (gK 14 B).bind fun v B=>
 if 286<v%32+257∨30<v/32%32+1 then .er 20 else
 (se (cz.take (v/1024+4)) (List.replicate 19 0) B).bind fun t B=>
 if lY t false≠0 then .er (lY t false) else
 (rC (v%32+257+ (v/32%32+1)+1) t (v%32+257+ (v/32%32+1)) [] B).bind fun l B=>
 if l.getD 256 0=0 then .er 12 else
 if lY (l.take (v%32+257)) false≠0 then .er (lY (l.take (v%32+257)) false) else
 if lY (l.drop (v%32+257)) true≠0 then .er (lY (l.drop (v%32+257)) true) else
 .ok (l.take (v%32+257),l.drop (v%32+257)) B
def lI:List Int:=List.replicate 144 8++List.replicate 112 9++List.replicate 24 7++List.replicate 8 8
def sI:List Int:=List.replicate 32 5
inductive St where
 |hd
 |cp (left:Nat) (last:Bool)
 |tl (sy di:List Int) (last:Bool)
 |dn
structure DM where
 (st:St) (B:List Bool) (W:List UInt8)
def eZ (B:List Bool):List Bool:=B.drop (B.length%8)
def ml (last:Bool) (B:List Bool) (W:List UInt8):DM:=if last then ⟨.dn,eZ B,W⟩ else ⟨.hd,B,W⟩
noncomputable def j6 (B:List Bool):Rs St:= (gK 3 B).bind fun v B=>
 if v/2=0 then (gK 32 (eZ B)).bind fun x B=>if (x%65536) ^^^ (x/65536)≠65535 then .er 8 else .ok (.cp (x%65536) (decide (v%2=1))) B
 else if v/2=1 then .ok (.tl lI sI (decide (v%2=1))) B
 else if v/2=2 then (xi B).bind fun p B=> .ok (.tl p.1 p.2 (decide (v%2=1))) B
 else .er 3
noncomputable def jL (di:List Int) (s:Nat) (B:List Bool):Rs (Nat × Nat):=
 if 285<s then .er 4 else
 (gK (lenOf s).2.toNat B).bind fun x B=> (iX di B).bind fun k B=>
 if 29<k then .er 4 else (gK (cu k).2.toNat B).bind fun y B=> .ok ((lenOf s).1.toNat+x,(cu k).1.toNat+y) B
inductive SR where
 |go (D:DM) (o:List UInt8)
 |wait (D:DM) (o:List UInt8)
 |bad (e:Int)
def SR.of (D:DM) (e:Int):SR:=if e=2 then .wait D [] else .bad e
noncomputable def dd (D:DM):SR:=match D.st with
 | .hd=>match j6 D.B with
  | .ok st B=> .go ⟨st,B,D.W⟩ []
  | .er e=>SR.of D e
 | .cp left last=>
  if min left ((eZ D.B).length/8)<left then .wait ⟨.cp (left - min left ((eZ D.B).length/8)) last,(eZ D.B).drop (8*min left ((eZ D.B).length/8)),D.W++a7 ((eZ D.B).take (8*min left ((eZ D.B).length/8)))⟩ (a7 ((eZ D.B).take (8*min left ((eZ D.B).length/8))))
  else .go (ml last ((eZ D.B).drop (8*left)) (D.W++a7 ((eZ D.B).take (8*left)))) (a7 ((eZ D.B).take (8*left)))
 | .tl sy di last=>match iX sy D.B with
  | .er e=>SR.of D e
  | .ok s B=>if s=256 then .go (ml last B D.W) [] else
   if s<256 then .go ⟨.tl sy di last,B,D.W++ [UInt8.ofNat s]⟩ [UInt8.ofNat s] else
   match jL di s B with
   | .er e=>SR.of D e
   | .ok p B=>if 1≤p.2∧p.2≤min D.W.length 32768 then .go ⟨.tl sy di last,B,dZ p.1 D.W p.2⟩ ((dZ p.1 D.W p.2).drop D.W.length) else .bad 6
 | .dn=> .wait D []
def St.mm:St→Bool
 | .dn=>true
 |_=>false
noncomputable def runM:Nat→DM→List UInt8 × DM × Int
 |0,D=> ([],D,0)
 |k+1,D=>if D.st.mm then ([],D,0) else match dd D with
  | .go D' o=> (o++ (runM k D').1,(runM k D').2)
  | .wait D' o=> (o,D',0)
  | .bad e=> ([],D,e)
def rQ (D:DM):Nat:=2*D.B.length+ (match D.st with| .cp _ _=>1|_=>0)
noncomputable def run (D:DM):List UInt8 × DM × Int:=runM (rQ D+1) D
theorem Rt {n:Nat} {B:List Bool} {x:Nat} {C:List Bool} (h:gK n B= .ok x C):n≤B.length∧x=lE (B.take n)∧C=B.drop n:=by
 unfold gK at h
 split at h
 ·cases h;exact⟨by assumption,rfl,rfl⟩
 ·cases h
structure Rs.less {α:Type} (r:Rs α) (n:Nat):Prop where
 h:match r with
  | .ok _ C=>C.length≤n
  | .er e=>e≠0
theorem Rs.less.mono {α:Type} {r:Rs α} {n m:Nat} (h:r.less n) (hm:n≤m):r.less m:=by
 cases r with
 |ok a B=>exact⟨akk h.h hm⟩
 |er e=>exact⟨h.h⟩
theorem Rs.less.seq {α β:Type} {r:Rs α} {f:α→List Bool→Rs β} {n m:Nat} (h:r.less n) (hf: ∀a C,C.length≤n→(f a C).less m): (r.bind f).less m:=by
 cases r with
 |ok a B=>exact hf a B h.h
 |er e=>exact⟨h.h⟩
theorem lr {α:Type} {e:Int} {n:Nat} (h:e≠0): (Rs.er e:Rs α).less n:= ⟨h⟩
theorem l8 {α:Type} {x:α} {B:List Bool} {n:Nat} (h:B.length≤n): (Rs.ok x B).less n:= ⟨h⟩
theorem ku {k n:Nat} {B:List Bool} (h:B.length - k≤n): (gK k B).less n:=by
 unfold gK
 split
 ·exact l8 (by rw [aj1];exact h)
 ·exact lr (by decide)
theorem xj {zs:List Int} {B:List Bool}: (iX zs B).less (B.length - 1):=by
 unfold iX
 split
 ·rename_i hh
  have:=hh.choose_spec;have h1:=this.2.1;exact l8 (by rw [aj1];omega)
 ·exact lr (by split<;>decide)
theorem Oo {s:Nat} {ah:List Int} {B:List Bool}: (wF s ah B).less B.length:=by
 unfold wF
 split
 ·split
  ·exact lr (by decide)
  ·exact(ku (n:=B.length) (by omega)).seq fun a C h=>l8 h
 split
 ·exact(ku (n:=B.length) (by omega)).seq fun a C h=>l8 h
 split
 ·exact(ku (n:=B.length) (by omega)).seq fun a C h=>l8 h
 ·exact l8 (ajR _)
theorem CM: ∀ (k:Nat) (zs:List Int) (n:Nat) (out:List Int) (B:List Bool),(rC k zs n out B).less B.length
 |0,_,_,_,_=>lr (by decide)
 |k+1,zs,n,out,B=>by
  unfold rC
  split
  ·exact l8 (ajR _)
  ·refine xj.seq fun s C h=>Oo.seq fun r E h2=>?_
   split
   ·exact lr (by decide)
   ·exact(CM k _ _ _ _).mono (by omega)
theorem CN: ∀ (r:List Nat) (l:List Int) (B:List Bool),(se r l B).less B.length
 | [],_,_=>l8 (ajR _)
 |s::r,l,B=> (ku (n:=B.length) (by omega)).seq fun v C h=> (CN r _ _).mono h
theorem Oq {B:List Bool}: (xi B).less B.length:=by
 unfold xi;refine(ku (n:=B.length) (by omega)).seq fun v C h=>?_
 split
 ·exact lr (by decide)
 refine((CN _ _ C).mono h).seq fun t E h2=>?_
 split
 ·exact lr (by assumption)
 refine((CM _ _ _ _ E).mono h2).seq fun l F h3=>?_
 split
 ·exact lr (by decide)
 split
 ·exact lr (by assumption)
 split
 ·exact lr (by assumption)
 ·exact l8 h3
theorem ur (B:List Bool): (eZ B).length≤B.length∧(eZ B).length=B.length - B.length%8:=by unfold eZ;rw [aj1];omega
theorem Lf {B:List Bool}: (j6 B).less (B.length - 3):=by
 unfold j6;refine(ku (n:=B.length - 3) (by omega)).seq fun v C h=>?_;have:=ur C
 split
 ·refine(ku (n:=B.length - 3) (by omega)).seq fun x E h2=>?_
  split
  ·exact lr (by decide)
  ·exact l8 h2
 split
 ·exact l8 h
 split
 ·exact(Oq.mono h).seq fun p E h2=>l8 h2
 ·exact lr (by decide)
theorem AB {B:List Bool} {st:St} {C:List Bool} (h:j6 B= .ok st C):C.length+3≤B.length:=by
 have h1:=Lf (B:=B);rw [h] at h1;unfold j6 gK at h
 split at h
 ·have h1:C.length≤B.length - 3:=h1.h
  omega
 ·cases h
theorem zE {zs:List Int} {B:List Bool} {s:Nat} {C:List Bool} (h:iX zs B= .ok s C):C.length+1≤B.length:=by
 have h1:=xj (zs:=zs) (B:=B);rw [h] at h1;have h1:C.length≤B.length - 1:=h1.h;unfold iX at h
 split at h
 ·rename_i hh
  have g:=hh.choose_spec;have:=ym g;have:=g.2.1;omega
 ·cases h
theorem AD {di:List Int} {s:Nat} {B:List Bool}: (jL di s B).less B.length:=by
 unfold jL
 split
 ·exact lr (by decide)
 refine(ku (n:=B.length) (by omega)).seq fun x C h=>?_;refine(xj.mono (show C.length - 1≤B.length by omega)).seq fun k E h2=>?_
 split
 ·exact lr (by decide)
 ·exact(ku (n:=B.length) (by omega)).seq fun y F h3=>l8 h3
theorem E8 (last:Bool) (B:List Bool) (W:List UInt8):rQ (ml last B W)≤2*B.length:=by
 unfold ml rQ;have:=ur B
 split<;>simp<;>omega
theorem qX {D D' :DM} {o:List UInt8} (h:dd D= .go D' o):rQ D' <rQ D:=by
 obtain⟨st,B,W⟩:=D;unfold dd at h
 cases st with
 |hd=>
  dsimp only at h
  split at h
  ·rename_i st C hh
   cases h
   have:=AB hh;unfold rQ
   dsimp only
   split<;>omega
  ·unfold SR.of at h;split at h<;>cases h
 |cp left last=>
  dsimp only at h
  split at h
  ·cases h
  ·cases h
   have:=E8 last ((eZ B).drop (8*left)) (W++a7 ((eZ B).take (8*left)));have h2:=ur B;rw [aj1] at this;unfold rQ at this ⊢
   dsimp only at this ⊢
   omega
 |tl sy di last=>
  dsimp only at h
  split at h
  ·unfold SR.of at h;split at h<;>cases h
  ·rename_i s C hh
   have h1:=zE hh
   split at h
   ·cases h
    have:=E8 last C W;unfold rQ at this ⊢
    dsimp only at this ⊢
    omega
   split at h
   ·cases h
    unfold rQ
    dsimp only
    omega
   ·split at h
    ·unfold SR.of at h;split at h<;>cases h
    ·rename_i p E hm
     have h2:=AD (di:=di) (s:=s) (B:=C);rw [hm] at h2;have h2:E.length≤C.length:=h2.h
     split at h
     ·cases h
      unfold rQ
      dsimp only
      omega
     ·cases h
 |dn=>cases h
theorem Ip: ∀ (k:Nat) (D:DM),rQ D<k→runM k D=run D:=by
 have key: ∀ (k j:Nat) (D:DM),rQ D<k→rQ D<j→runM k D=runM j D:=by
  intro k
  induction k with
  |zero=>intro j D h;omega
  |succ k ih=>
   intro j D h hj
   cases j with
   |zero=>omega
   |succ j=>
    unfold runM
    split
    ·rfl
    ·split
     ·rename_i D' o hs
      have:=qX hs;rw [ih j D' (by omega) (by omega)]
     ·rfl
     ·rfl
 exact fun k D h=>key k _ D h (by omega)
theorem vr {D D' :DM} {o:List UInt8} (h:dd D= .go D' o):run D= (o++ (run D').1,(run D').2):=by
 have hn:D.st.mm=false:=by
  obtain⟨st,B,W⟩:=D
  cases st<;>first|rfl|cases h
 have:=qX h
 conv=>lhs;unfold run runM
 rw [hn,h];simp only [akS,if_false];rw [Ip _ _ this]
theorem rD {D D' :DM} {o:List UInt8} (hn:D.st.mm=false) (h:dd D= .wait D' o):run D= (o,D',0):=by
 conv=>lhs;unfold run runM
 rw [hn,h];rfl
theorem yo {D:DM} {e:Int} (hn:D.st.mm=false) (h:dd D= .bad e):run D= ([],D,e):=by
 conv=>lhs;unfold run runM
 rw [hn,h];rfl
theorem xk {D:DM} (hn:D.st.mm=true):run D= ([],D,0):=by
 conv=>lhs;unfold run runM
 rw [hn];rfl
end
section
set_option maxRecDepth 100000
variable {α β:Type} {B C:List Bool} {zs:List Int}
structure Rs.Ex (r r' :Rs α) (C:List Bool):Prop where
 h:match r with
  | .ok a B=>r' = .ok a (B++C)
  | .er e=>e=2∨r' = .er e
theorem Rs.Ex.seq {r r' :Rs α} {f g:α→List Bool→Rs β} (h:r.Ex r' C) (hf: ∀a B,(f a B).Ex (g a (B++C)) C): (r.bind f).Ex (r'.bind g) C:=by
 obtain⟨h⟩:=h
 cases r with
 |ok a B=>dsimp only at h;subst h;exact hf a B
 |er e=>
  refine⟨?_⟩;rcases h with h|h
  ·exact .inl h
  ·subst h;exact .inr rfl
theorem tB {a:α}: (Rs.ok a B).Ex (.ok a (B++C)) C:= ⟨rfl⟩
theorem tC {e:Int}: (Rs.er e:Rs α).Ex (.er e) C:= ⟨.inr rfl⟩
theorem nO {n:Nat}: (gK n B).Ex (gK n (B++C)) C:=by
 unfold gK
 by_cases h:n≤B.length
 ·rw [if_pos h,if_pos (by rw [ajQ];omega),akM h,akH h]
  exact tB
 ·rw [if_neg h]
  exact⟨.inl rfl⟩
def wP (zs:List Int):Prop:=okZ zs∧shareL (natL zs) 15≤32768
theorem wu (hz:wP zs) {s:Nat} (h:hit (natL zs) B s):iX zs B= .ok s (B.drop ((natL zs).getD s 0)):=by
 have hh: ∃s,hit (natL zs) B s:= ⟨s,h⟩;unfold iX;rw [dif_pos hh,Ui hz.2 (CF hz.1) hh.choose_spec h]
theorem Um {ls:List Nat} {s:Nat} (h:hit ls B s):hit ls (B++C) s:=
 ⟨h.1,h.2.1,by rw [akM (ym h)];exact h.2.2⟩
theorem CO (hz:wP zs): (iX zs B).Ex (iX zs (B++C)) C:=by
 have hle:=CF hz.1
 by_cases h: ∃s,hit (natL zs) B s
 ·obtain⟨s,h⟩:=h
  rw [wu hz h,wu hz (Um h),akH (ym h)];exact tB
 ·by_cases hm:more (natL zs) (B.take 15)
  ·unfold iX
   rw [dif_neg h,if_pos hm];exact⟨.inl rfl⟩
  ·have key: ∀s,s< (natL zs).length→B.length< (natL zs).getD s 0→(gY (natL zs) s).take B.length=B→False:=by
    intro s h1 h2 h3;have:=wo hle s;refine hm ⟨s,h1,?_,?_⟩
    ·rw [ajW];omega
    ·rw [aj9 (by omega:B.length≤15)];exact h3
   have Ah: ¬ ∃s,hit (natL zs) (B++C) s:=by
    rintro⟨s,g⟩
    by_cases hl: (natL zs).getD s 0≤B.length
    ·exact h ⟨s,g.1,g.2.1,by rw [←g.2.2,akM hl]⟩
    ·refine key s g.1 (by omega) ?_
     rw [←g.2.2,akQ,aks (by omega),akM (ajR _),aj8]
   have Lc: ¬more (natL zs) ((B++C).take 15):=by
    rintro⟨s,g1,g2,g3⟩
    by_cases hb:15≤B.length
    ·rw [akM hb] at g2 g3
     exact hm ⟨s,g1,g2,g3⟩
    ·rw [ajW,ajQ] at g2
     refine key s g1 (by omega) ?_;have:=congrArg (List.take B.length) g3;rw [akQ,ajW,ajQ,aks (by omega),akQ,aks (by omega),akM (ajR _),aj8] at this;exact this
   unfold iX;rw [dif_neg h,dif_neg Ah,if_neg hm,if_neg Lc];exact tC
theorem Un {s:Nat} {ah:List Int}: (wF s ah B).Ex (wF s ah (B++C)) C:=by
 unfold wF
 split
 ·split
  ·exact tC
  ·exact nO.seq fun _ _=>tB
 split
 ·exact nO.seq fun _ _=>tB
 split
 ·exact nO.seq fun _ _=>tB
 ·exact tB
theorem Iq (hz:wP zs): ∀ (k n:Nat) (out:List Int) (B:List Bool),(rC k zs n out B).Ex (rC k zs n out (B++C)) C
 |0,_,_,_=>tC
 |k+1,n,out,B=>by
  unfold rC
  split
  ·exact tB
  ·refine(CO hz).seq fun s B1=>Un.seq fun r B2=>?_
   split
   ·exact tC
   ·exact Iq hz k _ _ _
theorem Ir: ∀ (r:List Nat) (l:List Int) (B:List Bool),(se r l B).Ex (se r l (B++C)) C
 | [],_,_=>tB
 |s::r,l,B=>by unfold se;exact nO.seq fun v B=>Ir r _ _
theorem yp {loose:Bool} (h:lY zs loose=0):wP zs:=by
 by_cases hz:okZ zs
 ·exact⟨hz,Oh hz h⟩
 ·rw [Rb hz] at h;exact absurd h (by decide)
theorem Uo: (xi B).Ex (xi (B++C)) C:=by
 unfold xi;refine nO.seq fun v B=>?_
 split
 ·exact tC
 refine(Ir _ _ _).seq fun t B=>?_
 split
 ·exact tC
 rename_i ht
 refine(Iq (yp (amP.1 ht)) _ _ _ _).seq fun l B=>?_
 split
 ·exact tC
 split
 ·exact tC
 split
 ·exact tC
 ·exact tB
theorem Gp (hC:C.length%8=0):eZ (B++C)=eZ B++C:=by
 unfold eZ;rw [ajQ,show (B.length+C.length) %8=B.length%8 by omega,akH (by omega)]
theorem Ru (hC:C.length%8=0): (j6 B).Ex (j6 (B++C)) C:=by
 unfold j6;refine nO.seq fun v B=>?_
 split
 ·rw [Gp hC]
  refine nO.seq fun x B=>?_
  split
  ·exact tC
  ·exact tB
 split
 ·exact tB
 split
 ·exact Uo.seq fun p B=>tB
 ·exact tC
theorem Ot {di:List Int} (hz:wP di) {s:Nat}: (jL di s B).Ex (jL di s (B++C)) C:=by
 unfold jL
 split
 ·exact tC
 refine nO.seq fun x B=> (CO hz).seq fun k B=>?_
 split
 ·exact tC
 ·exact nO.seq fun y B=>tB
def Gq:St→Prop
 | .tl sy di _=>wP sy∧wP di
 |_=>True
structure Rs.J4 (r:Rs α) (P:α→Prop):Prop where
 h:match r with
  | .ok a _=>P a
  | .er _=>True
theorem Rs.J4.bind {r:Rs α} {f:α→List Bool→Rs β} {P:β→Prop} (hf: ∀a B,(f a B).J4 P): (r.bind f).J4 P:=by
 cases r with
 |ok a B=>exact hf a B
 |er e=>exact⟨trivial⟩
theorem sJ {P:α→Prop} {e:Int}: (Rs.er e:Rs α).J4 P:= ⟨trivial⟩
theorem xl {P:α→Prop} {a:α} (h:P a): (Rs.ok a B).J4 P:= ⟨h⟩
theorem Rv: (xi B).J4 fun p=>wP p.1∧wP p.2:=by
 unfold xi;refine Rs.J4.bind fun v B=>?_
 split
 ·exact sJ
 refine Rs.J4.bind fun t B=>?_
 split
 ·exact sJ
 refine Rs.J4.bind fun l B=>?_
 split
 ·exact sJ
 split
 ·exact sJ
 rename_i h1
 split
 ·exact sJ
 rename_i h2
 exact xl ⟨yp (amP.1 h1),yp (amP.1 h2)⟩
theorem Bv:wP lI:= ⟨⟨by decide+kernel,by decide+kernel⟩,by decide+kernel⟩
theorem Bw:wP sI:= ⟨⟨by decide+kernel,by decide+kernel⟩,by decide+kernel⟩
theorem Ou: (j6 B).J4 Gq:=by
 unfold j6;refine Rs.J4.bind fun v B=>?_
 split
 ·refine Rs.J4.bind fun x B=>?_
  split
  ·exact sJ
  ·exact xl trivial
 split
 ·exact xl ⟨Bv,Bw⟩
 split
 ·have:=Rv (B:=B)
  cases hd:xi B with
  |ok p E=>rw [hd] at this;exact xl this.h
  |er e=>exact sJ
 ·exact sJ
theorem MW (last:Bool) (B:List Bool) (W:List UInt8):Gq (ml last B W).st:=by unfold ml;split<;>trivial
theorem step_ok {D D' :DM} {o:List UInt8} (hs:Gq D.st) (h:dd D= .go D' o∨dd D= .wait D' o):Gq D'.st:=by
 obtain⟨st,B,W⟩:=D;unfold dd at h
 cases st with
 |hd=>
  dsimp only at h
  have:=Ou (B:=B)
  split at h
  ·rename_i st C hh
   rw [hh] at this;rcases h with h|h<;>cases h
   exact this.h
  ·unfold SR.of at h
   split at h<;>rcases h with h|h<;>cases h
   exact hs
 |cp left last=>
  dsimp only at h
  split at h
  ·rcases h with h|h<;>cases h
   trivial
  ·rcases h with h|h<;>cases h
   exact MW ..
 |tl sy di last=>
  dsimp only at h
  split at h
  ·unfold SR.of at h
   split at h<;>rcases h with h|h<;>cases h
   exact hs
  ·split at h
   ·rcases h with h|h<;>cases h
    exact MW ..
   split at h
   ·rcases h with h|h<;>cases h
    exact hs
   ·split at h
    ·unfold SR.of at h
     split at h<;>rcases h with h|h<;>cases h
     exact hs
    ·split at h<;>rcases h with h|h<;>cases h
     exact hs
 |dn=>
  rcases h with h|h<;>cases h
  exact hs
theorem Rw: ∀ (n:Nat) (D:DM),rQ D<n→Gq D.st→Gq (run D).2.1.st
 |0,D,h,_=>by omega
 |n+1,D,h,hs=>by
  by_cases hd:D.st.mm=true
  ·rw [xk hd];exact hs
  ·have hd:D.st.mm=false:=by simpa using hd
   cases ff:dd D with
   |go D' o=>
    have:=qX ff;rw [vr ff];exact Rw n D' (by omega) (step_ok hs (.inl ff))
   |wait D' o=>rw [rD hd ff];exact step_ok hs (.inr ff)
   |bad e=>rw [yo hd ff];exact hs
def DM.add (D:DM) (C:List Bool):DM:= ⟨D.st,D.B++C,D.W⟩
theorem AE {x y:List Bool} (h:x.length%8=0):a7 (x++y)=a7 x++a7 y:=by
 obtain⟨n,hn⟩: ∃n,x.length=8*n:= ⟨x.length/8,by omega⟩
 induction n generalizing x with
 |zero=>
  have:x= []:=amt.1 (by omega);subst this;rfl
 |succ n ih=>
  have e:x=x.take 8++x.drop 8:= (akf 8 x).symm;have h8: (x.take 8).length=8:=by rw [ajW];omega
  have hd: (x.drop 8).length=8*n:=by rw [aj1];omega
  rw [e,ajT,nL h8,nL h8,ih (by omega) hd]
  rfl
theorem Iu (hC:C.length%8=0) (last:Bool) (B:List Bool) (W:List UInt8):ml last (B++C) W= (ml last B W).add C:=by
 unfold ml DM.add
 cases last<;>simp [Gp hC]
theorem Rx {D:DM} {e:Int}: (SR.of D e= .wait D []∧e=2)∨SR.of D e= .bad e:=by
 unfold SR.of;split
 ·exact .inl ⟨rfl,by assumption⟩
 ·exact .inr rfl
theorem Ry (hC:C.length%8=0) {D:DM} (hs:Gq D.st) (hd:D.st.mm=false):match dd D with
  | .go D' o=>dd (D.add C)= .go (D'.add C) o
  | .bad e=>dd (D.add C)= .bad e
  | .wait D' o=> (run (D.add C))= (o++ (run (D'.add C)).1,(run (D'.add C)).2):=by
 obtain⟨st,B,W⟩:=D
 cases st with
 |hd=>
  have hx:=Ru (B:=B) hC;have e1:dd ⟨.hd,B,W⟩=match j6 B with| .ok st B=> .go ⟨st,B,W⟩ [] | .er e=>SR.of ⟨.hd,B,W⟩ e:=rfl
  have e2:dd (DM.add ⟨.hd,B,W⟩ C)=match j6 (B++C) with| .ok st B=> .go ⟨st,B,W⟩ [] | .er e=>SR.of ⟨.hd,B++C,W⟩ e:=rfl
  rw [e1]
  cases hh:j6 B with
  |ok st E=>
   rw [hh] at hx;have hx:=hx.h
   dsimp only at hx ⊢
   rw [e2,hx];rfl
  |er e=>
   rw [hh] at hx
   dsimp only
   rcases Rx (D:= ⟨.hd,B,W⟩) (e:=e) with ⟨g,-⟩ |g
   ·rw [g];simp
   ·rw [g]
    dsimp only
    have d_:e≠2:=by
     intro he;subst he;unfold SR.of at g;rw [if_pos rfl] at g;cases g
    have hx:=hx.h.resolve_left d_;rw [e2,hx];show SR.of _ e=_;unfold SR.of;rw [if_neg d_]
 |cp left last=>
  have ze:=ur B;have ha8: (eZ B).length%8=0:=by omega
  obtain⟨k,hk⟩: ∃k,(eZ B).length=8*k:= ⟨(eZ B).length/8,by omega⟩;obtain⟨m,hm⟩: ∃m,C.length=8*m:= ⟨C.length/8,by omega⟩;have hx: (eZ B++C).length=8* (k+m):=by rw [ajQ];omega
  have e1:dd ⟨.cp left last,B,W⟩=if min left ((eZ B).length/8)<left then .wait ⟨.cp (left - min left ((eZ B).length/8)) last,(eZ B).drop (8*min left ((eZ B).length/8)),W++a7 ((eZ B).take (8*min left ((eZ B).length/8)))⟩ (a7 ((eZ B).take (8*min left ((eZ B).length/8))))
    else .go (ml last ((eZ B).drop (8*left)) (W++a7 ((eZ B).take (8*left)))) (a7 ((eZ B).take (8*left))):=rfl
  have e2:dd (DM.add ⟨.cp left last,B,W⟩ C)=if min left ((eZ (B++C)).length/8)<left then .wait ⟨.cp (left - min left ((eZ (B++C)).length/8)) last,(eZ (B++C)).drop (8*min left ((eZ (B++C)).length/8)),W++a7 ((eZ (B++C)).take (8*min left ((eZ (B++C)).length/8)))⟩ (a7 ((eZ (B++C)).take (8*min left ((eZ (B++C)).length/8))))
    else .go (ml last ((eZ (B++C)).drop (8*left)) (W++a7 ((eZ (B++C)).take (8*left)))) (a7 ((eZ (B++C)).take (8*left))):=rfl
  rw [Gp hC,hx] at e2;rw [e1,hk,amQ _ (by decide)];rw [amQ _ (by decide)] at e2
  by_cases hl:left≤k
  ·rw [if_neg (by omega)]
   dsimp only
   rw [e2,if_neg (by omega),akH (by omega),akM (by omega),Iu hC]
  ·rw [if_pos (by omega),amR (by omega)]
   dsimp only
   rw [alj (by omega: (eZ B).length≤8*k),aj9 (by omega: (eZ B).length≤8*k)];have hac:eZ C=C:=by unfold eZ;rw [hC];rfl
   have e3:dd (DM.add ⟨.cp (left - k) last,[],W++a7 (eZ B)⟩ C)=if min (left - k) ((eZ C).length/8)<left - k then .wait ⟨.cp (left - k - min (left - k) ((eZ C).length/8)) last,(eZ C).drop (8*min (left - k) ((eZ C).length/8)),W++a7 (eZ B)++a7 ((eZ C).take (8*min (left - k) ((eZ C).length/8)))⟩ (a7 ((eZ C).take (8*min (left - k) ((eZ C).length/8))))
    else .go (ml last ((eZ C).drop (8* (left - k))) (W++a7 (eZ B)++a7 ((eZ C).take (8* (left - k))))) (a7 ((eZ C).take (8* (left - k)))):=rfl
   rw [hac,hm,amQ _ (by decide)] at e3
   by_cases Uj:left≤k+m
   ·rw [if_neg (by omega)] at e2 e3
    have d1: (eZ B++C).drop (8*left)=C.drop (8* (left - k)):=by
     rw [List.drop_append,alj (by omega),aj4,hk];congr 1;omega
    have t1: (eZ B++C).take (8*left)=eZ B++C.take (8* (left - k)):=by
     rw [List.take_append,aj9 (by omega),hk];congr 2;omega
    rw [d1,t1,AE ha8] at e2;rw [vr e2,vr e3];simp only [ajT]
   ·rw [if_pos (by omega),amR (by omega)] at e2 e3
    rw [alj (by omega),aj9 (by omega)] at e2 e3;rw [AE ha8] at e2;rw [rD rfl e2,rD rfl e3];simp only [ajT];rw [show left - k - m=left - (k+m) by omega]
 |tl sy di last=>
  have hx:=CO (B:=B) (C:=C) hs.1;have e1:dd ⟨.tl sy di last,B,W⟩=match iX sy B with
   | .er e=>SR.of ⟨.tl sy di last,B,W⟩ e
   | .ok s B2=>if s=256 then .go (ml last B2 W) [] else if s<256 then .go ⟨.tl sy di last,B2,W++ [UInt8.ofNat s]⟩ [UInt8.ofNat s] else match jL di s B2 with
    | .er e=>SR.of ⟨.tl sy di last,B,W⟩ e
    | .ok p B2=>if 1≤p.2∧p.2≤min W.length 32768 then .go ⟨.tl sy di last,B2,dZ p.1 W p.2⟩ ((dZ p.1 W p.2).drop W.length) else .bad 6:=rfl
  have e2:dd (DM.add ⟨.tl sy di last,B,W⟩ C)=match iX sy (B++C) with
   | .er e=>SR.of ⟨.tl sy di last,B++C,W⟩ e
   | .ok s B2=>if s=256 then .go (ml last B2 W) [] else if s<256 then .go ⟨.tl sy di last,B2,W++ [UInt8.ofNat s]⟩ [UInt8.ofNat s] else match jL di s B2 with
    | .er e=>SR.of ⟨.tl sy di last,B++C,W⟩ e
    | .ok p B2=>if 1≤p.2∧p.2≤min W.length 32768 then .go ⟨.tl sy di last,B2,dZ p.1 W p.2⟩ ((dZ p.1 W p.2).drop W.length) else .bad 6:=rfl
  rw [e1];have qI: ∀ {e:Int},(e≠2→dd (DM.add ⟨.tl sy di last,B,W⟩ C)=SR.of ⟨.tl sy di last,B++C,W⟩ e)→match SR.of ⟨.tl sy di last,B,W⟩ e with
    | .go D' o=>dd (DM.add ⟨.tl sy di last,B,W⟩ C)= .go (D'.add C) o
    | .bad e=>dd (DM.add ⟨.tl sy di last,B,W⟩ C)= .bad e
    | .wait D' o=> (run (DM.add ⟨.tl sy di last,B,W⟩ C))= (o++ (run (D'.add C)).1,(run (D'.add C)).2):=by
   intro e h;rcases Rx (D:= ⟨.tl sy di last,B,W⟩) (e:=e) with ⟨g,-⟩ |g
   ·rw [g];simp
   ·rw [g]
    dsimp only
    have d_:e≠2:=by
     intro he;subst he;unfold SR.of at g;rw [if_pos rfl] at g;cases g
    rw [h d_];unfold SR.of;rw [if_neg d_]
  cases hn:iX sy B with
  |er e=>
   rw [hn] at hx
   dsimp only
   refine qI fun d_=>?_;rw [e2,hx.h.resolve_left d_]
  |ok s E=>
   rw [hn] at hx;have hx:=hx.h
   dsimp only at hx ⊢
   rw [hx] at e2
   dsimp only at e2
   by_cases h1:s=256
   ·rw [if_pos h1] at e2 ⊢
    dsimp only
    rw [e2,Iu hC]
   ·rw [if_neg h1] at e2 ⊢
    by_cases h2:s<256
    ·rw [if_pos h2] at e2 ⊢
     dsimp only
     rw [e2];rfl
    ·rw [if_neg h2] at e2 ⊢
     have hy:=Ot (B:=E) (C:=C) (s:=s) hs.2
     cases hm:jL di s E with
     |er e=>
      rw [hm] at hy
      dsimp only
      refine qI fun d_=>?_;rw [e2,hy.h.resolve_left d_]
     |ok p F=>
      rw [hm] at hy;have hy:=hy.h
      dsimp only at hy ⊢
      rw [hy] at e2
      dsimp only at e2
      by_cases h3:1≤p.2∧p.2≤min W.length 32768
      ·rw [if_pos h3] at e2 ⊢
       dsimp only
       rw [e2];rfl
      ·rw [if_neg h3] at e2 ⊢
       dsimp only
       rw [e2]
 |dn=>cases hd
theorem Bx (hC:C.length%8=0): ∀ (n:Nat) (D:DM),rQ D<n→Gq D.st→((run D).2.2=0→run (D.add C)= ((run D).1++ (run ((run D).2.1.add C)).1,(run ((run D).2.1.add C)).2))∧((run D).2.2≠0→(run (D.add C)).2.2= (run D).2.2∧(run (D.add C)).1= (run D).1)
 |0,D,h,_=>by omega
 |n+1,D,h,hs=>by
  by_cases hd:D.st.mm=true
  ·rw [xk hd]
   exact⟨fun _=>by simp,fun h=>absurd rfl h⟩
  ·have hd:D.st.mm=false:=by simpa using hd
   have Zv: (D.add C).st.mm=false:=hd;have ff:=Ry hC hs hd
   cases hq:dd D with
   |go D' o=>
    rw [hq] at ff
    dsimp only at ff
    have:=qX hq;have ih:=Bx hC n D' (by omega) (step_ok hs (.inl hq));rw [vr hq,vr ff];refine⟨fun h0=>?_,fun h0=>?_⟩
    ·rw [ih.1 h0]
     simp only [ajT]
    ·have:=ih.2 h0
     exact⟨this.1,by rw [this.2]⟩
   |wait D' o=>
    rw [hq] at ff
    dsimp only at ff
    rw [rD hd hq];exact⟨fun _=>ff,fun h=>absurd rfl h⟩
   |bad e=>
    rw [hq] at ff
    dsimp only at ff
    rw [yo hd hq,yo Zv ff];refine⟨fun h0=>?_,fun _=> ⟨rfl,rfl⟩⟩
    dsimp only at h0
    rfl
end
section
set_option maxRecDepth 100000
variable {H H0:ak} {R:Value→ak→Prop} {v:Value} {zs:List Int} {ls:List Nat} {B:List Bool} {L:List It} {b:Nat} {post:List Value} {t:TypeId}
def ZS (b:Nat) (post:List Value) (t:TypeId) (B:List Bool):ir where
 eL k:=k=b
 holds H:= ∃ (rest:List UInt8) (acc n:Nat),H[b]? =some (.cells (str rest::u64 acc::i64 n::post).toArray t (0,0))∧B=aW acc n++toBits rest∧acc<2 ^ n∧n<40∧B.length≤1152921504606846976
 frame:=fun h hf=>by
  obtain⟨rest,acc,n,h1,h2⟩:=h;exact⟨rest,acc,n,(hf b rfl).trans h1,h2⟩
 lt:=fun h hf=>by subst hf;obtain⟨rest,acc,n,h1,h2⟩:=h;exact bw h1
abbrev rE (b:Nat) (post:List Value) (t:TypeId) (B:List Bool):It:= .ay (ZS b post t B)
theorem vt (o:aw H0 H L) (lf:rE b post t B∈L):Rd H b 0 B:=by
 obtain⟨rest,acc,n,h1,h2,h3,h4,h5⟩:=o.ay lf;refine⟨⟨rest,acc,n,?_,h2,h3,h4⟩,h5⟩;exact(qo.all h1).part (x:= []) (y:= [str rest,u64 acc,i64 n]) (z:=post)
theorem _root_.Go.Vc.aw.rd {H' :ak} {B' :List Bool} {L' :List It} (o:aw H0 H L) (w:Rd H' b 0 B') (c:oG b 0 3 none_ none_ H H') (hr:bd (rE b post t B) (rE b post t B') L L'):aw H0 H' L' :=by
 obtain⟨rest,acc,n,h1,-⟩:=o.ay hr.mem;refine o.nq hr c.size (fun k hk hf=>c.ne k hk hf (fun h=>h)) ?_ (fun k hk=> .inl hk);obtain⟨⟨qz,jS,n',hs,h2,h3,h4⟩,h5⟩:=w;refine⟨qz,jS,n',?_,h2,h3,h4,h5⟩;obtain⟨cs,g1,g2,g3⟩:=c.ll _ _ _ h1;obtain⟨p,q,t',k1,k2⟩:=hs;have hp:p= []:=by simpa using k1
 subst hp;rw [g1] at k2;simp only [ajY,Obj.cells.injEq,aj4] at k2;obtain⟨k2,k3,-⟩:=k2;have k2:=Bo k2;subst k3;rw [g1,k2];have hq:q=post:=by
  apply akV;intro j;have:=g3 (3+j) (.inr (by omega));rw [k2,akB (by simp)] at this;simp only [aj2,aj7,aj6,Nat.reduceAdd,amj] at this;rw [this,show 3+j=j+1+1+1 by omega];simp only [akm]
 rw [hq];rfl
theorem _root_.Go.Vc.aw.pl {K:Value→Prop} {g:Nat} {w:Value} (o:aw H0 H L) (lf:rE b post t B∈L) (h3:3≤g) (hw:post[g - 3]? =some w) (hk:K w):al H (.pointer (some ⟨b,g,none⟩)) K:=by
 obtain⟨rest,acc,n,h1,-⟩:=o.ay lf;refine lQ h1 ?_ hk;obtain⟨j,rfl⟩: ∃j,g=j+1+1+1:= ⟨g - 3,by omega⟩;simp only [akm]
 simpa using hw
theorem _root_.Go.Vc.aw.ps {K:Value→ak→Prop} {g:Nat} {x:Value} {L' :List It} (o:aw H0 H L) (hr:bd (rE b post t B) (rE b (post.set (g - 3) x) t B) L L') (h3:3≤g) (hg:g - 3<post.length) (hx:aL x=true) (hk: ∀H',aw H0 H' L' →H'.size=H.size→K undef H'):aE H (.pointer (some ⟨b,g,none⟩)) x K:=by
 obtain⟨rest,acc,n,h1,h2⟩:=o.ay hr.mem;refine lB h1 (by simp;omega) hx fun H' hs u=>hk H' (o.nq hr u.size (fun k hk d_=>u.ne k hk (fun e=>d_ e)) ?_ (fun k hk=> .inl hk)) hs;refine⟨rest,acc,n,?_,h2⟩;rw [u.at_,ama];obtain⟨j,rfl⟩: ∃j,g=j+1+1+1:= ⟨g - 3,by omega⟩;simp only [ak1,alY]
 simp
theorem _root_.Go.Vc.aw.p3 {K:Value→Prop} (o:aw H0 H L) (lf:rE b post t B∈L) (hk: ∀ (rest:List UInt8) (acc n:Nat),B=aW acc n++toBits rest→acc<2 ^ n→n<40→B.length≤1152921504606846976→K (.agg #[str rest,u64 acc,i64 n])):aF H 3 (.pointer (some ⟨b,0,none⟩)) K:=by
 obtain⟨rest,acc,n,h1,h2,h3,h4,h5⟩:=o.ay lf;have hs:= (qo.all h1).part (x:= []) (y:= [str rest,u64 acc,i64 n]) (z:=post);have hc:Reads H ⟨b,0,none⟩ [str rest,u64 acc,i64 n]:=fun i v hv=>by
  rw [au];have:=hs.cell (k:=i) hv
  simpa using this
 exact hc.kf (n:=3) rfl (hk rest acc n h2 h3 h4 h5)
theorem _root_.Go.Vc.aw.p3s {K:Value→ak→Prop} {rest:List UInt8} {acc n:Nat} {B' :List Bool} {L' :List It} (o:aw H0 H L) (hr:bd (rE b post t B) (rE b post t B') L L') (h2:B' =aW acc n++toBits rest) (h3:acc<2 ^ n) (h4:n<40) (h5:B'.length≤1152921504606846976)
  (hk: ∀H',aw H0 H' L' →H'.size=H.size→K undef H'):aG H 3 (.pointer (some ⟨b,0,none⟩)) (.agg #[str rest,u64 acc,i64 n]) K:=by
 obtain⟨Vv,ZT,n0,h1,-⟩:=o.ay hr.mem;have hs:=Ci (new:= [str rest,u64 acc,i64 n]) (sp:= []) (l:=str Vv::u64 ZT::i64 n0::post) (b:=b) (j:=0) (.inl rfl) (by rw [akb];exact h1) rfl (by simp) rfl;rw [akb] at hs;have hp:pH (str Vv::u64 ZT::i64 n0::post) 0 [str rest,u64 acc,i64 n]=str rest::u64 acc::i64 n::post:=by
  simp [eN,iq]
 rw [hp] at hs;have hb:=bw h1;show aG H 3 _ (.agg [str rest,u64 acc,i64 n].toArray) K;simp only [aG,kJ,hs];refine⟨by simp,hk _ (o.nq hr (by simp) (fun k hk d_=>dW (fun e=>d_ e.symm)) ⟨rest,acc,n,cB hb,h2,h3,h4,h5⟩ (fun k hk=> .inl hk)) (by simp)⟩
theorem qY {n:Nat} (hn:n≤32) (o:aw H0 H (rE b post t B::L))
  (pJ: ∀x C H',gK n B= .ok x C→x<2 ^ n→aw H0 H' (rE b post t C::L)→R (.tuple #[i64 x,.int .i64 0]) H')
  (qI:gK n B= .er 2→R (.tuple #[.int .i64 0,.int .i64 2]) H):ab Tryz.prog 249 #[at_ b 0,i64 n] H R:=by
 refine lT.vc _ _ _ _ ?_;unfold lT.res;have hr:=vt o (ajP)
 by_cases hl:n≤B.length
 ·refine CH (k:=n) hr hn hl fun H1 w c=>?_
  have eF:=ya (B.take n);rw [ajW,aks hl] at eF;have h32:2 ^ n≤2 ^ 32:=akd (by decide) hn;have hx:lE (B.take n)<4294967296:=by omega
  refine ai rfl ?_;refine ai rfl ?_;rw [fc,ak0,ao];refine cC ?_;rw [bH (by omega) (by omega)];exact pJ _ _ H1 (by unfold gK;rw [if_pos hl]) eF (o.rd w c bd.here)
 ·refine Rr hr (by omega) ?_
  refine ai rfl ?_;refine ai rfl ?_;rw [fc,alh,aH];exact qI (by unfold gK;rw [if_neg hl])
theorem Ov (hle: ∀k∈ls,k≤15) {s:Nat}:hit ls (B.take 15) s↔hit ls B s:=by
 have:=wo hle s;unfold hit;rw [akQ,aks this]
open Classical in
theorem Lg {cb:Nat} {lv wv sv:Value} (hz:wP zs) (o:aw H0 H (rE b post t B::L)) (m1:It.box cb (cW lv wv (dB (natL zs)) sv) 285∈L) (m2:It.sl wv 2 (rB (natL zs))∈L) (m3:It.sl sv 1 (sc (pX (natL zs) 16))∈L)
  (pJ: ∀s C H',iX zs B= .ok s C→s<zs.length→aw H0 H' (rE b post t C::L)→R (.tuple #[i64 s,.int .i64 0]) H')
  (qI: ∀e H',iX zs B= .er e→e≠0→aw H0 H' (rE b post t B::L)→R (.tuple #[.int .i64 0,.int .i64 e]) H'):
  ab Tryz.prog 255 #[.pointer (some ⟨cb,0,none⟩),at_ b 0] H R:=by
 have hle:=CF hz.1;have ht:= @Ov (natL zs) B hle;have adq:=wo hle;refine ju.vc _ _ _ _ ?_;unfold ju.res;rw [iA];refine bh ?_;rw [iA];intro _;rw [ao];refine um (vt o (by repeat(first|exact ajP|apply ajO))) ?_;rw [qm];obtain⟨n,hn⟩: ∃n,n=min B.length 15:= ⟨_,rfl⟩;rw [show min ((B.length:Nat):Int) 15= (n:Int) by omega];refine Lb (k:=n) (vt o (by repeat(first|exact ajP|apply ajO))) (by omega) (by omega) fun H1 w1 c1=>?_;have o:=o.rd w1 c1 bd.here;refine ai rfl ?_;refine ai rfl ?_;have hx:=ya (B.take n);have G7: (B.take n).length=n:=by rw [ajW];omega
 have hb:aW (lE (B.take n)) n=B.take 15:=by
  have:=xc (B.take n);rw [G7] at this;rw [this,hn];rcases Nat.le_total B.length 15 with g|g
  ·rw [aks g,aj9 (ajR _),aj9 g]
  ·rw [amR g]
 rw [G7] at hx;generalize lE (B.take n)=x at*;refine find_spec (x:=x) (n:=n) hz.1 hz.2 o (ajO _ m1) (ajO _ m3) hx (by omega) (fun s hh=>?_) (fun Ah=>?_)
 ·rw [hb] at hh
  have hh:=ht.1 hh;have mH:=hh.2.1;have hlen:=ym hh;have Yy:=adq s;refine ai rfl ?_;refine ai rfl ?_;rw [bU,decide_eq_true (by omega),aH];refine CH (k:= (natL zs).getD s 0) (vt o (by repeat(first|exact ajP|apply ajO))) (by omega) hlen fun H2 w2 c2=>?_;exact pJ s _ H2 (wu hz hh) (by have:=hh.1;rwa [kD] at this) (o.rd w2 c2 bd.here)
 ·rw [hb] at Ah
  refine ai rfl ?_;refine ai rfl ?_;rw [bU,decide_eq_false (by decide),ao];refine Oi (x:=x) (n:=n) hz.1 o (ajO _ m1) (ajO _ m2) hx (by omega) fun H2 o=>?_;rw [hb];have Qj:iX zs B= .er (if more (natL zs) (B.take 15) then 2 else 4):=by
   unfold iX;rw [dif_neg (fun ⟨s,g⟩=>Ah s (ht.2 g))]
  by_cases hm:more (natL zs) (B.take 15)
  ·rw [if_pos hm] at Qj
   rw [decide_eq_true hm,aH];exact qI 2 H2 Qj (by decide) o
  ·rw [if_neg hm] at Qj
   rw [decide_eq_false hm,ao];exact qI 4 H2 Qj (by decide) o
end
section
set_option maxRecDepth 100000
variable {H H0:ak} {R:Value→ak→Prop} {v:Value} {zs:List Int} {ls:List Nat} {B:List Bool} {L:List It} {b:Nat} {post:List Value} {t:TypeId}
theorem CP {l:List Int} {i:Nat} (h:i<l.length): (aM l)[i]? =some (.int .i64 (l.getD i 0)):=by
 rw [dE h,ajX,ajV h];rfl
theorem uu (l:List Int) (z:Int):aM l++ (Value.int .i64 z).cells.toList=aM (l++ [z]):=by rw [yg];rfl
theorem _root_.Go.Vc.aw.sf {i j:It} (o:aw H0 H (i::j::L)):aw H0 H (i::L):=o.pick (List.Sublist.cons_cons _ (ak2 _ _))
theorem _root_.Go.Vc.aw.swap {i j:It} (o:aw H0 H (i::j::L)):aw H0 H (j::i::L):=o.perm (List.Perm.swap ..)
theorem _root_.Go.Vc.aw.MX {l:List Value} (o:aw H0 H L) (h:It.sl v 1 l∈L):mu v=some l.length:= (o.sl h).mu (aj0 _).symm (by decide)
theorem _root_.Go.Vc.aw.Ow {l:List Value} {K:Value→Prop} (o:aw H0 H L) (h:It.sl v 1 l∈L) (hk:K (.int .i64 (l.length:Int))):dh v K:= (o.sl h).len (aj0 _).symm (by decide) hk
abbrev Iv (n:Nat) (v:Value):Nat:=n - (mu v).getD 0
theorem Iw {n a c:Nat} {v w:Value} (hv:mu v=some a) (hw:mu w=some c) (h:a<c) (hn:a<n):Iv n w<Iv n v:=by
 unfold Iv;rw [hv,hw];simp only [alo];omega
theorem _root_.Go.Vc.aw.mid {M:List It} {i:It} (o:aw H0 H (M++i::L)):aw H0 H (i:: (M++L)):=o.perm ami.symm
theorem _root_.Go.Vc.aw.Ox (o:aw H0 H L):aw H0 H (.sl (.slice none 0 0) 1 []::L):=
 o.add (Ext.refl H) ⟨by decide,.inl ⟨rfl,rfl⟩⟩ (by intro k hk;exact absurd hk (by simp [It.eL,aV]))
def jM (L:List It) (zs:List Int) (p:Value):Prop:=wP zs∧∃cb lv wv sv,p= .pointer (some ⟨cb,0,none⟩)∧∀i∈uj zs cb lv wv sv,i∈L
theorem jM.mono {L L' :List It} {p:Value} (h:jM L zs p) (hm: ∀i∈L,i∈L'):jM L' zs p:=by
 obtain⟨h1,cb,lv,wv,sv,h2,h3⟩:=h;exact⟨h1,cb,lv,wv,sv,h2,fun i hi=>hm i (h3 i hi)⟩
theorem jM.cons {i:It} {L:List It} {p:Value} (h:jM L zs p):jM (i::L) zs p:=h.mono fun _=>ajO _
theorem jM.app {M L:List It} {p:Value} (h:jM L zs p):jM (M++L) zs p:=h.mono fun _=>alr _
theorem jM.sB {M L:List It} {p:Value} (h:jM M zs p):jM (M++L) zs p:=h.mono fun _=>ald _
theorem xm {p:Value} (hc:jM L zs p) (o:aw H0 H (rE b post t B::L))
  (pJ: ∀s C H',iX zs B= .ok s C→s<zs.length→aw H0 H' (rE b post t C::L)→R (.tuple #[i64 s,.int .i64 0]) H')
  (qI: ∀e H',iX zs B= .er e→e≠0→aw H0 H' (rE b post t B::L)→R (.tuple #[.int .i64 0,.int .i64 e]) H'):
  ab Tryz.prog 255 #[p,at_ b 0] H R:=by
 obtain⟨h1,cb,lv,wv,sv,rfl,h3⟩:=hc;exact Lg h1 o (h3 _ (by repeat(first|exact ajP|apply ajO))) (h3 _ (by repeat(first|exact ajP|apply ajO))) (h3 _ (by repeat(first|exact ajP|apply ajO))) pJ qI
theorem kU {loose:Bool} {v:Value} (o:aw H0 H L) (hs:Sl H v 1 (aM zs)) (hlen:zs.length≤1000)
  (Ah: ∀H',lY zs loose≠0→aw H0 H' L→R (.tuple #[.pointer none,.int .i64 (lY zs loose)]) H')
  (Xb: ∀H' M p,lY zs loose=0→jM M zs p→aw H0 H' (M++L)→R (.tuple #[p,.int .i64 0]) H'):ab Tryz.prog 162 #[v,.bool loose] H R:=
 Od hs (by have:maxLen=9223372036854775807:=rfl;omega) (fun H' hx h=>Ah H' h (o.more hx)) (fun H' b lv wv sv c hz h=>Xb H' (uj zs b lv wv sv) _ h ⟨yp h,b,lv,wv,sv,rfl,fun i hi=>hi⟩ (o.call c))
theorem jD {K:Value→Prop} (h:K (.bool false)):ld 0 (.int .i64 0) (.int .i64 0) K:=h
theorem pY {e:Int} {K:Value→Prop} (he:e≠0) (h:K (.bool true)):ld 0 (.int .i64 e) (.int .i64 0) K:=by
 rw [mP,decide_eq_true he];exact h
theorem Ix {e t:TypeId} {K:Value→ak→Prop} {l2:Value} {nv up:Nat} {zs:List Int} (o:aw H0 H (.sl l2 1 (aM zs)::L)) (hz:zs.length≤up) (hup:up≤288)
  (hk: ∀l H',aw H0 H' (.sl l 1 (aM (zs++List.replicate (up - zs.length) (nv:Int)))::L)→K l H'):
  cd H t (.agg #[(.int .i64 0),(.int .i64 0)]) fun x5 bn=>
  aG bn 2 x5 (.agg #[i64 nv,i64 up]) fun _ br=>
  ∃ (yV:Value→ak→Prop) (DW:Value→ak→Nat),yV l2 br∧
  ∀_:Env,∀F9 :Value,∀cG:ak,yV F9 cG→
  dh F9 fun dj=>
  aa 1 x5 fun cT=>
  al cG cT fun dG=>
  ec dj dG fun da=>
  ar da
  (aa 0 x5 fun cX=>
  al cG cX fun dq=>
  aX cG e 1 [(.int .i64 0)] [(0,1,dq)] fun cZ eI=>
  bg eI e 1 8 [(.int .i64 0)] F9 cZ fun c8 bI=>
  yV c8 bI∧DW c8 bI<DW F9 cG)
  (K F9 cG):=by
 refine o.box fun c H1 o hc=>?_
 change aw H0 H1 (.box c [.int .i64 0,.int .i64 0] t::_) at o
 refine o.bW (vs:= [i64 nv,i64 up]) (by repeat(first|exact ajP|apply ajO)) rfl rfl rfl (by repeat(first|exact bd.here|apply bd.there)) fun H2 o _=>?_;refine⟨fun F9 H' => ∃j,zs.length+j≤up∧aw H0 H' (.box c [i64 nv,i64 up] t:: .sl F9 1 (aM (zs++List.replicate j (nv:Int)))::L),fun v _=>Iv 1000 v,⟨0,by omega,by simpa using o⟩,?_⟩;rintro _ F9 H3 ⟨j,hj,o⟩;have hlen: (aM (zs++List.replicate j (nv:Int))).length=zs.length+j:=by rw [aS,ajQ,akw]
 have hlv:=o.MX (v:=F9) (by repeat(first|exact ajP|apply ajO));refine o.Ow (v:=F9) (by repeat(first|exact ajP|apply ajO)) ?_;rw [ag,au];refine o.az (b:=c) (f:=0+1) (by repeat(first|exact ajP|apply ajO)) rfl ?_;rw [aQ];refine ax (fun hc=>?_) (fun hc=>?_)
 ·rw [ag,au]
  refine o.az (b:=c) (f:=0+0) (by repeat(first|exact ajP|apply ajO)) rfl ?_;refine o.ej (by decide) rfl rfl fun y H4 o=>?_;refine o.app (v:=F9) (x:=y) (by repeat(first|exact bu.here|apply bu.there)) (o.sl (by repeat(first|exact ajP|apply ajO))) (by rfl) (by rw [hlen];show 2* (zs.length+j+1)*8≤_;omega) fun y2 H5 o=>?_;rw [uu,ajT,←amu] at o;have Rz:=o.MX (v:=y2) (by repeat(first|exact ajP|apply ajO));rw [aS] at Rz;refine⟨⟨j+1,by omega,o.sf.swap⟩,?_⟩;refine Iw hlv Rz ?_ ?_<;>rw [hlen]<;>first|omega| (rw [ajQ,akw];omega)
 ·have:j=up - zs.length:=by omega
  subst this;exact hk F9 H3 (o.pick (ak2 _ _))
theorem Iy:lY lI false=0:=by
 rw [zu Bv.1,if_neg (by decide+kernel),if_neg (by decide+kernel)]
theorem Iz:lY sI false=0:=by
 rw [zu Bw.1,if_neg (by decide+kernel),if_neg (by decide+kernel)]
def fixUp:Nat→Nat
 |0=>0|1=>144|2=>256|3=>280|_=>288
def Xf:Nat→Nat
 |0=>8|1=>9|2=>7|_=>8
theorem IA: ∀i:Fin 4,lI.take (fixUp i.val)++List.replicate (fixUp (i.val+1) - fixUp i.val) (Xf i.val:Int)=lI.take (fixUp (i.val+1))∧(lI.take (fixUp i.val)).length=fixUp i.val∧fixUp i.val≤fixUp (i.val+1)∧fixUp (i.val+1)≤288:=by decide+kernel
theorem Lh (o:aw H0 H L) (h: ∀H' M p q,jM M lI p→jM M sI q→aw H0 H' (M++L)→R (.tuple #[p,q]) H'):ab Tryz.prog 251 #[] H R:=by
 refine gn.vc _ _ ?_;unfold gn.res;refine fJ rfl rfl ?_;refine fJ rfl rfl ?_;refine fJ rfl rfl ?_;refine fJ rfl rfl ?_;simp only [fV,bG,kJ,eN,iq,ak9,ak1,aj2,aj7,Nat.reduceAdd,Nat.reduceLeDiff,true_and];refine⟨rfl,rfl,rfl,rfl,?_⟩;refine⟨fun l u H' => ∃i:Nat,u=i64 i∧i≤4∧aw H0 H' (.sl l 1 (aM (lI.take (fixUp i)))::L),fun _ u _=>match u with| .int _ i=> (4 - i).toNat|_=>0,⟨0,rfl,by omega,o.Ox⟩,?_⟩;rintro _ l2 _ H3 ⟨i,rfl,hi,o⟩;rw [aQ];refine ax (fun hc=>?_) (fun hc=>?_)
 ·have Up:i<4:=by omega
  obtain⟨e1,e2,e3,e4⟩:=IA ⟨i,Up⟩
  dsimp only at e1 e2 e3 e4
  have hx: ∀K:Value→Prop,K (.agg #[i64 (Xf i),i64 (fixUp (i+1))])→pG 4 2 (.agg [Value.int .i64 8,.int .i64 144,.int .i64 9,.int .i64 256,.int .i64 7,.int .i64 280,.int .i64 8,.int .i64 288].toArray) (i64 i) K:=by
   intro K hK;refine⟨by omega,by omega,?_⟩;rw [ajS]
   match i,Up with
   |0,_=>exact hK
   |1,_=>exact hK
   |2,_=>exact hK
   |3,_=>exact hK
  refine hx _ ?_;refine Ix o (by rw [e2];exact e3) e4 fun l H4 o=>?_;rw [e2,e1] at o;rw [aC,bH (by omega) (by omega)];exact⟨⟨i+1,rfl,by omega,o⟩,by show (_:Int).toNat< (_:Int).toNat;omega⟩
 have Up:i=4:=by omega
 subst Up;rw [show lI.take (fixUp 4)=lI by decide+kernel] at o;refine⟨fun d u H' => ∃i:Nat,u=i64 i∧i≤32∧aw H0 H' (.sl d 1 (aM (List.replicate i 5)):: .sl l2 1 (aM lI)::L),fun _ u _=>match u with| .int _ i=> (32 - i).toNat|_=>0,⟨0,rfl,by omega,o.Ox⟩,?_⟩;rintro _ d3 _ H4 ⟨i,rfl,hi,o⟩;rw [aQ];refine ax (fun hc=>?_) (fun hc=>?_)
 ·refine o.ej (by decide) rfl rfl fun y H5 o=>?_
  refine o.app (v:=d3) (x:=y) (by repeat(first|exact bu.here|apply bu.there)) (o.sl (by repeat(first|exact ajP|apply ajO))) (by rfl) (by rw [aS,akw];show 2* (i+1)*8≤_;omega) fun y2 H6 o=>?_;rw [uu,←amu] at o;rw [aC,bH (by omega) (by omega)];exact⟨⟨i+1,rfl,by omega,o.sf⟩,by show (_:Int).toNat< (_:Int).toNat;omega⟩
 have Xg:i=32:=by omega
 subst Xg;refine kU (zs:=lI) o (o.sl (by repeat(first|exact ajP|apply ajO))) (by decide+kernel) (fun H5 hw=>absurd Iy hw) fun H5 M p _ hp o=>?_;refine ai rfl ?_;refine ai rfl ?_;have o:=o.pick (alq (ak_ M) (List.Sublist.cons_cons _ (ak2 _ L)));refine kU (zs:=sI) o (o.sl (v:=d3) (alr _ (by repeat(first|exact ajP|apply ajO)))) (by decide+kernel) (fun H5 hw=>absurd Iz hw) fun H6 M2 q _ hq o=>?_;refine ai rfl ?_;refine ai rfl ?_;have o:=o.pick (alq (ak_ M2) (alq (ak_ M) (ak2 _ L)));rw [←ajT] at o;exact h H6 (M2++M) p q hp.app hq.sB o
theorem By {v k:Nat} {m:Int} (hk:k≤62) (hm:m=2 ^ k - 1):bitsOf .and .i64 (v:Int) m= ((v%2 ^ k:Nat):Int):=by
 rw [t_ hk hm]
 push_cast
 rfl
theorem IB {s:Nat} {ah:List Int} {v:Value} (o:aw H0 H (rE b post t B::L)) (hS:Sl H v 1 (aM ah)) (hl:ah.length≤1000)
  (pJ: ∀k z C H',wF s ah B= .ok (k,z) C→1≤k→k≤138→aw H0 H' (rE b post t C::L)→R (.tuple #[i64 k,.int .i64 z,.int .i64 0]) H')
  (qI: ∀e x z H',wF s ah B= .er e→e≠0→aw H0 H' (rE b post t B::L)→R (.tuple #[x,z,.int .i64 e]) H'):ab Tryz.prog 295 #[at_ b 0,i64 s,v] H R:=by
 refine j0.vc _ _ _ _ _ ?_;unfold j0.res;refine⟨fun le ex va H' => ∃ (l0 n0:Nat) (z:Int),le=i64 l0∧ex=i64 n0∧va= .int .i64 z∧H' =H∧1≤l0∧l0≤11∧n0≤7∧wF s ah B= (gK n0 B).bind fun n B=> .ok (l0+n,z) B,?_,?_⟩
 ·rintro _ _ _ _ _ ⟨l0,n0,z,rfl,rfl,rfl,rfl,h1,h2,h3,hr⟩
  refine qY (n:=n0) (by omega) o (fun x C H1 hx eF o=>?_) (fun hx=>?_)
  ·refine ai rfl ?_
   refine ai rfl ?_;have h7:2 ^ n0≤2 ^ 7:=akd (by decide) h3;rw [aC,show (l0:Int)+ (x:Int)= ((l0+x:Nat):Int) by omega,bH (by omega) (by omega)];rw [hx] at hr;exact pJ _ _ C H1 hr (by omega) (by omega) o
  ·refine ai rfl ?_
   refine ai rfl ?_;rw [aC];rw [hx] at hr;exact qI 2 _ _ _ hr (by decide) o
 ·rw [bj]
  refine ax (fun hc=>?_) (fun hc=>?_)
  ·have hs:s=16:=by omega
   refine hS.len (aj0 _).symm (by decide) ?_;rw [bj,aS];refine ax (fun h0=>?_) (fun h0=>?_)
   ·have:ah= []:=amt.1 (by omega)
    exact qI 3 _ _ H (by unfold wF;rw [if_pos hs,if_pos this]) (by decide) o
   ·refine hS.len (aj0 _).symm (by decide) ?_
    rw [aS,bE,show (ah.length:Int) - 1= ((ah.length - 1:Nat):Int) by omega,bH (by omega) (by omega)];refine hS.at_ (n:=ah.length) (by rw [aS];omega) (by decide) (by omega) (by omega) fun p hp=>?_;refine hp.load hS (w:= .int .i64 (ah.getD (ah.length - 1) 0)) ?_ ?_
    ·rw [ajS,aj0];exact CP (by omega)
    ·refine⟨3,2,_,rfl,rfl,rfl,rfl,by decide,by decide,by decide,?_⟩
     unfold wF;rw [if_pos hs,if_neg (fun g=>h0 (by rw [g];rfl))]
  rw [bj];refine ax (fun lz=>?_) (fun lz=>?_)
  ·refine⟨3,3,0,rfl,rfl,rfl,rfl,by decide,by decide,by decide,?_⟩
   unfold wF;rw [if_neg (by omega),if_pos (by omega)]
  rw [bj];refine ax (fun DU=>?_) (fun DU=>?_)
  ·refine⟨11,7,0,rfl,rfl,rfl,rfl,by decide,by decide,by decide,?_⟩
   unfold wF;rw [if_neg (by omega),if_neg (by omega),if_pos (by omega)]
  ·exact pJ 1 (s:Int) B H (by unfold wF;rw [if_neg (by omega),if_neg (by omega),if_neg (by omega)]) (by decide) (by decide) o
theorem Eg {n:Nat} {p:Value} (hn:n≤400) (hc:jM L zs p) (o:aw H0 H (rE b post t B::L))
  (pJ: ∀l C v H',rC (n+1) zs n [] B= .ok l C→l.length=n→aw H0 H' (rE b post t C:: .sl v 1 (aM l)::L)→R (.tuple #[v,.int .i64 0]) H')
  (qI: ∀e C H',rC (n+1) zs n [] B= .er e→e≠0→aw H0 H' (rE b post t C::L)→R (.tuple #[.slice none 0 0,.int .i64 e]) H'):ab Tryz.prog 276 #[at_ b 0,p,i64 n] H R:=by
 generalize hT:rC (n+1) zs n [] B=T at*;refine jn.vc _ _ _ _ _ ?_;unfold jn.res;refine⟨fun v H' => ∃k out C,rC k zs n out C=T∧n<k+out.length∧out.length≤n∧aw H0 H' (rE b post t C:: .sl v 1 (aM out)::L),fun v _=>Iv 1000 v,⟨n+1,[],B,hT,by simp,by simp,o.Ox.swap⟩,?_⟩;rintro _ uO H1 ⟨k,out,C,hk,eF,hle,o⟩;have hlv:=o.MX (v:=uO) (by repeat(first|exact ajP|apply ajO));rw [aS] at hlv;obtain⟨k,rfl⟩: ∃j,k=j+1:= ⟨k - 1,by omega⟩;unfold rC at hk;refine o.Ow (v:=uO) (by repeat(first|exact ajP|apply ajO)) ?_;rw [aS,aQ];refine ax (fun y7=>?_) (fun y7=>?_)
 ·rw [if_neg (by omega)] at hk
  refine xm hc.cons o (fun s C1 H2 hs n_ o=>?_) (fun e H2 hs he o=>?_)
  ·rw [hs] at hk
   refine ai rfl ?_;refine ai rfl ?_;refine jD ?_;rw [ao];refine IB o (o.sl (v:=uO) (by repeat(first|exact ajP|apply ajO))) (by omega) (fun k1 z C2 H3 hr h1 h2 o=>?_) (fun e x z H3 hr he o=>?_)
   ·simp only [Rs.bind,hr] at hk
    refine ai rfl ?_;refine ai rfl ?_;refine ai rfl ?_;refine jD ?_;rw [ao];refine o.Ow (v:=uO) (by repeat(first|exact ajP|apply ajO)) ?_;rw [aS,bE,show (n:Int) - (out.length:Int)= ((n - out.length:Nat):Int) by omega,bH (by omega) (by omega),bU];refine ax (fun lz=>?_) (fun lz=>?_)
    ·rw [if_pos (by omega)] at hk
     exact qI 20 C2 H3 hk.symm (by decide) o.sf
    ·rw [if_neg (by omega)] at hk
     refine⟨fun v u H' => ∃i:Nat,u=i64 i∧i≤k1∧aw H0 H' (rE b post t C2:: .sl v 1 (aM (out++List.replicate i z))::L),fun _ u _=>match u with| .int _ i=> (k1 - i).toNat|_=>0,⟨0,rfl,by omega,by simpa using o⟩,?_⟩;rintro _ v _ H4 ⟨i,rfl,hi,o⟩;rw [aQ];refine ax (fun DU=>?_) (fun DU=>?_)
     ·refine o.ej (by decide) rfl rfl fun y H5 o=>?_
      refine o.app (v:=v) (x:=y) (by repeat(first|exact bu.here|apply bu.there)) (o.sl (by repeat(first|exact ajP|apply ajO))) (by rfl) (by rw [aS,ajQ,akw];show 2* (out.length+i+1)*8≤_;omega) fun y2 H6 o=>?_;rw [uu,ajT,←amu] at o;rw [aC,bH (by omega) (by omega)];exact⟨⟨i+1,rfl,by omega,o.sf.swap⟩,by show (_:Int).toNat< (_:Int).toNat;omega⟩
     ·have:i=k1:=by omega
      subst this;have Rz:=o.MX (v:=v) (by repeat(first|exact ajP|apply ajO));rw [aS,ajQ,akw] at Rz;refine⟨⟨k,_,C2,hk,by rw [ajQ,akw];omega,by rw [ajQ,akw];omega,o⟩,Iw hlv Rz (by omega) (by omega)⟩
   ·simp only [Rs.bind,hr] at hk
    refine ai rfl ?_;refine ai rfl ?_;refine ai rfl ?_;refine pY he ?_;rw [aH];exact qI e C1 H3 hk.symm he o.sf
  ·rw [hs] at hk
   refine ai rfl ?_;refine ai rfl ?_;refine pY he ?_;rw [aH];exact qI e C H2 hk.symm he o.sf
 ·rw [if_pos (by omega)] at hk
  exact pJ out C uO H1 hk.symm (by omega) o
end
section
set_option maxRecDepth 100000
variable {H H0 H' :ak} {R:Value→ak→Prop} {L:List It}
theorem fU {b f n:Nat} {cs ws:List Value} {t:TypeId} {fr:Nat × Nat} {K:Value→Prop} (h:H[b]? =some (.cells cs.toArray t fr)) (hw: (cs.drop f).take n=ws) (hf:f+n≤cs.length) (hk:K (.agg ws.toArray)):aF H n (.pointer (some ⟨b,f,none⟩)) K:=by
 simp only [aF,ve (o:=f) (cs:=cs.toArray) (t:=t) (fr:=fr) h n (by simpa using hf)];rw [hw];exact hk
structure zF (s:List UInt8):Prop where
 len:s.length≤100
 ne:s≠ []
 low: ∀x∈s,x.toNat<128
 ok: ∀ (H:ak) (R:Value→ak→Prop),(∀H',Ext H H' →R (.int .i64 0) H')→ab Tryz.prog 143 #[str s] H R
structure Hd where
 nm:List UInt8
 t:T6
 p:Nat
 z:Nat
 u:Nat
 a:Nat
 k:Bool
def Hd.cells (h:Hd):List Value:= [str h.nm,.int .i64 h.t.y,.int .i64 h.t.m,.int .i64 h.t.d,.int .i64 h.t.h,.int .i64 h.t.n,.int .i64 h.t.s,.int .u64 (h.p:Int),.int .u64 (h.z:Int),.int .u32 (h.u:Int),.int .u64 (h.a:Int),.bool h.k]
abbrev Hd.v (h:Hd):Value:= .agg h.cells.toArray
structure CQ (h:Hd):Prop where
 nm:zF h.nm
 t:pQ h.t=true
 p:h.p≤1000000
 z:h.z≤1000000
 u:h.u<4294967296
 a:h.a≤100000000
 k:h.k=true→h.p=0∧h.z=0
theorem Li {s:List UInt8} (hl:s.length≤100) (hs: ∀x∈s,x.toNat<128) (h:R (.bool true) H):ab Tryz.prog 196 #[str s] H R:=by
 refine oO.vc _ _ _ ?_;unfold oO.res;refine aJ ?_;refine⟨fun i H' => ∃k:Nat,i= .int .i64 (k:Int)∧k≤s.length∧H=H',fun i _=>match i with| .int _ x=> (s.length - x).toNat|_=>0,⟨0,rfl,by omega,rfl⟩,?_⟩;rintro _ _ _ ⟨k,rfl,hk,rfl⟩;rw [aQ];refine ax (fun hc=>?_) (fun hc=>?_)
 ·have NG:k<s.length:=by omega
  rw [dU,cn];refine⟨by omega,by omega,?_⟩;rw [ajS,show s.getD k 0=s[k] by rw [ajX,ajV NG];rfl];have:=hs _ (ajZ NG);rw [iU,decide_eq_false (by omega),ao,aC,bH (by omega) (by omega)];exact⟨⟨k+1,rfl,by omega,rfl⟩,by show (_:Int).toNat< (_:Int).toNat;omega⟩
 ·exact h
theorem uv {x:Hd} (g:CQ x) (h: ∀H',Ext H H' →R (.bool true) H'):ab Tryz.prog 95 #[x.v] H R:=by
 have g1:=g.p;have g2:=g.z;have g3:=g.a;have g4:=g.k;refine kN.vc _ _ _ ?_;unfold kN.res;refine(aw.start (H:=H)).box fun b H1 o _=>?_;have o:aw H H1 [.box b x.cells 44]:=o;rw [ag,au];refine o.az (b:=b) (f:=0+11) (w:= .bool x.k) (by repeat(first|exact ajP|apply ajO)) rfl ?_;refine kn (d:=false) (fun hk=>?_) ?_
 ·obtain⟨e1,e2⟩:=g4 hk
  rw [ag,au];refine o.az (b:=b) (f:=0+7) (w:= .int .u64 (x.p:Int)) (by repeat(first|exact ajP|apply ajO)) rfl ?_;rw [mP,decide_eq_false (by simp [e1])];refine bh ?_;rw [ag,au];refine o.az (b:=b) (f:=0+8) (w:= .int .u64 (x.z:Int)) (by repeat(first|exact ajP|apply ajO)) rfl ?_;rw [mP,decide_eq_false (by simp [e2])];intro _;exact⟨rfl,rfl⟩
 intro _;rw [amS,ao,ag,au];refine o.az (b:=b) (f:=0+0) (w:=str x.nm) (by repeat(first|exact ajP|apply ajO)) rfl ?_;refine g.nm.ok _ _ fun H2 hx=>?_;have o:=o.more hx;rw [bj,decide_eq_true rfl];refine bX ?_;rw [ag,au];refine fU (o.ll (b:=b) (cs:=x.cells) (t:=44) (by repeat(first|exact ajP|apply ajO))) (ws:=x.t.cells.toList) (by rfl) (ajU rfl) ?_;refine wc (t:=x.t) fun H3 wx=>?_;have o:=o.more wx;rw [g.t];intro _;refine bX ?_;rw [ag,au];refine o.az (b:=b) (f:=0+7) (w:= .int .u64 (x.p:Int)) (by repeat(first|exact ajP|apply ajO)) rfl ?_;rw [aQ,decide_eq_true (by omega)];intro _;refine bX ?_;rw [ag,au];refine o.az (b:=b) (f:=0+8) (w:= .int .u64 (x.z:Int)) (by repeat(first|exact ajP|apply ajO)) rfl ?_;rw [aQ,decide_eq_true (by omega)];intro _;refine bX ?_;rw [ag,au];refine o.az (b:=b) (f:=0+10) (w:= .int .u64 (x.a:Int)) (by repeat(first|exact ajP|apply ajO)) rfl ?_;rw [aQ,decide_eq_true (by omega)];intro _;exact h H3 o.ext
theorem mz {x:Hd} (g:CQ x) (h: ∀H',Ext H H' →R (.bool false) H'):ab Tryz.prog 139 #[x.v] H R:=by
 have g1:=g.p;have g2:=g.z;refine lU.vc _ _ _ ?_;unfold lU.res;refine(aw.start (H:=H)).box fun b H1 o _=>?_;have o:aw H H1 [.box b x.cells 44]:=o;rw [ag,au];refine o.az (b:=b) (f:=0+8) (w:= .int .u64 (x.z:Int)) (by repeat(first|exact ajP|apply ajO)) rfl ?_;rw [bU,decide_eq_false (by omega)];refine bh ?_;rw [ag,au];refine o.az (b:=b) (f:=0+7) (w:= .int .u64 (x.p:Int)) (by repeat(first|exact ajP|apply ajO)) rfl ?_;rw [bU,decide_eq_false (by omega)];intro _;exact h H1 o.ext
theorem yq (h: ∀H',Ext H H' →R (str (aP 20 2)) H'):ab Tryz.prog 146 #[.bool false] H R:=by
 refine kh.vc _ _ _ ?_;unfold kh.res;rw [ao];exact cL (n:=20) (k:=2) (by decide) (by decide) (by decide) h
theorem pZ {n:Nat} (hn:n<18446744073709551616) (h: ∀H',Ext H H' →R (str (aP n 4)) H'):ab Tryz.prog 148 #[.int .u64 (n:Int),.bool false] H R:=by
 refine lG.vc _ _ _ _ ?_;unfold lG.res;rw [ao];exact cL (n:=n) (k:=4) hn (by decide) (by decide) h
def sg (t:T6):Nat:= (uH t).toNat
def sh (t:T6):Nat:= (uI t).toNat
theorem wrap_u64 (n:Int):0≤IntKind.u64.wrap n∧IntKind.u64.wrap n<18446744073709551616:=by
 have h1:=alC n (show (18446744073709551616:Int)≠0 by decide);have h2:=al6 n (show (0:Int)<18446744073709551616 by decide);exact⟨h1,h2⟩
theorem CR (t:T6):uH t= ((sg t:Nat):Int)∧sg t<18446744073709551616:=by
 have h:0≤uH t∧uH t<18446744073709551616:=wrap_u64 _;unfold sg;omega
theorem CS (t:T6):uI t= ((sh t:Nat):Int)∧sh t<18446744073709551616:=by
 have h:0≤uI t∧uI t<18446744073709551616:=wrap_u64 _;unfold sh;omega
def Hd.uQ (h:Hd):Nat:=if h.k then 0 else 8
def jb (h:Hd):List UInt8:=aP h.uQ 2++aP h.uQ 2++aP (sh h.t) 2++aP (sg h.t) 2
theorem lJ (h:Hd): (jb h).length=8:=by unfold jb;simp [aD]
theorem AF {x:Hd} (g:CQ x) (h: ∀H',Ext H H' →R (str (jb x)) H'):ab Tryz.prog 147 #[x.v] H R:=by
 obtain⟨d1,d2⟩:=CR x.t;obtain⟨t1,t2⟩:=CS x.t;refine jo.vc _ _ _ ?_;unfold jo.res;refine(aw.start (H:=H)).box fun b H1 o _=>?_;have o:aw H H1 [.box b x.cells 44]:=o;refine⟨fun f m H' =>f= .int .u64 ((x.uQ:Nat):Int)∧m= .int .u64 ((x.uQ:Nat):Int)∧H1=H',?_,?_⟩
 ·rintro _ _ _ _ ⟨rfl,rfl,rfl⟩
  refine⟨fun f H' =>f= .int .u64 ((x.uQ:Nat):Int)∧H1=H',?_,?_⟩
  ·rintro _ _ _ ⟨rfl,rfl⟩
   have hm:x.uQ<18446744073709551616:=by unfold Hd.uQ;split<;>decide
   rw [ag,au];refine fU (o.ll (b:=b) (cs:=x.cells) (t:=44) (by repeat(first|exact ajP|apply ajO))) (ws:=x.t.cells.toList) (by rfl) (ajU rfl) ?_;refine KP (t:=x.t) fun H2 rR=>?_;rw [if_pos g.t,d1,t1];refine ai (vs:= [_,_,_]) rfl ?_;refine ai (vs:= [_,_,_]) rfl ?_;refine ai (vs:= [_,_,_]) rfl ?_;refine cL (n:=x.uQ) (k:=2) hm (by decide) (by decide) fun H3 wx=>?_;refine cL (n:=x.uQ) (k:=2) hm (by decide) (by decide) fun H4 tV=>?_;refine aT (by simp [aD]) ?_;refine cL (n:=sh x.t) (k:=2) t2 (by decide) (by decide) fun H5 wQ=>?_;refine aT (by simp [aD]) ?_;refine cL (n:=sg x.t) (k:=2) d2 (by decide) (by decide) fun H6 xn=>?_;refine aT (by simp [aD]) ?_;exact h H6 (((((o.ext.trans rR).trans wx).trans tV).trans wQ).trans xn)
  ·rw [ag,au]
   refine o.az (b:=b) (f:=0+0) (w:=str x.nm) (by repeat(first|exact ajP|apply ajO)) rfl ?_;refine Li g.nm.len g.nm.low ?_;rw [fc];show ar (.bool false) _ _;rw [ao];exact⟨rfl,rfl⟩
 ·rw [ag,au]
  refine o.az (b:=b) (f:=0+11) (w:= .bool x.k) (by repeat(first|exact ajP|apply ajO)) rfl ?_;unfold Hd.uQ
  cases x.k
  ·rw [ao];exact⟨rfl,rfl,rfl⟩
  ·rw [aH];exact⟨rfl,rfl,rfl⟩
def bM (h:Hd):List UInt8:= [80,75,3,4]++aP 20 2++jb h++List.replicate 12 0++aP h.nm.length 2++aP 0 2++h.nm
theorem kx (h:Hd): (bM h).length=30+h.nm.length:=by unfold bM;simp [aD,lJ];omega
theorem CT {c:Nat} (hc:c≤100) (h: ∀H',Ext H H' →R (str (List.replicate c 0)) H'):ab Tryz.prog 50 #[str [0],.int .i64 (c:Int)] H R:=by
 refine Ib (s:= [0]) (by omega) (by simp;omega) fun H' hx=>?_;rw [Cm];exact h H' hx
theorem rF {x:Hd} (g:CQ x) (h: ∀H',Ext H H' →R (str (bM x)) H'):ab Tryz.prog 96 #[x.v] H R:=by
 have PU:=g.nm.len;have iz:=lJ x;refine j1.vc _ _ _ ?_;unfold j1.res;refine(aw.start (H:=H)).box fun b H1 o _=>?_;have o:aw H H1 [.box b x.cells 44]:=o;refine o.bC (b:=b) (by repeat(first|exact ajP|apply ajO)) rfl ?_;refine uv g fun H2 rR=>?_;have o:=o.more rR;rw [fc];show ar (.bool false) _ _;rw [ao];refine o.bC (b:=b) (by repeat(first|exact ajP|apply ajO)) rfl ?_;refine o.bC (b:=b) (by repeat(first|exact ajP|apply ajO)) rfl ?_;refine mz g fun H3 wx=>?_;have o:=o.more wx;refine⟨o.bC (b:=b) (by repeat(first|exact ajP|apply ajO)) rfl rfl,?_⟩;refine yq fun H4 tV=>?_;have o:=o.more tV;refine⟨o.bC (b:=b) (by repeat(first|exact ajP|apply ajO)) rfl rfl,?_⟩;refine aT (by simp [aD]) ?_;refine AF g fun H5 wQ=>?_;have o:=o.more wQ;refine aT (by simp [aD,iz]) ?_;refine o.bC (b:=b) (by repeat(first|exact ajP|apply ajO)) rfl ?_;refine mz g fun H6 xn=>?_;have o:=o.more xn;rw [ao,ag,au];refine o.az (b:=b) (f:=0+0) (w:=str x.nm) (by repeat(first|exact ajP|apply ajO)) rfl ?_;refine aJ ?_;refine cC ?_;rw [eX (by omega) (by omega),ag,au];refine o.az (b:=b) (f:=0+0) (w:=str x.nm) (by repeat(first|exact ajP|apply ajO)) rfl ?_;refine CT (c:=12) (by decide) fun H7 RA=>?_;have o:=o.more RA;refine⟨o.az (b:=b) (f:=0+0) (by repeat(first|exact ajP|apply ajO)) rfl rfl,o.az (b:=b) (f:=0+0) (by repeat(first|exact ajP|apply ajO)) rfl rfl,?_⟩;refine aT (by simp [aD,iz]) ?_;refine cL (n:=x.nm.length) (k:=2) (by omega) (by decide) (by decide) fun H8 Oy=>?_;have o:=o.more Oy;refine⟨o.az (b:=b) (f:=0+0) (by repeat(first|exact ajP|apply ajO)) rfl rfl,?_⟩;refine aT (by simp [aD,iz]) ?_;refine cL (n:=0) (k:=2) (by decide) (by decide) (by decide) fun H9 ZU=>?_;have o:=o.more ZU;refine⟨o.az (b:=b) (f:=0+0) (by repeat(first|exact ajP|apply ajO)) rfl rfl,?_⟩;refine aT (by simp [aD,iz]) ?_;refine aT (by simp [aD,iz];omega) ?_;exact h H9 o.ext
def c9 (h:Hd):List UInt8:=if h.k then [] else [80,75,7,8]++aP h.u 4++aP h.p 4++aP h.z 4
theorem rG {x:Hd} (g:CQ x) (h: ∀H',Ext H H' →R (str (c9 x)) H'):ab Tryz.prog 97 #[x.v] H R:=by
 have g1:=g.p;have g2:=g.z;have g3:=g.u;refine j2.vc _ _ _ ?_;unfold j2.res;refine(aw.start (H:=H)).box fun b H1 o _=>?_;have o:aw H H1 [.box b x.cells 44]:=o;refine o.bC (b:=b) (by repeat(first|exact ajP|apply ajO)) rfl ?_;refine uv g fun H2 rR=>?_;have o:=o.more rR;rw [fc];show lk (.bool false) _ _ _;refine bh ?_;rw [ag,au];refine o.az (b:=b) (f:=0+11) (w:= .bool x.k) (by repeat(first|exact ajP|apply ajO)) rfl ?_;intro _;refine fI (fun hk=>?_) (fun hk=>?_)
 ·have e:c9 x= []:=by unfold c9;rw [hk];rfl
  rw [e] at h;exact h H2 o.ext
 ·have e:c9 x= [80,75,7,8]++aP x.u 4++aP x.p 4++aP x.z 4:=by unfold c9;rw [hk];rfl
  rw [e] at h;refine⟨fun s H' =>s= .int .i64 4∧aw H H' [.box b x.cells 44],?_,?_⟩
  ·clear o
   rintro _ _ H3 ⟨rfl,o⟩;rw [ag,au];refine o.az (b:=b) (f:=0+9) (w:= .int .u32 (x.u:Int)) (by repeat(first|exact ajP|apply ajO)) rfl ?_;refine cC ?_;rw [eX (by omega) (by omega),ag,au];refine o.az (b:=b) (f:=0+7) (w:= .int .u64 (x.p:Int)) (by repeat(first|exact ajP|apply ajO)) rfl ?_;rw [ag,au];refine o.az (b:=b) (f:=0+8) (w:= .int .u64 (x.z:Int)) (by repeat(first|exact ajP|apply ajO)) rfl ?_;refine cL (n:=x.u) (k:=4) (by omega) (by decide) (by decide) fun H4 tV=>?_;have o:=o.more tV;refine⟨o.az (b:=b) (f:=0+7) (by repeat(first|exact ajP|apply ajO)) rfl rfl,o.az (b:=b) (f:=0+8) (by repeat(first|exact ajP|apply ajO)) rfl rfl,?_⟩;refine aT (by simp [aD]) ?_;refine cL (n:=x.p) (k:=4) (by omega) (by decide) (by decide) fun H5 wQ=>?_;have o:=o.more wQ;refine⟨o.az (b:=b) (f:=0+8) (by repeat(first|exact ajP|apply ajO)) rfl rfl,?_⟩;refine aT (by simp [aD]) ?_;refine cL (n:=x.z) (k:=4) (by omega) (by decide) (by decide) fun H6 xn=>?_;have o:=o.more xn;refine aT (by simp [aD]) ?_;exact h H6 o.ext
  ·refine o.bC (b:=b) (by repeat(first|exact ajP|apply ajO)) rfl ?_
   refine mz g fun H3 wx=>?_;rw [ao];exact⟨rfl,o.more wx⟩
end
section
set_option maxRecDepth 100000
variable {H H0 H' :ak} {R:Value→ak→Prop} {L:List It} {s:List UInt8}
theorem Lj (hl:s.length≤8) (hs: ∀x∈s,x.toNat<128) (h:R (.bool true) H):ab Tryz.prog 192 #[str s] H R:=by
 refine utf8_ValidString.vc _ _ _ ?_;unfold utf8_ValidString.res;refine⟨fun t H' => ∃k:Nat,t=str (s.drop k)∧k≤s.length∧H=H',fun t _=>match t with| .string b=>b.size|_=>0,⟨0,by simp,by omega,rfl⟩,?_⟩;rintro _ _ _ ⟨k,rfl,hk,rfl⟩;refine aJ ?_;rw [aj1,bU];refine ax (fun hc=>?_) (fun hc=>?_)
 ·have NG:k<s.length:=by omega
  rw [dU,cn];refine⟨by decide,by rw [aj1];omega,?_⟩;have hx: (s.drop k).getD (0:Int).toNat 0=s[k]:=by
   rw [ajX,ak7,show k+ (0:Int).toNat=k from rfl,ajV NG];rfl
  rw [hx];have:=hs _ (ajZ NG);rw [aQ,decide_eq_true (by omega),aH];refine bz (lo:=1) (hi:= (s.drop k).length) (.inl rfl) (.inr ⟨rfl,rfl⟩) (by rw [aj1];omega) (ajR _) ?_;rw [akR,aj9 (by rw [aj1,aj1];omega)];refine aJ ?_;rw [aj1,bU,decide_eq_false (by omega),fH];intro _;rw [ao];refine⟨⟨k+1,rfl,by omega,rfl⟩,?_⟩;show (ByteArray.mk (s.drop (k+1)).toArray).size< (ByteArray.mk (s.drop k).toArray).size;show (s.drop (k+1)).toArray.size< (s.drop k).toArray.size;rw [akI,akI,aj1,aj1];omega
 ·exact h
def fK (c:UInt8):List UInt8:= [c,47,102,105,108,101]
theorem Oz {a b:UInt8} (h:fK a=fK b):a=b:=by
 unfold fK at h
 simpa using h
theorem IC {c:UInt8} (hc:c≠47): ∀k,k<6→(((fK c).getD k 0).toNat=47↔k=1):=by
 intro k hk;have h0:c.toNat≠47:=fun e=>hc (UInt8.toNat_inj.1 e)
 match k,hk with
 |0,_=>exact⟨fun e=>absurd e h0,fun e=>by omega⟩
 |1,_=>exact⟨fun _=>rfl,fun _=>rfl⟩
 |2,_=>exact⟨fun e=>absurd (show (102:UInt8).toNat=47 from e) (by decide),fun e=>by omega⟩
 |3,_=>exact⟨fun e=>absurd (show (105:UInt8).toNat=47 from e) (by decide),fun e=>by omega⟩
 |4,_=>exact⟨fun e=>absurd (show (108:UInt8).toNat=47 from e) (by decide),fun e=>by omega⟩
 |5,_=>exact⟨fun e=>absurd (show (101:UInt8).toNat=47 from e) (by decide),fun e=>by omega⟩
def tE (r:Nat) (m:List UInt8→Option Value):ir where
 eL k:=k=r
 holds H:=Go.Vc.fS strKeys H r m
 frame:=fun h hf=>h.A5 (hf r rfl)
 lt:=fun h hf=>by obtain rfl:=hf;exact h.lt
def mN (cs:List UInt8):List UInt8→Option Value:=fun k=>if k∈cs.map fK then some (.bool true) else none
def mD (cs:List UInt8):List UInt8→Option Value:=fun k=>if k∈cs.map fun c=> [c] then some (.bool true) else none
theorem RB {cs:List UInt8} {k:List UInt8} (h:k∉cs.map fK):mN cs k=none:=if_neg h
theorem Vw {cs:List UInt8} {k:List UInt8} (h:k∉cs.map fun c=> [c]):mD cs k=none:=if_neg h
theorem Xh (cs:List UInt8) (c:UInt8):xU strKeys (mN cs) (fK c) (some (.bool true))=mN (cs++ [c]):=by
 funext k
 unfold xU mN
 by_cases h:k=fK c
 ·subst h;simp
 ·rw [if_neg (by simpa using h)]
  congr 1
  simp only [aky,akU,List.map_nil,akg,akt,h,or_false]
theorem Xi (cs:List UInt8) (c:UInt8):xU strKeys (mD cs) [c] (some (.bool true))=mD (cs++ [c]):=by
 funext k
 unfold xU mD
 by_cases h:k= [c]
 ·subst h;simp
 ·rw [if_neg (by simpa using h)]
  congr 1
  simp only [aky,akU,List.map_nil,akg,akt,h,or_false]
theorem Uq {cs:List UInt8} {k:List UInt8} (h:k.length=1):k∉cs.map fK:=fun hm=>by
 obtain⟨c,_,rfl⟩:=akn.1 hm
 simp [fK] at h
theorem Ur {cs:List UInt8} {k:List UInt8} (h:k.length=6):k∉cs.map fun c=> [c]:=fun hm=>by
 obtain⟨c,_,rfl⟩:=akn.1 hm
 simp at h
abbrev si (b r1 r2:Nat) (n d:List UInt8→Option Value) (L:List It):List It:= .box b [.map (some r1),.map (some r2)] 214:: .ay (tE r1 n):: .ay (tE r2 d)::L
theorem Lk {b r1 r2:Nat} {cs:List UInt8} {c:UInt8} (hc:c≠47) (hn:c∉cs) (o:aw H0 H (si b r1 r2 (mN cs) (mD cs) L)) (h:R (.bool false) H):ab Tryz.prog 144 #[at_ b 0,str (fK c)] H R:=by
 have Wo:fK c∉cs.map fK:=fun hm=>by
  obtain⟨d,hd,e⟩:=akn.1 hm;exact hn (Oz e ▸ hd)
 refine fT.vc _ _ _ _ ?_;unfold fT.res;rw [aA,ag,au];refine o.az (b:=b) (f:=0+0) (w:= .map (some r1)) (by repeat(first|exact ajP|apply ajO)) rfl ?_;refine Go.Vc.fS.lookup (κ:=strKeys) (o.ay (T:=tE r1 (mN cs)) (by repeat(first|exact ajP|apply ajO))) (k:=fK c) ?_;rw [cond_false,RB Wo];refine bh ?_;rw [aA,ag,au];refine o.az (b:=b) (f:=0+1) (w:= .map (some r2)) (by repeat(first|exact ajP|apply ajO)) rfl ?_;refine Go.Vc.fS.lookup (κ:=strKeys) (o.ay (T:=tE r2 (mD cs)) (by repeat(first|exact ajP|apply ajO))) (k:=fK c) ?_;rw [cond_false,Vw (Ur rfl)];intro _;show ar (.bool false) _ _;rw [ao];refine aJ ?_;refine⟨fun i H' => ∃k:Nat,i= .int .i64 (k:Int)∧k≤6∧H=H',fun i _=>match i with| .int _ x=> (6 - x).toNat|_=>0,⟨0,rfl,by omega,rfl⟩,?_⟩;rintro _ _ _ ⟨k,rfl,hk,rfl⟩;have h6: (fK c).length=6:=rfl;rw [aQ];refine ax (fun lz=>?_) (fun lz=>?_)
 ·have Us:k<6:=by omega
  have ji:=IC hc k Us;rw [dU,cn];refine⟨by omega,by omega,?_⟩;rw [ajS,dU,cn];refine⟨by decide,by decide,?_⟩;rw [bj];refine kn (d:=false) (fun h1=>?_) ?_
  ·have rO:k=1:=ji.1 (by
    have:=of_decide_eq_true h1;show _=47;exact Int.ofNat.inj this)
   subst rO;rw [aA,ag,au];refine o.az (b:=b) (f:=0+0) (w:= .map (some r1)) (by repeat(first|exact ajP|apply ajO)) rfl ?_;refine bz (lo:=0) (hi:=1) (.inr ⟨rfl,rfl⟩) (.inl rfl) (by decide) (by rw [h6];decide) ?_;refine Go.Vc.fS.lookup (κ:=strKeys) (o.ay (T:=tE r1 (mN cs)) (by repeat(first|exact ajP|apply ajO))) (k:= ((fK c).drop 0).take (1 - 0)) ?_;rw [cond_false,RB (Uq rfl)];exact⟨rfl,rfl⟩
  intro _;rw [amS,ao,aC,bH (by omega) (by omega)];exact⟨⟨k+1,rfl,by omega,rfl⟩,by show (_:Int).toNat< (_:Int).toNat;omega⟩
 ·exact h
theorem RC {b r1 r2:Nat} {cs:List UInt8} {c:UInt8} (hc:c≠47) (o:aw H0 H (si b r1 r2 (mN cs) (mD cs) L)) (h: ∀H',aw H0 H' (si b r1 r2 (mN (cs++ [c])) (mD (cs++ [c])) L)→R (.tuple #[]) H'):ab Tryz.prog 145 #[at_ b 0,str (fK c)] H R:=by
 refine iD.vc _ _ _ _ ?_;unfold iD.res;rw [aA,ag,au];refine o.az (b:=b) (f:=0+0) (w:= .map (some r1)) (by repeat(first|exact ajP|apply ajO)) rfl ?_;refine Go.Vc.fS.set (κ:=strKeys) (o.ay (T:=tE r1 (mN cs)) (by repeat(first|exact ajP|apply ajO))) (k:=fK c) fun H2 hm hs d_=>?_;rw [Xh] at hm;have o:aw H0 H2 (si b r1 r2 (mN (cs++ [c])) (mD cs) L):=o.nq (i:= .ay (tE r1 (mN cs))) (i' := .ay (tE r1 (mN (cs++ [c])))) (by repeat(first|exact bd.here|apply bd.there)) (by omega) (fun k _ hf=>d_ k hf) hm (fun k hk=> .inl hk);refine aJ ?_;refine⟨fun i H' => ∃k:Nat,i= .int .i64 (k:Int)∧k≤6∧aw H0 H' (si b r1 r2 (mN (cs++ [c])) (mD (if k≤1 then cs else cs++ [c])) L),fun i _=>match i with| .int _ x=> (6 - x).toNat|_=>0,⟨0,rfl,by omega,o⟩,?_⟩;clear o;rintro _ _ H3 ⟨k,rfl,hk,o⟩;have h6: (fK c).length=6:=rfl;rw [aQ];refine ax (fun lz=>?_) (fun lz=>?_)
 ·have Us:k<6:=by omega
  have ji:=IC hc k Us;rw [dU,cn];refine⟨by omega,by omega,?_⟩;rw [ajS,dU,cn];refine⟨by decide,by decide,?_⟩;rw [bj];refine ax (fun h1=>?_) (fun h1=>?_)
  ·have rO:k=1:=ji.1 (Int.ofNat.inj h1)
   subst rO;rw [if_pos (ajR 1)] at o;rw [aA,ag,au];refine o.az (b:=b) (f:=0+1) (w:= .map (some r2)) (by repeat(first|exact ajP|apply ajO)) rfl ?_;refine bz (lo:=0) (hi:=1) (.inr ⟨rfl,rfl⟩) (.inl rfl) (by decide) (by rw [h6];decide) ?_;refine Go.Vc.fS.set (κ:=strKeys) (o.ay (T:=tE r2 (mD cs)) (by repeat(first|exact ajP|apply ajO))) (k:= [c]) fun H4 hm hs d_=>?_;rw [Xi] at hm;have o:aw H0 H4 (si b r1 r2 (mN (cs++ [c])) (mD (cs++ [c])) L):=o.nq (i:= .ay (tE r2 (mD cs))) (i' := .ay (tE r2 (mD (cs++ [c])))) (by repeat(first|exact bd.here|apply bd.there)) (by omega) (fun k _ hf=>d_ k hf) hm (fun k hk=> .inl hk);rw [aC,bH (by decide) (by decide)];exact⟨⟨2,rfl,by decide,o⟩,by show (_:Int).toNat< (_:Int).toNat;decide⟩
  ·have rO:k≠1:=fun e=>h1 (by have:=ji.2 e;show ((_:Nat):Int)=47;omega)
   rw [aC,bH (by omega) (by omega)];refine⟨⟨k+1,rfl,by omega,?_⟩,by show (_:Int).toNat< (_:Int).toNat;omega⟩;have e: (if k+1≤1 then cs else cs++ [c])=if k≤1 then cs else cs++ [c]:=by
    by_cases h0:k=0
    ·subst h0;rfl
    ·rw [if_neg (by omega),if_neg (by omega)]
   rw [e];exact o
 ·have:k=6:=by omega
  subst this;exact h H3 o
theorem yu {v:Value} {cs:List UInt8} (hs:Sl H v 1 (iC (cs.map fK))) (hl:cs.length≤100) (hd:cs.Nodup) (hc: ∀c∈cs,c≠47∧zF (fK c)) (h: ∀H',Ext H H' →R (.tuple #[.int .i64 0,.int .i64 0]) H'):ab Tryz.prog 93 #[v] H R:=by
 have iv: (iC (cs.map fK)).length=cs.length*1:=by rw [oJ,aka,aj0]
 refine pV.vc _ _ _ ?_;unfold pV.res;refine hs.len iv (by decide) ?_;rw [bU,decide_eq_false (by omega),ao];refine vi strKeys fun H1 ZV nP _=>?_;have e1: (fun _=>none)=mN []:=by funext k;exact(RB (by simp)).symm
 have e2: (fun _=>none)=mD []:=by funext k;exact(Vw (by simp)).symm
 rw [e1] at ZV;have o:= (aw.start (H:=H)).add nP (i:= .ay (tE H.size (mN []))) ZV (by intro k hk;obtain rfl:k=H.size:=hk;exact ajR _);generalize H.size=r1 at o;refine vi strKeys fun H2 Lc rR _=>?_;rw [e2] at Lc;have o:=o.add rR (i:= .ay (tE H1.size (mD []))) Lc (by intro k hk;obtain rfl:k=H1.size:=hk;exact ajR _);generalize H1.size=r2 at o;refine aU rfl (by decide) ?_;refine aU rfl (by simp) ?_;rw [bG];refine o.box fun b H3 o _=>?_;have o:aw H H3 (si b r1 r2 (mN []) (mD []) []):=o.arr (by repeat(first|exact dV.nil|exact bu.here|apply dV.cons|apply bu.there));refine hs.len iv (by decide) ?_;refine⟨fun i H' => ∃k:Nat,i= .int .i64 (k:Int)∧k≤cs.length∧aw H H' (si b r1 r2 (mN (cs.take k)) (mD (cs.take k)) []),fun i _=>match i with| .int _ x=> (cs.length - x).toNat|_=>0,⟨0,rfl,by omega,o⟩,?_⟩;clear o;rintro _ _ H4 ⟨k,rfl,hk,o⟩;rw [aQ];refine ax (fun lz=>?_) (fun lz=>?_)
 ·have j5:k<cs.length:=by omega
  have Ol:=hs.ext o.ext;obtain⟨g1,g2⟩:=hc _ (ajZ j5);have sd:cs.take (k+1)=cs.take k++ [cs[k]]:=by rw [akq,ajV j5];rfl
  have hni:cs[k] ∉cs.take k:=fun hm=>by
   obtain⟨j,hj,e⟩:=alF hm;rw [ajW] at hj;rw [ana] at e;exact anh.1 hd j k (by omega) j5 (by omega) e
  refine Ol.at_ iv (by decide) (by omega) (by omega) fun p hp=>?_;refine hp.load Ol (w:=str (fK cs[k])) (by rw [ajS,aj0,EN (by rw [aka];exact j5),alG]) ?_;refine g2.ok _ _ fun H5 wQ=>?_;have o:=o.more wQ;refine jD ?_;rw [ao];refine Lk g1 hni o ?_;rw [ao];refine RC g1 o fun H6 o=>?_;rw [←sd] at o;rw [aC,bH (by omega) (by omega)];exact⟨⟨k+1,rfl,by omega,o⟩,by show (_:Int).toNat< (_:Int).toNat;omega⟩
 ·exact h H4 o.ext
end
end Go.Proofs.YtpcgccdmmoggmaaGreatDoor
namespace Go.Vc
open Go
section
set_option maxRecDepth 100000
abbrev p7 (fn:FuncId) (tmps:Array Value) (ps:Array Tmp) (assign body:Code) (d:Nat) (st:LoopState) (pe:Option Code):Loop:= {state:=st,pending:=pe,fn:=fn,tmps:=tmps,params:=ps,assign:=assign,body:=body,defers:=d}
theorem CU {n:Nat} {P:Program} {g:Operand} {ps:Array Tmp} {assign body:Code} {Q:Exit→Act→World→Prop} {a:Act} {w:World} {gf:Nat} {lb:Array Value} (hg:a.eval g= .func (.func gf) #[] lb) (eg: ∀args w,(callFunc gf args).run P w= .ok (.enter gf args) w)
  (h: ∀ (fn:FuncId) (W1:World),W1= (w.alloc (.deferred (some []))).alloc (.loop (p7 fn a.tmps ps assign body w.heap.size .ready none))→
   W1.heap[w.heap.size+1]? =some (.loop (p7 fn a.tmps ps assign body w.heap.size .ready none))→W1.heap[w.heap.size]? =some (.deferred (some []))→Ext w.heap W1.heap→Go.Vc.dI w W1→
   CallsIn Fence.wide (n - 1) P gf (#[.func (.yield (w.heap.size+1)) #[] #[]]++lb) W1 fun e W' => ∃v st pe,e= .returned v∧W'.heap[w.heap.size+1]? =some (.loop (p7 fn a.tmps ps assign body w.heap.size st pe))∧st≠ .busy∧
    (match pe with
     |none=>Q .normal {a with defers:= {target:= .collected w.heap.size,args:= #[]}::a.defers} (W'.putObj (w.heap.size+1) (.loop (p7 fn a.tmps ps assign body w.heap.size .exhausted none)))
     |some c=>c.wpIn Fence.wide n P Q {a with defers:= {target:= .collected w.heap.size,args:= #[]}::a.defers} (W'.putObj (w.heap.size+1) (.loop (p7 fn a.tmps ps assign body w.heap.size .exhausted (some c)))))):
  (Code.rangeFunc g ps assign body).wpIn Fence.wide n P Q a w:=by
 refine wpIn_rangeFunc ?_;intro fn hfn;obtain⟨W1,YB⟩: ∃W1,(w.alloc (.deferred (some []))).alloc (.loop (p7 fn a.tmps ps assign body w.heap.size .ready none))=W1:= ⟨_,rfl⟩;have hL1:W1.heap[w.heap.size+1]? =some (.loop (p7 fn a.tmps ps assign body w.heap.size .ready none)):=by
  rw [←YB];have:=World.alloc_heap_new (w.alloc (.deferred (some []))) (.loop (p7 fn a.tmps ps assign body w.heap.size .ready none));rwa [World.size_alloc] at this
 have hK1:W1.heap[w.heap.size]? =some (.deferred (some [])):=by
  rw [←YB];exact(Go.RowKit.Below.heap_alloc _ _ _ (by simp)).trans (World.alloc_heap_new w _)
 have nP:Ext w.heap W1.heap:=by
  rw [←YB];exact(Ext.refl _).push.push
 have A3:Go.Vc.dI w W1:=by
  rw [←YB];exact⟨rfl,rfl,rfl,fun _=>ajR _⟩
 refine⟨w.heap.size+1,[{target:= .collected w.heap.size,args:= #[]}],W1,{target:= .fn (.func gf) lb,args:= #[.func (.yield (w.heap.size+1)) #[] #[]]},W1,gf,
  #[.func (.yield (w.heap.size+1)) #[] #[]]++lb,W1,?_,?_,?_,?_,fun h=>by simp [Fence.wide] at h,?_⟩
 ·rw [←YB];exact run_enterLoop_outer _ _ _ _ _
 ·simp only [resolve,hg]
  simp [go_sem]
 ·intro f' Yn;trivial
 ·simp [invoke,go_sem,eg]
 ·refine(h fn W1 YB.symm hL1 hK1 nP A3).mono ?_
  rintro e W' ⟨v,st,pe,rfl,hL,ff,hQ⟩;refine⟨pe,_,run_endLoop hL ff,?_⟩
  cases pe<;>exact hQ
theorem CV {P:Program} {l:Nat} {fn:FuncId} {tmps:Array Value} {ps:Array Tmp} {assign body:Code} {d:Nat} {args:Array Value} {W:World} {R:Ending→World→Prop} (hL:W.heap[l]? =some (.loop (p7 fn tmps ps assign body d .ready none))) (hs:args.size=ps.size)
  (h:assign.wpIn (Fence.wide.inRound l) 0 P (Exit.then (fun a₁ w₁=> ∃w₂,(Instr.beginRound l).run P w₁= .ok () w₂∧body.wpIn (Fence.wide.inRound l) 0 P (roundPost P l R) a₁ w₂) (fun _ _ _=>False))
   {tmps:= (ps.zip args).foldl (fun tmps (t,a)=>tmps.setIfInBounds t a) tmps,defers:= []} W):
  YieldAt Fence.wide 0 P l args W R:=
 ⟨_,_,_,_,run_yield hL hs,roundIn_of_wpIn trivial h⟩
theorem ID {W:World} {l:Nat} {o o1:Obj} (h:W.heap[l]? =some o): (W.putObj l o1).putObj l o=W:=by
 unfold World.putObj;have e: (W.heap.setIfInBounds l o1).setIfInBounds l o=W.heap:=by
  refine alz fun i=>?_;rw [al2]
  split
  ·rename_i hi
   subst hi;rw [Array.size_setIfInBounds,if_pos (bw h),h]
  ·rename_i hi
   rw [al2,if_neg hi]
 simp only [e]
theorem OA {P:Program} {l:Nat} {fn:FuncId} {tmps:Array Value} {ps:Array Tmp} {assign body:Code} {d:Nat} {W:World} (hL:W.heap[l]? =some (.loop (p7 fn tmps ps assign body d .ready none))):
  (Instr.endRound l none).run P (W.putObj l (.loop (p7 fn tmps ps assign body d .busy none)))= .ok (.bool true) W:=by
 have h1: (W.putObj l (.loop (p7 fn tmps ps assign body d .busy none))).heap[l]? =some (.loop (p7 fn tmps ps assign body d .busy none)):=World.putObj_heap_same (bw hL);have:=run_endRound (P:=P) none h1;rw [this];show Result.ok (Value.bool true) ((W.putObj l _).putObj l (.loop (p7 fn tmps ps assign body d .ready none)))=_;rw [ID hL]
end
end Go.Vc
namespace Go.Proofs.YtpcgccdmmoggmaaGreatDoor
open Go Go.Vc Go.Proofs Go.RowKit Go.Shelf
section
set_option maxRecDepth 100000
variable {H H0 H' :ak} {R:Value→ak→Prop} {L:List It} {s:List UInt8}
def Ll (x:Nat):Bool:=decide ((x:Int)<32) ||decide ((x:Int)=127) ||decide ((x:Int)=92)
theorem Xj (w:World):PredAt Tryz.prog 194 #[] encR Ll w:=fun W x hb=>by
 show Calls Tryz.prog 194 #[.int .i32 (x:Int)] W _
 go_enter Tryz.func194,Tryz.ntmps194
 go_wp2
 ·go_ret
  rename_i h1 h2
  refine⟨?_,0,rfl⟩;unfold Ll;rw [decide_eq_true h2,Bool.or_true,Bool.true_or]
  rfl
 ·go_ret
  refine⟨rfl,0,rfl⟩
 ·go_ret
  rename_i h1
  refine⟨?_,0,rfl⟩;unfold Ll;rw [decide_eq_true h1,Bool.true_or,Bool.true_or]
  rfl
theorem RD: ∀i:Fin 5,Lib.idxFunc Ll true ⟨(fK (UInt8.ofNat (97+i.val))).toArray⟩= -1:=by decide+kernel
theorem E9: ∀i:Fin 5,∀x∈fK (UInt8.ofNat (97+i.val)),x.toNat<128:=by decide
theorem RE: ∀i:Fin 5,(⟨(fK (UInt8.ofNat (97+i.val))).toArray⟩:ByteArray).toList.isEmpty=false:=by decide+kernel
theorem Eh (hi:Lib.idxFunc Ll true ⟨s.toArray⟩= -1) (h: ∀H',Ext H H' →R (.bool false) H'):ab Tryz.prog 193 #[str s,.func (.func 194) #[] #[]] H R:=
 ud (fun w hw=> (Tryz.strings_ContainsFunc 194 #[] (enters_of Tryz.func194 (by kernel_rfl) rfl) Ll ⟨s.toArray⟩ w (Xj w)).mono fun e w' he=> ⟨by rw [he.1,hi];rfl,he.2⟩) h
abbrev Gr (b1 b2 b3:Nat) (s:List UInt8):List It:= [.box b3 [.int .i64 0] 3,.box b2 [str [47]] 9,.box b1 [str s] 9]
theorem Lm (h: ∀H' b1 b2 b3,aw H H' (Gr b1 b2 b3 s)→R (.func (.func 264) #[] #[at_ b2 0,at_ b1 0,at_ b3 0]) H'):ab Tryz.prog 195 #[str s,str [47]] H R:=by
 refine iH.vc _ _ _ _ ?_;unfold iH.res;refine iI.vc _ _ _ _ _ ?_;unfold iI.res;refine(aw.start (H:=H)).box fun b1 H1 o _=>?_;refine o.box fun b2 H2 o _=>?_;refine o.box fun b3 H3 o _=>?_;exact h H3 b1 b2 b3 o
attribute [local go_sem] Oper.semAt_some
theorem index_spec (s:ByteArray) (c:UInt8) (w:World):CallsIn Fence.wide 0 Tryz.prog 266 #[.string s,.string ⟨#[c]⟩] w fun e w' =>e= .returned (.int .i64 (Lib.indexByte s.data.toList c))∧w' =w:=callsIn_wide.2 (Tryz.strings_Index_one s c w)
theorem j7 {W:World} {b:Nat} {v:Value} {t:TypeId} (h:W.heap[b]? =some (.cells #[v] t (0,0))):W.cell? ⟨b,0,none⟩=some v:=by rw [Mq,e_ h];rfl
theorem IE {W:World} {b:Nat} {v:Value} {t:TypeId} (h:W.heap[b]? =some (.cells #[v] t (0,0))):W.frozen? ⟨b,0,none⟩=false:=by
 unfold World.frozen?
 simp [h]
def RF (s:ByteArray):Prop:= ∀ {l b1 b2 b3:Nat} {W:World} {t1 t2 t3:TypeId},W.heap[b1]? =some (.cells #[.string s] t1 (0,0))→W.heap[b2]? =some (.cells #[.string ⟨#[47]⟩] t2 (0,0))→W.heap[b3]? =some (.cells #[.int .i64 0] t3 (0,0))→b2≠b1→b3≠b1→
  (∀ (W' :World) (f:ByteArray),f.toList.isEmpty=false→(f.toList== [46])=false→(f.toList== [46,46])=false→(∀k,k≠b1→W'.heap[k]? =W.heap[k]?)→YieldAt Fence.wide 0 Tryz.prog l #[.string f] W' fun e Tm =>e= .returned (.bool true)∧Tm =W')→
  CallsIn Fence.wide 0 Tryz.prog 264 #[.func (.yield l) #[] #[],.pointer (some ⟨b2,0,none⟩),.pointer (some ⟨b1,0,none⟩),.pointer (some ⟨b3,0,none⟩)] W fun e W' => ∃v,e= .returned v∧(∀k,k≠b1→W'.heap[k]? =W.heap[k]?)∧W'.heap.size=W.heap.size∧Go.Vc.dI W W'
theorem OB {w:World}:Go.Vc.dI w w:= ⟨rfl,rfl,rfl,fun _=>ajR _⟩
theorem RG {l b1 b2 b3:Nat} {s f1 f2:ByteArray} {W:World} {t1 t2 t3:TypeId} (g1:W.heap[b1]? =some (.cells #[.string s] t1 (0,0))) (g2:W.heap[b2]? =some (.cells #[.string ⟨#[47]⟩] t2 (0,0))) (g3:W.heap[b3]? =some (.cells #[.int .i64 0] t3 (0,0))) (YC:b2≠b1) (YD:b3≠b1)
  (i1:Lib.indexByte s.data.toList 47=1) (i2:Lib.indexByte f2.data.toList 47= -1) (e1:s.extract 0 1=f1) (e2:s.extract 2 6=f2) (hs:s.size=6)
  (Y: ∀ (W' :World) (f:ByteArray),(f=f1∨f=f2)→(W' =W∨W' =W.setCell ⟨b1,0,none⟩ (.string f2))→YieldAt Fence.wide 0 Tryz.prog l #[.string f] W' fun e Tm =>e= .returned (.bool true)∧Tm =W'):
  CallsIn Fence.wide 0 Tryz.prog 264 #[.func (.yield l) #[] #[],.pointer (some ⟨b2,0,none⟩),.pointer (some ⟨b1,0,none⟩),.pointer (some ⟨b3,0,none⟩)] W fun e W' => ∃v,e= .returned v∧W' =W.setCell ⟨b1,0,none⟩ (.string f2):=by
 have c1:=j7 g1;have c2:=j7 g2;have c3:=j7 g3;have fz:=IE g1;have d1:=j7 (one_setCell g1 (u:= .string f2));have d2:=j7 ((Go.RowKit.Below.heap_setCell W ⟨b1,0,none⟩ (.string f2) b2 YC).trans g2);have d3:=j7 ((Go.RowKit.Below.heap_setCell W ⟨b1,0,none⟩ (.string f2) b3 YD).trans g3);obtain⟨fn1,tm1,as1,bo1,hy1,Vx⟩:=Y W f1 (.inl rfl) (.inl rfl);obtain⟨fn2,tm2,as2,bo2,hy2,hR2⟩:=Y (W.setCell ⟨b1,0,none⟩ (.string f2)) f2 (.inr rfl) (.inr rfl);clear Y g1 g2 g3 YC YD;refine callsIn_of_wp Tryz.func264 rfl trivial ?_ rfl;simp only [Tryz.ntmps264,akI,aj2,aj7,Nat.reduceAdd,Nat.reduceSub,amv,amw,amx,amy,aj4,akX]
 gi_wp2
 refine wpIn_loop_rounds 2 ?_;rw [roundsIn_succ]
 gi_wp2_with (first| (refine⟨trivial,rfl,?_⟩;gi_at_call 266;refine(index_spec _ _ _).mono ?_;rintro e _ ⟨rfl,rfl⟩) | (refine⟨rfl,?_⟩;refine Vx.mono ?_;clear Vx;rintro e _ ⟨rfl,rfl⟩) | (refine⟨rfl,?_⟩;refine hR2.mono ?_;clear hR2;rintro e _ ⟨rfl,rfl⟩))
 rw [roundsIn_succ]
 gi_wp2_with (first| (refine⟨trivial,rfl,?_⟩;gi_at_call 266;refine(index_spec _ _ _).mono ?_;rintro e _ ⟨rfl,rfl⟩) | (refine⟨rfl,?_⟩;refine hR2.mono ?_;clear hR2;rintro e _ ⟨rfl,rfl⟩))
 go_end0
 exact⟨_,rfl,rfl⟩
def MY:ByteArray:= ⟨#[102,105,108,101]⟩
theorem Ut: ∀i:Fin 5,Lib.indexByte (fK (UInt8.ofNat (97+i.val))) 47=1:=by decide+kernel
theorem Uu: ∀i:Fin 5,((⟨(fK (UInt8.ofNat (97+i.val))).toArray⟩:ByteArray).extract 0 1).data.toList= [UInt8.ofNat (97+i.val)]:=by decide+kernel
theorem Uv: ∀i:Fin 5,((⟨(fK (UInt8.ofNat (97+i.val))).toArray⟩:ByteArray).extract 2 6).data.toList= [102,105,108,101]:=by decide+kernel
theorem Gs: ∀i:Fin 5,(⟨#[UInt8.ofNat (97+i.val)]⟩:ByteArray).toList.isEmpty=false∧((⟨#[UInt8.ofNat (97+i.val)]⟩:ByteArray).toList== [46])=false∧((⟨#[UInt8.ofNat (97+i.val)]⟩:ByteArray).toList== [46,46])=false:=by decide+kernel
theorem Gt:MY.toList.isEmpty=false∧(MY.toList== [46])=false∧(MY.toList== [46,46])=false:=by decide+kernel
theorem Vy {a:ByteArray} {l:List UInt8} (h:a.data.toList=l):a= ⟨l.toArray⟩:=by
 obtain⟨⟨d⟩⟩:=a;simp only at h;rw [h]
theorem Uw: ∀i:Fin 5,(((⟨(fK (UInt8.ofNat (97+i.val))).toArray⟩:ByteArray).size:Int)>65535)=False:=fun i=>eq_false (show ¬ ((6:Int)>65535) by decide)
theorem Ux (i:Fin 5):RF ⟨(fK (UInt8.ofNat (97+i.val))).toArray⟩:=by
 intro l b1 b2 b3 W t1 t2 t3 g1 g2 g3 YC YD Y;refine(RG (f1:= ⟨#[UInt8.ofNat (97+i.val)]⟩) (f2:=MY) g1 g2 g3 YC YD (Ut i) (by decide+kernel) (Vy (Uu i)) (Vy (Uv i)) rfl (fun W' f hf ZW =>?_)).mono ?_
 ·refine Y W' f ?_ ?_ ?_ ?_
  ·rcases hf with rfl|rfl
   ·exact(Gs i).1
   ·exact Gt.1
  ·rcases hf with rfl|rfl
   ·exact(Gs i).2.1
   ·exact Gt.2.1
  ·rcases hf with rfl|rfl
   ·exact(Gs i).2.2
   ·exact Gt.2.2
  ·rcases ZW with rfl|rfl
   ·exact fun _ _=>rfl
   ·exact fun k hk=>Go.RowKit.Below.heap_setCell _ _ _ _ hk
 ·rintro e _ ⟨v,rfl,rfl⟩
  exact⟨v,rfl,fun k hk=>Go.RowKit.Below.heap_setCell _ _ _ _ hk,by simp [World.setCell],⟨rfl,rfl,rfl,fun _=>ajR _⟩⟩
theorem Uy {s:ByteArray} (i1:Lib.indexByte s.data.toList 47= -1) (q1:s.toList.isEmpty=false) (q2: (s.toList== [46])=false) (q3: (s.toList== [46,46])=false):RF s:=by
 intro l b1 b2 b3 W t1 t2 t3 g1 g2 g3 YC YD Y;have c1:=j7 g1;have c2:=j7 g2;have c3:=j7 g3;obtain⟨fn1,tm1,as1,bo1,hy1,Vx⟩:=Y W s q1 q2 q3 fun _ _=>rfl;clear Y g1 g2 g3 YC YD;refine callsIn_of_wp Tryz.func264 rfl trivial ?_ rfl;simp only [Tryz.ntmps264,akI,aj2,aj7,Nat.reduceAdd,Nat.reduceSub,amv,amw,amx,amy,aj4,akX]
 gi_wp2
 refine wpIn_loop_rounds 1 ?_;rw [roundsIn_succ]
 gi_wp2_with (first| (refine⟨trivial,rfl,?_⟩;gi_at_call 266;refine(index_spec _ _ _).mono ?_;rintro e _ ⟨rfl,rfl⟩) | (refine⟨rfl,?_⟩;refine Vx.mono ?_;clear Vx;rintro e _ ⟨rfl,rfl⟩))
 go_end0
 exact⟨_,rfl,fun _ _=>rfl,rfl,OB⟩
theorem CW {n:List UInt8} (hl:n.length≤8) (Xk: ∀x∈n,x.toNat<128) (adt:Lib.idxFunc Ll true ⟨n.toArray⟩= -1) (d_: (⟨n.toArray⟩:ByteArray).toList.isEmpty=false) (u0: (((⟨n.toArray⟩:ByteArray).size:Int)>65535)=False) (ZX:RF ⟨n.toArray⟩) (w:World):CallsIn Fence.wide 0 Tryz.prog 143 #[str n] w fun e w' => ∃v,e= .returned v∧Go.Vc.dI w w' ∧v= .int .i64 0∧Ext w.heap w'.heap:=by
 obtain⟨s,hs⟩: ∃s,s= (⟨n.toArray⟩:ByteArray):= ⟨_,rfl⟩;have hV: ∀W:World,CallsIn Fence.wide 0 Tryz.prog 192 #[.string s] W fun e W' => ∃v,e= .returned v∧Go.Vc.dI W W' ∧(v= .bool true∧Ext W.heap W'.heap):=fun W=>by
  rw [hs];exact callsIn_wide.2 (Lj (s:=n) (R:=fun v H' =>v= .bool true∧Ext W.heap H') hl Xk ⟨rfl,Ext.refl _⟩ W rfl)
 have hC: ∀W:World,CallsIn Fence.wide 0 Tryz.prog 193 #[.string s,.func (.func 194) #[] #[]] W fun e W' => ∃v,e= .returned v∧Go.Vc.dI W W' ∧(v= .bool false∧Ext W.heap W'.heap):=fun W=>by
  rw [hs];exact callsIn_wide.2 (Eh adt (R:=fun v H' =>v= .bool false∧Ext W.heap H') (fun H' hx=> ⟨rfl,hx⟩) W rfl)
 have hS: ∀W:World,CallsIn Fence.wide 0 Tryz.prog 195 #[.string s,.string ⟨#[47]⟩] W fun e W' => ∃v,e= .returned v∧Go.Vc.dI W W' ∧(∃b1 b2 b3,v= (.func (.func 264) #[] #[.pointer (some ⟨b2,0,none⟩),.pointer (some ⟨b1,0,none⟩),.pointer (some ⟨b3,0,none⟩)])∧aw W.heap W'.heap (Gr b1 b2 b3 n)):=fun W=>by
  rw [hs];exact callsIn_wide.2 (Lm (s:=n) (H:=W.heap) (R:=fun v H' => ∃b1 b2 b3,v= (.func (.func 264) #[] #[.pointer (some ⟨b2,0,none⟩),.pointer (some ⟨b1,0,none⟩),.pointer (some ⟨b3,0,none⟩)])∧aw W.heap H' (Gr b1 b2 b3 n)) (fun H' b1 b2 b3 o=> ⟨b1,b2,b3,rfl,o⟩) W rfl)
 have hsb: ∀b1 b2 b3,Gr b1 b2 b3 n= [.box b3 [.int .i64 0] 3,.box b2 [.string ⟨#[47]⟩] 9,.box b1 [.string s] 9]:=by rw [hs];intro b1 b2 b3;rfl
 rw [←hs] at d_ u0 ZX;show CallsIn Fence.wide 0 Tryz.prog 143 #[.string ⟨n.toArray⟩] w _;rw [←hs];clear hs;refine callsIn_of_wp_marks Tryz.func143 rfl trivial ?_ rfl;simp only [Tryz.ntmps143,akI,aj2,aj7,Nat.reduceAdd,Nat.reduceSub,amv,amw,amx,amy,aj4,akX]
 gi_wp2_with (first| (refine⟨trivial,rfl,?_⟩;gi_at_call 192;refine(hV _).mono ?_;rintro e W1 ⟨_,rfl,A3,rfl,nP⟩) | (refine⟨trivial,rfl,?_⟩;gi_at_call 193;refine(hC _).mono ?_;rintro e W2 ⟨_,rfl,tR,rfl,rR⟩) | (refine⟨trivial,rfl,?_⟩;gi_at_call 195;refine(hS _).mono ?_;rintro e W3 ⟨_,rfl,KF,b1,b2,b3,rfl,o3⟩))
 refine CU (gf:=264) (lb:= #[.pointer (some ⟨b2,0,none⟩),.pointer (some ⟨b1,0,none⟩),.pointer (some ⟨b3,0,none⟩)]) rfl (enters_of Tryz.func264 (by kernel_rfl) rfl) ?_;intro fn W4 hW4 hL hD tV Xl;have hY: ∀ (W:World) (f:ByteArray),W.heap[W3.heap.size+1]? =W4.heap[W3.heap.size+1]? →f.toList.isEmpty=false→(f.toList== [46])=false→(f.toList== [46,46])=false→YieldAt Fence.wide 0 Tryz.prog (W3.heap.size+1) #[.string f] W fun e W' =>e= .returned (.bool true)∧W' =W:=by
  intro W f hW hf hf1 hf2;have Xm :=hL;rw [←hW] at Xm;refine CV Xm rfl ?_
  gi_wp2
  refine⟨_,run_beginRound Xm rfl,?_⟩
  gi_wp2
  exact⟨_,_,OA Xm,rfl,rfl⟩
 rw [hsb] at o3;have g1:=o3.ll (b:=b1) (cs:= [.string s]) (t:=9) (by repeat(first|exact ajP|apply ajO));have g2:=o3.ll (b:=b2) (cs:= [.string ⟨#[47]⟩]) (t:=9) (by repeat(first|exact ajP|apply ajO));have g3:=o3.ll (b:=b3) (cs:= [.int .i64 0]) (t:=3) (by repeat(first|exact ajP|apply ajO));have n1:=o3.new (.box b1 [.string s] 9) (by repeat(first|exact ajP|apply ajO)) b1 rfl;have n12:b2≠b1:=fun e=>by
  have:= (aki.1 (aki.1 o3.G_).2).1 (.box b1 [.string s] 9) (by simp) b1;exact this e rfl
 have n13:b3≠b1:=fun e=>by
  have:= (aki.1 o3.G_).1 (.box b1 [.string s] 9) (by simp) b1;exact this e rfl
 have aha:=bw g1;refine(ZX (tV.ll g1) (tV.ll g2) (tV.ll g3) n12 n13 fun W' f q1 q2 q3 ZW =>hY W' f (ZW _ (show W3.heap.size+1≠b1 by omega)) q1 q2 q3).mono ?_;rintro e W5 ⟨v,rfl,k5,z5,hr5⟩;have ZY:W5.heap[W3.heap.size+1]? =W4.heap[W3.heap.size+1]? :=k5 _ (show W3.heap.size+1≠b1 by omega);refine⟨v,.ready,none,rfl,ZY.trans hL,by simp,?_⟩;have r0: (w.alloc (.cells #[.int .i64 0] 27)).heap[w.heap.size]? =some (.cells #[.int .i64 0] 27 (0,0)):=World.alloc_heap_new _ _;have ahb:=bw r0;have Uz:=nP.trans (rR.trans o3.ext);have hn:w.heap.size≠b1:=by have:= (nP.trans rR).size;omega
 have ahc:=Uz.size;have r5:W5.heap[w.heap.size]? =some (.cells #[.int .i64 0] 27 (0,0)):=by
  rw [k5 _ hn];exact tV.ll (Uz.ll r0)
 generalize FL:Obj.loop _=Ln;have r6: (W5.putObj (W3.heap.size+1) Ln).heap[w.heap.size]? =some (.cells #[.int .i64 0] 27 (0,0)):=by
  rw [World.putObj_heap_other (by omega)];exact r5
 have d5: (W5.putObj (W3.heap.size+1) Ln).heap[W3.heap.size]? =some (.deferred (some [])):=by
  rw [World.putObj_heap_other (by omega),k5 _ (show W3.heap.size≠b1 by omega)];exact hD
 obtain⟨W6,Tn⟩: ∃W6,W6=W5.putObj (W3.heap.size+1) Ln:= ⟨_,rfl⟩;rw [←Tn] at r6 d5 ⊢;have c6:=j7 r6;have z6:=IE r6;have xn:Ext w.heap W6.heap:= ⟨by
   rw [Tn];have h1:=tV.size;have h2:w.heap.size≤W3.heap.size:=by omega
   simp only [World.putObj,Array.size_setIfInBounds,z5];omega,fun k hk=>by
  rw [Tn,World.putObj_heap_other (by omega),k5 k (by have:= (nP.trans rR).size;omega),tV.get k (by omega),Uz.get k (by omega)];exact Go.RowKit.Below.heap_alloc _ _ _ hk⟩
 have hr6:Go.Vc.dI w W6:=by
  have h1:Go.Vc.dI w (w.alloc (.cells #[.int .i64 0] 27)):= ⟨rfl,rfl,rfl,fun _=>ajR _⟩;have h5:Go.Vc.dI W4 W6:=by rw [Tn];exact hr5.trans ⟨rfl,rfl,rfl,fun _=>ajR _⟩
  exact((((h1.trans A3).trans tR).trans KF).trans Xl).trans h5
 have YE:w.heap.size<W3.heap.size:=by omega
 clear Tn hY hL ZY hD hW4 FL r5 tV Xl g1 g2 g3 n1 n12 n13 o3 Uz A3 tR KF nP rR
 gi_wp2
 generalize hU:W6.setCell ⟨w.heap.size,0,none⟩ (.int .i64 0)=U;have hK:U.heap[W3.heap.size]? =some (.deferred (some [])):=by rw [←hU];exact(Go.RowKit.Below.heap_setCell W6 ⟨w.heap.size,0,none⟩ (.int .i64 0) _ (show W3.heap.size≠w.heap.size by omega)).trans d5
 have rU:U.heap[w.heap.size]? =some (.cells #[.int .i64 0] 27 (0,0)):=by rw [←hU];exact one_setCell r6
 have hxU:Ext w.heap U.heap:=by
  refine⟨by rw [←hU];have:=xn.size;simp [World.setCell];omega,fun k hk=>?_⟩;rw [←hU,Go.RowKit.Below.heap_setCell _ _ _ _ (show k≠(⟨w.heap.size,0,none⟩:Addr).block by show k≠w.heap.size;omega)];exact xn.get k hk
 have hrU:Go.Vc.dI w U:=by
  rw [←hU];exact hr6.trans ⟨rfl,rfl,rfl,fun _=>ajR _⟩
 clear hU;refine⟨by simp,.inl ⟨_,_,rfl,run_takeDeferred hK,?_⟩⟩;have rV: (U.putObj W3.heap.size (.deferred none)).heap[w.heap.size]? =some (.cells #[.int .i64 0] 27 (0,0)):=by
  rw [World.putObj_heap_other (by omega)];exact rU
 have cV:=j7 rV;refine⟨.int .i64 0,?_,_,rfl,hrU.trans ⟨rfl,rfl,rfl,fun _=>ajR _⟩,rfl,⟨by have:=hxU.size;simp [World.putObj];omega,fun k hk=>?_⟩⟩
 ·have ZZ: ∀w:World,(isAgg 27).run Tryz.prog w= .ok false w:=fun w=>by
   unfold isAgg;rw [Sem.run_bind,run_underlying (d:= .int .i64) (by kernel_rfl) w]
   rfl
  simp [results,Tryz.func143,asAddr,loadVar,Sem.run_bind,Result.andThen,ZZ,cV]
 ·rw [World.putObj_heap_other (by omega)];exact hxU.get k hk
theorem CX (i:Fin 5):zF (fK (UInt8.ofNat (97+i.val))) where
 len:=ajU rfl
 ne:=by intro h;cases h
 low:=E9 i
 ok:=fun H R h w hw=>by
  refine(callsIn_wide.1 (CW (ajU rfl) (E9 i) (RD i) (RE i) (Uw i) (Ux i) w)).mono ?_;rintro e w' ⟨v,rfl,hr,rfl,hx⟩;exact⟨_,rfl,hr,h _ (by rw [←hw];exact hx)⟩
theorem zG:zF [97] where
 len:=ajU rfl
 ne:=by intro h;cases h
 low:=by decide
 ok:=fun H R h w hw=>by
  refine(callsIn_wide.1 (CW (n:= [97]) (ajU rfl) (by decide) (by decide+kernel) (by decide+kernel) (eq_false (by decide+kernel)) (Uy (by decide+kernel) (by decide+kernel) (by decide+kernel) (by decide+kernel)) w)).mono ?_;rintro e w' ⟨v,rfl,hr,rfl,hx⟩;exact⟨_,rfl,hr,h _ (by rw [←hw];exact hx)⟩
end
end Go.Proofs.YtpcgccdmmoggmaaGreatDoor
namespace Go.Proofs.YtpcgccdmmoggmaaGreatDoor
open Go Go.Vc Go.Proofs
section
set_option maxRecDepth 100000
variable {H H0 H' :ak} {R:Value→ak→Prop} {L:List It} {s:List UInt8}
theorem UA {b r1 r2:Nat} {n d:List UInt8→Option Value} (hn:n [97]=none) (hd:d [97]=none) (o:aw H0 H (si b r1 r2 n d L)) (h:R (.bool false) H):ab Tryz.prog 144 #[at_ b 0,str [97]] H R:=by
 refine fT.vc _ _ _ _ ?_;unfold fT.res;rw [aA,ag,au];refine o.az (b:=b) (f:=0+0) (w:= .map (some r1)) (by repeat(first|exact ajP|apply ajO)) rfl ?_;refine Go.Vc.fS.lookup (κ:=strKeys) (o.ay (T:=tE r1 n) (by repeat(first|exact ajP|apply ajO))) (k:= [97]) ?_;rw [cond_false,hn];refine bh ?_;rw [aA,ag,au];refine o.az (b:=b) (f:=0+1) (w:= .map (some r2)) (by repeat(first|exact ajP|apply ajO)) rfl ?_;refine Go.Vc.fS.lookup (κ:=strKeys) (o.ay (T:=tE r2 d) (by repeat(first|exact ajP|apply ajO))) (k:= [97]) ?_;rw [cond_false,hd];intro _;show ar (.bool false) _ _;rw [ao];refine aJ ?_;refine⟨fun i H' => ∃k:Nat,i= .int .i64 (k:Int)∧k≤1∧H=H',fun i _=>match i with| .int _ x=> (1 - x).toNat|_=>0,⟨0,rfl,by omega,rfl⟩,?_⟩;rintro _ _ _ ⟨k,rfl,hk,rfl⟩;rw [aQ];refine ax (fun lz=>?_) (fun lz=>?_)
 ·have Us:k=0:=by have: (k:Int)<1:=lz;omega
  subst Us;rw [dU,cn];refine⟨by decide,by decide,?_⟩;rw [dU,cn];refine⟨by decide,by decide,?_⟩;rw [bj];refine kn (d:=false) (fun h1=>absurd h1 (by decide)) ?_;intro _;rw [amS,ao,aC,bH (by decide) (by decide)];exact⟨⟨1,rfl,by omega,rfl⟩,by show (_:Int).toNat< (_:Int).toNat;decide⟩
 ·exact h
theorem Z0 {b r1 r2:Nat} {n d:List UInt8→Option Value} (o:aw H0 H (si b r1 r2 n d L)) (h: ∀H',aw H0 H' (si b r1 r2 (xU strKeys n [97] (some (.bool true))) d L)→R (.tuple #[]) H'):ab Tryz.prog 145 #[at_ b 0,str [97]] H R:=by
 refine iD.vc _ _ _ _ ?_;unfold iD.res;rw [aA,ag,au];refine o.az (b:=b) (f:=0+0) (w:= .map (some r1)) (by repeat(first|exact ajP|apply ajO)) rfl ?_;refine Go.Vc.fS.set (κ:=strKeys) (o.ay (T:=tE r1 n) (by repeat(first|exact ajP|apply ajO))) (k:= [97]) fun H2 hm hs d_=>?_;have o:aw H0 H2 (si b r1 r2 (xU strKeys n [97] (some (.bool true))) d L):=o.nq (i:= .ay (tE r1 n)) (i' := .ay (tE r1 (xU strKeys n [97] (some (.bool true))))) (by repeat(first|exact bd.here|apply bd.there)) (by omega) (fun k _ hf=>d_ k hf) hm (fun k hk=> .inl hk);refine aJ ?_;refine⟨fun i H' => ∃k:Nat,i= .int .i64 (k:Int)∧k≤1∧H2=H',fun i _=>match i with| .int _ x=> (1 - x).toNat|_=>0,⟨0,rfl,by omega,rfl⟩,?_⟩;rintro _ _ _ ⟨k,rfl,hk,rfl⟩;rw [aQ];refine ax (fun lz=>?_) (fun lz=>?_)
 ·have Us:k=0:=by have: (k:Int)<1:=lz;omega
  subst Us;rw [dU,cn];refine⟨by decide,by decide,?_⟩;rw [dU,cn];refine⟨by decide,by decide,?_⟩;rw [bj];refine ax (fun h1=>absurd h1 (by decide)) fun _=>?_;rw [aC,bH (by decide) (by decide)];exact⟨⟨1,rfl,by omega,rfl⟩,by show (_:Int).toNat< (_:Int).toNat;decide⟩
 ·exact h _ o
theorem Z1 {v:Value} (hs:Sl H v 1 (iC [[97]])) (h: ∀H',Ext H H' →R (.tuple #[.int .i64 0,.int .i64 0]) H'):ab Tryz.prog 93 #[v] H R:=by
 have iv: (iC [[97]]).length=1*1:=rfl;refine pV.vc _ _ _ ?_;unfold pV.res;refine hs.len iv (by decide) ?_;rw [bU,decide_eq_false (by decide),ao];refine vi strKeys fun H1 ZV nP _=>?_;have o:= (aw.start (H:=H)).add nP (i:= .ay (tE H.size (fun _=>none))) ZV (by intro k hk;obtain rfl:k=H.size:=hk;exact ajR _);generalize H.size=r1 at o;refine vi strKeys fun H2 Lc rR _=>?_;have o:=o.add rR (i:= .ay (tE H1.size (fun _=>none))) Lc (by intro k hk;obtain rfl:k=H1.size:=hk;exact ajR _);generalize H1.size=r2 at o;refine aU rfl (by decide) ?_;refine aU rfl (by simp) ?_;rw [bG];refine o.box fun b H3 o _=>?_;have o:aw H H3 (si b r1 r2 (fun _=>none) (fun _=>none) []):=o.arr (by repeat(first|exact dV.nil|exact bu.here|apply dV.cons|apply bu.there));refine hs.len iv (by decide) ?_;refine⟨fun i H' => ∃k:Nat,i= .int .i64 (k:Int)∧k≤1∧Ext H H' ∧(k=0→aw H H' (si b r1 r2 (fun _=>none) (fun _=>none) [])),fun i _=>match i with| .int _ x=> (1 - x).toNat|_=>0,⟨0,rfl,by omega,o.ext,fun _=>o⟩,?_⟩;clear o;rintro _ _ H4 ⟨k,rfl,hk,hx,o⟩;rw [aQ];refine ax (fun lz=>?_) (fun lz=>?_)
 ·have Us:k=0:=by have: (k:Int)<1:=lz;omega
  subst Us;have o:=o rfl;have Ol:=hs.ext o.ext;refine Ol.at_ iv (by decide) (by omega) (by omega) fun p hp=>?_;refine hp.load Ol (w:=str [97]) rfl ?_;refine zG.ok _ _ fun H5 wQ=>?_;have o:=o.more wQ;refine jD ?_;rw [ao];refine UA rfl rfl o ?_;rw [ao];refine Z0 o fun H6 o=>?_;rw [aC,bH (by decide) (by decide)];exact⟨⟨1,rfl,by omega,o.ext,fun e=>by omega⟩,by show (_:Int).toNat< (_:Int).toNat;decide⟩
 ·exact h H4 hx
structure CY (ns:List (List UInt8)):Prop where
 len:ns.length≤5
 nm: ∀n∈ns,zF n
 all: ∀ (k:Nat) (H:ak) (v:Value) (R:Value→ak→Prop),Sl H v 1 (iC (ns.take k))→(∀H',Ext H H' →R (.tuple #[.int .i64 0,.int .i64 0]) H')→ab Tryz.prog 93 #[v] H R
def qJ (m:Nat):List UInt8:= (List.range m).map fun i=>UInt8.ofNat (97+i)
theorem Ei: ∀m:Fin 6,(qJ m.val).Nodup∧∀c∈qJ m.val,c≠47∧∃i:Fin 5,c=UInt8.ofNat (97+i.val):=by decide
theorem IF (m:Nat) (hm:m≤5):CY ((qJ m).map fK):=by
 obtain⟨f1,f2⟩:=Ei ⟨m,by omega⟩;have hl: (qJ m).length=m:=by unfold qJ;simp
 refine⟨by rw [aka];omega,fun n hn=>?_,fun k H v R hs h=>?_⟩
 ·obtain⟨c,hc,rfl⟩:=akn.1 hn
  obtain⟨_,i,rfl⟩:=f2 c hc;exact CX i
 ·rw [←amk] at hs
  refine yu hs (by rw [ajW];omega) (f1.sublist (List.take_sublist _ _)) (fun c hc=>?_) h;obtain⟨h1,i,rfl⟩:=f2 c (akL hc);exact⟨h1,CX i⟩
theorem Z2:CY [[97]]:=by
 refine⟨by decide,fun n hn=>?_,fun k H v R hs h=>?_⟩
 ·obtain rfl:=akt.1 hn
  exact zG
 ·match k with
  |0=>exact yu (cs:= []) hs (by decide) amJ (fun c hc=>by cases hc) h
  |k+1=>exact Z1 (by simpa using hs) h
end
section
set_option maxRecDepth 100000
variable {B C E:List Bool} {W:List UInt8} {l:Bool}
inductive Steps:DM→List UInt8→DM→Prop
 |refl {D:DM}:Steps D [] D
 |step {D D1 D2:DM} {o1 o2:List UInt8}:dd D= .go D1 o1→Steps D1 o2 D2→Steps D (o1++o2) D2
theorem Steps.one {D D1:DM} {o:List UInt8} (h:dd D= .go D1 o):Steps D o D1:=by
 have:=Steps.step h Steps.refl
 rwa [akb] at this
theorem Steps.trans {D D1 D2:DM} {o1 o2:List UInt8} (h:Steps D o1 D1) (k:Steps D1 o2 D2):Steps D (o1++o2) D2:=by
 induction h with
 |refl=>exact k
 |step hs _ ih=>rw [ajT];exact .step hs (ih k)
theorem Steps.run {D D' :DM} {o:List UInt8} (h:Steps D o D'):run D= (o++ (run D').1,(run D').2):=by
 induction h with
 |refl=>simp
 |step hs _ ih=>rw [vr hs,ih];simp only [ajT]
theorem E_:run ⟨.hd,[],W⟩= ([],⟨.hd,[],W⟩,0):=rD rfl rfl
theorem Steps.fin {D D' :DM} {o:List UInt8} (h:Steps D o D') (hd:D'.st.mm=true):Go.Proofs.YtpcgccdmmoggmaaGreatDoor.run D= (o,D',0):=by
 rw [h.run,xk hd];simp
theorem RH {a b c:Bool}:gK 3 (a::b::c::C)= .ok (lE [a,b,c]) C:=by
 unfold gK;rw [if_pos (by simp)]
 rfl
theorem Lo:dd ⟨.hd,l::true::false::C,W⟩= .go ⟨.tl lI sI l,C,W⟩ []:=by
 have:j6 (l::true::false::C)= .ok (.tl lI sI l) C:=by
  unfold j6;rw [RH]
  cases l<;>rfl
 show (match j6 (l::true::false::C) with| .ok st B=>SR.go ⟨st,B,W⟩ [] | .er e=>SR.of _ e)=_;rw [this]
theorem RI {n:Nat} (h:n<65536):n ^^^ (65535 - n)=65535:=by
 apply ani;intro i;rw [amT,show 65535 - n=2 ^ 16 - (n+1) by omega,anx (by simpa using h),show (65535:Nat)=2 ^ 16 - 1 from rfl,anz]
 by_cases hi:i<16
 ·simp [hi]
 ·have:n.testBit i=false:=Nat.testBit_lt_two_pow (akO h (akd (n:=2) (i:=16) (by decide) (by omega)))
  simp [hi,this]
theorem IG {n:Nat} (hn:n<65536) (h:eZ C=aW n 16++aW (65535 - n) 16++E):dd ⟨.hd,l::false::false::C,W⟩= .go ⟨.cp n l,E,W⟩ []:=by
 have Zp:gK 32 (eZ C)= .ok (n+2 ^ 16* (65535 - n)) E:=by
  unfold gK;have hl: (aW n 16++aW (65535 - n) 16).length=32:=by rw [ajQ,aR,aR]
  rw [h,if_pos (by rw [ajQ,hl];omega)];rw [←hl,akM (ajR _),aj8,akH (ajR _),akW,aj4,Aq,lF,lF,aR,aj_ (by simpa using hn),aj_ (by omega)]
 have:j6 (l::false::false::C)= .ok (.cp n l) E:=by
  unfold j6;rw [RH]
  dsimp only [Rs.bind]
  have h0:lE [l,false,false] /2=0:=by cases l<;>rfl
  have h1:decide (lE [l,false,false] %2=1)=l:=by cases l<;>rfl
  rw [if_pos h0,Zp]
  dsimp only
  have e1: (n+2 ^ 16* (65535 - n)) %65536=n:=by omega
  have e2: (n+2 ^ 16* (65535 - n)) /65536=65535 - n:=by omega
  rw [e1,e2,h1,if_neg (fun g=>g (RI hn))]
 show (match j6 (l::false::false::C) with| .ok st B=>SR.go ⟨st,B,W⟩ [] | .er e=>SR.of _ e)=_;rw [this]
theorem OC {s:List UInt8} (hE:E.length%8=0):dd ⟨.cp s.length l,toBits s++E,W⟩= .go (ml l E (W++s)) s:=by
 have hl:=bs s;have ze:eZ (toBits s++E)=toBits s++E:=by
  unfold eZ;rw [ajQ,hl,show (8*s.length+E.length) %8=0 by omega];rfl
 have e1:dd ⟨.cp s.length l,toBits s++E,W⟩=if min s.length ((eZ (toBits s++E)).length/8)<s.length then .wait ⟨.cp (s.length - min s.length ((eZ (toBits s++E)).length/8)) l,(eZ (toBits s++E)).drop (8*min s.length ((eZ (toBits s++E)).length/8)),W++a7 ((eZ (toBits s++E)).take (8*min s.length ((eZ (toBits s++E)).length/8)))⟩ (a7 ((eZ (toBits s++E)).take (8*min s.length ((eZ (toBits s++E)).length/8))))
   else .go (ml l ((eZ (toBits s++E)).drop (8*s.length)) (W++a7 ((eZ (toBits s++E)).take (8*s.length)))) (a7 ((eZ (toBits s++E)).take (8*s.length))):=rfl
 rw [e1,ze,if_neg (by rw [ajQ,hl];omega),←hl,akM (ajR _),aj8,akH (ajR _),akW,aj4,qq]
theorem Gu {zs zd:List Int} {s:Nat} (hn:iX zs B= .ok s C):dd ⟨.tl zs zd l,B,W⟩=if s=256 then .go (ml l C W) [] else if s<256 then .go ⟨.tl zs zd l,C,W++ [UInt8.ofNat s]⟩ [UInt8.ofNat s] else match jL zd s C with
  | .er e=>SR.of ⟨.tl zs zd l,B,W⟩ e
  | .ok p B2=>if 1≤p.2∧p.2≤min W.length 32768 then .go ⟨.tl zs zd l,B2,dZ p.1 W p.2⟩ ((dZ p.1 W p.2).drop W.length) else .bad 6:=by
 have e1:dd ⟨.tl zs zd l,B,W⟩=match iX zs B with
  | .er e=>SR.of ⟨.tl zs zd l,B,W⟩ e
  | .ok s C=>if s=256 then .go (ml l C W) [] else if s<256 then .go ⟨.tl zs zd l,C,W++ [UInt8.ofNat s]⟩ [UInt8.ofNat s] else match jL zd s C with
   | .er e=>SR.of ⟨.tl zs zd l,B,W⟩ e
   | .ok p B2=>if 1≤p.2∧p.2≤min W.length 32768 then .go ⟨.tl zs zd l,B2,dZ p.1 W p.2⟩ ((dZ p.1 W p.2).drop W.length) else .bad 6:=rfl
 rw [e1,hn]
theorem RJ {zs zd:List Int} {x:UInt8} (hn:iX zs B= .ok x.toNat C):dd ⟨.tl zs zd l,B,W⟩= .go ⟨.tl zs zd l,C,W++ [x]⟩ [x]:=by
 have:=x.toNat_lt;rw [Gu hn,if_neg (by omega),if_pos (by omega)]
 simp
theorem step_end {zs zd:List Int} (hn:iX zs B= .ok 256 C):dd ⟨.tl zs zd l,B,W⟩= .go (ml l C W) []:=by
 rw [Gu hn,if_pos rfl]
theorem OD {zs:List Int} (hz:wP zs) {s:Nat} (hs:s<zs.length) (h1:1≤(natL zs).getD s 0):iX zs (gY (natL zs) s++C)= .ok s C:=by
 have hl:=zA (natL zs) s;rw [wu hz (s:=s) ⟨by rw [kD];exact hs,h1,by rw [←hl,akM (ajR _),aj8]⟩];rw [←hl,akH (ajR _),akW,aj4]
def IH (v n:Nat):List Bool:= (List.range n).map fun i=>v.testBit (n - 1 - i)
def UB (s:Nat):List Bool:=if s<144 then IH (48+s) 8 else if s<256 then IH (400+s - 144) 9 else if s<280 then IH (s - 256) 7 else IH (192+s - 280) 8
set_option maxRecDepth 100000 in
theorem OE: ∀s:Fin 288,gY (natL lI) s.val=UB s.val∧1≤(natL lI).getD s.val 0:=by decide+kernel
theorem Lp: ∀s:Fin 32,gY (natL sI) s.val=IH s.val 5∧1≤(natL sI).getD s.val 0:=by decide+kernel
end
section
set_option maxRecDepth 100000
theorem mL {v k:Nat} {C:List Bool} (h:v<2 ^ k):gK k (aW v k++C)= .ok v C:=by
 unfold gK;have hl:=aR v k;rw [if_pos (by rw [ajQ,hl];omega)]
 conv=>lhs;rw [←hl,akM (by rw [hl,hl];exact ajR _),akH (by rw [hl,hl];exact ajR _)]
 rw [hl,aj9 (by rw [hl];exact ajR _),alj (by rw [hl];exact ajR _),lF,aj_ h,aj4]
def uw (zs:List Int) (s:Nat):Prop:=s<zs.length∧1≤(natL zs).getD s 0
theorem vu {zs:List Int} (hz:wP zs) {s:Nat} (h:uw zs s) {C:List Bool}:iX zs (gY (natL zs) s++C)= .ok s C:=OD hz h.1 h.2
def Lq (t:Tok) (W:List UInt8):List UInt8:=dZ t.n.toNat (if t.n=0 then W++ [t.b] else W) t.d.toNat
def MZ (n:Int):List Bool:=aW (n - (lenOf (my n)).1).toNat (lenOf (my n)).2.toNat
def M0 (d:Int):List Bool:=aW (d - (cu (mK d)).1).toNat (cu (mK d)).2.toNat
def uR (sy di:List Int) (t:Tok):List Bool:=if t.n=0 then gY (natL sy) t.b.toNat else gY (natL sy) (my t.n).toNat++ (MZ t.n++ (gY (natL di) (mK t.d).toNat++M0 t.d))
def yx (sy di:List Int) (t:Tok):Prop:=if t.n=0 then uw sy t.b.toNat else uw sy (my t.n).toNat∧uw di (mK t.d).toNat
theorem M4: ∀k:Fin 29,0≤(lenOf (257+ ((k.val:Nat):Int))).1:=by decide+kernel
theorem II: ∀k:Fin 30,0≤(cu ((k.val:Nat):Int)).1:=by decide+kernel
theorem Lr {sy di:List Int} (Be:wP sy) (EG:wP di) {t:Tok} {W:List UInt8} {C:List Bool} {l:Bool} (hg:jC t=true) (hd:t.d≤(W.length:Int)) (hh:yx sy di t):
  ∃o,Steps ⟨.tl sy di l,uR sy di t++C,W⟩ o ⟨.tl sy di l,C,Lq t W⟩:=by
 unfold uR Lq;unfold yx at hh
 by_cases h0:t.n=0
 ·rw [if_pos h0] at hh
  rw [if_pos h0,if_pos h0,h0];exact⟨_,Steps.one (RJ (x:=t.b) (vu Be hh))⟩
 ·rw [if_neg h0] at hh
  rw [if_neg h0,if_neg h0];rcases mY hg with ⟨h,_⟩ | ⟨h1,h2,h3,h4⟩
  ·exact absurd h h0
  obtain⟨n,hn⟩: ∃n:Nat,t.n=n:= ⟨t.n.toNat,by omega⟩;obtain⟨d,NN⟩: ∃d:Nat,t.d=d:= ⟨t.d.toNat,by omega⟩;rw [hn,NN] at hh;rw [hn,NN,ajS,ajS];rw [hn] at h1 h2;rw [NN] at h3 h4 hd;obtain⟨f1,f2,f3,f4,f5,f6⟩:=uo (n:= (n:Int)) h1 h2;obtain⟨g1,g2,g3,g4,g5,g6⟩:=uq (n:= (d:Int)) h3 h4;obtain⟨s,hs⟩: ∃s:Nat,my (n:Int)=s:= ⟨(my n).toNat,by omega⟩;obtain⟨k,hk⟩: ∃k:Nat,mK (d:Int)=k:= ⟨(mK d).toNat,by omega⟩;unfold MZ M0;rw [hs,hk] at hh ⊢;rw [ajS,ajS] at hh ⊢;rw [hs] at f1 f2 f3 f4 f5 f6;rw [hk] at g1 g2 g3 g4 g5 g6;have lu: ((2 ^ (lenOf (s:Int)).2.toNat:Nat):Int)=2 ^ (lenOf (s:Int)).2.toNat:=by push_cast;rfl
  have D8: ((2 ^ (cu (k:Int)).2.toNat:Nat):Int)=2 ^ (cu (k:Int)).2.toNat:=by push_cast;rfl
  rw [←lu] at f4;rw [←D8] at g4;have l0:0≤(lenOf (s:Int)).1:=by
   have:=M4 ⟨s - 257,by omega⟩
   dsimp only at this
   rwa [show (257:Int)+ ((s - 257:Nat):Int)= (s:Int) by omega] at this
  have d0:0≤(cu (k:Int)).1:=II ⟨k,by omega⟩;have CZ:iX sy (gY (natL sy) s++ (aW ((n:Int) - (lenOf (s:Int)).1).toNat (lenOf (s:Int)).2.toNat++ (gY (natL di) k++aW ((d:Int) - (cu (k:Int)).1).toNat (cu (k:Int)).2.toNat))++C)= .ok s (aW ((n:Int) - (lenOf (s:Int)).1).toNat (lenOf (s:Int)).2.toNat++ (gY (natL di) k++aW ((d:Int) - (cu (k:Int)).1).toNat (cu (k:Int)).2.toNat)++C):=by
   rw [ajT,vu Be hh.1]
  have hm:jL di s (aW ((n:Int) - (lenOf (s:Int)).1).toNat (lenOf (s:Int)).2.toNat++ (gY (natL di) k++aW ((d:Int) - (cu (k:Int)).1).toNat (cu (k:Int)).2.toNat)++C)= .ok (n,d) C:=by
   unfold jL;rw [if_neg (by omega),ajT,mL (by omega)]
   dsimp only [Rs.bind]
   rw [ajT,vu EG hh.2]
   dsimp only
   rw [if_neg (by omega),mL (by omega)]
   dsimp only
   rw [show (lenOf (s:Int)).1.toNat+ ((n:Int) - (lenOf (s:Int)).1).toNat=n by omega,show (cu (k:Int)).1.toNat+ ((d:Int) - (cu (k:Int)).1).toNat=d by omega]
  refine⟨(dZ n W d).drop W.length,Steps.one ?_⟩;rw [Gu CZ,if_neg (by omega),if_neg (by omega),hm]
  dsimp only
  rw [if_pos (by omega)]
def ux:List Tok→List UInt8→List UInt8→Prop
 | [],W,V=>W=V
 |t::G,W,V=> (jC t=true∧t.d≤(W.length:Int))∧ux G (Lq t W) V
def jO (sy di:List Int) (G:List Tok):List Bool:=G.flatMap (uR sy di)++gY (natL sy) 256
theorem sj {sy di:List Int} (Be:wP sy) (EG:wP di) (he:uw sy 256) {C:List Bool} {l:Bool}: ∀ {G:List Tok} {W V:List UInt8},ux G W V→(∀t∈G,yx sy di t)→
  ∃o,Steps ⟨.tl sy di l,jO sy di G++C,W⟩ o (ml l C V)
 | [],W,V,h,hh=>by
  cases h
  exact⟨_,Steps.one (step_end (by unfold jO;rw [List.flatMap_nil,aj4];exact vu Be he))⟩
 |t::G,W,V,h,hh=>by
  obtain⟨o1,s1⟩:=Lr Be EG (l:=l) (C:=jO sy di G++C) h.1.1 h.1.2 (hh t (by simp));obtain⟨o2,s2⟩:=sj Be EG he (C:=C) (l:=l) h.2 fun u hu=>hh u (by simp [hu]);have e:jO sy di (t::G)++C=uR sy di t++ (jO sy di G++C):=by unfold jO;rw [alp];simp
  rw [e];exact⟨_,s1.trans s2⟩
abbrev Ex:=Nat × Nat × Nat
def IJ (out:List Int) (e:Ex):Nat × Int:=if e.1=16 then (3+e.2.2,out.getD (out.length - 1) 0) else if e.1=17 then (3+e.2.2,0) else if e.1=18 then (11+e.2.2,0) else (1,(e.1:Int))
def zH (out:List Int) (e:Ex):List Int:=out++List.replicate (IJ out e).1 (IJ out e).2
def IK (out:List Int) (e:Ex):Prop:= (e.1<16∧e.2.1=0∧e.2.2=0)∨(e.1=16∧out≠ []∧e.2.1=2∧e.2.2<4)∨(e.1=17∧e.2.1=3∧e.2.2<8)∨(e.1=18∧e.2.1=7∧e.2.2<128)
def Told:List Int→List Ex→List Int→Prop
 |out,[],l=>out=l
 |out,e::es,l=>IK out e∧Told (zH out e) es l
theorem Told.snoc: ∀ {es:List Ex} {out l:List Int} {e:Ex},Told out es l→IK l e→Told out (es++ [e]) (zH l e)
 | [],out,l,e,h,hv=>by cases h;exact⟨hv,rfl⟩
 |_::es,out,l,e,h,hv=> ⟨h.1,h.2.snoc hv⟩
theorem IL {out:List Int} {e:Ex}:out.length< (zH out e).length:=by
 unfold zH IJ;rw [ajQ,akw]
 split
 ·simp;omega
 split
 ·simp;omega
 split
 ·simp;omega
 ·simp
theorem Told.len: ∀ {es:List Ex} {out l:List Int},Told out es l→out.length+es.length≤l.length
 | [],out,l,h=>by cases h;simp
 |e::es,out,l,h=>by have:=h.2.len;have:=IL (out:=out) (e:=e);rw [aj2];omega
def Bf (t:List Int) (e:Ex):List Bool:=gY (natL t) e.1++aW e.2.2 e.2.1
theorem RL {out:List Int} {e:Ex} (h:IK out e) {C:List Bool}:wF e.1 out (aW e.2.2 e.2.1++C)= .ok (IJ out e) C:=by
 unfold wF IJ;rcases h with ⟨h1,h2,h3⟩ | ⟨h1,h2,h3,h4⟩ | ⟨h1,h2,h3⟩ | ⟨h1,h2,h3⟩
 ·rw [if_neg (by omega),if_neg (by omega),if_neg (by omega),if_neg (by omega),if_neg (by omega),if_neg (by omega),h2,h3];rfl
 ·rw [if_pos h1,if_neg h2,if_pos h1,h3,mL h4];rfl
 ·rw [if_neg (by omega),if_pos h1,if_neg (by omega),if_pos h1,h2,mL h3];rfl
 ·rw [if_neg (by omega),if_neg (by omega),if_pos h1,if_neg (by omega),if_neg (by omega),if_pos h1,h2,mL h3];rfl
theorem Fa {t:List Int} (ht:wP t) {C:List Bool}: ∀ {es:List Ex} {out l:List Int} {k:Nat},Told out es l→(∀e∈es,uw t e.1)→es.length<k→rC k t l.length out (es.flatMap (Bf t)++C)= .ok l C
 | [],out,l,0,h,hh,hk=>by simp at hk
 |_::_,out,l,0,h,hh,hk=>by simp at hk
 | [],out,l,k+1,h,hh,hk=>by
  cases h
  rw [rC,if_pos (ajR _)];rfl
 |e::es,out,l,k+1,h,hh,hk=>by
  have h1:=h.2.len;have h2:=IL (out:=out) (e:=e);rw [rC,if_neg (by omega),alp];unfold Bf;rw [ajT,ajT,vu ht (hh e (by simp))]
  dsimp only [Rs.bind]
  rw [RL h.1]
  dsimp only
  have h3: (zH out e).length=out.length+ (IJ out e).1:=by unfold zH;simp
  rw [if_neg (by omega)];have:=Fa ht (C:=C) (k:=k) h.2 (fun u hu=>hh u (by simp [hu])) (by simpa using hk);exact this
def sn (z:List Int) (o:List Nat):List Bool:=o.flatMap fun s=>aW (z.getD s 0).toNat 3
theorem IM {z:List Int} (hz: ∀s,0≤z.getD s 0∧z.getD s 0≤7) {C:List Bool}: ∀ (o:List Nat) (l:List Int),se o l (sn z o++C)= .ok (o.foldl (fun l s=>l.set s (z.getD s 0)) l) C
 | [],l=>rfl
 |s::o,l=>by
  have h:=hz s;unfold sn;rw [alp,ajT,se,mL (by omega)]
  dsimp only [Rs.bind]
  rw [show ((z.getD s 0).toNat:Int)=z.getD s 0 by omega];exact IM hz o _
theorem IN {z:List Int}: ∀ (o:List Nat) (l:List Int) (i:Nat),i<l.length→(o.foldl (fun l s=>l.set s (z.getD s 0)) l).getD i 0=if i∈o then z.getD i 0 else l.getD i 0
 | [],l,i,h=>by simp
 |s::o,l,i,h=>by
  rw [alx,IN o _ i (by rw [akT];exact h)]
  by_cases h1:i∈o
  ·rw [if_pos h1,if_pos (by simp [h1])]
  ·rw [if_neg h1]
   by_cases h2:i=s
   ·subst h2
    rw [if_pos (by simp),ajX,alE h];rfl
   ·rw [if_neg (by simp [h1,h2]),ajX,amn (fun e=>h2 e.symm),←ajX]
theorem IP {z:List Int}: ∀ (o:List Nat) (l:List Int),(o.foldl (fun l s=>l.set s (z.getD s 0)) l).length=l.length
 | [],l=>rfl
 |s::o,l=>by rw [alx,IP o];simp
theorem OF: ∀i:Fin 19,i.val∈cz:=by decide
theorem RM {z:List Int} {c:Nat} (hl:z.length=19) (h0: ∀j,c≤j→j<19→z.getD (cz.getD j 0) 0=0): (cz.take c).foldl (fun l s=>l.set s (z.getD s 0)) (List.replicate 19 0)=z:=by
 refine alm (by rw [IP,hl];simp) fun i h1 h2=>?_;have hi:i<19:=by omega
 have e:=IN (z:=z) (cz.take c) (List.replicate 19 0) i (by simpa using hi);rw [ajX,ajV h1,alo] at e;rw [e];have hz:z.getD i 0=z[i]:=by rw [ajX,ajV h2];rfl
 by_cases hm:i∈cz.take c
 ·rw [if_pos hm,hz]
 ·rw [if_neg hm,←hz]
  obtain⟨j,hj,Vz⟩:=alF (OF ⟨i,hi⟩);have adw:j<19:=hj;have hc:c≤j:=Nat.le_of_not_lt fun h=>hm (by
   rw [←show cz[j]=i from Vz];exact List.mem_take_iff_getElem.2 ⟨j,by omega,rfl⟩)
  have:=h0 j hc adw;rw [ajX (l:=cz),ajV hj,alo,show cz[j]=i from Vz] at this;rw [this,ajX,amg,if_pos hi];rfl
structure AG (x y z:List Int) (es:List Ex) (c:Nat):Prop where
 a1:257≤x.length
 a2:x.length≤286
 b1:1≤y.length
 b2:y.length≤30
 c1:4≤c
 c2:c≤19
 zl:z.length=19
 z7: ∀s,0≤z.getD s 0∧z.getD s 0≤7
 z0: ∀j,c≤j→j<19→z.getD (cz.getD j 0) 0=0
 zw:lY z false=0
 zok:wP z
 told:Told [] es (x++y)
 has: ∀e∈es,uw z e.1
 xe:x.getD 256 0≠0
 xw:lY x false=0
 yw:lY y true=0
def vv (x y z:List Int) (es:List Ex) (c:Nat):List Bool:=aW (x.length - 257+32* (y.length - 1)+1024* (c - 4)) 14++ (sn z (cz.take c)++es.flatMap (Bf z))
theorem Fb {x y z:List Int} {es:List Ex} {c:Nat} (d:AG x y z es c) {C:List Bool}:xi (vv x y z es c++C)= .ok (x,y) C:=by
 have a1:=d.a1;have a2:=d.a2;have b1:=d.b1;have b2:=d.b2;have c1:=d.c1;have c2:=d.c2;unfold xi vv;rw [ajT,mL (by omega)]
 dsimp only [Rs.bind]
 rw [show (x.length - 257+32* (y.length - 1)+1024* (c - 4)) %32+257=x.length by omega,show (x.length - 257+32* (y.length - 1)+1024* (c - 4)) /32%32+1=y.length by omega,show (x.length - 257+32* (y.length - 1)+1024* (c - 4)) /1024+4=c by omega];rw [if_neg (by omega),ajT,IM d.z7]
 dsimp only
 rw [RM d.zl d.z0,if_neg (by rw [d.zw];decide)];have hlen: (x++y).length=x.length+y.length:=ajQ;have OG:=d.told.len;have:=Fa d.zok (C:=C) (k:=x.length+y.length+1) d.told d.has (by simp at OG;omega);rw [hlen] at this;rw [this]
 dsimp only
 have e1: (x++y).take x.length=x:=amz rfl;have e2: (x++y).drop x.length=y:=amA rfl;have e3: (x++y).getD 256 0=x.getD 256 0:=by rw [ajX,akx (by omega),←ajX]
 rw [e1,e2,e3,if_neg d.xe,if_neg (by rw [d.xw];decide),if_neg (by rw [d.yw];decide)]
theorem IQ {x y z:List Int} {es:List Ex} {c:Nat} (d:AG x y z es c) {C:List Bool} {l:Bool} {W:List UInt8}:dd ⟨.hd,l::false::true:: (vv x y z es c++C),W⟩= .go ⟨.tl x y l,C,W⟩ []:=by
 unfold dd j6
 dsimp only
 rw [RH]
 dsimp only [Rs.bind]
 cases l
 ·rw [show lE [false,false,true]=4 from rfl,if_neg (by decide),if_neg (by decide),if_pos (by decide),Fb d];rfl
 ·rw [show lE [true,false,true]=5 from rfl,if_neg (by decide),if_neg (by decide),if_pos (by decide),Fb d];rfl
end
section
set_option maxRecDepth 100000
variable {H:ak} {R:Value→ak→Prop} {v:Value}
theorem M5 {sz:Nat} {ls:List (List Value)}: (∀l∈ls,∃n,l.length=n*sz)→∃m,ls.flatten.length=m*sz:=by
 induction ls with
 |nil=>exact fun _=> ⟨0,by simp⟩
 |cons a ls ih=>
  intro h;obtain⟨n,hn⟩:=h a (by simp);obtain⟨m,hm⟩:=ih fun l hl=>h l (by simp [hl]);exact⟨n+m,by rw [akP,ajQ,hn,hm,akJ]⟩
theorem OH {n:Int} (h0:0≤n) (hb:2*n.toNat*8≤281474976710656) (h: ∀y H',aw H H' [.sl y 1 []]→R y H'):ab Tryz.prog 219 #[.slice none 0 0,.int .i64 n] H R:=by
 refine eR.vc _ _ _ _ ?_;unfold eR.res;refine⟨fun H' =>H=H',?_,?_⟩
 ·rintro _ _ rfl
  rw [FV,vh,bE];rw [bH (by omega) (by omega),bE,show n - (((0:Nat):Int) - ((0:Nat):Int))=n by omega,bH (by omega) (by omega),bU];refine ax (fun hc=>?_) (fun hc=>?_)
  ·rw [FV,pA,f_]
   refine⟨by decide,by decide,?_⟩;refine⟨⟨by omega,hb⟩,fun c lz=>?_⟩
   dsimp only
   rw [vh,pA,f_];refine⟨by decide,by omega,?_⟩;have e: (if c=0 then (some ⟨H.size,0,none⟩:Option Addr) else Option.map (fun x:Addr=>x.add (0*1)) (some (⟨H.size,0,none⟩:Addr)))=some ⟨H.size,0,none⟩:=by
    split
    ·rfl
    ·simp [Addr.add]
   rw [e];refine h _ _ (aw.start.add (Ext.refl _).push ⟨by decide,.inr ⟨_,0,c,_,rfl,⟨⟨_,(0,0),by rw [aj4];exact cR,.inl rfl⟩,by simp,?_⟩⟩⟩ (fun j hj=>by simp only [It.eL,aV,ajY] at hj;omega));rw [aj4,ajQ,kC,kC];simp only [aj2,aj7];omega
  ·exact h _ _ (aw.start.add (Ext.refl _) ⟨by decide,.inl ⟨rfl,rfl⟩⟩ (by intro k hk;exact absurd hk (by simp [It.eL,aV])))
 ·rw [aQ]
  refine ax (fun hc=>by omega) (fun _=>rfl)
theorem AH {svs:List Value} {ls:List (List Value)} (hv:Sl H v 1 svs) (Xn:svs.length≤1000) (hl:svs.length=ls.length) (hs: ∀k (h:k<svs.length),Sl H svs[k] 1 (ls[k]'(by omega))∧∃n,(ls[k]'(by omega)).length=n*1) (ho:ls.flatten.all aL=true)
  (hb:2*ls.flatten.length*8≤281474976710656) (h: ∀y H',aw H H' [.sl y 1 ls.flatten]→R y H'):ab Tryz.prog 171 #[v] H R:=by
 have yy: ∀k (hk:k<svs.length),(ls.take (k+1)).flatten= (ls.take k).flatten++ls[k]'(by omega):=fun k hk=>by rw [akq,ajV (by omega),alX];simp
 have hle: ∀k,(ls.take k).flatten.length≤ls.flatten.length:=fun k=>by
  have:=congrArg (fun l=>l.flatten.length) (akf k ls);simp only [alX,ajQ] at this;omega
 refine ea.vc _ _ _ ?_;unfold ea.res;refine hv.len (n:=svs.length) (by omega) (by decide) ?_;refine⟨fun s i H' => ∃k m:Nat,s= .int .i64 m∧i= .int .i64 k∧k≤svs.length∧(ls.take k).flatten.length=m*1∧H=H',fun _ i _=>match i with| .int _ x=> (svs.length - x).toNat|_=>0,⟨0,0,rfl,rfl,by omega,by simp,rfl⟩,?_⟩;rintro _ _ _ _ ⟨k,m,rfl,rfl,hk,hm,rfl⟩;rw [aQ];refine ax (fun hc=>?_) (fun hc=>?_)
 ·have jR:k<svs.length:=by omega
  refine hv.at_ (n:=svs.length) (by omega) (by decide) (by omega) (by omega) fun p hp=>?_;refine hp.load hv (w:=svs[k]) (by rw [ajS,aj0];exact ajV jR) ?_;obtain⟨HD,n,hn⟩:=hs k jR;refine HD.len hn (by decide) ?_;have rO:=hle (k+1);rw [yy k jR,ajQ,hm,hn] at rO;rw [aC,bH (by omega) (by omega),aQ];refine ax (fun Ko=>by omega) (fun _=>?_);rw [aC,bH (by have:=hv;omega) (by have:=hle svs.length;omega)];exact⟨⟨k+1,m+n,by rw [show ((m+n:Nat):Int)= (m:Int)+n by omega],rfl,by omega,by rw [yy k jR,ajQ,hm,hn,akJ],rfl⟩,by show (_:Int).toNat< (_:Int).toNat;omega⟩
 ·have jR:k=ls.length:=by omega
  rw [jR,aj8] at hm;refine OH (by omega) (by rw [ajS];omega) fun y H1 o=>?_;refine hv.len (n:=svs.length) (by omega) (by decide) ?_;refine⟨fun s i H' => ∃k:Nat,i= .int .i64 k∧k≤svs.length∧aw H H' [.sl s 1 (ls.take k).flatten],fun _ i _=>match i with| .int _ x=> (svs.length - x).toNat|_=>0,⟨0,rfl,by omega,by simpa using o⟩,?_⟩;rintro _ s _ H2 ⟨k,rfl,hk,o⟩;rw [aQ];refine ax (fun hc=>?_) (fun hc=>?_)
  ·have jR:k<svs.length:=by omega
   refine hv.at_ (n:=svs.length) (by omega) (by decide) (by omega) (by omega) fun p hp=>?_;refine hp.load (hv.ext o.ext) (w:=svs[k]) (by rw [ajS,aj0];exact ajV jR) ?_;obtain⟨HD,n,hn⟩:=hs k jR;have rO:=hle (k+1);rw [yy k jR,ajQ] at rO;obtain⟨m2,Lc⟩: ∃m2,(ls.take k).flatten.length=m2*1:=M5 fun l hl=>by
    obtain⟨j,hj,rfl⟩:=alF (akL hl);exact(hs j (by omega)).2
   refine o.append (sz:=1) (n:=m2) (m:=n) (by repeat(first|exact bu.here|apply bu.there)) rfl (HD.ext o.ext) Lc hn (by
    rw [alA] at ho ⊢;exact fun x hx=>ho x (List.mem_flatten.2 ⟨_,ajZ (by omega),hx⟩)) (by omega) fun y2 H3 o=>?_
   rw [aC,bH (by omega) (by omega)];exact⟨⟨k+1,rfl,by omega,by rw [yy k jR];exact o⟩,by show (_:Int).toNat< (_:Int).toNat;omega⟩
  ·have jR:k=ls.length:=by omega
   rw [jR,aj8] at o;exact h _ _ o
theorem Ls {n:Int} (h0:0≤n) (hb:2*n.toNat*32≤281474976710656) (h: ∀y H',aw H H' [.sl y 2 []]→R y H'):ab Tryz.prog 273 #[.slice none 0 0,.int .i64 n] H R:=by
 refine bY.vc _ _ _ _ ?_;unfold bY.res;refine⟨fun H' =>H=H',?_,?_⟩
 ·rintro _ _ rfl
  rw [FV,vh,bE];rw [bH (by omega) (by omega),bE,show n - (((0:Nat):Int) - ((0:Nat):Int))=n by omega,bH (by omega) (by omega),bU];refine ax (fun hc=>?_) (fun hc=>?_)
  ·rw [FV,pA,f_]
   refine⟨by decide,by decide,?_⟩;refine⟨⟨by omega,hb⟩,fun c lz=>?_⟩
   dsimp only
   rw [vh,pA,f_];refine⟨by decide,by omega,?_⟩;have e: (if c=0 then (some ⟨H.size,0,none⟩:Option Addr) else Option.map (fun x:Addr=>x.add (0*2)) (some (⟨H.size,0,none⟩:Addr)))=some ⟨H.size,0,none⟩:=by
    split
    ·rfl
    ·simp [Addr.add]
   rw [e];refine h _ _ (aw.start.add (Ext.refl _).push ⟨by decide,.inr ⟨_,0,c,_,rfl,⟨⟨_,(0,0),by rw [aj4];exact cR,.inl rfl⟩,by simp,?_⟩⟩⟩ (fun j hj=>by simp only [It.eL,aV,ajY] at hj;omega));rw [aj4,ajQ,kC,kC];simp only [aj2,aj7];omega
  ·exact h _ _ (aw.start.add (Ext.refl _) ⟨by decide,.inl ⟨rfl,rfl⟩⟩ (by intro k hk;exact absurd hk (by simp [It.eL,aV])))
 ·rw [aQ]
  refine ax (fun hc=>by omega) (fun _=>rfl)
theorem Gv {svs:List Value} {ls:List (List Value)} (hv:Sl H v 1 svs) (Xn:svs.length≤1000) (hl:svs.length=ls.length) (hs: ∀k (h:k<svs.length),Sl H svs[k] 2 (ls[k]'(by omega))∧∃n,(ls[k]'(by omega)).length=n*2) (ho:ls.flatten.all aL=true)
  (hb:2*ls.flatten.length*32≤281474976710656) (h: ∀y H',aw H H' [.sl y 2 ls.flatten]→R y H'):ab Tryz.prog 248 #[v] H R:=by
 have yy: ∀k (hk:k<svs.length),(ls.take (k+1)).flatten= (ls.take k).flatten++ls[k]'(by omega):=fun k hk=>by rw [akq,ajV (by omega),alX];simp
 have hle: ∀k,(ls.take k).flatten.length≤ls.flatten.length:=fun k=>by
  have:=congrArg (fun l=>l.flatten.length) (akf k ls);simp only [alX,ajQ] at this;omega
 refine bN.vc _ _ _ ?_;unfold bN.res;refine hv.len (n:=svs.length) (by omega) (by decide) ?_;refine⟨fun s i H' => ∃k m:Nat,s= .int .i64 m∧i= .int .i64 k∧k≤svs.length∧(ls.take k).flatten.length=m*2∧H=H',fun _ i _=>match i with| .int _ x=> (svs.length - x).toNat|_=>0,⟨0,0,rfl,rfl,by omega,by simp,rfl⟩,?_⟩;rintro _ _ _ _ ⟨k,m,rfl,rfl,hk,hm,rfl⟩;rw [aQ];refine ax (fun hc=>?_) (fun hc=>?_)
 ·have jR:k<svs.length:=by omega
  refine hv.at_ (n:=svs.length) (by omega) (by decide) (by omega) (by omega) fun p hp=>?_;refine hp.load hv (w:=svs[k]) (by rw [ajS,aj0];exact ajV jR) ?_;obtain⟨HD,n,hn⟩:=hs k jR;refine HD.len hn (by decide) ?_;have rO:=hle (k+1);rw [yy k jR,ajQ,hm,hn] at rO;rw [aC,bH (by omega) (by omega),aQ];refine ax (fun Ko=>by omega) (fun _=>?_);rw [aC,bH (by have:=hv;omega) (by have:=hle svs.length;omega)];exact⟨⟨k+1,m+n,by rw [show ((m+n:Nat):Int)= (m:Int)+n by omega],rfl,by omega,by rw [yy k jR,ajQ,hm,hn,akJ],rfl⟩,by show (_:Int).toNat< (_:Int).toNat;omega⟩
 ·have jR:k=ls.length:=by omega
  rw [jR,aj8] at hm;refine Ls (by omega) (by rw [ajS];omega) fun y H1 o=>?_;refine hv.len (n:=svs.length) (by omega) (by decide) ?_;refine⟨fun s i H' => ∃k:Nat,i= .int .i64 k∧k≤svs.length∧aw H H' [.sl s 2 (ls.take k).flatten],fun _ i _=>match i with| .int _ x=> (svs.length - x).toNat|_=>0,⟨0,rfl,by omega,by simpa using o⟩,?_⟩;rintro _ s _ H2 ⟨k,rfl,hk,o⟩;rw [aQ];refine ax (fun hc=>?_) (fun hc=>?_)
  ·have jR:k<svs.length:=by omega
   refine hv.at_ (n:=svs.length) (by omega) (by decide) (by omega) (by omega) fun p hp=>?_;refine hp.load (hv.ext o.ext) (w:=svs[k]) (by rw [ajS,aj0];exact ajV jR) ?_;obtain⟨HD,n,hn⟩:=hs k jR;have rO:=hle (k+1);rw [yy k jR,ajQ] at rO;obtain⟨m2,Lc⟩: ∃m2,(ls.take k).flatten.length=m2*2:=M5 fun l hl=>by
    obtain⟨j,hj,rfl⟩:=alF (akL hl);exact(hs j (by omega)).2
   refine o.append (sz:=2) (n:=m2) (m:=n) (by repeat(first|exact bu.here|apply bu.there)) rfl (HD.ext o.ext) Lc hn (by
    rw [alA] at ho ⊢;exact fun x hx=>ho x (List.mem_flatten.2 ⟨_,ajZ (by omega),hx⟩)) (by omega) fun y2 H3 o=>?_
   rw [aC,bH (by omega) (by omega)];exact⟨⟨k+1,rfl,by omega,by rw [yy k jR];exact o⟩,by show (_:Int).toNat< (_:Int).toNat;omega⟩
  ·have jR:k=ls.length:=by omega
   rw [jR,aj8] at o;exact h _ _ o
end
section
set_option maxRecDepth 100000
abbrev Pk:=Nat × List Nat
def de:List Pk→List Pk
 |a::b::l=> (a.1+b.1,a.2++b.2)::de l
 |_=> []
def nQ:List Pk→List Pk→List Pk
 | [],b=>b
 |x::a,[]=>x::a
 |x::a,y::b=>if x.1≤y.1 then x::nQ a (y::b) else y::nQ (x::a) b
termination_by a b=>a.length+b.length
theorem tF (b:List Pk):nQ [] b=b:=by unfold nQ;rfl
theorem oW (a:List Pk):nQ a []=a:=by cases a<;> (unfold nQ;rfl)
theorem oX (x y:Pk) (a b:List Pk):nQ (x::a) (y::b)=if x.1≤y.1 then x::nQ a (y::b) else y::nQ (x::a) b:=by
 rw [nQ]
theorem tG: ∀a b:List Pk,(nQ a b).length=a.length+b.length
 | [],b=>by rw [tF];simp
 |x::a,[]=>by rw [oW];simp
 |x::a,y::b=>by
  rw [oX]
  split
  ·rw [aj2,tG a (y::b)];simp;omega
  ·rw [aj2,tG (x::a) b];simp;omega
termination_by a b=>a.length+b.length
theorem mM: ∀l:List Pk,(de l).length=l.length/2
 | []=>by simp [de]
 | [_]=>by simp [de]
 |a::b::l=>by rw [de,aj2,mM l];simp;omega
def ky (l:List Pk) (i:Nat):Nat:= (l.map fun p=>p.2.count i).sum
theorem p8 (i:Nat):ky [] i=0:=rfl
theorem kV (p:Pk) (l:List Pk) (i:Nat):ky (p::l) i=p.2.count i+ky l i:=by unfold ky;simp
def RN (l:List Pk):Prop:=l.Pairwise fun a b=>a.1≤b.1
theorem oY: ∀ (a b:List Pk) (z:Pk),z∈nQ a b↔z∈a∨z∈b
 | [],b,z=>by rw [tF];simp
 |x::a,[],z=>by rw [oW];simp
 |x::a,y::b,z=>by
  rw [oX]
  split
  ·rw [aj5,oY a (y::b)];simp only [aj5,or_assoc]
  ·rw [aj5,oY (x::a) b];simp only [aj5];constructor
   ·rintro(h| (h|h) |h)<;>simp [h]
   ·rintro((h|h) |h|h)<;>simp [h]
termination_by a b=>a.length+b.length
theorem zI: ∀ (a b:List Pk),RN a→RN b→RN (nQ a b)
 | [],b,ha,hb=>by rw [tF];exact hb
 |x::a,[],ha,hb=>by rw [oW];exact ha
 |x::a,y::b,ha,hb=>by
  have Hu :=aki.1 ha;have Ta :=aki.1 hb;rw [oX]
  split
  ·rename_i h
   refine aki.2 ⟨fun z hz=>?_,zI a (y::b) Hu.2 hb⟩;rcases (oY _ _ _).1 hz with hz|hz
   ·exact Hu.1 z hz
   ·rcases aj5.1 hz with rfl|hz
    ·exact h
    ·exact akk h (Ta.1 z hz)
  ·rename_i h
   refine aki.2 ⟨fun z hz=>?_,zI (x::a) b ha Ta.2⟩;rcases (oY _ _ _).1 hz with hz|hz
   ·rcases aj5.1 hz with rfl|hz
    ·omega
    ·have:=Hu.1 z hz;omega
   ·exact Ta.1 z hz
termination_by a b=>a.length+b.length
theorem C0: ∀ (l:List Pk),RN l→RN (de l)
 | [],h=>by rw [de];exact List.Pairwise.nil;all_goals simp
 | [_],h=>by rw [de];exact List.Pairwise.nil;all_goals simp
 |a::b::l,h=>by
  have h1:=aki.1 h;have h2:=aki.1 h1.2;rw [de];refine aki.2 ⟨fun z hz=>?_,C0 l h2.2⟩;have Z3: ∀ (l:List Pk),(∀x∈l,a.1≤x.1∧b.1≤x.1)→∀z∈de l,a.1+b.1≤z.1:=by
   intro l
   induction l using de.induct with
   |case1 c d l ih=>
    intro hl z hz;rw [de] at hz;rcases aj5.1 hz with rfl|hz
    ·have:=hl c (by simp);have:=hl d (by simp);show _≤c.1+d.1;omega
    ·exact ih (fun x hx=>hl x (by simp [hx])) z hz
   |case2 l d_=>intro hl z hz;rw [de] at hz;simp at hz;all_goals exact d_
  exact Z3 l (fun x hx=> ⟨h1.1 x (by simp [hx]),h2.1 x hx⟩) z hz
theorem xo: ∀ (a b:List Pk) (N:Nat),RN a→N≤a.length+b.length→∃m p,m+p=N∧m≤a.length∧p≤b.length∧(∀i,ky ((nQ a b).take N) i=ky (a.take m) i+ky (b.take p) i)∧
  (0<p→∀x∈a[m]?,∀y∈b[p - 1]?,y.1<x.1)∧(∀x∈a.take m,x∈(nQ a b).take N)
 | [],b,N,hs,h=> ⟨0,N,by omega,ajR _,by simpa using h,fun i=>by rw [tF];simp [p8],fun _ x hx=>by simp at hx,fun x hx=>by simp at hx⟩
 |x::a,[],N,hs,h=> ⟨N,0,by omega,by simpa using h,ajR _,fun i=>by rw [oW];simp [p8],fun h=>by omega,fun x hx=>by rw [oW];exact hx⟩
 |x::a,y::b,0,hs,h=> ⟨0,0,rfl,akj _,akj _,fun i=>by simp [p8],fun h=>by omega,fun x hx=>by simp at hx⟩
 |x::a,y::b,N+1,hs,h=>by
  rw [oX]
  split
  ·rename_i hle
   obtain⟨m,p,h1,h2,h3,h4,h5,h6⟩:=xo a (y::b) N (aki.1 hs).2 (by simp at h ⊢;omega);refine⟨m+1,p,by omega,by simpa using h2,h3,fun i=>by rw [akY,akY,kV,kV,h4 i];omega,fun hp z hz=>h5 hp z (by simpa using hz),fun z hz=>?_⟩;rw [akY] at hz ⊢;rcases aj5.1 hz with rfl|hz
   ·simp
   ·exact ajO _ (h6 z hz)
  ·rename_i hle
   obtain⟨m,p,h1,h2,h3,h4,h5,h6⟩:=xo (x::a) b N hs (by simp at h ⊢;omega);refine⟨m,p+1,by omega,h2,by simpa using h3,fun i=>by rw [akY,akY,kV,kV,h4 i];omega,fun hp z hz u hu=>?_,fun z hz=>?_⟩
   ·by_cases Z4:p=0
    ·subst Z4
     simp at hu
     subst hu;have hz2:z∈x::a:=akK hz;rcases aj5.1 hz2 with rfl|hz2
     ·omega
     ·have:= (aki.1 hs).1 z hz2;omega
    ·exact h5 (by omega) z hz u (by rw [show p+1 - 1= (p - 1)+1 by omega] at hu;simpa using hu)
   ·rw [akY]
    exact ajO _ (h6 z hz)
termination_by a b N _ _=>a.length+b.length
theorem AI: ∀ (l:List Pk) (p:Nat),2*p≤l.length→∀i,ky ((de l).take p) i=ky (l.take (2*p)) i
 |l,0,h,i=>by simp
 | [],p+1,h,i=>by simp at h
 | [_],p+1,h,i=>by simp at h;omega
 |a::b::l,p+1,h,i=>by
  rw [de,show 2* (p+1)=2*p+1+1 by omega,akY,akY,akY,kV,kV,kV,AI l p (by simp at h;omega) i,List.count_append];omega
theorem AJ: ∀ (l:List Pk) (p:Nat),RN l→2* (p+1)≤l.length→∀x∈l.take (2* (p+1)),∃y,(de l)[p]? =some y∧x.1≤y.1
 | [],p,hs,h,x,hx=>by simp at h
 | [_],p,hs,h,x,hx=>by simp at h;omega
 |a::b::l,0,hs,h,x,hx=>by
  refine⟨(a.1+b.1,a.2++b.2),by simp [de],?_⟩
  simp at hx
  rcases hx with rfl|rfl
  ·show _≤_;simp
  ·simp
 |a::b::l,p+1,hs,h,x,hx=>by
  have h1:=aki.1 hs;have h2:=aki.1 h1.2;rw [show 2* (p+1+1)=2* (p+1)+1+1 by omega,akY,akY] at hx;have hl:2* (p+1)≤l.length:=by simp at h;omega
  have key: ∀x∈l.take (2* (p+1)),∃y,(de l)[p]? =some y∧x.1≤y.1:=AJ l p h2.2 hl;have d_: ∃c,c∈l.take (2* (p+1)):=by
   cases l with
   |nil=>simp at hl
   |cons c l=>exact⟨c,by rw [show 2* (p+1)= (2*p+1)+1 by omega,akY];simp⟩
  rcases aj5.1 hx with rfl|hx
  ·obtain⟨c,hc⟩:=d_
   obtain⟨y,hy,hle⟩:=key c hc;exact⟨y,by rw [de];simpa using hy,akk (h1.1 c (by simp [akL hc])) hle⟩
  ·rcases aj5.1 hx with rfl|hx
   ·obtain⟨c,hc⟩:=d_
    obtain⟨y,hy,hle⟩:=key c hc;exact⟨y,by rw [de];simpa using hy,akk (h2.1 c (akL hc)) hle⟩
   ·obtain⟨y,hy,hle⟩:=key x hx
    exact⟨y,by rw [de];simpa using hy,hle⟩
def b_ (cs:List Nat):List Pk:=cs.zipIdx.map fun x=> (x.1,[x.2])
theorem df (cs:List Nat): (b_ cs).length=cs.length:=by simp [b_]
theorem lK {cs:List Nat} {i:Nat} (h:i<cs.length): (b_ cs)[i]? =some (cs[i],[i]):=by simp [b_,h]
theorem IS {cs:List Nat} (h:cs.Pairwise (· ≤ ·)):RN (b_ cs):=by
 unfold RN;rw [anh] at h ⊢;intro i j hi hj MD;rw [df] at hi hj;have e1:=lK hi;have e2:=lK hj;rw [ajV (by rw [df];exact hi),ajY] at e1;rw [ajV (by rw [df];exact hj),ajY] at e2;rw [e1,e2];exact h i j hi hj MD
theorem AK (a b:List Pk) (i:Nat):ky (a++b) i=ky a i+ky b i:=by unfold ky;simp
theorem p9 {cs:List Nat}: ∀ {m:Nat},m≤cs.length→∀i,ky ((b_ cs).take m) i=if i<m then 1 else 0
 |0,h,i=>by simp [p8]
 |m+1,h,i=>by
  rw [akq,lK (by omega),AK,p9 (by omega) i];show _+ky [_] i=_;rw [kV,p8]
  by_cases h1:i<m
  ·rw [if_pos h1,if_pos (by omega),anj (by simp;omega)]
  ·by_cases h2:i=m
   ·subst h2;rw [if_neg h1,if_pos (by omega)];simp
   ·rw [if_neg h1,if_neg (by omega),anj (by simp;omega)]
def eV (L:List Pk):Nat→List Pk
 |0=>L
 |k+1=>nQ L (de (eV L k))
def gZ (f:Nat→Nat):Nat→Nat
 |0=>0
 |n+1=>gZ f n+f n
theorem jE {f g:Nat→Nat}: ∀ {n},(∀i,i<n→f i=g i)→gZ f n=gZ g n
 |0,h=>rfl
 |n+1,h=>by rw [gZ,gZ,jE (fun i hi=>h i (by omega)),h n (by omega)]
theorem zJ (f g:Nat→Nat): ∀n,gZ (fun i=>f i+g i) n=gZ f n+gZ g n
 |0=>rfl
 |n+1=>by rw [gZ,gZ,gZ,zJ f g n];omega
theorem ki (c m:Nat): ∀ {n},m≤n→gZ (fun i=>if i<m then c else 0) n=m*c
 |0,h=>by
  have:m=0:=by omega
  subst this;simp [gZ]
 |n+1,h=>by
  rw [gZ]
  by_cases hm:m=n+1
  ·subst hm
   rw [if_pos (by omega),jE (g:=fun i=>if i<n then c else 0) (fun i hi=>by rw [if_pos (by omega),if_pos hi]),ki c n (ajR _),alJ]
  ·rw [if_neg (by omega),ki c m (by omega)];omega
theorem C4 {f g:Nat→Nat}: ∀ {n},(∀i,i<n→f i≤g i)→gZ f n≤gZ g n
 |0,h=>ajR _
 |n+1,h=>by have:=C4 (n:=n) (fun i hi=>h i (by omega));have:=h n (by omega);rw [gZ,gZ];omega
theorem Fc {L:List Pk} (h:RN L): ∀k,RN (eV L k)
 |0=>h
 |k+1=>zI _ _ h (C0 _ (Fc h k))
structure Z5 (cs:List Nat) (k N:Nat) (m:Nat):Prop where
 le:m≤cs.length
 zero: ∀i,m≤i→ky ((eV (b_ cs) k).take N) i=0
 cnt: ∀i,ky ((eV (b_ cs) k).take N) i≤k+1
 sum:gZ (fun i=>2 ^ (k+1) - 2 ^ (k+1 - ky ((eV (b_ cs) k).take N) i)) cs.length=N*2 ^ k
 mem: ∀x∈(b_ cs).take m,x∈(eV (b_ cs) k).take N
theorem VA {cs:List Nat} (hs:cs.Pairwise (· ≤ ·)): ∀ (k N:Nat),N≤(eV (b_ cs) k).length→∃m,Z5 cs k N m
 |0,N,h=>by
  have hN:N≤cs.length:=by rwa [eV,df] at h
  refine⟨N,⟨hN,fun i hi=>?_,fun i=>?_,?_,fun x hx=>hx⟩⟩
  ·rw [eV,p9 hN,if_neg (by omega)]
  ·rw [eV,p9 hN];split<;>omega
  ·rw [jE (g:=fun i=>if i<N then 1 else 0) (fun i hi=>by rw [eV,p9 hN];split<;>rfl),ki 1 N hN]
 |k+1,N,h=>by
  have hL:=IS hs;have hM:=Fc hL k;rw [eV,tG] at h;obtain⟨m,p,h1,h2,h3,h4,h5,h6⟩:=xo (b_ cs) (de (eV (b_ cs) k)) N hL h;rw [mM] at h3;obtain⟨m',t⟩:=VA hs k (2*p) (by omega);have hc: ∀i,ky ((eV (b_ cs) (k+1)).take N) i= (if i<m then 1 else 0)+ky ((eV (b_ cs) k).take (2*p)) i:=by
   intro i;rw [eV,h4 i,p9 (by rwa [df] at h2),AI _ p (by omega)]
  rw [df] at h2;have hmm:m' ≤m∨p=0:=by
   by_cases hp:p=0
   ·exact .inr hp
   refine .inl (Nat.le_of_not_lt fun eF=>?_);obtain⟨q,rfl⟩: ∃q,p=q+1:= ⟨p - 1,by omega⟩;have hm:m<cs.length:=by have:=t.le;omega
   have lf: (cs[m],[m])∈(b_ cs).take m' :=by
    refine akK (i:=m) ?_;rw [ank eF,lK hm]
   obtain⟨y,hy,hle⟩:=AJ _ q hM (by omega) _ (t.mem _ lf);have:=h5 (by omega) _ (lK hm) y (by simpa using hy);omega
  have hz: ∀i,m≤i→ky ((eV (b_ cs) k).take (2*p)) i=0:=by
   intro i hi;rcases hmm with h|h
   ·exact t.zero i (by omega)
   ·subst h;simp [p8]
  refine⟨m,⟨h2,fun i hi=>by rw [hc,if_neg (by omega),hz i hi],fun i=>?_,?_,fun x hx=>by rw [eV];exact h6 x hx⟩⟩
  ·rw [hc];have:=t.cnt i;split<;>omega
  ·rw [jE (g:=fun i=> (if i<m then 2 ^ (k+1) else 0)+ (2 ^ (k+1) - 2 ^ (k+1 - ky ((eV (b_ cs) k).take (2*p)) i))) (fun i hi=>?_),zJ,ki _ _ h2,t.sum,show N=m+p by omega,akJ,akF]
   ·rw [Nat.mul_right_comm 2 p,akE p (2 ^ k*2),akE (2*2 ^ k) p,akE (2 ^ k) 2,akE p]
   ·rw [hc]
    have h7:=t.cnt i;have h8:=hz i;generalize ky ((eV (b_ cs) k).take (2*p)) i=c at h7 h8 ⊢
    by_cases MC:i<m
    ·rw [if_pos MC,if_pos MC,show k+1+1 - (1+c)=k+1 - c by omega]
     have:2 ^ (k+1 - c)≤2 ^ (k+1):=akd (by omega) (by omega);rw [akF 2 (k+1)];omega
    ·have h8:=h8 (by omega)
     subst h8;rw [if_neg MC,if_neg MC]
     simp
theorem OI (K:Nat) {n:Nat} (h:n≤2 ^ (K+1)): ∀ {c:Nat→Nat},c 0=n→(∀j,c (j+1)= (c j+1) /2)→c K≤2:=by
 intro c h0 hs;have: ∀j,j≤K→c j≤2 ^ (K+1 - j):=by
  intro j
  induction j with
  |zero=>intro _;rw [h0];exact h
  |succ j ih=>
   intro hj;have h1:=ih (by omega);rw [hs j];have h2:2 ^ (K+1 - j)=2 ^ (K+1 - (j+1))*2:=by rw [show K+1 - j=K+1 - (j+1)+1 by omega,akF]
   omega
 have:=this K (ajR _)
 rwa [show K+1 - K=1 by omega] at this
theorem wy (L:List Pk) (hn:1≤L.length): ∀k,(eV L k).length≤2*L.length - 1∧L.length≤(eV L k).length
 |0=>by rw [eV];omega
 |k+1=>by have:=wy L hn k;rw [eV,tG,mM];omega
theorem yz (L:List Pk) (k:Nat) (hn:1≤L.length) (h:L.length≤2 ^ (k+1)):2*L.length - 2≤(eV L k).length:=by
 have:=OI k h (c:=fun j=>2*L.length - (eV L j).length) (by show 2*L.length - (eV L 0).length=_;rw [eV];omega) (fun j=>by
  have:=wy L hn j;show 2*L.length - (eV L (j+1)).length= (2*L.length - (eV L j).length+1) /2;rw [eV,tG,mM];omega)
 have h2:=wy L hn k;have h3:2*L.length - (eV L k).length≤2:=this;omega
def Bg (cs:List Nat) (k:Nat) (i:Nat):Nat:=ky ((eV (b_ cs) k).take (2*cs.length - 2)) i
theorem Lt {cs:List Nat} {k:Nat} (hs:cs.Pairwise (· ≤ ·)) (h2:2≤cs.length) (hk:cs.length≤2 ^ (k+1)):
  gZ (fun i=>2 ^ (k+1 - Bg cs k i)) cs.length=2 ^ (k+1)∧(∀i,i<cs.length→1≤Bg cs k i∧Bg cs k i≤k+1):=by
 have he:=yz (b_ cs) k (by rw [df];omega) (by rw [df];exact hk);rw [df] at he;obtain⟨m,t⟩:=VA hs k (2*cs.length - 2) he;have Gh:=t.sum;have Xo: ∀i,Bg cs k i≤k+1:=t.cnt
 change gZ (fun i=>2 ^ (k+1) - 2 ^ (k+1 - Bg cs k i)) cs.length=_ at Gh
 have adz:=zJ (fun i=>2 ^ (k+1) - 2 ^ (k+1 - Bg cs k i)) (fun i=>2 ^ (k+1 - Bg cs k i)) cs.length;rw [jE (g:=fun i=>if i<cs.length then 2 ^ (k+1) else 0) (fun i hi=>by
  rw [if_pos hi];have:2 ^ (k+1 - Bg cs k i)≤2 ^ (k+1):=akd (by omega) (by omega);omega),ki _ _ (ajR _),Gh] at adz
 have hK:gZ (fun i=>2 ^ (k+1 - Bg cs k i)) cs.length=2 ^ (k+1):=by
  have e1: (2*cs.length - 2)*2 ^ k=cs.length*2 ^ (k+1) - 2 ^ (k+1):=by
   rw [akF,show 2*cs.length - 2= (cs.length - 1)*2 by omega,alM,akE 2,Nat.sub_mul];omega
  have e2:2 ^ (k+1)≤cs.length*2 ^ (k+1):=Nat.le_mul_of_pos_left _ (by omega);omega
 refine⟨hK,fun i hi=> ⟨?_,Xo i⟩⟩;refine Nat.pos_of_ne_zero fun h0=>?_;have Xk:gZ (fun j=>if j=i then 2 ^ (k+1) else 1) cs.length≤gZ (fun j=>2 ^ (k+1 - Bg cs k j)) cs.length:=C4 fun j hj=>by
  by_cases e:j=i
  ·subst e;rw [if_pos rfl,h0];exact ajR _
  ·rw [if_neg e];exact alU _
 have qn: ∀n,i<n→gZ (fun j=>if j=i then 2 ^ (k+1) else 1) n=2 ^ (k+1)+ (n - 1):=by
  intro n
  induction n with
  |zero=>intro h;omega
  |succ n ih=>
   intro lf;rw [gZ]
   by_cases e:n=i
   ·subst e
    rw [if_pos rfl,jE (g:=fun j=>if j<n then 1 else 0) (fun j hj=>by rw [if_neg (by omega),if_pos hj]),ki _ _ (ajR _)];omega
   ·rw [if_neg e,ih (by omega)];omega
 rw [qn _ hi] at Xk;omega
end
end Go.Proofs.YtpcgccdmmoggmaaGreatDoor
