/- Part 5 of the proof of RowTopArchives: what it is built on, in the order of its needs. -/
import Derived.Test.YtpcgccdmmoggmaaGreatDoorPkD
import Derived.RangeFuncNested
import Derived.RangeFuncBound
import Derived.RangeFuncCalls
import Derived.RangeFuncLeaves
import Derived.Shelf.Abstract
import Derived.Shelf.RegionOpen
import Derived.WalkKit
import Derived.OwnWalkIn
import Derived.TacticsInMore
import Derived.LoopNIn
import Derived.LoopIn
set_option linter.unusedSimpArgs false
set_option linter.unusedVariables false
set_option maxRecDepth 100000
namespace Go.Proofs.YtpcgccdmmoggmaaGreatDoor
open Go Go.Vc Go.Proofs
section
variable {α β:Type} {B C:List Bool} {zs:List Int}
structure Rs.Ex (r r' :Rs α) (C:List Bool):Prop where
 h:match r with
  | .ok a B=>r' = .ok a (B++C)
  | .er e=>e=2∨r' = .er e
theorem Rs.Ex.seq {r r' :Rs α} {f g:α→List Bool→Rs β} (h:r.Ex r' C) (hf: ∀a B,(f a B).Ex (g a (B++C)) C): (r.bind f).Ex (r'.bind g) C:=by
 obtain⟨h⟩:=h
 cases r with
 |ok a B=>dsimp only at h;subst h;exact hf a B
 |er e=>
  refine⟨?_⟩;rcases h with h|h
  ·exact .inl h
  ·subst h;exact .inr rfl
theorem oJ {a:α}: (Rs.ok a B).Ex (.ok a (B++C)) C:= ⟨rfl⟩
theorem oK {e:Int}: (Rs.er e:Rs α).Ex (.er e) C:= ⟨.inr rfl⟩
theorem ke {n:Nat}: (dQ n B).Ex (dQ n (B++C)) C:=by
 unfold dQ
 by_cases h:n≤B.length
 ·rw [if_pos h,if_pos (by rw [aiV];omega),ajZ h,ajR h]
  exact oJ
 ·rw [if_neg h]
  exact⟨.inl rfl⟩
def qz (zs:List Int):Prop:=okZ zs∧shareL (natL zs) 15≤32768
theorem r_ (hz:qz zs) {s:Nat} (h:hit (natL zs) B s):eM zs B= .ok s (B.drop ((natL zs).getD s 0)):=by
 have hh: ∃s,hit (natL zs) B s:= ⟨s,h⟩;unfold eM;rw [dif_pos hh,Lx hz.2 (xF hz.1) hh.choose_spec h]
theorem S5 {ls:List Nat} {s:Nat} (h:hit ls B s):hit ls (B++C) s:=
 ⟨h.1,h.2.1,by rw [ajZ (pJ h)];exact h.2.2⟩
theorem AO (hz:qz zs): (eM zs B).Ex (eM zs (B++C)) C:=by
 have hle:=xF hz.1
 by_cases h: ∃s,hit (natL zs) B s
 ·obtain⟨s,h⟩:=h
  rw [r_ hz h,r_ hz (S5 h),ajR (pJ h)];exact oJ
 ·by_cases hm:more (natL zs) (B.take 15)
  ·unfold eM
   rw [dif_neg h,if_pos hm];exact⟨.inl rfl⟩
  ·have key: ∀s,s< (natL zs).length→B.length< (natL zs).getD s 0→(cT (natL zs) s).take B.length=B→False:=by
    intro s h1 h2 h3;have:=l4 hle s;refine hm ⟨s,h1,?_,?_⟩
    ·rw [ai2];omega
    ·rw [ajf (by omega:B.length≤15)];exact h3
   have sj: ¬ ∃s,hit (natL zs) (B++C) s:=by
    rintro⟨s,g⟩
    by_cases hl: (natL zs).getD s 0≤B.length
    ·exact h ⟨s,g.1,g.2.1,by rw [←g.2.2,ajZ hl]⟩
    ·refine key s g.1 (by omega) ?_
     rw [←g.2.2,akb,ajF (by omega),ajZ (aiZ _),ajc]
   have JV: ¬more (natL zs) ((B++C).take 15):=by
    rintro⟨s,g1,g2,g3⟩
    by_cases hb:15≤B.length
    ·rw [ajZ hb] at g2 g3
     exact hm ⟨s,g1,g2,g3⟩
    ·rw [ai2,aiV] at g2
     refine key s g1 (by omega) ?_;have:=congrArg (List.take B.length) g3;rw [akb,ai2,aiV,ajF (by omega),akb,ajF (by omega),ajZ (aiZ _),ajc] at this;exact this
   unfold eM;rw [dif_neg h,dif_neg sj,if_neg hm,if_neg JV];exact oK
theorem S6 {s:Nat} {ah:List Int}: (oI s ah B).Ex (oI s ah (B++C)) C:=by
 unfold oI
 split
 ·split
  ·exact oK
  ·exact ke.seq fun _ _=>oJ
 split
 ·exact ke.seq fun _ _=>oJ
 split
 ·exact ke.seq fun _ _=>oJ
 ·exact oJ
theorem GQ (hz:qz zs): ∀ (k n:Nat) (out:List Int) (B:List Bool),(kc k zs n out B).Ex (kc k zs n out (B++C)) C
 |0,_,_,_=>oK
 |k+1,n,out,B=>by
  unfold kc
  split
  ·exact oJ
  ·refine(AO hz).seq fun s B1=>S6.seq fun r B2=>?_
   split
   ·exact oK
   ·exact GQ hz k _ _ _
theorem GR: ∀ (r:List Nat) (l:List Int) (B:List Bool),(kz r l B).Ex (kz r l (B++C)) C
 | [],_,_=>oJ
 |s::r,l,B=>by unfold kz;exact ke.seq fun v B=>GR r _ _
theorem kX {loose:Bool} (h:ia zs loose=0):qz zs:=by
 by_cases hz:okZ zs
 ·exact⟨hz,MO hz h⟩
 ·rw [Ez hz] at h;exact absurd h (by decide)
theorem S7: (qu B).Ex (qu (B++C)) C:=by
 unfold qu;refine ke.seq fun v B=>?_
 split
 ·exact oK
 refine(GR _ _ _).seq fun t B=>?_
 split
 ·exact oK
 rename_i ht
 refine(GQ (kX (al9.1 ht)) _ _ _ _).seq fun l B=>?_
 split
 ·exact oK
 split
 ·exact oK
 split
 ·exact oK
 ·exact oJ
theorem EI (hC:C.length%8=0):dJ (B++C)=dJ B++C:=by
 unfold dJ;rw [aiV,show (B.length+C.length) %8=B.length%8 by omega,ajR (by omega)]
theorem PW (hC:C.length%8=0): (fM B).Ex (fM (B++C)) C:=by
 unfold fM;refine ke.seq fun v B=>?_
 split
 ·rw [EI hC]
  refine ke.seq fun x B=>?_
  split
  ·exact oK
  ·exact oJ
 split
 ·exact oJ
 split
 ·exact S7.seq fun p B=>oJ
 ·exact oK
theorem M5 {di:List Int} (hz:qz di) {s:Nat}: (fD di s B).Ex (fD di s (B++C)) C:=by
 unfold fD
 split
 ·exact oK
 refine ke.seq fun x B=> (AO hz).seq fun k B=>?_
 split
 ·exact oK
 ·exact ke.seq fun y B=>oJ
def EJ:St→Prop
 | .tl sy di _=>qz sy∧qz di
 |_=>True
structure Rs.IN (r:Rs α) (P:α→Prop):Prop where
 h:match r with
  | .ok a _=>P a
  | .er _=>True
theorem Rs.IN.bind {r:Rs α} {f:α→List Bool→Rs β} {P:β→Prop} (hf: ∀a B,(f a B).IN P): (r.bind f).IN P:=by
 cases r with
 |ok a B=>exact hf a B
 |er e=>exact⟨trivial⟩
theorem nL {P:α→Prop} {e:Int}: (Rs.er e:Rs α).IN P:= ⟨trivial⟩
theorem tK {P:α→Prop} {a:α} (h:P a): (Rs.ok a B).IN P:= ⟨h⟩
theorem PX: (qu B).IN fun p=>qz p.1∧qz p.2:=by
 unfold qu;refine Rs.IN.bind fun v B=>?_
 split
 ·exact nL
 refine Rs.IN.bind fun t B=>?_
 split
 ·exact nL
 refine Rs.IN.bind fun l B=>?_
 split
 ·exact nL
 split
 ·exact nL
 rename_i h1
 split
 ·exact nL
 rename_i h2
 exact tK ⟨kX (al9.1 h1),kX (al9.1 h2)⟩
theorem y_:qz gm:= ⟨⟨by decide+kernel,by decide+kernel⟩,by decide+kernel⟩
theorem za:qz nc:= ⟨⟨by decide+kernel,by decide+kernel⟩,by decide+kernel⟩
theorem M6: (fM B).IN EJ:=by
 unfold fM;refine Rs.IN.bind fun v B=>?_
 split
 ·refine Rs.IN.bind fun x B=>?_
  split
  ·exact nL
  ·exact tK trivial
 split
 ·exact tK ⟨y_,za⟩
 split
 ·have:=PX (B:=B)
  cases hd:qu B with
  |ok p E=>rw [hd] at this;exact tK this.h
  |er e=>exact nL
 ·exact nL
theorem Lz (last:Bool) (B:List Bool) (W:List UInt8):EJ (ib last B W).st:=by unfold ib;split<;>trivial
theorem step_ok {D D' :DM} {o:List UInt8} (hs:EJ D.st) (h:bV D= .go D' o∨bV D= .wait D' o):EJ D'.st:=by
 obtain⟨st,B,W⟩:=D;unfold bV at h
 cases st with
 |hd=>
  dsimp only at h
  have:=M6 (B:=B)
  split at h
  ·rename_i st C hh
   rw [hh] at this;rcases h with h|h<;>cases h
   exact this.h
  ·unfold SR.of at h
   split at h<;>rcases h with h|h<;>cases h
   exact hs
 |cp left last=>
  dsimp only at h
  split at h
  ·rcases h with h|h<;>cases h
   trivial
  ·rcases h with h|h<;>cases h
   exact Lz ..
 |tl sy di last=>
  dsimp only at h
  split at h
  ·unfold SR.of at h
   split at h<;>rcases h with h|h<;>cases h
   exact hs
  ·split at h
   ·rcases h with h|h<;>cases h
    exact Lz ..
   split at h
   ·rcases h with h|h<;>cases h
    exact hs
   ·split at h
    ·unfold SR.of at h
     split at h<;>rcases h with h|h<;>cases h
     exact hs
    ·split at h<;>rcases h with h|h<;>cases h
     exact hs
 |dn=>
  rcases h with h|h<;>cases h
  exact hs
theorem PY: ∀ (n:Nat) (D:DM),mM D<n→EJ D.st→EJ (run D).2.1.st
 |0,D,h,_=>by omega
 |n+1,D,h,hs=>by
  by_cases hd:D.st.iG=true
  ·rw [ra hd];exact hs
  ·have hd:D.st.iG=false:=by simpa using hd
   cases c_:bV D with
   |go D' o=>
    have:=mh c_;rw [pR c_];exact PY n D' (by omega) (step_ok hs (.inl c_))
   |wait D' o=>rw [lu hd c_];exact step_ok hs (.inr c_)
   |bad e=>rw [r9 hd c_];exact hs
def DM.add (D:DM) (C:List Bool):DM:= ⟨D.st,D.B++C,D.W⟩
theorem xO {x y:List Bool} (h:x.length%8=0):bm (x++y)=bm x++bm y:=by
 obtain⟨n,hn⟩: ∃n,x.length=8*n:= ⟨x.length/8,by omega⟩
 induction n generalizing x with
 |zero=>
  have:x= []:=alz.1 (by omega);subst this;rfl
 |succ n ih=>
  have e:x=x.take 8++x.drop 8:= (ajp 8 x).symm;have h8: (x.take 8).length=8:=by rw [ai2];omega
  have hd: (x.drop 8).length=8*n:=by rw [ai4];omega
  rw [e,ai0,j_ h8,j_ h8,ih (by omega) hd]
  rfl
theorem GS (hC:C.length%8=0) (last:Bool) (B:List Bool) (W:List UInt8):ib last (B++C) W= (ib last B W).add C:=by
 unfold ib DM.add
 cases last<;>simp [EI hC]
theorem PZ {D:DM} {e:Int}: (SR.of D e= .wait D []∧e=2)∨SR.of D e= .bad e:=by
 unfold SR.of;split
 ·exact .inl ⟨rfl,by assumption⟩
 ·exact .inr rfl
theorem P0 (hC:C.length%8=0) {D:DM} (hs:EJ D.st) (hd:D.st.iG=false):match bV D with
  | .go D' o=>bV (D.add C)= .go (D'.add C) o
  | .bad e=>bV (D.add C)= .bad e
  | .wait D' o=> (run (D.add C))= (o++ (run (D'.add C)).1,(run (D'.add C)).2):=by
 obtain⟨st,B,W⟩:=D
 cases st with
 |hd=>
  have hx:=PW (B:=B) hC;have e1:bV ⟨.hd,B,W⟩=match fM B with| .ok st B=> .go ⟨st,B,W⟩ [] | .er e=>SR.of ⟨.hd,B,W⟩ e:=rfl
  have e2:bV (DM.add ⟨.hd,B,W⟩ C)=match fM (B++C) with| .ok st B=> .go ⟨st,B,W⟩ [] | .er e=>SR.of ⟨.hd,B++C,W⟩ e:=rfl
  rw [e1]
  cases hh:fM B with
  |ok st E=>
   rw [hh] at hx;have hx:=hx.h
   dsimp only at hx ⊢
   rw [e2,hx];rfl
  |er e=>
   rw [hh] at hx
   dsimp only
   rcases PZ (D:= ⟨.hd,B,W⟩) (e:=e) with ⟨g,-⟩ |g
   ·rw [g];simp
   ·rw [g]
    dsimp only
    have cQ:e≠2:=by
     intro he;subst he;unfold SR.of at g;rw [if_pos rfl] at g;cases g
    have hx:=hx.h.resolve_left cQ;rw [e2,hx];show SR.of _ e=_;unfold SR.of;rw [if_neg cQ]
 |cp left last=>
  have rS:=pQ B;have ha8: (dJ B).length%8=0:=by omega
  obtain⟨k,hk⟩: ∃k,(dJ B).length=8*k:= ⟨(dJ B).length/8,by omega⟩;obtain⟨m,hm⟩: ∃m,C.length=8*m:= ⟨C.length/8,by omega⟩;have hx: (dJ B++C).length=8* (k+m):=by rw [aiV];omega
  have e1:bV ⟨.cp left last,B,W⟩=if min left ((dJ B).length/8)<left then .wait ⟨.cp (left - min left ((dJ B).length/8)) last,(dJ B).drop (8*min left ((dJ B).length/8)),W++bm ((dJ B).take (8*min left ((dJ B).length/8)))⟩ (bm ((dJ B).take (8*min left ((dJ B).length/8))))
    else .go (ib last ((dJ B).drop (8*left)) (W++bm ((dJ B).take (8*left)))) (bm ((dJ B).take (8*left))):=rfl
  have e2:bV (DM.add ⟨.cp left last,B,W⟩ C)=if min left ((dJ (B++C)).length/8)<left then .wait ⟨.cp (left - min left ((dJ (B++C)).length/8)) last,(dJ (B++C)).drop (8*min left ((dJ (B++C)).length/8)),W++bm ((dJ (B++C)).take (8*min left ((dJ (B++C)).length/8)))⟩ (bm ((dJ (B++C)).take (8*min left ((dJ (B++C)).length/8))))
    else .go (ib last ((dJ (B++C)).drop (8*left)) (W++bm ((dJ (B++C)).take (8*left)))) (bm ((dJ (B++C)).take (8*left))):=rfl
  rw [EI hC,hx] at e2;rw [e1,hk,al_ _ (by decide)];rw [al_ _ (by decide)] at e2
  by_cases hl:left≤k
  ·rw [if_neg (by omega)]
   dsimp only
   rw [e2,if_neg (by omega),ajR (by omega),ajZ (by omega),GS hC]
  ·rw [if_pos (by omega),alP (by omega)]
   dsimp only
   rw [aky (by omega: (dJ B).length≤8*k),ajf (by omega: (dJ B).length≤8*k)];have hac:dJ C=C:=by unfold dJ;rw [hC];rfl
   have e3:bV (DM.add ⟨.cp (left - k) last,[],W++bm (dJ B)⟩ C)=if min (left - k) ((dJ C).length/8)<left - k then .wait ⟨.cp (left - k - min (left - k) ((dJ C).length/8)) last,(dJ C).drop (8*min (left - k) ((dJ C).length/8)),W++bm (dJ B)++bm ((dJ C).take (8*min (left - k) ((dJ C).length/8)))⟩ (bm ((dJ C).take (8*min (left - k) ((dJ C).length/8))))
    else .go (ib last ((dJ C).drop (8* (left - k))) (W++bm (dJ B)++bm ((dJ C).take (8* (left - k))))) (bm ((dJ C).take (8* (left - k)))):=rfl
   rw [hac,hm,al_ _ (by decide)] at e3
   by_cases Xb:left≤k+m
   ·rw [if_neg (by omega)] at e2 e3
    have d1: (dJ B++C).drop (8*left)=C.drop (8* (left - k)):=by
     rw [amC,aky (by omega),aje,hk];congr 1;omega
    have t1: (dJ B++C).take (8*left)=dJ B++C.take (8* (left - k)):=by
     rw [amD,ajf (by omega),hk];congr 2;omega
    rw [d1,t1,xO ha8] at e2;rw [pR e2,pR e3];simp only [ai0]
   ·rw [if_pos (by omega),alP (by omega)] at e2 e3
    rw [aky (by omega),ajf (by omega)] at e2 e3;rw [xO ha8] at e2;rw [lu rfl e2,lu rfl e3];simp only [ai0];rw [show left - k - m=left - (k+m) by omega]
 |tl sy di last=>
  have hx:=AO (B:=B) (C:=C) hs.1;have e1:bV ⟨.tl sy di last,B,W⟩=match eM sy B with
   | .er e=>SR.of ⟨.tl sy di last,B,W⟩ e
   | .ok s B2=>if s=256 then .go (ib last B2 W) [] else if s<256 then .go ⟨.tl sy di last,B2,W++ [UInt8.ofNat s]⟩ [UInt8.ofNat s] else match fD di s B2 with
    | .er e=>SR.of ⟨.tl sy di last,B,W⟩ e
    | .ok p B2=>if 1≤p.2∧p.2≤min W.length 32768 then .go ⟨.tl sy di last,B2,cU p.1 W p.2⟩ ((cU p.1 W p.2).drop W.length) else .bad 6:=rfl
  have e2:bV (DM.add ⟨.tl sy di last,B,W⟩ C)=match eM sy (B++C) with
   | .er e=>SR.of ⟨.tl sy di last,B++C,W⟩ e
   | .ok s B2=>if s=256 then .go (ib last B2 W) [] else if s<256 then .go ⟨.tl sy di last,B2,W++ [UInt8.ofNat s]⟩ [UInt8.ofNat s] else match fD di s B2 with
    | .er e=>SR.of ⟨.tl sy di last,B++C,W⟩ e
    | .ok p B2=>if 1≤p.2∧p.2≤min W.length 32768 then .go ⟨.tl sy di last,B2,cU p.1 W p.2⟩ ((cU p.1 W p.2).drop W.length) else .bad 6:=rfl
  rw [e1];have l5: ∀ {e:Int},(e≠2→bV (DM.add ⟨.tl sy di last,B,W⟩ C)=SR.of ⟨.tl sy di last,B++C,W⟩ e)→match SR.of ⟨.tl sy di last,B,W⟩ e with
    | .go D' o=>bV (DM.add ⟨.tl sy di last,B,W⟩ C)= .go (D'.add C) o
    | .bad e=>bV (DM.add ⟨.tl sy di last,B,W⟩ C)= .bad e
    | .wait D' o=> (run (DM.add ⟨.tl sy di last,B,W⟩ C))= (o++ (run (D'.add C)).1,(run (D'.add C)).2):=by
   intro e h;rcases PZ (D:= ⟨.tl sy di last,B,W⟩) (e:=e) with ⟨g,-⟩ |g
   ·rw [g];simp
   ·rw [g]
    dsimp only
    have cQ:e≠2:=by
     intro he;subst he;unfold SR.of at g;rw [if_pos rfl] at g;cases g
    rw [h cQ];unfold SR.of;rw [if_neg cQ]
  cases hn:eM sy B with
  |er e=>
   rw [hn] at hx
   dsimp only
   refine l5 fun cQ=>?_;rw [e2,hx.h.resolve_left cQ]
  |ok s E=>
   rw [hn] at hx;have hx:=hx.h
   dsimp only at hx ⊢
   rw [hx] at e2
   dsimp only at e2
   by_cases h1:s=256
   ·rw [if_pos h1] at e2 ⊢
    dsimp only
    rw [e2,GS hC]
   ·rw [if_neg h1] at e2 ⊢
    by_cases h2:s<256
    ·rw [if_pos h2] at e2 ⊢
     dsimp only
     rw [e2];rfl
    ·rw [if_neg h2] at e2 ⊢
     have hy:=M5 (B:=E) (C:=C) (s:=s) hs.2
     cases hm:fD di s E with
     |er e=>
      rw [hm] at hy
      dsimp only
      refine l5 fun cQ=>?_;rw [e2,hy.h.resolve_left cQ]
     |ok p F=>
      rw [hm] at hy;have hy:=hy.h
      dsimp only at hy ⊢
      rw [hy] at e2
      dsimp only at e2
      by_cases h3:1≤p.2∧p.2≤min W.length 32768
      ·rw [if_pos h3] at e2 ⊢
       dsimp only
       rw [e2];rfl
      ·rw [if_neg h3] at e2 ⊢
       dsimp only
       rw [e2]
 |dn=>cases hd
theorem zb (hC:C.length%8=0): ∀ (n:Nat) (D:DM),mM D<n→EJ D.st→((run D).2.2=0→run (D.add C)= ((run D).1++ (run ((run D).2.1.add C)).1,(run ((run D).2.1.add C)).2))∧((run D).2.2≠0→(run (D.add C)).2.2= (run D).2.2∧(run (D.add C)).1= (run D).1)
 |0,D,h,_=>by omega
 |n+1,D,h,hs=>by
  by_cases hd:D.st.iG=true
  ·rw [ra hd]
   exact⟨fun _=>by simp,fun h=>absurd rfl h⟩
  ·have hd:D.st.iG=false:=by simpa using hd
   have Yc: (D.add C).st.iG=false:=hd;have c_:=P0 hC hs hd
   cases hq:bV D with
   |go D' o=>
    rw [hq] at c_
    dsimp only at c_
    have:=mh hq;have ih:=zb hC n D' (by omega) (step_ok hs (.inl hq));rw [pR hq,pR c_];refine⟨fun h0=>?_,fun h0=>?_⟩
    ·rw [ih.1 h0]
     simp only [ai0]
    ·have:=ih.2 h0
     exact⟨this.1,by rw [this.2]⟩
   |wait D' o=>
    rw [hq] at c_
    dsimp only at c_
    rw [lu hd hq];exact⟨fun _=>c_,fun h=>absurd rfl h⟩
   |bad e=>
    rw [hq] at c_
    dsimp only at c_
    rw [r9 hd hq,r9 Yc c_];refine⟨fun h0=>?_,fun _=> ⟨rfl,rfl⟩⟩
    dsimp only at h0
    rfl
end
section
variable {H H0:ag} {R:Value→ag→Prop} {v:Value} {zs:List Int} {ls:List Nat} {B:List Bool} {L:List It} {b:Nat} {post:List Value} {t:TypeId}
def Yj (b:Nat) (post:List Value) (t:TypeId) (B:List Bool):eX where
 dF k:=k=b
 holds H:= ∃ (rest:List UInt8) (acc n:Nat),H[b]? =some (.cells (str rest::u64 acc::i64 n::post).toArray t (0,0))∧B=a_ acc n++toBits rest∧acc<2 ^ n∧n<40∧B.length≤1152921504606846976
 frame:=fun h hf=>by
  obtain⟨rest,acc,n,h1,h2⟩:=h;exact⟨rest,acc,n,(hf b rfl).trans h1,h2⟩
 lt:=fun h hf=>by subst hf;obtain⟨rest,acc,n,h1,h2⟩:=h;exact bz h1
abbrev mO (b:Nat) (post:List Value) (t:TypeId) (B:List Bool):It:= .aE (Yj b post t B)
theorem re (o:au H0 H L) (fH:mO b post t B∈L):Rd H b 0 B:=by
 obtain⟨rest,acc,n,h1,h2,h3,h4,h5⟩:=o.aE fH;refine⟨⟨rest,acc,n,?_,h2,h3,h4⟩,h5⟩;exact(lJ.all h1).part (x:= []) (y:= [str rest,u64 acc,i64 n]) (z:=post)
theorem _root_.Go.Vc.au.rd {H' :ag} {B' :List Bool} {L' :List It} (o:au H0 H L) (w:Rd H' b 0 B') (c:kH b 0 3 none_ none_ H H') (hr:cx (mO b post t B) (mO b post t B') L L'):au H0 H' L' :=by
 obtain⟨rest,acc,n,h1,-⟩:=o.aE hr.mem;refine o.jC hr c.size (fun k hk hf=>c.ne k hk hf (fun h=>h)) ?_ (fun k hk=> .inl hk);obtain⟨⟨lS,gj,n',hs,h2,h3,h4⟩,h5⟩:=w;refine⟨lS,gj,n',?_,h2,h3,h4,h5⟩;obtain⟨cs,g1,g2,g3⟩:=c.lk _ _ _ h1;obtain⟨p,q,t',k1,k2⟩:=hs;have hp:p= []:=by simpa using k1
 subst hp;rw [g1] at k2;simp only [ai8,Obj.cells.injEq,aje] at k2;obtain⟨k2,k3,-⟩:=k2;have k2:=yX k2;subst k3;rw [g1,k2];have hq:q=post:=by
  apply aj4;intro j;have:=g3 (3+j) (.inr (by omega));rw [k2,ajP (by simp)] at this;simp only [ai6,ai_,ajb,Nat.reduceAdd,aj7] at this;rw [this,show 3+j=j+1+1+1 by omega];simp only [aju]
 rw [hq];rfl
theorem _root_.Go.Vc.au.pl {K:Value→Prop} {g:Nat} {w:Value} (o:au H0 H L) (fH:mO b post t B∈L) (h3:3≤g) (hw:post[g - 3]? =some w) (hk:K w):ao H (.pointer (some ⟨b,g,none⟩)) K:=by
 obtain⟨rest,acc,n,h1,-⟩:=o.aE fH;refine gn h1 ?_ hk;obtain⟨j,rfl⟩: ∃j,g=j+1+1+1:= ⟨g - 3,by omega⟩;simp only [aju]
 simpa using hw
theorem _root_.Go.Vc.au.ps {K:Value→ag→Prop} {g:Nat} {x:Value} {L' :List It} (o:au H0 H L) (hr:cx (mO b post t B) (mO b (post.set (g - 3) x) t B) L L') (h3:3≤g) (hg:g - 3<post.length) (hx:aS x=true) (hk: ∀H',au H0 H' L' →H'.size=H.size→K undef H'):aI H (.pointer (some ⟨b,g,none⟩)) x K:=by
 obtain⟨rest,acc,n,h1,h2⟩:=o.aE hr.mem;refine iM h1 (by simp;omega) hx fun H' hs u=>hk H' (o.jC hr u.size (fun k hk cQ=>u.ne k hk (fun e=>cQ e)) ?_ (fun k hk=> .inl hk)) hs;refine⟨rest,acc,n,?_,h2⟩;rw [u.at_,alr];obtain⟨j,rfl⟩: ∃j,g=j+1+1+1:= ⟨g - 3,by omega⟩;simp only [ajS,akZ]
 simp
theorem _root_.Go.Vc.au.p3 {K:Value→Prop} (o:au H0 H L) (fH:mO b post t B∈L) (hk: ∀ (rest:List UInt8) (acc n:Nat),B=a_ acc n++toBits rest→acc<2 ^ n→n<40→B.length≤1152921504606846976→K (.agg #[str rest,u64 acc,i64 n])):aF H 3 (.pointer (some ⟨b,0,none⟩)) K:=by
 obtain⟨rest,acc,n,h1,h2,h3,h4,h5⟩:=o.aE fH;have hs:= (lJ.all h1).part (x:= []) (y:= [str rest,u64 acc,i64 n]) (z:=post);have hc:Reads H ⟨b,0,none⟩ [str rest,u64 acc,i64 n]:=fun i v hv=>by
  rw [ax];have:=hs.cell (k:=i) hv
  simpa using this
 exact hc.fZ (n:=3) rfl (hk rest acc n h2 h3 h4 h5)
theorem _root_.Go.Vc.au.p3s {K:Value→ag→Prop} {rest:List UInt8} {acc n:Nat} {B' :List Bool} {L' :List It} (o:au H0 H L) (hr:cx (mO b post t B) (mO b post t B') L L') (h2:B' =a_ acc n++toBits rest) (h3:acc<2 ^ n) (h4:n<40) (h5:B'.length≤1152921504606846976)
  (hk: ∀H',au H0 H' L' →H'.size=H.size→K undef H'):aH H 3 (.pointer (some ⟨b,0,none⟩)) (.agg #[str rest,u64 acc,i64 n]) K:=by
 obtain⟨Uh,Yk,n0,h1,-⟩:=o.aE hr.mem;have hs:=Ai (new:= [str rest,u64 acc,i64 n]) (sp:= []) (l:=str Uh::u64 Yk::i64 n0::post) (b:=b) (j:=0) (.inl rfl) (by rw [ajl];exact h1) rfl (by simp) rfl;rw [ajl] at hs;have hp:lg (str Uh::u64 Yk::i64 n0::post) 0 [str rest,u64 acc,i64 n]=str rest::u64 acc::i64 n::post:=by
  simp [b7,cR]
 rw [hp] at hs;have hb:=bz h1;show aH H 3 _ (.agg [str rest,u64 acc,i64 n].toArray) K;simp only [aH,fG,hs];refine⟨by simp,hk _ (o.jC hr (by simp) (fun k hk cQ=>c9 (fun e=>cQ e.symm)) ⟨rest,acc,n,bU hb,h2,h3,h4,h5⟩ (fun k hk=> .inl hk)) (by simp)⟩
theorem mi {n:Nat} (hn:n≤32) (o:au H0 H (mO b post t B::L))
  (kp: ∀x C H',dQ n B= .ok x C→x<2 ^ n→au H0 H' (mO b post t C::L)→R (.tuple #[i64 x,.int .i64 0]) H')
  (l5:dQ n B= .er 2→R (.tuple #[.int .i64 0,.int .i64 2]) H):ab 249 #[at_ b 0,i64 n] H R:=by
 refine En.vc _ _ _ _ ?_;have hr:=re o (aiX)
 by_cases hl:n≤B.length
 ·refine AI (k:=n) hr hn hl fun H1 w c=>?_
  have cL:=pD (B.take n);rw [ai2,ajF hl] at cL;have h32:2 ^ n≤2 ^ 32:=ajk (by decide) hn;have hx:fV (B.take n)<4294967296:=by omega
  refine ai rfl ?_;refine ai rfl ?_;rw [dq,aj0,ak];refine a8 ?_;rw [aJ];exact kp _ _ H1 (by unfold dQ;rw [if_pos hl]) cL (o.rd w c cx.here)
 ·refine PT hr (by omega) ?_
  refine ai rfl ?_;refine ai rfl ?_;rw [dq,aku,aL];exact l5 (by unfold dQ;rw [if_neg hl])
theorem M7 (hle: ∀k∈ls,k≤15) {s:Nat}:hit ls (B.take 15) s↔hit ls B s:=by
 have:=l4 hle s;unfold hit;rw [akb,ajF this]
open Classical in
theorem JZ {cb:Nat} {lv wv sv:Value} (hz:qz zs) (o:au H0 H (mO b post t B::L)) (m1:It.box cb (cn lv wv (cI (natL zs)) sv) 285∈L) (m2:It.sl wv 2 (mL (natL zs))∈L) (m3:It.sl sv 1 (nt (lr (natL zs) 16))∈L)
  (kp: ∀s C H',eM zs B= .ok s C→s<zs.length→au H0 H' (mO b post t C::L)→R (.tuple #[i64 s,.int .i64 0]) H')
  (l5: ∀e H',eM zs B= .er e→e≠0→au H0 H' (mO b post t B::L)→R (.tuple #[.int .i64 0,.int .i64 e]) H'):
  ab 255 #[.pointer (some ⟨cb,0,none⟩),at_ b 0] H R:=by
 have hle:=xF hz.1;have ht:= @M7 (natL zs) B hle;have aaR:=l4 hle;refine yD.vc _ _ _ _ ?_;rw [fC];refine aM ?_;rw [fC];intro _;rw [ak];refine pM (re o (by repeat(first|exact aiX|apply aiW))) ?_;rw [kF];obtain⟨n,hn⟩: ∃n,n=min B.length 15:= ⟨_,rfl⟩;rw [show min ((B.length:Nat):Int) 15= (n:Int) by omega];refine JU (k:=n) (re o (by repeat(first|exact aiX|apply aiW))) (by omega) (by omega) fun H1 w1 c1=>?_;have o:=o.rd w1 c1 cx.here;refine ai rfl ?_;refine ai rfl ?_;have hx:=pD (B.take n);have yV: (B.take n).length=n:=by rw [ai2];omega
 have hb:a_ (fV (B.take n)) n=B.take 15:=by
  have:=s_ (B.take n);rw [yV] at this;rw [this,hn];rcases Nat.le_total B.length 15 with g|g
  ·rw [ajF g,ajf (aiZ _),ajf g]
  ·rw [alP g]
 rw [yV] at hx;generalize fV (B.take n)=x at*;refine find_spec (x:=x) (n:=n) hz.1 hz.2 o (aiW _ m1) (aiW _ m3) hx (by omega) (fun s hh=>?_) (fun sj=>?_)
 ·rw [hb] at hh
  have hh:=ht.1 hh;have ja:=hh.2.1;have hlen:=pJ hh;have OA:=aaR s;refine ai rfl ?_;refine ai rfl ?_;rw [bc,nR,aL];refine AI (k:= (natL zs).getD s 0) (re o (by repeat(first|exact aiX|apply aiW))) (by omega) hlen fun H2 w2 c2=>?_;exact kp s _ H2 (r_ hz hh) (by have:=hh.1;rwa [eY] at this) (o.rd w2 c2 cx.here)
 ·rw [hb] at sj
  refine ai rfl ?_;refine ai rfl ?_;rw [bc,qO,ak];refine MU (x:=x) (n:=n) hz.1 o (aiW _ m1) (aiW _ m2) hx (by omega) fun H2 o=>?_;rw [hb];have Lg:eM zs B= .er (if more (natL zs) (B.take 15) then 2 else 4):=by
   unfold eM;rw [dif_neg (fun ⟨s,g⟩=>sj s (ht.2 g))]
  by_cases hm:more (natL zs) (B.take 15)
  ·rw [if_pos hm] at Lg
   rw [decide_eq_true hm,aL];exact l5 2 H2 Lg (by decide) o
  ·rw [if_neg hm] at Lg
   rw [decide_eq_false hm,ak];exact l5 4 H2 Lg (by decide) o
end
section
variable {H H0:ag} {R:Value→ag→Prop} {v:Value} {zs:List Int} {ls:List Nat} {B:List Bool} {L:List It} {b:Nat} {post:List Value} {t:TypeId}
theorem pU {l:List Int} {i:Nat} (h:i<l.length): (aP l)[i]? =some (.int .i64 (l.getD i 0)):=by
 rw [cm h,ai3,ai1 h];rfl
theorem pV (l:List Int) (z:Int):aP l++ (Value.int .i64 z).cells.toList=aP (l++ [z]):=by rw [iV];rfl
theorem _root_.Go.Vc.au.nw {i j:It} (o:au H0 H (i::j::L)):au H0 H (i::L):=o.pick (List.Sublist.cons_cons _ (aki _ _))
theorem _root_.Go.Vc.au.swap {i j:It} (o:au H0 H (i::j::L)):au H0 H (j::i::L):=o.perm (List.Perm.swap ..)
theorem _root_.Go.Vc.au.LA {l:List Value} (o:au H0 H L) (h:It.sl v 1 l∈L):jc v=some l.length:= (o.sl h).jc (ai5 _).symm (by decide)
theorem _root_.Go.Vc.au.M8 {l:List Value} {K:Value→Prop} (o:au H0 H L) (h:It.sl v 1 l∈L) (hk:K (.int .i64 (l.length:Int))):bK v K:= (o.sl h).len (ai5 _).symm (by decide) hk
abbrev GU (n:Nat) (v:Value):Nat:=n - (jc v).getD 0
theorem GV {n a c:Nat} {v w:Value} (hv:jc v=some a) (hw:jc w=some c) (h:a<c) (hn:a<n):GU n w<GU n v:=by
 unfold GU;rw [hv,hw];simp only [aj9];omega
theorem _root_.Go.Vc.au.mid {M:List It} {i:It} (o:au H0 H (M++i::L)):au H0 H (i:: (M++L)):=o.perm alD.symm
theorem _root_.Go.Vc.au.M9 (o:au H0 H L):au H0 H (.sl (.slice none 0 0) 1 []::L):=
 o.add (Ext.refl H) ⟨by decide,.inl ⟨rfl,rfl⟩⟩ (by intro k hk;exact absurd hk (by simp [It.dF,aY]))
def fX (L:List It) (zs:List Int) (p:Value):Prop:=qz zs∧∃cb lv wv sv,p= .pointer (some ⟨cb,0,none⟩)∧∀i∈pI zs cb lv wv sv,i∈L
theorem fX.mono {L L' :List It} {p:Value} (h:fX L zs p) (hm: ∀i∈L,i∈L'):fX L' zs p:=by
 obtain⟨h1,cb,lv,wv,sv,h2,h3⟩:=h;exact⟨h1,cb,lv,wv,sv,h2,fun i hi=>hm i (h3 i hi)⟩
theorem fX.cons {i:It} {L:List It} {p:Value} (h:fX L zs p):fX (i::L) zs p:=h.mono fun _=>aiW _
theorem fX.app {M L:List It} {p:Value} (h:fX L zs p):fX (M++L) zs p:=h.mono fun _=>akJ _
theorem fX.nH {M L:List It} {p:Value} (h:fX M zs p):fX (M++L) zs p:=h.mono fun _=>akq _
theorem tL {p:Value} (hc:fX L zs p) (o:au H0 H (mO b post t B::L))
  (kp: ∀s C H',eM zs B= .ok s C→s<zs.length→au H0 H' (mO b post t C::L)→R (.tuple #[i64 s,.int .i64 0]) H')
  (l5: ∀e H',eM zs B= .er e→e≠0→au H0 H' (mO b post t B::L)→R (.tuple #[.int .i64 0,.int .i64 e]) H'):
  ab 255 #[p,at_ b 0] H R:=by
 obtain⟨h1,cb,lv,wv,sv,rfl,h3⟩:=hc;exact JZ h1 o (h3 _ (by repeat(first|exact aiX|apply aiW))) (h3 _ (by repeat(first|exact aiX|apply aiW))) (h3 _ (by repeat(first|exact aiX|apply aiW))) kp l5
theorem ir {loose:Bool} {v:Value} (o:au H0 H L) (hs:Sl H v 1 (aP zs)) (hlen:zs.length≤1000)
  (sj: ∀H',ia zs loose≠0→au H0 H' L→R (.tuple #[.pointer none,.int .i64 (ia zs loose)]) H')
  (Vr: ∀H' M p,ia zs loose=0→fX M zs p→au H0 H' (M++L)→R (.tuple #[p,.int .i64 0]) H'):ab 162 #[v,.bool loose] H R:=
 MK hs (by have:maxLen=9223372036854775807:=rfl;omega) (fun H' hx h=>sj H' h (o.more hx)) (fun H' b lv wv sv c hz h=>Vr H' (pI zs b lv wv sv) _ h ⟨kX h,b,lv,wv,sv,rfl,fun i hi=>hi⟩ (o.call c))
theorem ep {K:Value→Prop} (h:K (.bool false)):eW 0 (.int .i64 0) (.int .i64 0) K:=h
theorem lx {e:Int} {K:Value→Prop} (he:e≠0) (h:K (.bool true)):eW 0 (.int .i64 e) (.int .i64 0) K:=by
 rw [fx,decide_eq_true he];exact h
theorem GW {e t:TypeId} {K:Value→ag→Prop} {l2:Value} {nv up:Nat} {zs:List Int} (o:au H0 H (.sl l2 1 (aP zs)::L)) (hz:zs.length≤up) (hup:up≤288)
  (hk: ∀l H',au H0 H' (.sl l 1 (aP (zs++List.replicate (up - zs.length) (nv:Int)))::L)→K l H'):
  bD H t (.agg #[(.int .i64 0),(.int .i64 0)]) fun x5 ZJ=>
  aH ZJ 2 x5 (.agg #[i64 nv,i64 up]) fun _ H_5=>
  ∃ (I_6:Value→ag→Prop) (m_7:Value→ag→Nat),I_6 l2 H_5∧
  ∀_:Env,∀OD :Value,∀Xc:ag,I_6 OD Xc→
  bK OD fun x19=>
  aa 1 x5 fun x20=>
  ao Xc x20 fun x21=>
  b_ x19 x21 fun x22=>
  aq x22
  (aa 0 x5 fun Yl=>
  ao Xc Yl fun Xd=>
  aU Xc e 1 [(.int .i64 0)] [(0,1,Xd)] fun x26 H_9=>
  a7 H_9 e 1 8 [(.int .i64 0)] OD x26 fun Ui S8=>
  I_6 Ui S8∧m_7 Ui S8<m_7 OD Xc)
  (K OD Xc):=by
 refine o.box fun c H1 o hc=>?_
 change au H0 H1 (.box c [.int .i64 0,.int .i64 0] t::_) at o
 refine o.cz (vs:= [i64 nv,i64 up]) fun H2 o _=>?_;refine⟨fun OD H' => ∃j,zs.length+j≤up∧au H0 H' (.box c [i64 nv,i64 up] t:: .sl OD 1 (aP (zs++List.replicate j (nv:Int)))::L),fun v _=>GU 1000 v,⟨0,by omega,by simpa using o⟩,?_⟩;rintro _ OD H3 ⟨j,hj,o⟩;have hlen: (aP (zs++List.replicate j (nv:Int))).length=zs.length+j:=by rw [aV,aiV,ajB]
 have Vv:=o.LA (v:=OD) (by repeat(first|exact aiX|apply aiW));refine o.M8 (v:=OD) (by repeat(first|exact aiX|apply aiW)) ?_;rw [ae,ax];refine o.aw (b:=c) (f:=0+1) ?_;rw [aO];refine av (fun hc=>?_) (fun hc=>?_)
 ·rw [ae,ax]
  refine o.aw (b:=c) (f:=0+0) ?_;refine o.cy (by decide) rfl rfl fun y H4 o=>?_;refine o.app (v:=OD) (x:=y) (by repeat(first|exact dD.here|apply dD.there)) (o.cf) (by rfl) (by rw [hlen];show 2* (zs.length+j+1)*8≤_;omega) fun y2 H5 o=>?_;rw [pV,ai0,←ald] at o;have P1:=o.LA (v:=y2) (by repeat(first|exact aiX|apply aiW));rw [aV] at P1;refine⟨⟨j+1,by omega,o.nw.swap⟩,?_⟩;refine GV Vv P1 ?_ ?_<;>rw [hlen]<;>first|omega| (rw [aiV,ajB];omega)
 ·have:j=up - zs.length:=by omega
  subst this;exact hk OD H3 (o.pick (aki _ _))
theorem AP:ia gm false=0:=by
 rw [tC y_.1,if_neg (by decide+kernel),if_neg (by decide+kernel)]
theorem AQ:ia nc false=0:=by
 rw [tC za.1,if_neg (by decide+kernel),if_neg (by decide+kernel)]
def fixUp:Nat→Nat
 |0=>0|1=>144|2=>256|3=>280|_=>288
def Vw:Nat→Nat
 |0=>8|1=>9|2=>7|_=>8
theorem GX: ∀i:Fin 4,gm.take (fixUp i.val)++List.replicate (fixUp (i.val+1) - fixUp i.val) (Vw i.val:Int)=gm.take (fixUp (i.val+1))∧(gm.take (fixUp i.val)).length=fixUp i.val∧fixUp i.val≤fixUp (i.val+1)∧fixUp (i.val+1)≤288:=by decide+kernel
theorem J0 (o:au H0 H L) (h: ∀H' M p q,fX M gm p→fX M nc q→au H0 H' (M++L)→R (.tuple #[p,q]) H'):ab 251 #[] H R:=by
 refine tf.vc _ _ ?_;refine dU rfl rfl ?_;refine dU rfl rfl ?_;refine dU rfl rfl ?_;refine dU rfl rfl ?_;simp only [da,br,fG,b7,cR,ajU,ajS,ai6,ai_,Nat.reduceAdd,Nat.reduceLeDiff,true_and];refine⟨rfl,rfl,rfl,rfl,?_⟩;refine⟨fun l u H' => ∃i:Nat,u=i64 i∧i≤4∧au H0 H' (.sl l 1 (aP (gm.take (fixUp i)))::L),fun _ u _=>match u with| .int _ i=> (4 - i).toNat|_=>0,⟨0,rfl,by omega,o.M9⟩,?_⟩;rintro _ l2 _ H3 ⟨i,rfl,hi,o⟩;rw [aO];refine av (fun hc=>?_) (fun hc=>?_)
 ·have M_:i<4:=by omega
  obtain⟨e1,e2,e3,e4⟩:=GX ⟨i,M_⟩
  dsimp only at e1 e2 e3 e4
  have hx: ∀K:Value→Prop,K (.agg #[i64 (Vw i),i64 (fixUp (i+1))])→lf 4 2 (.agg [Value.int .i64 8,.int .i64 144,.int .i64 9,.int .i64 256,.int .i64 7,.int .i64 280,.int .i64 8,.int .i64 288].toArray) (i64 i) K:=by
   intro K hK;refine⟨by omega,by omega,?_⟩;rw [aiY]
   match i,M_ with
   |0,_=>exact hK
   |1,_=>exact hK
   |2,_=>exact hK
   |3,_=>exact hK
  refine hx _ ?_;refine GW o (by rw [e2];exact e3) e4 fun l H4 o=>?_;rw [e2,e1] at o;rw [ay,aJ];exact⟨⟨i+1,rfl,by omega,o⟩,by show (_:Int).toNat< (_:Int).toNat;omega⟩
 have M_:i=4:=by omega
 subst M_;rw [show gm.take (fixUp 4)=gm by decide+kernel] at o;refine⟨fun d u H' => ∃i:Nat,u=i64 i∧i≤32∧au H0 H' (.sl d 1 (aP (List.replicate i 5)):: .sl l2 1 (aP gm)::L),fun _ u _=>match u with| .int _ i=> (32 - i).toNat|_=>0,⟨0,rfl,by omega,o.M9⟩,?_⟩;rintro _ d3 _ H4 ⟨i,rfl,hi,o⟩;rw [aO];refine av (fun hc=>?_) (fun hc=>?_)
 ·refine o.cy (by decide) rfl rfl fun y H5 o=>?_
  refine o.app (v:=d3) (x:=y) (by repeat(first|exact dD.here|apply dD.there)) (o.cf) (by rfl) (by rw [aV,ajB];show 2* (i+1)*8≤_;omega) fun y2 H6 o=>?_;rw [pV,←ald] at o;rw [ay,aJ];exact⟨⟨i+1,rfl,by omega,o.nw⟩,by show (_:Int).toNat< (_:Int).toNat;omega⟩
 have Vx:i=32:=by omega
 subst Vx;refine ir (zs:=gm) o (o.cf) (by decide+kernel) (fun H5 hw=>absurd AP hw) fun H5 M p _ hp o=>?_;refine ai rfl ?_;refine ai rfl ?_;have o:=o.pick (akI (ako M) (List.Sublist.cons_cons _ (aki _ L)));refine ir (zs:=nc) o (o.sl (v:=d3) (akJ _ (by repeat(first|exact aiX|apply aiW)))) (by decide+kernel) (fun H5 hw=>absurd AQ hw) fun H6 M2 q _ hq o=>?_;refine ai rfl ?_;refine ai rfl ?_;have o:=o.pick (akI (ako M2) (akI (ako M) (aki _ L)));rw [←ai0] at o;exact h H6 (M2++M) p q hp.app hq.nH o
theorem ze {v k:Nat} {m:Int} (hk:k≤62) (hm:m=2 ^ k - 1):bitsOf .and .i64 (v:Int) m= ((v%2 ^ k:Nat):Int):=by
 rw [nh hk hm]
 push_cast
 rfl
theorem GY {s:Nat} {ah:List Int} {v:Value} (o:au H0 H (mO b post t B::L)) (hS:Sl H v 1 (aP ah)) (hl:ah.length≤1000)
  (kp: ∀k z C H',oI s ah B= .ok (k,z) C→1≤k→k≤138→au H0 H' (mO b post t C::L)→R (.tuple #[i64 k,.int .i64 z,.int .i64 0]) H')
  (l5: ∀e x z H',oI s ah B= .er e→e≠0→au H0 H' (mO b post t B::L)→R (.tuple #[x,z,.int .i64 e]) H'):ab 295 #[at_ b 0,i64 s,v] H R:=by
 refine Ap.vc _ _ _ _ _ ?_;refine⟨fun le ex va H' => ∃ (l0 n0:Nat) (z:Int),le=i64 l0∧ex=i64 n0∧va= .int .i64 z∧H' =H∧1≤l0∧l0≤11∧n0≤7∧oI s ah B= (dQ n0 B).bind fun n B=> .ok (l0+n,z) B,?_,?_⟩
 ·rintro _ _ _ _ _ ⟨l0,n0,z,rfl,rfl,rfl,rfl,h1,h2,h3,hr⟩
  refine mi (n:=n0) (by omega) o (fun x C H1 hx cL o=>?_) (fun hx=>?_)
  ·refine ai rfl ?_
   refine ai rfl ?_;have h7:2 ^ n0≤2 ^ 7:=ajk (by decide) h3;rw [ay,show (l0:Int)+ (x:Int)= ((l0+x:Nat):Int) by omega,aJ];rw [hx] at hr;exact kp _ _ C H1 hr (by omega) (by omega) o
  ·refine ai rfl ?_
   refine ai rfl ?_;rw [ay];rw [hx] at hr;exact l5 2 _ _ _ hr (by decide) o
 ·rw [aZ]
  refine av (fun hc=>?_) (fun hc=>?_)
  ·have hs:s=16:=by omega
   refine hS.len (ai5 _).symm (by decide) ?_;rw [aZ,aV];refine av (fun h0=>?_) (fun h0=>?_)
   ·have:ah= []:=alz.1 (by omega)
    exact l5 3 _ _ H (by unfold oI;rw [if_pos hs,if_pos this]) (by decide) o
   ·refine hS.len (ai5 _).symm (by decide) ?_
    rw [aV,bq,show (ah.length:Int) - 1= ((ah.length - 1:Nat):Int) by omega,aJ];refine hS.at_ (n:=ah.length) (by rw [aV];omega) (by decide) (by omega) (by omega) fun p hp=>?_;refine hp.load hS (w:= .int .i64 (ah.getD (ah.length - 1) 0)) ?_ ?_
    ·rw [aiY,ai5];exact pU (by omega)
    ·refine⟨3,2,_,rfl,rfl,rfl,rfl,by decide,by decide,by decide,?_⟩
     unfold oI;rw [if_pos hs,if_neg (fun g=>h0 (by rw [g];rfl))]
  rw [aZ];refine av (fun gE=>?_) (fun gE=>?_)
  ·refine⟨3,3,0,rfl,rfl,rfl,rfl,by decide,by decide,by decide,?_⟩
   unfold oI;rw [if_neg (by omega),if_pos (by omega)]
  rw [aZ];refine av (fun y6=>?_) (fun y6=>?_)
  ·refine⟨11,7,0,rfl,rfl,rfl,rfl,by decide,by decide,by decide,?_⟩
   unfold oI;rw [if_neg (by omega),if_neg (by omega),if_pos (by omega)]
  ·exact kp 1 (s:Int) B H (by unfold oI;rw [if_neg (by omega),if_neg (by omega),if_neg (by omega)]) (by decide) (by decide) o
theorem Cu {n:Nat} {p:Value} (hn:n≤400) (hc:fX L zs p) (o:au H0 H (mO b post t B::L))
  (kp: ∀l C v H',kc (n+1) zs n [] B= .ok l C→l.length=n→au H0 H' (mO b post t C:: .sl v 1 (aP l)::L)→R (.tuple #[v,.int .i64 0]) H')
  (l5: ∀e C H',kc (n+1) zs n [] B= .er e→e≠0→au H0 H' (mO b post t C::L)→R (.tuple #[.slice none 0 0,.int .i64 e]) H'):ab 276 #[at_ b 0,p,i64 n] H R:=by
 generalize hT:kc (n+1) zs n [] B=T at*;refine yx.vc _ _ _ _ _ ?_;refine⟨fun v H' => ∃k out C,kc k zs n out C=T∧n<k+out.length∧out.length≤n∧au H0 H' (mO b post t C:: .sl v 1 (aP out)::L),fun v _=>GU 1000 v,⟨n+1,[],B,hT,by simp,by simp,o.M9.swap⟩,?_⟩;rintro _ P3 H1 ⟨k,out,C,hk,cL,hle,o⟩;have Vv:=o.LA (v:=P3) (by repeat(first|exact aiX|apply aiW));rw [aV] at Vv;obtain⟨k,rfl⟩: ∃j,k=j+1:= ⟨k - 1,by omega⟩;unfold kc at hk;refine o.M8 (v:=P3) (by repeat(first|exact aiX|apply aiW)) ?_;rw [aV,aO];refine av (fun rN=>?_) (fun rN=>?_)
 ·rw [if_neg (by omega)] at hk
  refine tL hc.cons o (fun s C1 H2 hs iJ o=>?_) (fun e H2 hs he o=>?_)
  ·rw [hs] at hk
   refine ai rfl ?_;refine ai rfl ?_;refine ep ?_;rw [ak];refine GY o (o.cf (v:=P3)) (by omega) (fun k1 z C2 H3 hr h1 h2 o=>?_) (fun e x z H3 hr he o=>?_)
   ·simp only [Rs.bind,hr] at hk
    refine ai rfl ?_;refine ai rfl ?_;refine ai rfl ?_;refine ep ?_;rw [ak];refine o.M8 (v:=P3) (by repeat(first|exact aiX|apply aiW)) ?_;rw [aV,bq,show (n:Int) - (out.length:Int)= ((n - out.length:Nat):Int) by omega,aJ,bc];refine av (fun gE=>?_) (fun gE=>?_)
    ·rw [if_pos (by omega)] at hk
     exact l5 20 C2 H3 hk.symm (by decide) o.nw
    ·rw [if_neg (by omega)] at hk
     refine⟨fun v u H' => ∃i:Nat,u=i64 i∧i≤k1∧au H0 H' (mO b post t C2:: .sl v 1 (aP (out++List.replicate i z))::L),fun _ u _=>match u with| .int _ i=> (k1 - i).toNat|_=>0,⟨0,rfl,by omega,by simpa using o⟩,?_⟩;rintro _ v _ H4 ⟨i,rfl,hi,o⟩;rw [aO];refine av (fun y6=>?_) (fun y6=>?_)
     ·refine o.cy (by decide) rfl rfl fun y H5 o=>?_
      refine o.app (v:=v) (x:=y) (by repeat(first|exact dD.here|apply dD.there)) (o.cf) (by rfl) (by rw [aV,aiV,ajB];show 2* (out.length+i+1)*8≤_;omega) fun y2 H6 o=>?_;rw [pV,ai0,←ald] at o;rw [ay,aJ];exact⟨⟨i+1,rfl,by omega,o.nw.swap⟩,by show (_:Int).toNat< (_:Int).toNat;omega⟩
     ·have:i=k1:=by omega
      subst this;have P1:=o.LA (v:=v) (by repeat(first|exact aiX|apply aiW));rw [aV,aiV,ajB] at P1;refine⟨⟨k,_,C2,hk,by rw [aiV,ajB];omega,by rw [aiV,ajB];omega,o⟩,GV Vv P1 (by omega) (by omega)⟩
   ·simp only [Rs.bind,hr] at hk
    refine ai rfl ?_;refine ai rfl ?_;refine ai rfl ?_;refine lx he ?_;rw [aL];exact l5 e C1 H3 hk.symm he o.nw
  ·rw [hs] at hk
   refine ai rfl ?_;refine ai rfl ?_;refine lx he ?_;rw [aL];exact l5 e C H2 hk.symm he o.nw
 ·rw [if_pos (by omega)] at hk
  exact kp out C P3 H1 hk.symm (by omega) o
end
section
variable {H H0 H' :ag} {R:Value→ag→Prop} {L:List It}
theorem dz {b f n:Nat} {cs ws:List Value} {t:TypeId} {fr:Nat × Nat} {K:Value→Prop} (h:H[b]? =some (.cells cs.toArray t fr)) (hw: (cs.drop f).take n=ws) (hf:f+n≤cs.length) (hk:K (.agg ws.toArray)):aF H n (.pointer (some ⟨b,f,none⟩)) K:=by
 simp only [aF,qJ (o:=f) (cs:=cs.toArray) (t:=t) (fr:=fr) h n (by simpa using hf)];rw [hw];exact hk
structure wM (s:List UInt8):Prop where
 len:s.length≤100
 ne:s≠ []
 low: ∀x∈s,x.toNat<128
 ok: ∀ (H:ag) (R:Value→ag→Prop),(∀H',Ext H H' →R (.int .i64 0) H')→ab 143 #[str s] H R
structure Hd where
 nm:List UInt8
 t:T6
 p:Nat
 z:Nat
 u:Nat
 a:Nat
 k:Bool
def Hd.cells (h:Hd):List Value:= [str h.nm,.int .i64 h.t.y,.int .i64 h.t.m,.int .i64 h.t.d,.int .i64 h.t.h,.int .i64 h.t.n,.int .i64 h.t.s,.int .u64 (h.p:Int),.int .u64 (h.z:Int),.int .u32 (h.u:Int),.int .u64 (h.a:Int),.bool h.k]
abbrev Hd.v (h:Hd):Value:= .agg h.cells.toArray
structure zf (h:Hd):Prop where
 nm:wM h.nm
 t:jN h.t=true
 p:h.p≤1000000
 z:h.z≤1000000
 u:h.u<4294967296
 a:h.a≤100000000
 k:h.k=true→h.p=0∧h.z=0
theorem J1 {s:List UInt8} (hl:s.length≤100) (hs: ∀x∈s,x.toNat<128) (h:R (.bool true) H):ab 196 #[str s] H R:=by
 refine Jy.vc _ _ _ ?_;refine aC ?_;refine⟨fun i H' => ∃k:Nat,i= .int .i64 (k:Int)∧k≤s.length∧H=H',fun i _=>match i with| .int _ x=> (s.length - x).toNat|_=>0,⟨0,rfl,by omega,rfl⟩,?_⟩;rintro _ _ _ ⟨k,rfl,hk,rfl⟩;rw [aO];refine av (fun hc=>?_) (fun hc=>?_)
 ·have II:k<s.length:=by omega
  rw [cc,bB];refine⟨by omega,by omega,?_⟩;rw [aiY,show s.getD k 0=s[k] by rw [ai3,ai1 II];rfl];have:=hs _ (ai9 II);rw [dH,ei,ak,ay,aJ];exact⟨⟨k+1,rfl,by omega,rfl⟩,by show (_:Int).toNat< (_:Int).toNat;omega⟩
 ·exact h
theorem pW {x:Hd} (g:zf x) (h: ∀H',Ext H H' →R (.bool true) H'):ab 95 #[x.v] H R:=by
 have g1:=g.p;have g2:=g.z;have g3:=g.a;have g4:=g.k;refine Cj.vc _ _ _ ?_;refine(au.start (H:=H)).box fun b H1 o _=>?_;have o:au H H1 [.box b x.cells 44]:=o;rw [ae,ax];refine o.aw (b:=b) (f:=0+11) (w:= .bool x.k) ?_;refine dC (d:=false) (fun hk=>?_) ?_
 ·obtain⟨e1,e2⟩:=g4 hk
  rw [ae,ax];refine o.aw (b:=b) (f:=0+7) (w:= .int .u64 (x.p:Int)) ?_;rw [fx,decide_eq_false (by simp [e1])];refine aM ?_;rw [ae,ax];refine o.aw (b:=b) (f:=0+8) (w:= .int .u64 (x.z:Int)) ?_;rw [fx,decide_eq_false (by simp [e2])];intro _;exact⟨rfl,rfl⟩
 intro _;rw [ama,ak,ae,ax];refine o.aw (b:=b) (f:=0+0) (w:=str x.nm) ?_;refine g.nm.ok _ _ fun H2 hx=>?_;have o:=o.more hx;rw [aZ,decide_eq_true rfl];refine bs ?_;rw [ae,ax];refine dz (o.j8 (b:=b) (cs:=x.cells) (t:=44)) (ws:=x.t.cells.toList) (by rfl) (ai7 rfl) ?_;refine rW (t:=x.t) fun H3 nx=>?_;have o:=o.more nx;rw [g.t];intro _;refine bs ?_;rw [ae,ax];refine o.aw (b:=b) (f:=0+7) (w:= .int .u64 (x.p:Int)) ?_;rw [aO,nR];intro _;refine bs ?_;rw [ae,ax];refine o.aw (b:=b) (f:=0+8) (w:= .int .u64 (x.z:Int)) ?_;rw [aO,nR];intro _;refine bs ?_;rw [ae,ax];refine o.aw (b:=b) (f:=0+10) (w:= .int .u64 (x.a:Int)) ?_;rw [aO,nR];intro _;exact h H3 o.ext
theorem jo {x:Hd} (g:zf x) (h: ∀H',Ext H H' →R (.bool false) H'):ab 139 #[x.v] H R:=by
 have g1:=g.p;have g2:=g.z;refine Es.vc _ _ _ ?_;refine(au.start (H:=H)).box fun b H1 o _=>?_;have o:au H H1 [.box b x.cells 44]:=o;rw [ae,ax];refine o.aw (b:=b) (f:=0+8) (w:= .int .u64 (x.z:Int)) ?_;rw [bc,ei];refine aM ?_;rw [ae,ax];refine o.aw (b:=b) (f:=0+7) (w:= .int .u64 (x.p:Int)) ?_;rw [bc,ei];intro _;exact h H1 o.ext
theorem u_ (h: ∀H',Ext H H' →R (str (aA 20 2)) H'):ab 146 #[.bool false] H R:=by
 refine xA.vc _ _ _ ?_;rw [ak];exact bZ (n:=20) (k:=2) (by decide) (by decide) (by decide) h
theorem lz {n:Nat} (hn:n<18446744073709551616) (h: ∀H',Ext H H' →R (str (aA n 4)) H'):ab 148 #[.int .u64 (n:Int),.bool false] H R:=by
 refine Av.vc _ _ _ _ ?_;rw [ak];exact bZ (n:=n) (k:=4) hn (by decide) (by decide) h
def fq (t:T6):Nat:= (nj t).toNat
def fy (t:T6):Nat:= (nk t).toNat
theorem wrap_u64 (n:Int):0≤IntKind.u64.wrap n∧IntKind.u64.wrap n<18446744073709551616:=by
 have h1:=akT n (show (18446744073709551616:Int)≠0 by decide);have h2:=aln n (show (0:Int)<18446744073709551616 by decide);exact⟨h1,h2⟩
theorem AR (t:T6):nj t= ((fq t:Nat):Int)∧fq t<18446744073709551616:=by
 have h:0≤nj t∧nj t<18446744073709551616:=wrap_u64 _;unfold fq;omega
theorem AS (t:T6):nk t= ((fy t:Nat):Int)∧fy t<18446744073709551616:=by
 have h:0≤nk t∧nk t<18446744073709551616:=wrap_u64 _;unfold fy;omega
def Hd.eN (h:Hd):Nat:=if h.k then 0 else 8
def bW (h:Hd):List UInt8:=aA h.eN 2++aA h.eN 2++aA (fy h.t) 2++aA (fq h.t) 2
theorem fk (h:Hd): (bW h).length=8:=by unfold bW;simp [az]
theorem xP {x:Hd} (g:zf x) (h: ∀H',Ext H H' →R (str (bW x)) H'):ab 147 #[x.v] H R:=by
 obtain⟨d1,d2⟩:=AR x.t;obtain⟨t1,t2⟩:=AS x.t;refine yy.vc _ _ _ ?_;refine(au.start (H:=H)).box fun b H1 o _=>?_;have o:au H H1 [.box b x.cells 44]:=o;refine⟨fun f m H' =>f= .int .u64 ((x.eN:Nat):Int)∧m= .int .u64 ((x.eN:Nat):Int)∧H1=H',?_,?_⟩
 ·rintro _ _ _ _ ⟨rfl,rfl,rfl⟩
  refine⟨fun f H' =>f= .int .u64 ((x.eN:Nat):Int)∧H1=H',?_,?_⟩
  ·rintro _ _ _ ⟨rfl,rfl⟩
   have hm:x.eN<18446744073709551616:=by unfold Hd.eN;split<;>decide
   rw [ae,ax];refine dz (o.j8 (b:=b) (cs:=x.cells) (t:=44)) (ws:=x.t.cells.toList) (by rfl) (ai7 rfl) ?_;refine Jt (t:=x.t) fun H2 ea=>?_;rw [if_pos g.t,d1,t1];refine ai (vs:= [_,_,_]) rfl ?_;refine ai (vs:= [_,_,_]) rfl ?_;refine ai (vs:= [_,_,_]) rfl ?_;refine bZ (n:=x.eN) (k:=2) hm (by decide) (by decide) fun H3 nx=>?_;refine bZ (n:=x.eN) (k:=2) hm (by decide) (by decide) fun H4 mP=>?_;refine aQ (by simp [az]) ?_;refine bZ (n:=fy x.t) (k:=2) t2 (by decide) (by decide) fun H5 nS=>?_;refine aQ (by simp [az]) ?_;refine bZ (n:=fq x.t) (k:=2) d2 (by decide) (by decide) fun H6 pc=>?_;refine aQ (by simp [az]) ?_;exact h H6 (((((o.ext.trans ea).trans nx).trans mP).trans nS).trans pc)
  ·rw [ae,ax]
   refine o.aw (b:=b) (f:=0+0) (w:=str x.nm) ?_;refine J1 g.nm.len g.nm.low ?_;rw [dq];show aq (.bool false) _ _;rw [ak];exact⟨rfl,rfl⟩
 ·rw [ae,ax]
  refine o.aw (b:=b) (f:=0+11) (w:= .bool x.k) ?_;unfold Hd.eN
  cases x.k
  ·rw [ak];exact⟨rfl,rfl,rfl⟩
  ·rw [aL];exact⟨rfl,rfl,rfl⟩
def bA (h:Hd):List UInt8:= [80,75,3,4]++aA 20 2++bW h++List.replicate 12 0++aA h.nm.length 2++aA 0 2++h.nm
theorem gR (h:Hd): (bA h).length=30+h.nm.length:=by unfold bA;simp [az,fk];omega
theorem AT {c:Nat} (hc:c≤100) (h: ∀H',Ext H H' →R (str (List.replicate c 0)) H'):ab 50 #[str [0],.int .i64 (c:Int)] H R:=by
 refine Gu (s:= [0]) (by omega) (by simp;omega) fun H' hx=>?_;rw [Ak];exact h H' hx
theorem mQ {x:Hd} (g:zf x) (h: ∀H',Ext H H' →R (str (bA x)) H'):ab 96 #[x.v] H R:=by
 have IP:=g.nm.len;have dM:=fk x;refine As.vc _ _ _ ?_;refine(au.start (H:=H)).box fun b H1 o _=>?_;have o:au H H1 [.box b x.cells 44]:=o;refine o.bh (b:=b) ?_;refine pW g fun H2 ea=>?_;have o:=o.more ea;rw [dq];show aq (.bool false) _ _;rw [ak];refine o.bh (b:=b) ?_;refine o.bh (b:=b) ?_;refine jo g fun H3 nx=>?_;have o:=o.more nx;refine⟨o.bh (b:=b) rfl,?_⟩;refine u_ fun H4 mP=>?_;have o:=o.more mP;refine⟨o.bh (b:=b) rfl,?_⟩;refine aQ (by simp [az]) ?_;refine xP g fun H5 nS=>?_;have o:=o.more nS;refine aQ (by simp [az,dM]) ?_;refine o.bh (b:=b) ?_;refine jo g fun H6 pc=>?_;have o:=o.more pc;rw [ak,ae,ax];refine o.aw (b:=b) (f:=0+0) (w:=str x.nm) ?_;refine aC ?_;refine a8 ?_;rw [cF (by omega) (by omega),ae,ax];refine o.aw (b:=b) (f:=0+0) (w:=str x.nm) ?_;refine AT (c:=12) (by decide) fun H7 B8=>?_;have o:=o.more B8;refine⟨o.aw (b:=b) (f:=0+0) rfl,o.aw (b:=b) (f:=0+0) rfl,?_⟩;refine aQ (by simp [az,dM]) ?_;refine bZ (n:=x.nm.length) (k:=2) (by omega) (by decide) (by decide) fun H8 B9=>?_;have o:=o.more B9;refine⟨o.aw (b:=b) (f:=0+0) rfl,?_⟩;refine aQ (by simp [az,dM]) ?_;refine bZ (n:=0) (k:=2) (by decide) (by decide) (by decide) fun H9 J2=>?_;have o:=o.more J2;refine⟨o.aw (b:=b) (f:=0+0) rfl,?_⟩;refine aQ (by simp [az,dM]) ?_;refine aQ (by simp [az,dM];omega) ?_;exact h H9 o.ext
def bM (h:Hd):List UInt8:=if h.k then [] else [80,75,7,8]++aA h.u 4++aA h.p 4++aA h.z 4
theorem mR {x:Hd} (g:zf x) (h: ∀H',Ext H H' →R (str (bM x)) H'):ab 97 #[x.v] H R:=by
 have g1:=g.p;have g2:=g.z;have g3:=g.u;refine Au.vc _ _ _ ?_;refine(au.start (H:=H)).box fun b H1 o _=>?_;have o:au H H1 [.box b x.cells 44]:=o;refine o.bh (b:=b) ?_;refine pW g fun H2 ea=>?_;have o:=o.more ea;rw [dq];show ej (.bool false) _ _ _;refine aM ?_;rw [ae,ax];refine o.aw (b:=b) (f:=0+11) (w:= .bool x.k) ?_;intro _;refine cN (fun hk=>?_) (fun hk=>?_)
 ·have e:bM x= []:=by unfold bM;rw [hk];rfl
  rw [e] at h;exact h H2 o.ext
 ·have e:bM x= [80,75,7,8]++aA x.u 4++aA x.p 4++aA x.z 4:=by unfold bM;rw [hk];rfl
  rw [e] at h;refine⟨fun s H' =>s= .int .i64 4∧au H H' [.box b x.cells 44],?_,?_⟩
  ·clear o
   rintro _ _ H3 ⟨rfl,o⟩;rw [ae,ax];refine o.aw (b:=b) (f:=0+9) (w:= .int .u32 (x.u:Int)) ?_;refine a8 ?_;rw [cF (by omega) (by omega),ae,ax];refine o.aw (b:=b) (f:=0+7) (w:= .int .u64 (x.p:Int)) ?_;rw [ae,ax];refine o.aw (b:=b) (f:=0+8) (w:= .int .u64 (x.z:Int)) ?_;refine bZ (n:=x.u) (k:=4) (by omega) (by decide) (by decide) fun H4 mP=>?_;have o:=o.more mP;refine⟨o.aw (b:=b) (f:=0+7) rfl,o.aw (b:=b) (f:=0+8) rfl,?_⟩;refine aQ (by simp [az]) ?_;refine bZ (n:=x.p) (k:=4) (by omega) (by decide) (by decide) fun H5 nS=>?_;have o:=o.more nS;refine⟨o.aw (b:=b) (f:=0+8) rfl,?_⟩;refine aQ (by simp [az]) ?_;refine bZ (n:=x.z) (k:=4) (by omega) (by decide) (by decide) fun H6 pc=>?_;have o:=o.more pc;refine aQ (by simp [az]) ?_;exact h H6 o.ext
  ·refine o.bh (b:=b) ?_
   refine jo g fun H3 nx=>?_;rw [ak];exact⟨rfl,o.more nx⟩
end
section
variable {H H0 H' :ag} {R:Value→ag→Prop} {L:List It} {s:List UInt8}
theorem J3 (hl:s.length≤8) (hs: ∀x∈s,x.toNat<128) (h:R (.bool true) H):ab 192 #[str s] H R:=by
 refine utf8_ValidString.vc _ _ _ ?_;refine⟨fun t H' => ∃k:Nat,t=str (s.drop k)∧k≤s.length∧H=H',fun t _=>match t with| .string b=>b.size|_=>0,⟨0,by simp,by omega,rfl⟩,?_⟩;rintro _ _ _ ⟨k,rfl,hk,rfl⟩;refine aC ?_;rw [ai4,bc];refine av (fun hc=>?_) (fun hc=>?_)
 ·have II:k<s.length:=by omega
  rw [cc,bB];refine⟨by decide,by rw [ai4];omega,?_⟩;have hx: (s.drop k).getD (0:Int).toNat 0=s[k]:=by
   rw [ai3,ajW,show k+ (0:Int).toNat=k from rfl,ai1 II];rfl
  rw [hx];have:=hs _ (ai9 II);rw [aO,nR,aL];refine ba (lo:=1) (hi:= (s.drop k).length) (.inl rfl) (.inr ⟨rfl,rfl⟩) (by rw [ai4];omega) (aiZ _) ?_;rw [ajK,ajf (by rw [ai4,ai4];omega)];refine aC ?_;rw [ai4,bc,ei,dO];intro _;rw [ak];refine⟨⟨k+1,rfl,by omega,rfl⟩,?_⟩;show (ByteArray.mk (s.drop (k+1)).toArray).size< (ByteArray.mk (s.drop k).toArray).size;show (s.drop (k+1)).toArray.size< (s.drop k).toArray.size;rw [ajA,ajA,ai4,ai4];omega
 ·exact h
def cZ (c:UInt8):List UInt8:= [c,47,102,105,108,101]
theorem wN {a b:UInt8} (h:cZ a=cZ b):a=b:=by
 unfold cZ at h
 simpa using h
theorem AU {c:UInt8} (hc:c≠47): ∀k,k<6→(((cZ c).getD k 0).toNat=47↔k=1):=by
 intro k hk;have h0:c.toNat≠47:=fun e=>hc (UInt8.toNat_inj.1 e)
 match k,hk with
 |0,_=>exact⟨fun e=>absurd e h0,fun e=>by omega⟩
 |1,_=>exact⟨fun _=>rfl,fun _=>rfl⟩
 |2,_=>exact⟨fun e=>absurd (show (102:UInt8).toNat=47 from e) (by decide),fun e=>by omega⟩
 |3,_=>exact⟨fun e=>absurd (show (105:UInt8).toNat=47 from e) (by decide),fun e=>by omega⟩
 |4,_=>exact⟨fun e=>absurd (show (108:UInt8).toNat=47 from e) (by decide),fun e=>by omega⟩
 |5,_=>exact⟨fun e=>absurd (show (101:UInt8).toNat=47 from e) (by decide),fun e=>by omega⟩
def oM (r:Nat) (m:List UInt8→Option Value):eX where
 dF k:=k=r
 holds H:=Go.Vc.eh strKeys H r m
 frame:=fun h hf=>h.ym (hf r rfl)
 lt:=fun h hf=>by obtain rfl:=hf;exact h.lt
def mN (cs:List UInt8):List UInt8→Option Value:=fun k=>if k∈cs.map cZ then some (.bool true) else none
def mD (cs:List UInt8):List UInt8→Option Value:=fun k=>if k∈cs.map fun c=> [c] then some (.bool true) else none
theorem P5 {cs:List UInt8} {k:List UInt8} (h:k∉cs.map cZ):mN cs k=none:=if_neg h
theorem Uj {cs:List UInt8} {k:List UInt8} (h:k∉cs.map fun c=> [c]):mD cs k=none:=if_neg h
theorem Vy (cs:List UInt8) (c:UInt8):uu strKeys (mN cs) (cZ c) (some (.bool true))=mN (cs++ [c]):=by
 funext k
 unfold uu mN
 by_cases h:k=cZ c
 ·subst h;simp
 ·rw [if_neg (by simpa using h)]
  congr 1
  simp only [ajy,aj3,List.map_nil,ajo,ajE,h,or_false]
theorem Vz (cs:List UInt8) (c:UInt8):uu strKeys (mD cs) [c] (some (.bool true))=mD (cs++ [c]):=by
 funext k
 unfold uu mD
 by_cases h:k= [c]
 ·subst h;simp
 ·rw [if_neg (by simpa using h)]
  congr 1
  simp only [ajy,aj3,List.map_nil,ajo,ajE,h,or_false]
theorem S9 {cs:List UInt8} {k:List UInt8} (h:k.length=1):k∉cs.map cZ:=fun hm=>by
 obtain⟨c,_,rfl⟩:=ajw.1 hm
 simp [cZ] at h
theorem S_ {cs:List UInt8} {k:List UInt8} (h:k.length=6):k∉cs.map fun c=> [c]:=fun hm=>by
 obtain⟨c,_,rfl⟩:=ajw.1 hm
 simp at h
abbrev ny (b r1 r2:Nat) (n d:List UInt8→Option Value) (L:List It):List It:= .box b [.map (some r1),.map (some r2)] 214:: .aE (oM r1 n):: .aE (oM r2 d)::L
theorem J4 {b r1 r2:Nat} {cs:List UInt8} {c:UInt8} (hc:c≠47) (hn:c∉cs) (o:au H0 H (ny b r1 r2 (mN cs) (mD cs) L)) (h:R (.bool false) H):ab 144 #[at_ b 0,str (cZ c)] H R:=by
 have Ve:cZ c∉cs.map cZ:=fun hm=>by
  obtain⟨d,hd,e⟩:=ajw.1 hm;exact hn (wN e ▸ hd)
 refine qj.vc _ _ _ _ ?_;rw [aD,ae,ax];refine o.aw (b:=b) (f:=0+0) (w:= .map (some r1)) ?_;refine Go.Vc.eh.lookup (κ:=strKeys) (o.dS (T:=oM r1 (mN cs))) (k:=cZ c) ?_;rw [cond_false,P5 Ve];refine aM ?_;rw [aD,ae,ax];refine o.aw (b:=b) (f:=0+1) (w:= .map (some r2)) ?_;refine Go.Vc.eh.lookup (κ:=strKeys) (o.dS (T:=oM r2 (mD cs))) (k:=cZ c) ?_;rw [cond_false,Uj (S_ rfl)];intro _;show aq (.bool false) _ _;rw [ak];refine aC ?_;refine⟨fun i H' => ∃k:Nat,i= .int .i64 (k:Int)∧k≤6∧H=H',fun i _=>match i with| .int _ x=> (6 - x).toNat|_=>0,⟨0,rfl,by omega,rfl⟩,?_⟩;rintro _ _ _ ⟨k,rfl,hk,rfl⟩;have h6: (cZ c).length=6:=rfl;rw [aO];refine av (fun gE=>?_) (fun gE=>?_)
 ·have LB:k<6:=by omega
  have ft:=AU hc k LB;rw [cc,bB];refine⟨by omega,by omega,?_⟩;rw [aiY,cc,bB];refine⟨by decide,by decide,?_⟩;rw [aZ];refine dC (d:=false) (fun h1=>?_) ?_
  ·have mB:k=1:=ft.1 (by
    have:=of_decide_eq_true h1;show _=47;exact Int.ofNat.inj this)
   subst mB;rw [aD,ae,ax];refine o.aw (b:=b) (f:=0+0) (w:= .map (some r1)) ?_;refine ba (lo:=0) (hi:=1) (.inr ⟨rfl,rfl⟩) (.inl rfl) (by decide) (by rw [h6];decide) ?_;refine Go.Vc.eh.lookup (κ:=strKeys) (o.dS (T:=oM r1 (mN cs))) (k:= ((cZ c).drop 0).take (1 - 0)) ?_;rw [cond_false,P5 (S9 rfl)];exact⟨rfl,rfl⟩
  intro _;rw [ama,ak,ay,aJ];exact⟨⟨k+1,rfl,by omega,rfl⟩,by show (_:Int).toNat< (_:Int).toNat;omega⟩
 ·exact h
theorem P6 {b r1 r2:Nat} {cs:List UInt8} {c:UInt8} (hc:c≠47) (o:au H0 H (ny b r1 r2 (mN cs) (mD cs) L)) (h: ∀H',au H0 H' (ny b r1 r2 (mN (cs++ [c])) (mD (cs++ [c])) L)→R (.tuple #[]) H'):ab 145 #[at_ b 0,str (cZ c)] H R:=by
 refine sM.vc _ _ _ _ ?_;rw [aD,ae,ax];refine o.aw (b:=b) (f:=0+0) (w:= .map (some r1)) ?_;refine Go.Vc.eh.set (κ:=strKeys) (o.dS (T:=oM r1 (mN cs))) (k:=cZ c) fun H2 hm hs cQ=>?_;rw [Vy] at hm;have o:au H0 H2 (ny b r1 r2 (mN (cs++ [c])) (mD cs) L):=o.jC (i:= .aE (oM r1 (mN cs))) (i' := .aE (oM r1 (mN (cs++ [c])))) (by repeat(first|exact cx.here|apply cx.there)) (by omega) (fun k _ hf=>cQ k hf) hm (fun k hk=> .inl hk);refine aC ?_;refine⟨fun i H' => ∃k:Nat,i= .int .i64 (k:Int)∧k≤6∧au H0 H' (ny b r1 r2 (mN (cs++ [c])) (mD (if k≤1 then cs else cs++ [c])) L),fun i _=>match i with| .int _ x=> (6 - x).toNat|_=>0,⟨0,rfl,by omega,o⟩,?_⟩;clear o;rintro _ _ H3 ⟨k,rfl,hk,o⟩;have h6: (cZ c).length=6:=rfl;rw [aO];refine av (fun gE=>?_) (fun gE=>?_)
 ·have LB:k<6:=by omega
  have ft:=AU hc k LB;rw [cc,bB];refine⟨by omega,by omega,?_⟩;rw [aiY,cc,bB];refine⟨by decide,by decide,?_⟩;rw [aZ];refine av (fun h1=>?_) (fun h1=>?_)
  ·have mB:k=1:=ft.1 (Int.ofNat.inj h1)
   subst mB;rw [if_pos (aiZ 1)] at o;rw [aD,ae,ax];refine o.aw (b:=b) (f:=0+1) (w:= .map (some r2)) ?_;refine ba (lo:=0) (hi:=1) (.inr ⟨rfl,rfl⟩) (.inl rfl) (by decide) (by rw [h6];decide) ?_;refine Go.Vc.eh.set (κ:=strKeys) (o.dS (T:=oM r2 (mD cs))) (k:= [c]) fun H4 hm hs cQ=>?_;rw [Vz] at hm;have o:au H0 H4 (ny b r1 r2 (mN (cs++ [c])) (mD (cs++ [c])) L):=o.jC (i:= .aE (oM r2 (mD cs))) (i' := .aE (oM r2 (mD (cs++ [c])))) (by repeat(first|exact cx.here|apply cx.there)) (by omega) (fun k _ hf=>cQ k hf) hm (fun k hk=> .inl hk);rw [ay,ff (by decide) (by decide)];exact⟨⟨2,rfl,by decide,o⟩,by show (_:Int).toNat< (_:Int).toNat;decide⟩
  ·have mB:k≠1:=fun e=>h1 (by have:=ft.2 e;show ((_:Nat):Int)=47;omega)
   rw [ay,aJ];refine⟨⟨k+1,rfl,by omega,?_⟩,by show (_:Int).toNat< (_:Int).toNat;omega⟩;have e: (if k+1≤1 then cs else cs++ [c])=if k≤1 then cs else cs++ [c]:=by
    by_cases h0:k=0
    ·subst h0;rfl
    ·rw [if_neg (by omega),if_neg (by omega)]
   rw [e];exact o
 ·have:k=6:=by omega
  subst this;exact h H3 o
theorem vd {v:Value} {cs:List UInt8} (hs:Sl H v 1 (cD (cs.map cZ))) (hl:cs.length≤100) (hd:cs.Nodup) (hc: ∀c∈cs,c≠47∧wM (cZ c)) (h: ∀H',Ext H H' →R (.tuple #[.int .i64 0,.int .i64 0]) H'):ab 93 #[v] H R:=by
 have dg: (cD (cs.map cZ)).length=cs.length*1:=by rw [gA,ajh,ai5]
 refine Gy.vc _ _ _ ?_;refine hs.df dg ?_;rw [bc,ei,ak];refine qM strKeys fun H1 Xe jg _=>?_;have e1: (fun _=>none)=mN []:=by funext k;exact(P5 (by simp)).symm
 have e2: (fun _=>none)=mD []:=by funext k;exact(Uj (by simp)).symm
 rw [e1] at Xe;have o:= (au.start (H:=H)).add jg (i:= .aE (oM H.size (mN []))) Xe (by intro k hk;obtain rfl:k=H.size:=hk;exact aiZ _);generalize H.size=r1 at o;refine qM strKeys fun H2 JV ea _=>?_;rw [e2] at JV;have o:=o.add ea (i:= .aE (oM H1.size (mD []))) JV (by intro k hk;obtain rfl:k=H1.size:=hk;exact aiZ _);generalize H1.size=r2 at o;refine aR rfl (by decide) ?_;refine aR rfl (by simp) ?_;rw [br];refine o.box fun b H3 o _=>?_;have o:au H H3 (ny b r1 r2 (mN []) (mD []) []):=o.h_;refine hs.df dg ?_;refine⟨fun i H' => ∃k:Nat,i= .int .i64 (k:Int)∧k≤cs.length∧au H H' (ny b r1 r2 (mN (cs.take k)) (mD (cs.take k)) []),fun i _=>match i with| .int _ x=> (cs.length - x).toNat|_=>0,⟨0,rfl,by omega,o⟩,?_⟩;clear o;rintro _ _ H4 ⟨k,rfl,hk,o⟩;rw [aO];refine av (fun gE=>?_) (fun gE=>?_)
 ·have eF:k<cs.length:=by omega
  have MX:=hs.ext o.ext;obtain⟨g1,g2⟩:=hc _ (ai9 eF);have lR:cs.take (k+1)=cs.take k++ [cs[k]]:=by rw [ajr,ai1 eF];rfl
  have U6:cs[k] ∉cs.take k:=fun hm=>by
   obtain⟨j,hj,e⟩:=akK hm;rw [ai2] at hj;rw [al6] at e;exact amb.1 hd j k (by omega) eF (by omega) e
  refine MX.gG dg fun p hp=>?_;refine hp.load MX (w:=str (cZ cs[k])) (by rw [aiY,ai5,we (by rw [ajh];exact eF),akL]) ?_;refine g2.ok _ _ fun H5 nS=>?_;have o:=o.more nS;refine ep ?_;rw [ak];refine J4 g1 U6 o ?_;rw [ak];refine P6 g1 o fun H6 o=>?_;rw [←lR] at o;rw [ay,aJ];exact⟨⟨k+1,rfl,by omega,o⟩,by show (_:Int).toNat< (_:Int).toNat;omega⟩
 ·exact h H4 o.ext
end
end Go.Proofs.YtpcgccdmmoggmaaGreatDoor
namespace Go.Vc
open Go
section
abbrev lA (fn:FuncId) (tmps:Array Value) (ps:Array Tmp) (assign body:Code) (d:Nat) (st:LoopState) (pe:Option Code):Loop:= {state:=st,pending:=pe,fn:=fn,tmps:=tmps,params:=ps,assign:=assign,body:=body,defers:=d}
theorem AV {n:Nat} {P:Program} {g:Operand} {ps:Array Tmp} {assign body:Code} {Q:Exit→Act→World→Prop} {a:Act} {w:World} {gf:Nat} {lb:Array Value} (hg:a.eval g= .func (.func gf) #[] lb) (eg: ∀args w,(callFunc gf args).run P w= .ok (.enter gf args) w)
  (h: ∀ (fn:FuncId) (W1:World),W1= (w.alloc (.deferred (some []))).alloc (.loop (lA fn a.tmps ps assign body w.heap.size .ready none))→
   W1.heap[w.heap.size+1]? =some (.loop (lA fn a.tmps ps assign body w.heap.size .ready none))→W1.heap[w.heap.size]? =some (.deferred (some []))→Ext w.heap W1.heap→Go.Vc.cq w W1→
   CallsIn Fence.wide (n - 1) P gf (#[.func (.yield (w.heap.size+1)) #[] #[]]++lb) W1 fun e W' => ∃v st pe,e= .returned v∧W'.heap[w.heap.size+1]? =some (.loop (lA fn a.tmps ps assign body w.heap.size st pe))∧st≠ .busy∧
    (match pe with
     |none=>Q .normal {a with defers:= {target:= .collected w.heap.size,args:= #[]}::a.defers} (W'.putObj (w.heap.size+1) (.loop (lA fn a.tmps ps assign body w.heap.size .exhausted none)))
     |some c=>c.wpIn Fence.wide n P Q {a with defers:= {target:= .collected w.heap.size,args:= #[]}::a.defers} (W'.putObj (w.heap.size+1) (.loop (lA fn a.tmps ps assign body w.heap.size .exhausted (some c)))))):
  (Code.rangeFunc g ps assign body).wpIn Fence.wide n P Q a w:=by
 refine wpIn_rangeFunc ?_;intro fn ZK;obtain⟨W1,Xf⟩: ∃W1,(w.alloc (.deferred (some []))).alloc (.loop (lA fn a.tmps ps assign body w.heap.size .ready none))=W1:= ⟨_,rfl⟩;have hL1:W1.heap[w.heap.size+1]? =some (.loop (lA fn a.tmps ps assign body w.heap.size .ready none)):=by
  rw [←Xf];have:=World.alloc_heap_new (w.alloc (.deferred (some []))) (.loop (lA fn a.tmps ps assign body w.heap.size .ready none));rwa [World.size_alloc] at this
 have hK1:W1.heap[w.heap.size]? =some (.deferred (some [])):=by
  rw [←Xf];exact(Go.RowKit.Below.heap_alloc _ _ _ (by simp)).trans (World.alloc_heap_new w _)
 have jg:Ext w.heap W1.heap:=by
  rw [←Xf];exact(Ext.refl _).push.push
 have yj:Go.Vc.cq w W1:=by
  rw [←Xf];exact⟨rfl,rfl,rfl,fun _=>aiZ _⟩
 refine⟨w.heap.size+1,[{target:= .collected w.heap.size,args:= #[]}],W1,{target:= .fn (.func gf) lb,args:= #[.func (.yield (w.heap.size+1)) #[] #[]]},W1,gf,
  #[.func (.yield (w.heap.size+1)) #[] #[]]++lb,W1,?_,?_,?_,?_,fun h=>by simp [Fence.wide] at h,?_⟩
 ·rw [←Xf];exact run_enterLoop_outer _ _ _ _ _
 ·simp only [resolve,hg]
  simp [go_sem]
 ·intro f' WX;trivial
 ·simp [invoke,go_sem,eg]
 ·refine(h fn W1 Xf.symm hL1 hK1 jg yj).mono ?_
  rintro e W' ⟨v,st,pe,rfl,hL,c_,hQ⟩;refine⟨pe,_,run_endLoop hL c_,?_⟩
  cases pe<;>exact hQ
theorem AW {P:Program} {l:Nat} {fn:FuncId} {tmps:Array Value} {ps:Array Tmp} {assign body:Code} {d:Nat} {args:Array Value} {W:World} {R:Ending→World→Prop} (hL:W.heap[l]? =some (.loop (lA fn tmps ps assign body d .ready none))) (hs:args.size=ps.size)
  (h:assign.wpIn (Fence.wide.inRound l) 0 P (Exit.then (fun a₁ w₁=> ∃w₂,(Instr.beginRound l).run P w₁= .ok () w₂∧body.wpIn (Fence.wide.inRound l) 0 P (roundPost P l R) a₁ w₂) (fun _ _ _=>False))
   {tmps:= (ps.zip args).foldl (fun tmps (t,a)=>tmps.setIfInBounds t a) tmps,defers:= []} W):
  YieldAt Fence.wide 0 P l args W R:=
 ⟨_,_,_,_,run_yield hL hs,roundIn_of_wpIn trivial h⟩
theorem GZ {W:World} {l:Nat} {o o1:Obj} (h:W.heap[l]? =some o): (W.putObj l o1).putObj l o=W:=by
 unfold World.putObj;have e: (W.heap.setIfInBounds l o1).setIfInBounds l o=W.heap:=by
  refine akP fun i=>?_;rw [alh]
  split
  ·rename_i hi
   subst hi;rw [al2,if_pos (bz h),h]
  ·rename_i hi
   rw [alh,if_neg hi]
 simp only [e]
theorem Na {P:Program} {l:Nat} {fn:FuncId} {tmps:Array Value} {ps:Array Tmp} {assign body:Code} {d:Nat} {W:World} (hL:W.heap[l]? =some (.loop (lA fn tmps ps assign body d .ready none))):
  (Instr.endRound l none).run P (W.putObj l (.loop (lA fn tmps ps assign body d .busy none)))= .ok (.bool true) W:=by
 have h1: (W.putObj l (.loop (lA fn tmps ps assign body d .busy none))).heap[l]? =some (.loop (lA fn tmps ps assign body d .busy none)):=World.putObj_heap_same (bz hL);have:=run_endRound (P:=P) none h1;rw [this];show Result.ok (Value.bool true) ((W.putObj l _).putObj l (.loop (lA fn tmps ps assign body d .ready none)))=_;rw [GZ hL]
end
end Go.Vc
namespace Go.Proofs.YtpcgccdmmoggmaaGreatDoor
open Go Go.Vc Go.Proofs Go.RowKit Go.Shelf
section
variable {H H0 H' :ag} {R:Value→ag→Prop} {L:List It} {s:List UInt8}
def J5 (x:Nat):Bool:=decide ((x:Int)<32) ||decide ((x:Int)=127) ||decide ((x:Int)=92)
theorem VA (w:World):PredAt Tryz.prog 194 #[] encR J5 w:=fun W x hb=>by
 show Calls Tryz.prog 194 #[.int .i32 (x:Int)] W _
 go_enter Tryz.func194,Tryz.ntmps194
 go_wp2
 ·go_ret
  rename_i h1 h2
  refine⟨?_,0,rfl⟩;unfold J5;rw [decide_eq_true h2,Bool.or_true,Bool.true_or]
  rfl
 ·go_ret
  refine⟨rfl,0,rfl⟩
 ·go_ret
  rename_i h1
  refine⟨?_,0,rfl⟩;unfold J5;rw [decide_eq_true h1,Bool.true_or,Bool.true_or]
  rfl
theorem P7: ∀i:Fin 5,Lib.idxFunc J5 true ⟨(cZ (UInt8.ofNat (97+i.val))).toArray⟩= -1:=by decide+kernel
theorem Dk: ∀i:Fin 5,∀x∈cZ (UInt8.ofNat (97+i.val)),x.toNat<128:=by decide
theorem P9: ∀i:Fin 5,(⟨(cZ (UInt8.ofNat (97+i.val))).toArray⟩:ByteArray).toList.isEmpty=false:=by decide+kernel
theorem Cv (hi:Lib.idxFunc J5 true ⟨s.toArray⟩= -1) (h: ∀H',Ext H H' →R (.bool false) H'):ab 193 #[str s,.func (.func 194) #[] #[]] H R:=
 pB (fun w hw=> (Tryz.strings_ContainsFunc 194 #[] (enters_of Tryz.func194 (by kernel_rfl) rfl) J5 ⟨s.toArray⟩ w (VA w)).mono fun e w' he=> ⟨by rw [he.1,hi];rfl,he.2⟩) h
abbrev EK (b1 b2 b3:Nat) (s:List UInt8):List It:= [.box b3 [.int .i64 0] 3,.box b2 [str [47]] 9,.box b1 [str s] 9]
theorem J6 (h: ∀H' b1 b2 b3,au H H' (EK b1 b2 b3 s)→R (.func (.func 264) #[] #[at_ b2 0,at_ b1 0,at_ b3 0]) H'):ab 195 #[str s,str [47]] H R:=by
 refine v_.vc _ _ _ _ ?_;refine wa.vc _ _ _ _ _ ?_;refine(au.start (H:=H)).box fun b1 H1 o _=>?_;refine o.box fun b2 H2 o _=>?_;refine o.box fun b3 H3 o _=>?_;exact h H3 b1 b2 b3 o
attribute [local go_sem] Oper.semAt_some
theorem index_spec (s:ByteArray) (c:UInt8) (w:World):CallsIn Fence.wide 0 Tryz.prog 266 #[.string s,.string ⟨#[c]⟩] w fun e w' =>e= .returned (.int .i64 (Lib.indexByte s.data.toList c))∧w' =w:=callsIn_wide.2 (Tryz.strings_Index_one s c w)
theorem gB {W:World} {b:Nat} {v:Value} {t:TypeId} (h:W.heap[b]? =some (.cells #[v] t (0,0))):W.cell? ⟨b,0,none⟩=some v:=by rw [Lf,dP h];rfl
theorem G0 {W:World} {b:Nat} {v:Value} {t:TypeId} (h:W.heap[b]? =some (.cells #[v] t (0,0))):W.frozen? ⟨b,0,none⟩=false:=by
 unfold World.frozen?
 simp [h]
def P_ (s:ByteArray):Prop:= ∀ {l b1 b2 b3:Nat} {W:World} {t1 t2 t3:TypeId},W.heap[b1]? =some (.cells #[.string s] t1 (0,0))→W.heap[b2]? =some (.cells #[.string ⟨#[47]⟩] t2 (0,0))→W.heap[b3]? =some (.cells #[.int .i64 0] t3 (0,0))→b2≠b1→b3≠b1→
  (∀ (W' :World) (f:ByteArray),f.toList.isEmpty=false→(f.toList== [46])=false→(f.toList== [46,46])=false→(∀k,k≠b1→W'.heap[k]? =W.heap[k]?)→YieldAt Fence.wide 0 Tryz.prog l #[.string f] W' fun e R8 =>e= .returned (.bool true)∧R8 =W')→
  CallsIn Fence.wide 0 Tryz.prog 264 #[.func (.yield l) #[] #[],.pointer (some ⟨b2,0,none⟩),.pointer (some ⟨b1,0,none⟩),.pointer (some ⟨b3,0,none⟩)] W fun e W' => ∃v,e= .returned v∧(∀k,k≠b1→W'.heap[k]? =W.heap[k]?)∧W'.heap.size=W.heap.size∧Go.Vc.cq W W'
theorem Nb {w:World}:Go.Vc.cq w w:= ⟨rfl,rfl,rfl,fun _=>aiZ _⟩
theorem Qa {l b1 b2 b3:Nat} {s f1 f2:ByteArray} {W:World} {t1 t2 t3:TypeId} (g1:W.heap[b1]? =some (.cells #[.string s] t1 (0,0))) (g2:W.heap[b2]? =some (.cells #[.string ⟨#[47]⟩] t2 (0,0))) (g3:W.heap[b3]? =some (.cells #[.int .i64 0] t3 (0,0))) (VB:b2≠b1) (Xg:b3≠b1)
  (i1:Lib.indexByte s.data.toList 47=1) (i2:Lib.indexByte f2.data.toList 47= -1) (e1:s.extract 0 1=f1) (e2:s.extract 2 6=f2) (hs:s.size=6)
  (Y: ∀ (W' :World) (f:ByteArray),(f=f1∨f=f2)→(W' =W∨W' =W.setCell ⟨b1,0,none⟩ (.string f2))→YieldAt Fence.wide 0 Tryz.prog l #[.string f] W' fun e R8 =>e= .returned (.bool true)∧R8 =W'):
  CallsIn Fence.wide 0 Tryz.prog 264 #[.func (.yield l) #[] #[],.pointer (some ⟨b2,0,none⟩),.pointer (some ⟨b1,0,none⟩),.pointer (some ⟨b3,0,none⟩)] W fun e W' => ∃v,e= .returned v∧W' =W.setCell ⟨b1,0,none⟩ (.string f2):=by
 have c1:=gB g1;have c2:=gB g2;have c3:=gB g3;have fz:=G0 g1;have d1:=gB (one_setCell g1 (u:= .string f2));have d2:=gB ((Go.RowKit.Below.heap_setCell W ⟨b1,0,none⟩ (.string f2) b2 VB).trans g2);have d3:=gB ((Go.RowKit.Below.heap_setCell W ⟨b1,0,none⟩ (.string f2) b3 Xg).trans g3);obtain⟨fn1,tm1,as1,bo1,Ym,Uk⟩:=Y W f1 (.inl rfl) (.inl rfl);obtain⟨fn2,tm2,as2,bo2,hy2,ZL⟩:=Y (W.setCell ⟨b1,0,none⟩ (.string f2)) f2 (.inr rfl) (.inr rfl);clear Y g1 g2 g3 VB Xg;refine callsIn_of_wp Tryz.func264 rfl trivial ?_ rfl;simp only [Tryz.ntmps264,ajA,ai6,ai_,Nat.reduceAdd,Nat.reduceSub,alQ,alR,alS,alT,aje,ake]
 gi_wp2
 refine wpIn_loop_rounds 2 ?_;rw [roundsIn_succ]
 gi_wp2_with (first| (refine⟨trivial,rfl,?_⟩;gi_at_call 266;refine(index_spec _ _ _).mono ?_;rintro e _ ⟨rfl,rfl⟩) | (refine⟨rfl,?_⟩;refine Uk.mono ?_;clear Uk;rintro e _ ⟨rfl,rfl⟩) | (refine⟨rfl,?_⟩;refine ZL.mono ?_;clear ZL;rintro e _ ⟨rfl,rfl⟩))
 rw [roundsIn_succ]
 gi_wp2_with (first| (refine⟨trivial,rfl,?_⟩;gi_at_call 266;refine(index_spec _ _ _).mono ?_;rintro e _ ⟨rfl,rfl⟩) | (refine⟨rfl,?_⟩;refine ZL.mono ?_;clear ZL;rintro e _ ⟨rfl,rfl⟩))
 go_end0
 exact⟨_,rfl,rfl⟩
def LC:ByteArray:= ⟨#[102,105,108,101]⟩
theorem Ta: ∀i:Fin 5,Lib.indexByte (cZ (UInt8.ofNat (97+i.val))) 47=1:=by decide+kernel
theorem Tb: ∀i:Fin 5,((⟨(cZ (UInt8.ofNat (97+i.val))).toArray⟩:ByteArray).extract 0 1).data.toList= [UInt8.ofNat (97+i.val)]:=by decide+kernel
theorem Tc: ∀i:Fin 5,((⟨(cZ (UInt8.ofNat (97+i.val))).toArray⟩:ByteArray).extract 2 6).data.toList= [102,105,108,101]:=by decide+kernel
theorem EL: ∀i:Fin 5,(⟨#[UInt8.ofNat (97+i.val)]⟩:ByteArray).toList.isEmpty=false∧((⟨#[UInt8.ofNat (97+i.val)]⟩:ByteArray).toList== [46])=false∧((⟨#[UInt8.ofNat (97+i.val)]⟩:ByteArray).toList== [46,46])=false:=by decide+kernel
theorem EM:LC.toList.isEmpty=false∧(LC.toList== [46])=false∧(LC.toList== [46,46])=false:=by decide+kernel
theorem Ul {a:ByteArray} {l:List UInt8} (h:a.data.toList=l):a= ⟨l.toArray⟩:=by
 obtain⟨⟨d⟩⟩:=a;simp only at h;rw [h]
theorem Td: ∀i:Fin 5,(((⟨(cZ (UInt8.ofNat (97+i.val))).toArray⟩:ByteArray).size:Int)>65535)=False:=fun i=>eq_false (show ¬ ((6:Int)>65535) by decide)
theorem Te (i:Fin 5):P_ ⟨(cZ (UInt8.ofNat (97+i.val))).toArray⟩:=by
 intro l b1 b2 b3 W t1 t2 t3 g1 g2 g3 VB Xg Y;refine(Qa (f1:= ⟨#[UInt8.ofNat (97+i.val)]⟩) (f2:=LC) g1 g2 g3 VB Xg (Ta i) (by decide+kernel) (Ul (Tb i)) (Ul (Tc i)) rfl (fun W' f hf Yn =>?_)).mono ?_
 ·refine Y W' f ?_ ?_ ?_ ?_
  ·rcases hf with rfl|rfl
   ·exact(EL i).1
   ·exact EM.1
  ·rcases hf with rfl|rfl
   ·exact(EL i).2.1
   ·exact EM.2.1
  ·rcases hf with rfl|rfl
   ·exact(EL i).2.2
   ·exact EM.2.2
  ·rcases Yn with rfl|rfl
   ·exact fun _ _=>rfl
   ·exact fun k hk=>Go.RowKit.Below.heap_setCell _ _ _ _ hk
 ·rintro e _ ⟨v,rfl,rfl⟩
  exact⟨v,rfl,fun k hk=>Go.RowKit.Below.heap_setCell _ _ _ _ hk,by simp [World.setCell],⟨rfl,rfl,rfl,fun _=>aiZ _⟩⟩
theorem Tf {s:ByteArray} (i1:Lib.indexByte s.data.toList 47= -1) (q1:s.toList.isEmpty=false) (q2: (s.toList== [46])=false) (q3: (s.toList== [46,46])=false):P_ s:=by
 intro l b1 b2 b3 W t1 t2 t3 g1 g2 g3 VB Xg Y;have c1:=gB g1;have c2:=gB g2;have c3:=gB g3;obtain⟨fn1,tm1,as1,bo1,Ym,Uk⟩:=Y W s q1 q2 q3 fun _ _=>rfl;clear Y g1 g2 g3 VB Xg;refine callsIn_of_wp Tryz.func264 rfl trivial ?_ rfl;simp only [Tryz.ntmps264,ajA,ai6,ai_,Nat.reduceAdd,Nat.reduceSub,alQ,alR,alS,alT,aje,ake]
 gi_wp2
 refine wpIn_loop_rounds 1 ?_;rw [roundsIn_succ]
 gi_wp2_with (first| (refine⟨trivial,rfl,?_⟩;gi_at_call 266;refine(index_spec _ _ _).mono ?_;rintro e _ ⟨rfl,rfl⟩) | (refine⟨rfl,?_⟩;refine Uk.mono ?_;clear Uk;rintro e _ ⟨rfl,rfl⟩))
 go_end0
 exact⟨_,rfl,fun _ _=>rfl,rfl,Nb⟩
theorem AX {n:List UInt8} (hl:n.length≤8) (Qb: ∀x∈n,x.toNat<128) (aaY:Lib.idxFunc J5 true ⟨n.toArray⟩= -1) (cQ: (⟨n.toArray⟩:ByteArray).toList.isEmpty=false) (qm: (((⟨n.toArray⟩:ByteArray).size:Int)>65535)=False) (Yo:P_ ⟨n.toArray⟩) (w:World):CallsIn Fence.wide 0 Tryz.prog 143 #[str n] w fun e w' => ∃v,e= .returned v∧Go.Vc.cq w w' ∧v= .int .i64 0∧Ext w.heap w'.heap:=by
 obtain⟨s,hs⟩: ∃s,s= (⟨n.toArray⟩:ByteArray):= ⟨_,rfl⟩;have hV: ∀W:World,CallsIn Fence.wide 0 Tryz.prog 192 #[.string s] W fun e W' => ∃v,e= .returned v∧Go.Vc.cq W W' ∧(v= .bool true∧Ext W.heap W'.heap):=fun W=>by
  rw [hs];exact callsIn_wide.2 (J3 (s:=n) (R:=fun v H' =>v= .bool true∧Ext W.heap H') hl Qb ⟨rfl,Ext.refl _⟩ W rfl)
 have hC: ∀W:World,CallsIn Fence.wide 0 Tryz.prog 193 #[.string s,.func (.func 194) #[] #[]] W fun e W' => ∃v,e= .returned v∧Go.Vc.cq W W' ∧(v= .bool false∧Ext W.heap W'.heap):=fun W=>by
  rw [hs];exact callsIn_wide.2 (Cv aaY (R:=fun v H' =>v= .bool false∧Ext W.heap H') (fun H' hx=> ⟨rfl,hx⟩) W rfl)
 have hS: ∀W:World,CallsIn Fence.wide 0 Tryz.prog 195 #[.string s,.string ⟨#[47]⟩] W fun e W' => ∃v,e= .returned v∧Go.Vc.cq W W' ∧(∃b1 b2 b3,v= (.func (.func 264) #[] #[.pointer (some ⟨b2,0,none⟩),.pointer (some ⟨b1,0,none⟩),.pointer (some ⟨b3,0,none⟩)])∧au W.heap W'.heap (EK b1 b2 b3 n)):=fun W=>by
  rw [hs];exact callsIn_wide.2 (J6 (s:=n) (H:=W.heap) (R:=fun v H' => ∃b1 b2 b3,v= (.func (.func 264) #[] #[.pointer (some ⟨b2,0,none⟩),.pointer (some ⟨b1,0,none⟩),.pointer (some ⟨b3,0,none⟩)])∧au W.heap H' (EK b1 b2 b3 n)) (fun H' b1 b2 b3 o=> ⟨b1,b2,b3,rfl,o⟩) W rfl)
 have hsb: ∀b1 b2 b3,EK b1 b2 b3 n= [.box b3 [.int .i64 0] 3,.box b2 [.string ⟨#[47]⟩] 9,.box b1 [.string s] 9]:=by rw [hs];intro b1 b2 b3;rfl
 rw [←hs] at cQ qm Yo;show CallsIn Fence.wide 0 Tryz.prog 143 #[.string ⟨n.toArray⟩] w _;rw [←hs];clear hs;refine callsIn_of_wp_marks Tryz.func143 rfl trivial ?_ rfl;simp only [Tryz.ntmps143,ajA,ai6,ai_,Nat.reduceAdd,Nat.reduceSub,alQ,alR,alS,alT,aje,ake]
 gi_wp2_with (first| (refine⟨trivial,rfl,?_⟩;gi_at_call 192;refine(hV _).mono ?_;rintro e W1 ⟨_,rfl,yj,rfl,jg⟩) | (refine⟨trivial,rfl,?_⟩;gi_at_call 193;refine(hC _).mono ?_;rintro e W2 ⟨_,rfl,o_,rfl,ea⟩) | (refine⟨trivial,rfl,?_⟩;gi_at_call 195;refine(hS _).mono ?_;rintro e W3 ⟨_,rfl,Gk,b1,b2,b3,rfl,o3⟩))
 refine AV (gf:=264) (lb:= #[.pointer (some ⟨b2,0,none⟩),.pointer (some ⟨b1,0,none⟩),.pointer (some ⟨b3,0,none⟩)]) rfl (enters_of Tryz.func264 (by kernel_rfl) rfl) ?_;intro fn W4 hW4 hL hD mP Tg;have hY: ∀ (W:World) (f:ByteArray),W.heap[W3.heap.size+1]? =W4.heap[W3.heap.size+1]? →f.toList.isEmpty=false→(f.toList== [46])=false→(f.toList== [46,46])=false→YieldAt Fence.wide 0 Tryz.prog (W3.heap.size+1) #[.string f] W fun e W' =>e= .returned (.bool true)∧W' =W:=by
  intro W f hW hf hf1 hf2;have VC :=hL;rw [←hW] at VC;refine AW VC rfl ?_
  gi_wp2
  refine⟨_,run_beginRound VC rfl,?_⟩
  gi_wp2
  exact⟨_,_,Na VC,rfl,rfl⟩
 rw [hsb] at o3;have g1:=o3.j8 (b:=b1) (cs:= [.string s]) (t:=9);have g2:=o3.j8 (b:=b2) (cs:= [.string ⟨#[47]⟩]) (t:=9);have g3:=o3.j8 (b:=b3) (cs:= [.int .i64 0]) (t:=3);have n1:=o3.new (.box b1 [.string s] 9) (by repeat(first|exact aiX|apply aiW)) b1 rfl;have n12:b2≠b1:=fun e=>by
  have:= (ajs.1 (ajs.1 o3.FH).2).1 (.box b1 [.string s] 9) (by simp) b1;exact this e rfl
 have n13:b3≠b1:=fun e=>by
  have:= (ajs.1 o3.FH).1 (.box b1 [.string s] 9) (by simp) b1;exact this e rfl
 have afg:=bz g1;refine(Yo (mP.lk g1) (mP.lk g2) (mP.lk g3) n12 n13 fun W' f q1 q2 q3 Yn =>hY W' f (Yn _ (show W3.heap.size+1≠b1 by omega)) q1 q2 q3).mono ?_;rintro e W5 ⟨v,rfl,k5,z5,Xh⟩;have Yp:W5.heap[W3.heap.size+1]? =W4.heap[W3.heap.size+1]? :=k5 _ (show W3.heap.size+1≠b1 by omega);refine⟨v,.ready,none,rfl,Yp.trans hL,by simp,?_⟩;have r0: (w.alloc (.cells #[.int .i64 0] 27)).heap[w.heap.size]? =some (.cells #[.int .i64 0] 27 (0,0)):=World.alloc_heap_new _ _;have afh:=bz r0;have Th:=jg.trans (ea.trans o3.ext);have hn:w.heap.size≠b1:=by have:= (jg.trans ea).size;omega
 have afi:=Th.size;have r5:W5.heap[w.heap.size]? =some (.cells #[.int .i64 0] 27 (0,0)):=by
  rw [k5 _ hn];exact mP.lk (Th.lk r0)
 generalize DY:Obj.loop _=J7;have r6: (W5.putObj (W3.heap.size+1) J7).heap[w.heap.size]? =some (.cells #[.int .i64 0] 27 (0,0)):=by
  rw [World.putObj_heap_other (by omega)];exact r5
 have d5: (W5.putObj (W3.heap.size+1) J7).heap[W3.heap.size]? =some (.deferred (some [])):=by
  rw [World.putObj_heap_other (by omega),k5 _ (show W3.heap.size≠b1 by omega)];exact hD
 obtain⟨W6,R9⟩: ∃W6,W6=W5.putObj (W3.heap.size+1) J7:= ⟨_,rfl⟩;rw [←R9] at r6 d5 ⊢;have c6:=gB r6;have z6:=G0 r6;have pc:Ext w.heap W6.heap:= ⟨by
   rw [R9];have h1:=mP.size;have h2:w.heap.size≤W3.heap.size:=by omega
   simp only [World.putObj,al2,z5];omega,fun k hk=>by
  rw [R9,World.putObj_heap_other (by omega),k5 k (by have:= (jg.trans ea).size;omega),mP.get k (by omega),Th.get k (by omega)];exact Go.RowKit.Below.heap_alloc _ _ _ hk⟩
 have Yq:Go.Vc.cq w W6:=by
  have h1:Go.Vc.cq w (w.alloc (.cells #[.int .i64 0] 27)):= ⟨rfl,rfl,rfl,fun _=>aiZ _⟩;have h5:Go.Vc.cq W4 W6:=by rw [R9];exact Xh.trans ⟨rfl,rfl,rfl,fun _=>aiZ _⟩
  exact((((h1.trans yj).trans o_).trans Gk).trans Tg).trans h5
 have Xi:w.heap.size<W3.heap.size:=by omega
 clear R9 hY hL Yp hD hW4 DY r5 mP Tg g1 g2 g3 n1 n12 n13 o3 Th yj o_ Gk jg ea
 gi_wp2
 generalize hU:W6.setCell ⟨w.heap.size,0,none⟩ (.int .i64 0)=U;have hK:U.heap[W3.heap.size]? =some (.deferred (some [])):=by rw [←hU];exact(Go.RowKit.Below.heap_setCell W6 ⟨w.heap.size,0,none⟩ (.int .i64 0) _ (show W3.heap.size≠w.heap.size by omega)).trans d5
 have rU:U.heap[w.heap.size]? =some (.cells #[.int .i64 0] 27 (0,0)):=by rw [←hU];exact one_setCell r6
 have hxU:Ext w.heap U.heap:=by
  refine⟨by rw [←hU];have:=pc.size;simp [World.setCell];omega,fun k hk=>?_⟩;rw [←hU,Go.RowKit.Below.heap_setCell _ _ _ _ (show k≠(⟨w.heap.size,0,none⟩:Addr).block by show k≠w.heap.size;omega)];exact pc.get k hk
 have hrU:Go.Vc.cq w U:=by
  rw [←hU];exact Yq.trans ⟨rfl,rfl,rfl,fun _=>aiZ _⟩
 clear hU;refine⟨by simp,.inl ⟨_,_,rfl,run_takeDeferred hK,?_⟩⟩;have rV: (U.putObj W3.heap.size (.deferred none)).heap[w.heap.size]? =some (.cells #[.int .i64 0] 27 (0,0)):=by
  rw [World.putObj_heap_other (by omega)];exact rU
 have cV:=gB rV;refine⟨.int .i64 0,?_,_,rfl,hrU.trans ⟨rfl,rfl,rfl,fun _=>aiZ _⟩,rfl,⟨by have:=hxU.size;simp [World.putObj];omega,fun k hk=>?_⟩⟩
 ·have Yr: ∀w:World,(isAgg 27).run Tryz.prog w= .ok false w:=fun w=>by
   unfold isAgg;rw [Sem.run_bind,run_underlying (d:= .int .i64) (by kernel_rfl) w]
   rfl
  simp [results,Tryz.func143,asAddr,loadVar,Sem.run_bind,Result.andThen,Yr,cV]
 ·rw [World.putObj_heap_other (by omega)];exact hxU.get k hk
theorem AY (i:Fin 5):wM (cZ (UInt8.ofNat (97+i.val))) where
 len:=ai7 rfl
 ne:=by intro h;cases h
 low:=Dk i
 ok:=fun H R h w hw=>by
  refine(callsIn_wide.1 (AX (ai7 rfl) (Dk i) (P7 i) (P9 i) (Td i) (Te i) w)).mono ?_;rintro e w' ⟨v,rfl,hr,rfl,hx⟩;exact⟨_,rfl,hr,h _ (by rw [←hw];exact hx)⟩
theorem wO:wM [97] where
 len:=ai7 rfl
 ne:=by intro h;cases h
 low:=by decide
 ok:=fun H R h w hw=>by
  refine(callsIn_wide.1 (AX (n:= [97]) (ai7 rfl) (by decide) (by decide+kernel) (by decide+kernel) (eq_false (by decide+kernel)) (Tf (by decide+kernel) (by decide+kernel) (by decide+kernel) (by decide+kernel)) w)).mono ?_;rintro e w' ⟨v,rfl,hr,rfl,hx⟩;exact⟨_,rfl,hr,h _ (by rw [←hw];exact hx)⟩
end
end Go.Proofs.YtpcgccdmmoggmaaGreatDoor
namespace Go.Proofs.YtpcgccdmmoggmaaGreatDoor
open Go Go.Vc Go.Proofs
section
variable {H H0 H' :ag} {R:Value→ag→Prop} {L:List It} {s:List UInt8}
theorem Ti {b r1 r2:Nat} {n d:List UInt8→Option Value} (hn:n [97]=none) (hd:d [97]=none) (o:au H0 H (ny b r1 r2 n d L)) (h:R (.bool false) H):ab 144 #[at_ b 0,str [97]] H R:=by
 refine qj.vc _ _ _ _ ?_;rw [aD,ae,ax];refine o.aw (b:=b) (f:=0+0) (w:= .map (some r1)) ?_;refine Go.Vc.eh.lookup (κ:=strKeys) (o.dS (T:=oM r1 n)) (k:= [97]) ?_;rw [cond_false,hn];refine aM ?_;rw [aD,ae,ax];refine o.aw (b:=b) (f:=0+1) (w:= .map (some r2)) ?_;refine Go.Vc.eh.lookup (κ:=strKeys) (o.dS (T:=oM r2 d)) (k:= [97]) ?_;rw [cond_false,hd];intro _;show aq (.bool false) _ _;rw [ak];refine aC ?_;refine⟨fun i H' => ∃k:Nat,i= .int .i64 (k:Int)∧k≤1∧H=H',fun i _=>match i with| .int _ x=> (1 - x).toNat|_=>0,⟨0,rfl,by omega,rfl⟩,?_⟩;rintro _ _ _ ⟨k,rfl,hk,rfl⟩;rw [aO];refine av (fun gE=>?_) (fun gE=>?_)
 ·have LB:k=0:=by have: (k:Int)<1:=gE;omega
  subst LB;rw [cc,bB];refine⟨by decide,by decide,?_⟩;rw [cc,bB];refine⟨by decide,by decide,?_⟩;rw [aZ];refine dC (d:=false) (fun h1=>absurd h1 (by decide)) ?_;intro _;rw [ama,ak,ay,ff (by decide) (by decide)];exact⟨⟨1,rfl,by omega,rfl⟩,by show (_:Int).toNat< (_:Int).toNat;decide⟩
 ·exact h
theorem Ys {b r1 r2:Nat} {n d:List UInt8→Option Value} (o:au H0 H (ny b r1 r2 n d L)) (h: ∀H',au H0 H' (ny b r1 r2 (uu strKeys n [97] (some (.bool true))) d L)→R (.tuple #[]) H'):ab 145 #[at_ b 0,str [97]] H R:=by
 refine sM.vc _ _ _ _ ?_;rw [aD,ae,ax];refine o.aw (b:=b) (f:=0+0) (w:= .map (some r1)) ?_;refine Go.Vc.eh.set (κ:=strKeys) (o.dS (T:=oM r1 n)) (k:= [97]) fun H2 hm hs cQ=>?_;have o:au H0 H2 (ny b r1 r2 (uu strKeys n [97] (some (.bool true))) d L):=o.jC (i:= .aE (oM r1 n)) (i' := .aE (oM r1 (uu strKeys n [97] (some (.bool true))))) (by repeat(first|exact cx.here|apply cx.there)) (by omega) (fun k _ hf=>cQ k hf) hm (fun k hk=> .inl hk);refine aC ?_;refine⟨fun i H' => ∃k:Nat,i= .int .i64 (k:Int)∧k≤1∧H2=H',fun i _=>match i with| .int _ x=> (1 - x).toNat|_=>0,⟨0,rfl,by omega,rfl⟩,?_⟩;rintro _ _ _ ⟨k,rfl,hk,rfl⟩;rw [aO];refine av (fun gE=>?_) (fun gE=>?_)
 ·have LB:k=0:=by have: (k:Int)<1:=gE;omega
  subst LB;rw [cc,bB];refine⟨by decide,by decide,?_⟩;rw [cc,bB];refine⟨by decide,by decide,?_⟩;rw [aZ];refine av (fun h1=>absurd h1 (by decide)) fun _=>?_;rw [ay,ff (by decide) (by decide)];exact⟨⟨1,rfl,by omega,rfl⟩,by show (_:Int).toNat< (_:Int).toNat;decide⟩
 ·exact h _ o
theorem Yt {v:Value} (hs:Sl H v 1 (cD [[97]])) (h: ∀H',Ext H H' →R (.tuple #[.int .i64 0,.int .i64 0]) H'):ab 93 #[v] H R:=by
 have dg: (cD [[97]]).length=1*1:=rfl;refine Gy.vc _ _ _ ?_;refine hs.df dg ?_;rw [bc,qO,ak];refine qM strKeys fun H1 Xe jg _=>?_;have o:= (au.start (H:=H)).add jg (i:= .aE (oM H.size (fun _=>none))) Xe (by intro k hk;obtain rfl:k=H.size:=hk;exact aiZ _);generalize H.size=r1 at o;refine qM strKeys fun H2 JV ea _=>?_;have o:=o.add ea (i:= .aE (oM H1.size (fun _=>none))) JV (by intro k hk;obtain rfl:k=H1.size:=hk;exact aiZ _);generalize H1.size=r2 at o;refine aR rfl (by decide) ?_;refine aR rfl (by simp) ?_;rw [br];refine o.box fun b H3 o _=>?_;have o:au H H3 (ny b r1 r2 (fun _=>none) (fun _=>none) []):=o.h_;refine hs.df dg ?_;refine⟨fun i H' => ∃k:Nat,i= .int .i64 (k:Int)∧k≤1∧Ext H H' ∧(k=0→au H H' (ny b r1 r2 (fun _=>none) (fun _=>none) [])),fun i _=>match i with| .int _ x=> (1 - x).toNat|_=>0,⟨0,rfl,by omega,o.ext,fun _=>o⟩,?_⟩;clear o;rintro _ _ H4 ⟨k,rfl,hk,hx,o⟩;rw [aO];refine av (fun gE=>?_) (fun gE=>?_)
 ·have LB:k=0:=by have: (k:Int)<1:=gE;omega
  subst LB;have o:=o rfl;have MX:=hs.ext o.ext;refine MX.gG dg fun p hp=>?_;refine hp.load MX (w:=str [97]) rfl ?_;refine wO.ok _ _ fun H5 nS=>?_;have o:=o.more nS;refine ep ?_;rw [ak];refine Ti rfl rfl o ?_;rw [ak];refine Ys o fun H6 o=>?_;rw [ay,ff (by decide) (by decide)];exact⟨⟨1,rfl,by omega,o.ext,fun e=>by omega⟩,by show (_:Int).toNat< (_:Int).toNat;decide⟩
 ·exact h H4 hx
structure AZ (ns:List (List UInt8)):Prop where
 len:ns.length≤5
 nm: ∀n∈ns,wM n
 all: ∀ (k:Nat) (H:ag) (v:Value) (R:Value→ag→Prop),Sl H v 1 (cD (ns.take k))→(∀H',Ext H H' →R (.tuple #[.int .i64 0,.int .i64 0]) H')→ab 93 #[v] H R
def gS (m:Nat):List UInt8:= (List.range m).map fun i=>UInt8.ofNat (97+i)
theorem sP: ∀m:Fin 6,(gS m.val).Nodup∧∀c∈gS m.val,c≠47∧∃i:Fin 5,c=UInt8.ofNat (97+i.val):=by decide
theorem G1 (m:Nat) (hm:m≤5):AZ ((gS m).map cZ):=by
 obtain⟨f1,f2⟩:=sP ⟨m,by omega⟩;have hl: (gS m).length=m:=by unfold gS;simp
 refine⟨by rw [ajh];omega,fun n hn=>?_,fun k H v R hs h=>?_⟩
 ·obtain⟨c,hc,rfl⟩:=ajw.1 hn
  obtain⟨_,i,rfl⟩:=f2 c hc;exact AY i
 ·rw [←al1] at hs
  refine vd hs (by rw [ai2];omega) (f1.sublist (List.take_sublist _ _)) (fun c hc=>?_) h;obtain⟨h1,i,rfl⟩:=f2 c (aj6 hc);exact⟨h1,AY i⟩
theorem Yu:AZ [[97]]:=by
 refine⟨by decide,fun n hn=>?_,fun k H v R hs h=>?_⟩
 ·obtain rfl:=ajE.1 hn
  exact wO
 ·match k with
  |0=>exact vd (cs:= []) hs (by decide) alI (fun c hc=>by cases hc) h
  |k+1=>exact Yt (by simpa using hs) h
end
section
variable {B C E:List Bool} {W:List UInt8} {l:Bool}
inductive Steps:DM→List UInt8→DM→Prop
 |refl {D:DM}:Steps D [] D
 |step {D D1 D2:DM} {o1 o2:List UInt8}:bV D= .go D1 o1→Steps D1 o2 D2→Steps D (o1++o2) D2
theorem Steps.one {D D1:DM} {o:List UInt8} (h:bV D= .go D1 o):Steps D o D1:=by
 have:=Steps.step h Steps.refl
 rwa [ajl] at this
theorem Steps.trans {D D1 D2:DM} {o1 o2:List UInt8} (h:Steps D o1 D1) (k:Steps D1 o2 D2):Steps D (o1++o2) D2:=by
 induction h with
 |refl=>exact k
 |step hs _ ih=>rw [ai0];exact .step hs (ih k)
theorem Steps.run {D D' :DM} {o:List UInt8} (h:Steps D o D'):run D= (o++ (run D').1,(run D').2):=by
 induction h with
 |refl=>simp
 |step hs _ ih=>rw [pR hs,ih];simp only [ai0]
theorem Dl:run ⟨.hd,[],W⟩= ([],⟨.hd,[],W⟩,0):=lu rfl rfl
theorem Steps.fin {D D' :DM} {o:List UInt8} (h:Steps D o D') (hd:D'.st.iG=true):Go.Proofs.YtpcgccdmmoggmaaGreatDoor.run D= (o,D',0):=by
 rw [h.run,ra hd];simp
theorem Qc {a b c:Bool}:dQ 3 (a::b::c::C)= .ok (fV [a,b,c]) C:=by
 unfold dQ;rw [if_pos (by simp)]
 rfl
theorem J8:bV ⟨.hd,l::true::false::C,W⟩= .go ⟨.tl gm nc l,C,W⟩ []:=by
 have:fM (l::true::false::C)= .ok (.tl gm nc l) C:=by
  unfold fM;rw [Qc]
  cases l<;>rfl
 show (match fM (l::true::false::C) with| .ok st B=>SR.go ⟨st,B,W⟩ [] | .er e=>SR.of _ e)=_;rw [this]
theorem Qd {n:Nat} (h:n<65536):n ^^^ (65535 - n)=65535:=by
 apply amE;intro i;rw [amc,show 65535 - n=2 ^ 16 - (n+1) by omega,amT (by simpa using h),show (65535:Nat)=2 ^ 16 - 1 from rfl,amU]
 by_cases hi:i<16
 ·simp [hi]
 ·have:n.testBit i=false:=Nat.testBit_lt_two_pow (ajN h (ajk (n:=2) (i:=16) (by decide) (by omega)))
  simp [hi,this]
theorem G2 {n:Nat} (hn:n<65536) (h:dJ C=a_ n 16++a_ (65535 - n) 16++E):bV ⟨.hd,l::false::false::C,W⟩= .go ⟨.cp n l,E,W⟩ []:=by
 have U5:dQ 32 (dJ C)= .ok (n+2 ^ 16* (65535 - n)) E:=by
  unfold dQ;have hl: (a_ n 16++a_ (65535 - n) 16).length=32:=by rw [aiV,aX,aX]
  rw [h,if_pos (by rw [aiV,hl];omega)];rw [←hl,ajZ (aiZ _),ajc,ajR (aiZ _),ajY,aje,qQ,gO,gO,aX,ajg (by simpa using hn),ajg (by omega)]
 have:fM (l::false::false::C)= .ok (.cp n l) E:=by
  unfold fM;rw [Qc]
  dsimp only [Rs.bind]
  have h0:fV [l,false,false] /2=0:=by cases l<;>rfl
  have h1:decide (fV [l,false,false] %2=1)=l:=by cases l<;>rfl
  rw [if_pos h0,U5]
  dsimp only
  have e1: (n+2 ^ 16* (65535 - n)) %65536=n:=by omega
  have e2: (n+2 ^ 16* (65535 - n)) /65536=65535 - n:=by omega
  rw [e1,e2,h1,if_neg (fun g=>g (Qd hn))]
 show (match fM (l::false::false::C) with| .ok st B=>SR.go ⟨st,B,W⟩ [] | .er e=>SR.of _ e)=_;rw [this]
theorem Nc {s:List UInt8} (hE:E.length%8=0):bV ⟨.cp s.length l,toBits s++E,W⟩= .go (ib l E (W++s)) s:=by
 have hl:=bj s;have rS:dJ (toBits s++E)=toBits s++E:=by
  unfold dJ;rw [aiV,hl,show (8*s.length+E.length) %8=0 by omega];rfl
 have e1:bV ⟨.cp s.length l,toBits s++E,W⟩=if min s.length ((dJ (toBits s++E)).length/8)<s.length then .wait ⟨.cp (s.length - min s.length ((dJ (toBits s++E)).length/8)) l,(dJ (toBits s++E)).drop (8*min s.length ((dJ (toBits s++E)).length/8)),W++bm ((dJ (toBits s++E)).take (8*min s.length ((dJ (toBits s++E)).length/8)))⟩ (bm ((dJ (toBits s++E)).take (8*min s.length ((dJ (toBits s++E)).length/8))))
   else .go (ib l ((dJ (toBits s++E)).drop (8*s.length)) (W++bm ((dJ (toBits s++E)).take (8*s.length)))) (bm ((dJ (toBits s++E)).take (8*s.length))):=rfl
 rw [e1,rS,if_neg (by rw [aiV,hl];omega),←hl,ajZ (aiZ _),ajc,ajR (aiZ _),ajY,aje,jx]
theorem EN {zs zd:List Int} {s:Nat} (hn:eM zs B= .ok s C):bV ⟨.tl zs zd l,B,W⟩=if s=256 then .go (ib l C W) [] else if s<256 then .go ⟨.tl zs zd l,C,W++ [UInt8.ofNat s]⟩ [UInt8.ofNat s] else match fD zd s C with
  | .er e=>SR.of ⟨.tl zs zd l,B,W⟩ e
  | .ok p B2=>if 1≤p.2∧p.2≤min W.length 32768 then .go ⟨.tl zs zd l,B2,cU p.1 W p.2⟩ ((cU p.1 W p.2).drop W.length) else .bad 6:=by
 have e1:bV ⟨.tl zs zd l,B,W⟩=match eM zs B with
  | .er e=>SR.of ⟨.tl zs zd l,B,W⟩ e
  | .ok s C=>if s=256 then .go (ib l C W) [] else if s<256 then .go ⟨.tl zs zd l,C,W++ [UInt8.ofNat s]⟩ [UInt8.ofNat s] else match fD zd s C with
   | .er e=>SR.of ⟨.tl zs zd l,B,W⟩ e
   | .ok p B2=>if 1≤p.2∧p.2≤min W.length 32768 then .go ⟨.tl zs zd l,B2,cU p.1 W p.2⟩ ((cU p.1 W p.2).drop W.length) else .bad 6:=rfl
 rw [e1,hn]
theorem Qe {zs zd:List Int} {x:UInt8} (hn:eM zs B= .ok x.toNat C):bV ⟨.tl zs zd l,B,W⟩= .go ⟨.tl zs zd l,C,W++ [x]⟩ [x]:=by
 have:=x.toNat_lt;rw [EN hn,if_neg (by omega),if_pos (by omega)]
 simp
theorem step_end {zs zd:List Int} (hn:eM zs B= .ok 256 C):bV ⟨.tl zs zd l,B,W⟩= .go (ib l C W) []:=by
 rw [EN hn,if_pos rfl]
theorem Nd {zs:List Int} (hz:qz zs) {s:Nat} (hs:s<zs.length) (h1:1≤(natL zs).getD s 0):eM zs (cT (natL zs) s++C)= .ok s C:=by
 have hl:=oH (natL zs) s;rw [r_ hz (s:=s) ⟨by rw [eY];exact hs,h1,by rw [←hl,ajZ (aiZ _),ajc]⟩];rw [←hl,ajR (aiZ _),ajY,aje]
def G3 (v n:Nat):List Bool:= (List.range n).map fun i=>v.testBit (n - 1 - i)
def Tj (s:Nat):List Bool:=if s<144 then G3 (48+s) 8 else if s<256 then G3 (400+s - 144) 9 else if s<280 then G3 (s - 256) 7 else G3 (192+s - 280) 8
theorem Nf: ∀s:Fin 288,cT (natL gm) s.val=Tj s.val∧1≤(natL gm).getD s.val 0:=by decide+kernel
theorem J9: ∀s:Fin 32,cT (natL nc) s.val=G3 s.val 5∧1≤(natL nc).getD s.val 0:=by decide+kernel
end
section
theorem jE {v k:Nat} {C:List Bool} (h:v<2 ^ k):dQ k (a_ v k++C)= .ok v C:=by
 unfold dQ;have hl:=aX v k;rw [if_pos (by rw [aiV,hl];omega)]
 conv=>lhs;rw [←hl,ajZ (by rw [hl,hl];exact aiZ _),ajR (by rw [hl,hl];exact aiZ _)]
 rw [hl,ajf (by rw [hl];exact aiZ _),aky (by rw [hl];exact aiZ _),gO,ajg h,aje]
def pX (zs:List Int) (s:Nat):Prop:=s<zs.length∧1≤(natL zs).getD s 0
theorem rf {zs:List Int} (hz:qz zs) {s:Nat} (h:pX zs s) {C:List Bool}:eM zs (cT (natL zs) s++C)= .ok s C:=Nd hz h.1 h.2
def J_ (t:Tok) (W:List UInt8):List UInt8:=cU t.n.toNat (if t.n=0 then W++ [t.b] else W) t.d.toNat
def LD (n:Int):List Bool:=a_ (n - (lenOf (jn n)).1).toNat (lenOf (jn n)).2.toNat
def LF (d:Int):List Bool:=a_ (d - (bn (jD d)).1).toNat (bn (jD d)).2.toNat
def qv (sy di:List Int) (t:Tok):List Bool:=if t.n=0 then cT (natL sy) t.b.toNat else cT (natL sy) (jn t.n).toNat++ (LD t.n++ (cT (natL di) (jD t.d).toNat++LF t.d))
def ve (sy di:List Int) (t:Tok):Prop:=if t.n=0 then pX sy t.b.toNat else pX sy (jn t.n).toNat∧pX di (jD t.d).toNat
theorem LG: ∀k:Fin 29,0≤(lenOf (257+ ((k.val:Nat):Int))).1:=by decide+kernel
theorem G4: ∀k:Fin 30,0≤(bn ((k.val:Nat):Int)).1:=by decide+kernel
theorem Ka {sy di:List Int} (yI:qz sy) (CV:qz di) {t:Tok} {W:List UInt8} {C:List Bool} {l:Bool} (hg:fL t=true) (hd:t.d≤(W.length:Int)) (hh:ve sy di t):
  ∃o,Steps ⟨.tl sy di l,qv sy di t++C,W⟩ o ⟨.tl sy di l,C,J_ t W⟩:=by
 unfold qv J_;unfold ve at hh
 by_cases h0:t.n=0
 ·rw [if_pos h0] at hh
  rw [if_pos h0,if_pos h0,h0];exact⟨_,Steps.one (Qe (x:=t.b) (rf yI hh))⟩
 ·rw [if_neg h0] at hh
  rw [if_neg h0,if_neg h0];rcases jQ hg with ⟨h,_⟩ | ⟨h1,h2,h3,h4⟩
  ·exact absurd h h0
  obtain⟨n,hn⟩: ∃n:Nat,t.n=n:= ⟨t.n.toNat,by omega⟩;obtain⟨d,Ml⟩: ∃d:Nat,t.d=d:= ⟨t.d.toNat,by omega⟩;rw [hn,Ml] at hh;rw [hn,Ml,aiY,aiY];rw [hn] at h1 h2;rw [Ml] at h3 h4 hd;obtain⟨f1,f2,f3,f4,f5,f6⟩:=pN (n:= (n:Int)) h1 h2;obtain⟨g1,g2,g3,g4,g5,g6⟩:=pO (n:= (d:Int)) h3 h4;obtain⟨s,hs⟩: ∃s:Nat,jn (n:Int)=s:= ⟨(jn n).toNat,by omega⟩;obtain⟨k,hk⟩: ∃k:Nat,jD (d:Int)=k:= ⟨(jD d).toNat,by omega⟩;unfold LD LF;rw [hs,hk] at hh ⊢;rw [aiY,aiY] at hh ⊢;rw [hs] at f1 f2 f3 f4 f5 f6;rw [hk] at g1 g2 g3 g4 g5 g6;have gH: ((2 ^ (lenOf (s:Int)).2.toNat:Nat):Int)=2 ^ (lenOf (s:Int)).2.toNat:=by push_cast;rfl
  have um: ((2 ^ (bn (k:Int)).2.toNat:Nat):Int)=2 ^ (bn (k:Int)).2.toNat:=by push_cast;rfl
  rw [←gH] at f4;rw [←um] at g4;have l0:0≤(lenOf (s:Int)).1:=by
   have:=LG ⟨s - 257,by omega⟩
   dsimp only at this
   rwa [show (257:Int)+ ((s - 257:Nat):Int)= (s:Int) by omega] at this
  have d0:0≤(bn (k:Int)).1:=G4 ⟨k,by omega⟩;have IQ:eM sy (cT (natL sy) s++ (a_ ((n:Int) - (lenOf (s:Int)).1).toNat (lenOf (s:Int)).2.toNat++ (cT (natL di) k++a_ ((d:Int) - (bn (k:Int)).1).toNat (bn (k:Int)).2.toNat))++C)= .ok s (a_ ((n:Int) - (lenOf (s:Int)).1).toNat (lenOf (s:Int)).2.toNat++ (cT (natL di) k++a_ ((d:Int) - (bn (k:Int)).1).toNat (bn (k:Int)).2.toNat)++C):=by
   rw [ai0,rf yI hh.1]
  have hm:fD di s (a_ ((n:Int) - (lenOf (s:Int)).1).toNat (lenOf (s:Int)).2.toNat++ (cT (natL di) k++a_ ((d:Int) - (bn (k:Int)).1).toNat (bn (k:Int)).2.toNat)++C)= .ok (n,d) C:=by
   unfold fD;rw [if_neg (by omega),ai0,jE (by omega)]
   dsimp only [Rs.bind]
   rw [ai0,rf CV hh.2]
   dsimp only
   rw [if_neg (by omega),jE (by omega)]
   dsimp only
   rw [show (lenOf (s:Int)).1.toNat+ ((n:Int) - (lenOf (s:Int)).1).toNat=n by omega,show (bn (k:Int)).1.toNat+ ((d:Int) - (bn (k:Int)).1).toNat=d by omega]
  refine⟨(cU n W d).drop W.length,Steps.one ?_⟩;rw [EN IQ,if_neg (by omega),if_neg (by omega),hm]
  dsimp only
  rw [if_pos (by omega)]
def pY:List Tok→List UInt8→List UInt8→Prop
 | [],W,V=>W=V
 |t::G,W,V=> (fL t=true∧t.d≤(W.length:Int))∧pY G (J_ t W) V
def gh (sy di:List Int) (G:List Tok):List Bool:=G.flatMap (qv sy di)++cT (natL sy) 256
theorem nz {sy di:List Int} (yI:qz sy) (CV:qz di) (he:pX sy 256) {C:List Bool} {l:Bool}: ∀ {G:List Tok} {W V:List UInt8},pY G W V→(∀t∈G,ve sy di t)→
  ∃o,Steps ⟨.tl sy di l,gh sy di G++C,W⟩ o (ib l C V)
 | [],W,V,h,hh=>by
  cases h
  exact⟨_,Steps.one (step_end (by unfold gh;rw [amF,aje];exact rf yI he))⟩
 |t::G,W,V,h,hh=>by
  obtain⟨o1,s1⟩:=Ka yI CV (l:=l) (C:=gh sy di G++C) h.1.1 h.1.2 (hh t (by simp));obtain⟨o2,s2⟩:=nz yI CV he (C:=C) (l:=l) h.2 fun u hu=>hh u (by simp [hu]);have e:gh sy di (t::G)++C=qv sy di t++ (gh sy di G++C):=by unfold gh;rw [akx];simp
  rw [e];exact⟨_,s1.trans s2⟩
abbrev Ex:=Nat × Nat × Nat
def G5 (out:List Int) (e:Ex):Nat × Int:=if e.1=16 then (3+e.2.2,out.getD (out.length - 1) 0) else if e.1=17 then (3+e.2.2,0) else if e.1=18 then (11+e.2.2,0) else (1,(e.1:Int))
def wP (out:List Int) (e:Ex):List Int:=out++List.replicate (G5 out e).1 (G5 out e).2
def G6 (out:List Int) (e:Ex):Prop:= (e.1<16∧e.2.1=0∧e.2.2=0)∨(e.1=16∧out≠ []∧e.2.1=2∧e.2.2<4)∨(e.1=17∧e.2.1=3∧e.2.2<8)∨(e.1=18∧e.2.1=7∧e.2.2<128)
def Told:List Int→List Ex→List Int→Prop
 |out,[],l=>out=l
 |out,e::es,l=>G6 out e∧Told (wP out e) es l
theorem Told.snoc: ∀ {es:List Ex} {out l:List Int} {e:Ex},Told out es l→G6 l e→Told out (es++ [e]) (wP l e)
 | [],out,l,e,h,hv=>by cases h;exact⟨hv,rfl⟩
 |_::es,out,l,e,h,hv=> ⟨h.1,h.2.snoc hv⟩
theorem G7 {out:List Int} {e:Ex}:out.length< (wP out e).length:=by
 unfold wP G5;rw [aiV,ajB]
 split
 ·simp;omega
 split
 ·simp;omega
 split
 ·simp;omega
 ·simp
theorem Told.len: ∀ {es:List Ex} {out l:List Int},Told out es l→out.length+es.length≤l.length
 | [],out,l,h=>by cases h;simp
 |e::es,out,l,h=>by have:=h.2.len;have:=G7 (out:=out) (e:=e);rw [ai6];omega
def yJ (t:List Int) (e:Ex):List Bool:=cT (natL t) e.1++a_ e.2.2 e.2.1
theorem Qf {out:List Int} {e:Ex} (h:G6 out e) {C:List Bool}:oI e.1 out (a_ e.2.2 e.2.1++C)= .ok (G5 out e) C:=by
 unfold oI G5;rcases h with ⟨h1,h2,h3⟩ | ⟨h1,h2,h3,h4⟩ | ⟨h1,h2,h3⟩ | ⟨h1,h2,h3⟩
 ·rw [if_neg (by omega),if_neg (by omega),if_neg (by omega),if_neg (by omega),if_neg (by omega),if_neg (by omega),h2,h3];rfl
 ·rw [if_pos h1,if_neg h2,if_pos h1,h3,jE h4];rfl
 ·rw [if_neg (by omega),if_pos h1,if_neg (by omega),if_pos h1,h2,jE h3];rfl
 ·rw [if_neg (by omega),if_neg (by omega),if_pos h1,if_neg (by omega),if_neg (by omega),if_pos h1,h2,jE h3];rfl
theorem Dm {t:List Int} (ht:qz t) {C:List Bool}: ∀ {es:List Ex} {out l:List Int} {k:Nat},Told out es l→(∀e∈es,pX t e.1)→es.length<k→kc k t l.length out (es.flatMap (yJ t)++C)= .ok l C
 | [],out,l,0,h,hh,hk=>by simp at hk
 |_::_,out,l,0,h,hh,hk=>by simp at hk
 | [],out,l,k+1,h,hh,hk=>by
  cases h
  rw [kc,if_pos (aiZ _)];rfl
 |e::es,out,l,k+1,h,hh,hk=>by
  have h1:=h.2.len;have h2:=G7 (out:=out) (e:=e);rw [kc,if_neg (by omega),akx];unfold yJ;rw [ai0,ai0,rf ht (hh e (by simp))]
  dsimp only [Rs.bind]
  rw [Qf h.1]
  dsimp only
  have h3: (wP out e).length=out.length+ (G5 out e).1:=by unfold wP;simp
  rw [if_neg (by omega)];have:=Dm ht (C:=C) (k:=k) h.2 (fun u hu=>hh u (by simp [hu])) (by simpa using hk);exact this
def nA (z:List Int) (o:List Nat):List Bool:=o.flatMap fun s=>a_ (z.getD s 0).toNat 3
theorem G8 {z:List Int} (hz: ∀s,0≤z.getD s 0∧z.getD s 0≤7) {C:List Bool}: ∀ (o:List Nat) (l:List Int),kz o l (nA z o++C)= .ok (o.foldl (fun l s=>l.set s (z.getD s 0)) l) C
 | [],l=>rfl
 |s::o,l=>by
  have h:=hz s;unfold nA;rw [akx,ai0,kz,jE (by omega)]
  dsimp only [Rs.bind]
  rw [show ((z.getD s 0).toNat:Int)=z.getD s 0 by omega];exact G8 hz o _
theorem G9 {z:List Int}: ∀ (o:List Nat) (l:List Int) (i:Nat),i<l.length→(o.foldl (fun l s=>l.set s (z.getD s 0)) l).getD i 0=if i∈o then z.getD i 0 else l.getD i 0
 | [],l,i,h=>by simp
 |s::o,l,i,h=>by
  rw [ak1,G9 o _ i (by rw [aj1];exact h)]
  by_cases h1:i∈o
  ·rw [if_pos h1,if_pos (by simp [h1])]
  ·rw [if_neg h1]
   by_cases h2:i=s
   ·subst h2
    rw [if_pos (by simp),ai3,akG h];rfl
   ·rw [if_neg (by simp [h1,h2]),ai3,als (fun e=>h2 e.symm),←ai3]
theorem G_ {z:List Int}: ∀ (o:List Nat) (l:List Int),(o.foldl (fun l s=>l.set s (z.getD s 0)) l).length=l.length
 | [],l=>rfl
 |s::o,l=>by rw [ak1,G_ o];simp
theorem Ng: ∀i:Fin 19,i.val∈bF:=by decide
theorem Qg {z:List Int} {c:Nat} (hl:z.length=19) (h0: ∀j,c≤j→j<19→z.getD (bF.getD j 0) 0=0): (bF.take c).foldl (fun l s=>l.set s (z.getD s 0)) (List.replicate 19 0)=z:=by
 refine akA (by rw [G_,hl];simp) fun i h1 h2=>?_;have hi:i<19:=by omega
 have e:=G9 (z:=z) (bF.take c) (List.replicate 19 0) i (by simpa using hi);rw [ai3,ai1 h1,aj9] at e;rw [e];have hz:z.getD i 0=z[i]:=by rw [ai3,ai1 h2];rfl
 by_cases hm:i∈bF.take c
 ·rw [if_pos hm,hz]
 ·rw [if_neg hm,←hz]
  obtain⟨j,hj,R4⟩:=akK (Ng ⟨i,hi⟩);have aa0:j<19:=hj;have hc:c≤j:=Nat.le_of_not_lt fun h=>hm (by
   rw [←show bF[j]=i from R4];exact List.mem_take_iff_getElem.2 ⟨j,by omega,rfl⟩)
  have:=h0 j hc aa0;rw [ai3 (l:=bF),ai1 hj,aj9,show bF[j]=i from R4] at this;rw [this,ai3,akU,if_pos hi];rfl
structure xQ (x y z:List Int) (es:List Ex) (c:Nat):Prop where
 a1:257≤x.length
 a2:x.length≤286
 b1:1≤y.length
 b2:y.length≤30
 c1:4≤c
 c2:c≤19
 zl:z.length=19
 z7: ∀s,0≤z.getD s 0∧z.getD s 0≤7
 z0: ∀j,c≤j→j<19→z.getD (bF.getD j 0) 0=0
 zw:ia z false=0
 zok:qz z
 told:Told [] es (x++y)
 has: ∀e∈es,pX z e.1
 xe:x.getD 256 0≠0
 xw:ia x false=0
 yw:ia y true=0
def rh (x y z:List Int) (es:List Ex) (c:Nat):List Bool:=a_ (x.length - 257+32* (y.length - 1)+1024* (c - 4)) 14++ (nA z (bF.take c)++es.flatMap (yJ z))
theorem Dn {x y z:List Int} {es:List Ex} {c:Nat} (d:xQ x y z es c) {C:List Bool}:qu (rh x y z es c++C)= .ok (x,y) C:=by
 have a1:=d.a1;have a2:=d.a2;have b1:=d.b1;have b2:=d.b2;have c1:=d.c1;have c2:=d.c2;unfold qu rh;rw [ai0,jE (by omega)]
 dsimp only [Rs.bind]
 rw [show (x.length - 257+32* (y.length - 1)+1024* (c - 4)) %32+257=x.length by omega,show (x.length - 257+32* (y.length - 1)+1024* (c - 4)) /32%32+1=y.length by omega,show (x.length - 257+32* (y.length - 1)+1024* (c - 4)) /1024+4=c by omega];rw [if_neg (by omega),ai0,G8 d.z7]
 dsimp only
 rw [Qg d.zl d.z0,if_neg (by rw [d.zw];decide)];have hlen: (x++y).length=x.length+y.length:=aiV;have IS:=d.told.len;have:=Dm d.zok (C:=C) (k:=x.length+y.length+1) d.told d.has (by simp at IS;omega);rw [hlen] at this;rw [this]
 dsimp only
 have e1: (x++y).take x.length=x:=alU rfl;have e2: (x++y).drop x.length=y:=ale rfl;have e3: (x++y).getD 256 0=x.getD 256 0:=by rw [ai3,ajL (by omega),←ai3]
 rw [e1,e2,e3,if_neg d.xe,if_neg (by rw [d.xw];decide),if_neg (by rw [d.yw];decide)]
theorem Ha {x y z:List Int} {es:List Ex} {c:Nat} (d:xQ x y z es c) {C:List Bool} {l:Bool} {W:List UInt8}:bV ⟨.hd,l::false::true:: (rh x y z es c++C),W⟩= .go ⟨.tl x y l,C,W⟩ []:=by
 unfold bV fM
 dsimp only
 rw [Qc]
 dsimp only [Rs.bind]
 cases l
 ·rw [show fV [false,false,true]=4 from rfl,if_neg (by decide),if_neg (by decide),if_pos (by decide),Dn d];rfl
 ·rw [show fV [true,false,true]=5 from rfl,if_neg (by decide),if_neg (by decide),if_pos (by decide),Dn d];rfl
end
section
variable {H:ag} {R:Value→ag→Prop} {v:Value}
theorem LH {sz:Nat} {ls:List (List Value)}: (∀l∈ls,∃n,l.length=n*sz)→∃m,ls.flatten.length=m*sz:=by
 induction ls with
 |nil=>exact fun _=> ⟨0,by simp⟩
 |cons a ls ih=>
  intro h;obtain⟨n,hn⟩:=h a (by simp);obtain⟨m,hm⟩:=ih fun l hl=>h l (by simp [hl]);exact⟨n+m,by rw [aj_,aiV,hn,hm,aj2]⟩
theorem Nh {n:Int} (h0:0≤n) (hb:2*n.toNat*8≤281474976710656) (h: ∀y H',au H H' [.sl y 1 []]→R y H'):ab 219 #[.slice none 0 0,.int .i64 n] H R:=by
 refine qt.vc _ _ _ _ ?_;refine⟨fun H' =>H=H',?_,?_⟩
 ·rintro _ _ rfl
  rw [D_,qK,bq];rw [aJ,bq,show n - (((0:Nat):Int) - ((0:Nat):Int))=n by omega,aJ,bc];refine av (fun hc=>?_) (fun hc=>?_)
  ·rw [D_,kW,eD]
   refine⟨by decide,by decide,?_⟩;refine⟨⟨by omega,hb⟩,fun c gE=>?_⟩
   dsimp only
   rw [qK,kW,eD];refine⟨by decide,by omega,?_⟩;have e: (if c=0 then (some ⟨H.size,0,none⟩:Option Addr) else Option.map (fun x:Addr=>x.add (0*1)) (some (⟨H.size,0,none⟩:Addr)))=some ⟨H.size,0,none⟩:=by
    split
    ·rfl
    ·simp [Addr.add]
   rw [e];refine h _ _ (au.start.add (Ext.refl _).push ⟨by decide,.inr ⟨_,0,c,_,rfl,⟨⟨_,(0,0),by rw [aje];exact bO,.inl rfl⟩,by simp,?_⟩⟩⟩ (fun j hj=>by simp only [It.dF,aY,ai8] at hj;omega));rw [aje,aiV,g_,g_];simp only [ai6,ai_];omega
  ·exact h _ _ (au.start.add (Ext.refl _) ⟨by decide,.inl ⟨rfl,rfl⟩⟩ (by intro k hk;exact absurd hk (by simp [It.dF,aY])))
 ·rw [aO]
  refine av (fun hc=>by omega) (fun _=>rfl)
theorem xR {svs:List Value} {ls:List (List Value)} (hv:Sl H v 1 svs) (VD:svs.length≤1000) (hl:svs.length=ls.length) (hs: ∀k (h:k<svs.length),Sl H svs[k] 1 (ls[k]'(by omega))∧∃n,(ls[k]'(by omega)).length=n*1) (ho:ls.flatten.all aS=true)
  (hb:2*ls.flatten.length*8≤281474976710656) (h: ∀y H',au H H' [.sl y 1 ls.flatten]→R y H'):ab 171 #[v] H R:=by
 have oN: ∀k (hk:k<svs.length),(ls.take (k+1)).flatten= (ls.take k).flatten++ls[k]'(by omega):=fun k hk=>by rw [ajr,ai1 (by omega),alb];simp
 have hle: ∀k,(ls.take k).flatten.length≤ls.flatten.length:=fun k=>by
  have:=congrArg (fun l=>l.flatten.length) (ajp k ls);simp only [alb,aiV] at this;omega
 refine oy.vc _ _ _ ?_;refine hv.len (n:=svs.length) (by omega) (by decide) ?_;refine⟨fun s i H' => ∃k m:Nat,s= .int .i64 m∧i= .int .i64 k∧k≤svs.length∧(ls.take k).flatten.length=m*1∧H=H',fun _ i _=>match i with| .int _ x=> (svs.length - x).toNat|_=>0,⟨0,0,rfl,rfl,by omega,by simp,rfl⟩,?_⟩;rintro _ _ _ _ ⟨k,m,rfl,rfl,hk,hm,rfl⟩;rw [aO];refine av (fun hc=>?_) (fun hc=>?_)
 ·have e_:k<svs.length:=by omega
  refine hv.at_ (n:=svs.length) (by omega) (by decide) (by omega) (by omega) fun p hp=>?_;refine hp.load hv (w:=svs[k]) (by rw [aiY,ai5];exact ai1 e_) ?_;obtain⟨F7,n,hn⟩:=hs k e_;refine F7.df hn ?_;have mB:=hle (k+1);rw [oN k e_,aiV,hm,hn] at mB;rw [ay,aJ,aO];refine av (fun Jd=>by omega) (fun _=>?_);rw [ay,ff (by have:=hv;omega) (by have:=hle svs.length;omega)];exact⟨⟨k+1,m+n,by rw [show ((m+n:Nat):Int)= (m:Int)+n by omega],rfl,by omega,by rw [oN k e_,aiV,hm,hn,aj2],rfl⟩,by show (_:Int).toNat< (_:Int).toNat;omega⟩
 ·have e_:k=ls.length:=by omega
  rw [e_,ajc] at hm;refine Nh (by omega) (by rw [aiY];omega) fun y H1 o=>?_;refine hv.len (n:=svs.length) (by omega) (by decide) ?_;refine⟨fun s i H' => ∃k:Nat,i= .int .i64 k∧k≤svs.length∧au H H' [.sl s 1 (ls.take k).flatten],fun _ i _=>match i with| .int _ x=> (svs.length - x).toNat|_=>0,⟨0,rfl,by omega,by simpa using o⟩,?_⟩;rintro _ s _ H2 ⟨k,rfl,hk,o⟩;rw [aO];refine av (fun hc=>?_) (fun hc=>?_)
  ·have e_:k<svs.length:=by omega
   refine hv.at_ (n:=svs.length) (by omega) (by decide) (by omega) (by omega) fun p hp=>?_;refine hp.load (hv.ext o.ext) (w:=svs[k]) (by rw [aiY,ai5];exact ai1 e_) ?_;obtain⟨F7,n,hn⟩:=hs k e_;have mB:=hle (k+1);rw [oN k e_,aiV] at mB;obtain⟨m2,JV⟩: ∃m2,(ls.take k).flatten.length=m2*1:=LH fun l hl=>by
    obtain⟨j,hj,rfl⟩:=akK (aj6 hl);exact(hs j (by omega)).2
   refine o.append (sz:=1) (n:=m2) (m:=n) (by repeat(first|exact dD.here|apply dD.there)) rfl (F7.ext o.ext) JV hn (by
    rw [akv] at ho ⊢;exact fun x hx=>ho x (List.mem_flatten.2 ⟨_,ai9 (by omega),hx⟩)) (by omega) fun y2 H3 o=>?_
   rw [ay,aJ];exact⟨⟨k+1,rfl,by omega,by rw [oN k e_];exact o⟩,by show (_:Int).toNat< (_:Int).toNat;omega⟩
  ·have e_:k=ls.length:=by omega
   rw [e_,ajc] at o;exact h _ _ o
theorem Kc {n:Int} (h0:0≤n) (hb:2*n.toNat*32≤281474976710656) (h: ∀y H',au H H' [.sl y 2 []]→R y H'):ab 273 #[.slice none 0 0,.int .i64 n] H R:=by
 refine jm.vc _ _ _ _ ?_;refine⟨fun H' =>H=H',?_,?_⟩
 ·rintro _ _ rfl
  rw [D_,qK,bq];rw [aJ,bq,show n - (((0:Nat):Int) - ((0:Nat):Int))=n by omega,aJ,bc];refine av (fun hc=>?_) (fun hc=>?_)
  ·rw [D_,kW,eD]
   refine⟨by decide,by decide,?_⟩;refine⟨⟨by omega,hb⟩,fun c gE=>?_⟩
   dsimp only
   rw [qK,kW,eD];refine⟨by decide,by omega,?_⟩;have e: (if c=0 then (some ⟨H.size,0,none⟩:Option Addr) else Option.map (fun x:Addr=>x.add (0*2)) (some (⟨H.size,0,none⟩:Addr)))=some ⟨H.size,0,none⟩:=by
    split
    ·rfl
    ·simp [Addr.add]
   rw [e];refine h _ _ (au.start.add (Ext.refl _).push ⟨by decide,.inr ⟨_,0,c,_,rfl,⟨⟨_,(0,0),by rw [aje];exact bO,.inl rfl⟩,by simp,?_⟩⟩⟩ (fun j hj=>by simp only [It.dF,aY,ai8] at hj;omega));rw [aje,aiV,g_,g_];simp only [ai6,ai_];omega
  ·exact h _ _ (au.start.add (Ext.refl _) ⟨by decide,.inl ⟨rfl,rfl⟩⟩ (by intro k hk;exact absurd hk (by simp [It.dF,aY])))
 ·rw [aO]
  refine av (fun hc=>by omega) (fun _=>rfl)
theorem EO {svs:List Value} {ls:List (List Value)} (hv:Sl H v 1 svs) (VD:svs.length≤1000) (hl:svs.length=ls.length) (hs: ∀k (h:k<svs.length),Sl H svs[k] 2 (ls[k]'(by omega))∧∃n,(ls[k]'(by omega)).length=n*2) (ho:ls.flatten.all aS=true)
  (hb:2*ls.flatten.length*32≤281474976710656) (h: ∀y H',au H H' [.sl y 2 ls.flatten]→R y H'):ab 248 #[v] H R:=by
 have oN: ∀k (hk:k<svs.length),(ls.take (k+1)).flatten= (ls.take k).flatten++ls[k]'(by omega):=fun k hk=>by rw [ajr,ai1 (by omega),alb];simp
 have hle: ∀k,(ls.take k).flatten.length≤ls.flatten.length:=fun k=>by
  have:=congrArg (fun l=>l.flatten.length) (ajp k ls);simp only [alb,aiV] at this;omega
 refine iW.vc _ _ _ ?_;refine hv.len (n:=svs.length) (by omega) (by decide) ?_;refine⟨fun s i H' => ∃k m:Nat,s= .int .i64 m∧i= .int .i64 k∧k≤svs.length∧(ls.take k).flatten.length=m*2∧H=H',fun _ i _=>match i with| .int _ x=> (svs.length - x).toNat|_=>0,⟨0,0,rfl,rfl,by omega,by simp,rfl⟩,?_⟩;rintro _ _ _ _ ⟨k,m,rfl,rfl,hk,hm,rfl⟩;rw [aO];refine av (fun hc=>?_) (fun hc=>?_)
 ·have e_:k<svs.length:=by omega
  refine hv.at_ (n:=svs.length) (by omega) (by decide) (by omega) (by omega) fun p hp=>?_;refine hp.load hv (w:=svs[k]) (by rw [aiY,ai5];exact ai1 e_) ?_;obtain⟨F7,n,hn⟩:=hs k e_;refine F7.df hn ?_;have mB:=hle (k+1);rw [oN k e_,aiV,hm,hn] at mB;rw [ay,aJ,aO];refine av (fun Jd=>by omega) (fun _=>?_);rw [ay,ff (by have:=hv;omega) (by have:=hle svs.length;omega)];exact⟨⟨k+1,m+n,by rw [show ((m+n:Nat):Int)= (m:Int)+n by omega],rfl,by omega,by rw [oN k e_,aiV,hm,hn,aj2],rfl⟩,by show (_:Int).toNat< (_:Int).toNat;omega⟩
 ·have e_:k=ls.length:=by omega
  rw [e_,ajc] at hm;refine Kc (by omega) (by rw [aiY];omega) fun y H1 o=>?_;refine hv.len (n:=svs.length) (by omega) (by decide) ?_;refine⟨fun s i H' => ∃k:Nat,i= .int .i64 k∧k≤svs.length∧au H H' [.sl s 2 (ls.take k).flatten],fun _ i _=>match i with| .int _ x=> (svs.length - x).toNat|_=>0,⟨0,rfl,by omega,by simpa using o⟩,?_⟩;rintro _ s _ H2 ⟨k,rfl,hk,o⟩;rw [aO];refine av (fun hc=>?_) (fun hc=>?_)
  ·have e_:k<svs.length:=by omega
   refine hv.at_ (n:=svs.length) (by omega) (by decide) (by omega) (by omega) fun p hp=>?_;refine hp.load (hv.ext o.ext) (w:=svs[k]) (by rw [aiY,ai5];exact ai1 e_) ?_;obtain⟨F7,n,hn⟩:=hs k e_;have mB:=hle (k+1);rw [oN k e_,aiV] at mB;obtain⟨m2,JV⟩: ∃m2,(ls.take k).flatten.length=m2*2:=LH fun l hl=>by
    obtain⟨j,hj,rfl⟩:=akK (aj6 hl);exact(hs j (by omega)).2
   refine o.append (sz:=2) (n:=m2) (m:=n) (by repeat(first|exact dD.here|apply dD.there)) rfl (F7.ext o.ext) JV hn (by
    rw [akv] at ho ⊢;exact fun x hx=>ho x (List.mem_flatten.2 ⟨_,ai9 (by omega),hx⟩)) (by omega) fun y2 H3 o=>?_
   rw [ay,aJ];exact⟨⟨k+1,rfl,by omega,by rw [oN k e_];exact o⟩,by show (_:Int).toNat< (_:Int).toNat;omega⟩
  ·have e_:k=ls.length:=by omega
   rw [e_,ajc] at o;exact h _ _ o
end
section
abbrev Pk:=Nat × List Nat
def cA:List Pk→List Pk
 |a::b::l=> (a.1+b.1,a.2++b.2)::cA l
 |_=> []
def kf:List Pk→List Pk→List Pk
 | [],b=>b
 |x::a,[]=>x::a
 |x::a,y::b=>if x.1≤y.1 then x::kf a (y::b) else y::kf (x::a) b
termination_by a b=>a.length+b.length
theorem oO (b:List Pk):kf [] b=b:=by unfold kf;rfl
theorem kL (a:List Pk):kf a []=a:=by cases a<;> (unfold kf;rfl)
theorem kM (x y:Pk) (a b:List Pk):kf (x::a) (y::b)=if x.1≤y.1 then x::kf a (y::b) else y::kf (x::a) b:=by
 rw [kf]
theorem oP: ∀a b:List Pk,(kf a b).length=a.length+b.length
 | [],b=>by rw [oO];simp
 |x::a,[]=>by rw [kL];simp
 |x::a,y::b=>by
  rw [kM]
  split
  ·rw [ai6,oP a (y::b)];simp;omega
  ·rw [ai6,oP (x::a) b];simp;omega
termination_by a b=>a.length+b.length
theorem jF: ∀l:List Pk,(cA l).length=l.length/2
 | []=>by simp [cA]
 | [_]=>by simp [cA]
 |a::b::l=>by rw [cA,ai6,jF l];simp;omega
def gT (l:List Pk) (i:Nat):Nat:= (l.map fun p=>p.2.count i).sum
theorem lB (i:Nat):gT [] i=0:=rfl
theorem iu (p:Pk) (l:List Pk) (i:Nat):gT (p::l) i=p.2.count i+gT l i:=by unfold gT;simp
def Qh (l:List Pk):Prop:=l.Pairwise fun a b=>a.1≤b.1
theorem kN: ∀ (a b:List Pk) (z:Pk),z∈kf a b↔z∈a∨z∈b
 | [],b,z=>by rw [oO];simp
 |x::a,[],z=>by rw [kL];simp
 |x::a,y::b,z=>by
  rw [kM]
  split
  ·rw [ajd,kN a (y::b)];simp only [ajd,or_assoc]
  ·rw [ajd,kN (x::a) b];simp only [ajd];constructor
   ·rintro(h| (h|h) |h)<;>simp [h]
   ·rintro((h|h) |h|h)<;>simp [h]
termination_by a b=>a.length+b.length
theorem wQ: ∀ (a b:List Pk),Qh a→Qh b→Qh (kf a b)
 | [],b,ha,hb=>by rw [oO];exact hb
 |x::a,[],ha,hb=>by rw [kL];exact ha
 |x::a,y::b,ha,hb=>by
  have vQ :=ajs.1 ha;have R0 :=ajs.1 hb;rw [kM]
  split
  ·rename_i h
   refine ajs.2 ⟨fun z hz=>?_,wQ a (y::b) vQ.2 hb⟩;rcases (kN _ _ _).1 hz with hz|hz
   ·exact vQ.1 z hz
   ·rcases ajd.1 hz with rfl|hz
    ·exact h
    ·exact ajv h (R0.1 z hz)
  ·rename_i h
   refine ajs.2 ⟨fun z hz=>?_,wQ (x::a) b ha R0.2⟩;rcases (kN _ _ _).1 hz with hz|hz
   ·rcases ajd.1 hz with rfl|hz
    ·omega
    ·have:=vQ.1 z hz;omega
   ·exact R0.1 z hz
termination_by a b=>a.length+b.length
theorem A0: ∀ (l:List Pk),Qh l→Qh (cA l)
 | [],h=>by rw [cA];exact List.Pairwise.nil;all_goals simp
 | [_],h=>by rw [cA];exact List.Pairwise.nil;all_goals simp
 |a::b::l,h=>by
  have h1:=ajs.1 h;have h2:=ajs.1 h1.2;rw [cA];refine ajs.2 ⟨fun z hz=>?_,A0 l h2.2⟩;have Yv: ∀ (l:List Pk),(∀x∈l,a.1≤x.1∧b.1≤x.1)→∀z∈cA l,a.1+b.1≤z.1:=by
   intro l
   induction l using cA.induct with
   |case1 c d l ih=>
    intro hl z hz;rw [cA] at hz;rcases ajd.1 hz with rfl|hz
    ·have:=hl c (by simp);have:=hl d (by simp);show _≤c.1+d.1;omega
    ·exact ih (fun x hx=>hl x (by simp [hx])) z hz
   |case2 l cQ=>intro hl z hz;rw [cA] at hz;simp at hz;all_goals exact cQ
  exact Yv l (fun x hx=> ⟨h1.1 x (by simp [hx]),h2.1 x hx⟩) z hz
theorem tM: ∀ (a b:List Pk) (N:Nat),Qh a→N≤a.length+b.length→∃m p,m+p=N∧m≤a.length∧p≤b.length∧(∀i,gT ((kf a b).take N) i=gT (a.take m) i+gT (b.take p) i)∧
  (0<p→∀x∈a[m]?,∀y∈b[p - 1]?,y.1<x.1)∧(∀x∈a.take m,x∈(kf a b).take N)
 | [],b,N,hs,h=> ⟨0,N,by omega,aiZ _,by simpa using h,fun i=>by rw [oO];simp [lB],fun _ x hx=>by simp at hx,fun x hx=>by simp at hx⟩
 |x::a,[],N,hs,h=> ⟨N,0,by omega,by simpa using h,aiZ _,fun i=>by rw [kL];simp [lB],fun h=>by omega,fun x hx=>by rw [kL];exact hx⟩
 |x::a,y::b,0,hs,h=> ⟨0,0,rfl,ajj _,ajj _,fun i=>by simp [lB],fun h=>by omega,fun x hx=>by simp at hx⟩
 |x::a,y::b,N+1,hs,h=>by
  rw [kM]
  split
  ·rename_i hle
   obtain⟨m,p,h1,h2,h3,h4,h5,h6⟩:=tM a (y::b) N (ajs.1 hs).2 (by simp at h ⊢;omega);refine⟨m+1,p,by omega,by simpa using h2,h3,fun i=>by rw [akj,akj,iu,iu,h4 i];omega,fun hp z hz=>h5 hp z (by simpa using hz),fun z hz=>?_⟩;rw [akj] at hz ⊢;rcases ajd.1 hz with rfl|hz
   ·simp
   ·exact aiW _ (h6 z hz)
  ·rename_i hle
   obtain⟨m,p,h1,h2,h3,h4,h5,h6⟩:=tM (x::a) b N hs (by simp at h ⊢;omega);refine⟨m,p+1,by omega,h2,by simpa using h3,fun i=>by rw [akj,akj,iu,iu,h4 i];omega,fun hp z hz u hu=>?_,fun z hz=>?_⟩
   ·by_cases VE:p=0
    ·subst VE
     simp at hu
     subst hu;have hz2:z∈x::a:=aj5 hz;rcases ajd.1 hz2 with rfl|hz2
     ·omega
     ·have:= (ajs.1 hs).1 z hz2;omega
    ·exact h5 (by omega) z hz u (by rw [show p+1 - 1= (p - 1)+1 by omega] at hu;simpa using hu)
   ·rw [akj]
    exact aiW _ (h6 z hz)
termination_by a b N _ _=>a.length+b.length
theorem xS: ∀ (l:List Pk) (p:Nat),2*p≤l.length→∀i,gT ((cA l).take p) i=gT (l.take (2*p)) i
 |l,0,h,i=>by simp
 | [],p+1,h,i=>by simp at h
 | [_],p+1,h,i=>by simp at h;omega
 |a::b::l,p+1,h,i=>by
  rw [cA,show 2* (p+1)=2*p+1+1 by omega,akj,akj,akj,iu,iu,iu,xS l p (by simp at h;omega) i,List.count_append];omega
theorem xT: ∀ (l:List Pk) (p:Nat),Qh l→2* (p+1)≤l.length→∀x∈l.take (2* (p+1)),∃y,(cA l)[p]? =some y∧x.1≤y.1
 | [],p,hs,h,x,hx=>by simp at h
 | [_],p,hs,h,x,hx=>by simp at h;omega
 |a::b::l,0,hs,h,x,hx=>by
  refine⟨(a.1+b.1,a.2++b.2),by simp [cA],?_⟩
  simp at hx
  rcases hx with rfl|rfl
  ·show _≤_;simp
  ·simp
 |a::b::l,p+1,hs,h,x,hx=>by
  have h1:=ajs.1 hs;have h2:=ajs.1 h1.2;rw [show 2* (p+1+1)=2* (p+1)+1+1 by omega,akj,akj] at hx;have hl:2* (p+1)≤l.length:=by simp at h;omega
  have key: ∀x∈l.take (2* (p+1)),∃y,(cA l)[p]? =some y∧x.1≤y.1:=xT l p h2.2 hl;have cQ: ∃c,c∈l.take (2* (p+1)):=by
   cases l with
   |nil=>simp at hl
   |cons c l=>exact⟨c,by rw [show 2* (p+1)= (2*p+1)+1 by omega,akj];simp⟩
  rcases ajd.1 hx with rfl|hx
  ·obtain⟨c,hc⟩:=cQ
   obtain⟨y,hy,hle⟩:=key c hc;exact⟨y,by rw [cA];simpa using hy,ajv (h1.1 c (by simp [aj6 hc])) hle⟩
  ·rcases ajd.1 hx with rfl|hx
   ·obtain⟨c,hc⟩:=cQ
    obtain⟨y,hy,hle⟩:=key c hc;exact⟨y,by rw [cA];simpa using hy,ajv (h2.1 c (aj6 hc)) hle⟩
   ·obtain⟨y,hy,hle⟩:=key x hx
    exact⟨y,by rw [cA];simpa using hy,hle⟩
def bJ (cs:List Nat):List Pk:=cs.zipIdx.map fun x=> (x.1,[x.2])
theorem cB (cs:List Nat): (bJ cs).length=cs.length:=by simp [bJ]
theorem iP {cs:List Nat} {i:Nat} (h:i<cs.length): (bJ cs)[i]? =some (cs[i],[i]):=by simp [bJ,h]
theorem Hb {cs:List Nat} (h:cs.Pairwise (· ≤ ·)):Qh (bJ cs):=by
 unfold Qh;rw [amb] at h ⊢;intro i j hi hj Lq;rw [cB] at hi hj;have e1:=iP hi;have e2:=iP hj;rw [ai1 (by rw [cB];exact hi),ai8] at e1;rw [ai1 (by rw [cB];exact hj),ai8] at e2;rw [e1,e2];exact h i j hi hj Lq
theorem xU (a b:List Pk) (i:Nat):gT (a++b) i=gT a i+gT b i:=by unfold gT;simp
theorem lC {cs:List Nat}: ∀ {m:Nat},m≤cs.length→∀i,gT ((bJ cs).take m) i=if i<m then 1 else 0
 |0,h,i=>by simp [lB]
 |m+1,h,i=>by
  rw [ajr,iP (by omega),xU,lC (by omega) i];show _+gT [_] i=_;rw [iu,lB]
  by_cases h1:i<m
  ·rw [if_pos h1,if_pos (by omega),amG (by simp;omega)]
  ·by_cases h2:i=m
   ·subst h2;rw [if_neg h1,if_pos (by omega)];simp
   ·rw [if_neg h1,if_neg (by omega),amG (by simp;omega)]
def dK (L:List Pk):Nat→List Pk
 |0=>L
 |k+1=>kf L (cA (dK L k))
def eR (f:Nat→Nat):Nat→Nat
 |0=>0
 |n+1=>eR f n+f n
theorem fN {f g:Nat→Nat}: ∀ {n},(∀i,i<n→f i=g i)→eR f n=eR g n
 |0,h=>rfl
 |n+1,h=>by rw [eR,eR,fN (fun i hi=>h i (by omega)),h n (by omega)]
theorem wR (f g:Nat→Nat): ∀n,eR (fun i=>f i+g i) n=eR f n+eR g n
 |0=>rfl
 |n+1=>by rw [eR,eR,eR,wR f g n];omega
theorem gI (c m:Nat): ∀ {n},m≤n→eR (fun i=>if i<m then c else 0) n=m*c
 |0,h=>by
  have:m=0:=by omega
  subst this;simp [eR]
 |n+1,h=>by
  rw [eR]
  by_cases hm:m=n+1
  ·subst hm
   rw [if_pos (by omega),fN (g:=fun i=>if i<n then c else 0) (fun i hi=>by rw [if_pos (by omega),if_pos hi]),gI c n (aiZ _),ak3]
  ·rw [if_neg (by omega),gI c m (by omega)];omega
theorem A1 {f g:Nat→Nat}: ∀ {n},(∀i,i<n→f i≤g i)→eR f n≤eR g n
 |0,h=>aiZ _
 |n+1,h=>by have:=A1 (n:=n) (fun i hi=>h i (by omega));have:=h n (by omega);rw [eR,eR];omega
theorem Dp {L:List Pk} (h:Qh L): ∀k,Qh (dK L k)
 |0=>h
 |k+1=>wQ _ _ h (A0 _ (Dp h k))
structure Yw (cs:List Nat) (k N:Nat) (m:Nat):Prop where
 le:m≤cs.length
 zero: ∀i,m≤i→gT ((dK (bJ cs) k).take N) i=0
 cnt: ∀i,gT ((dK (bJ cs) k).take N) i≤k+1
 sum:eR (fun i=>2 ^ (k+1) - 2 ^ (k+1 - gT ((dK (bJ cs) k).take N) i)) cs.length=N*2 ^ k
 mem: ∀x∈(bJ cs).take m,x∈(dK (bJ cs) k).take N
theorem Um {cs:List Nat} (hs:cs.Pairwise (· ≤ ·)): ∀ (k N:Nat),N≤(dK (bJ cs) k).length→∃m,Yw cs k N m
 |0,N,h=>by
  have hN:N≤cs.length:=by rwa [dK,cB] at h
  refine⟨N,⟨hN,fun i hi=>?_,fun i=>?_,?_,fun x hx=>hx⟩⟩
  ·rw [dK,lC hN,if_neg (by omega)]
  ·rw [dK,lC hN];split<;>omega
  ·rw [fN (g:=fun i=>if i<N then 1 else 0) (fun i hi=>by rw [dK,lC hN];split<;>rfl),gI 1 N hN]
 |k+1,N,h=>by
  have hL:=Hb hs;have hM:=Dp hL k;rw [dK,oP] at h;obtain⟨m,p,h1,h2,h3,h4,h5,h6⟩:=tM (bJ cs) (cA (dK (bJ cs) k)) N hL h;rw [jF] at h3;obtain⟨m',t⟩:=Um hs k (2*p) (by omega);have hc: ∀i,gT ((dK (bJ cs) (k+1)).take N) i= (if i<m then 1 else 0)+gT ((dK (bJ cs) k).take (2*p)) i:=by
   intro i;rw [dK,h4 i,lC (by rwa [cB] at h2),xS _ p (by omega)]
  rw [cB] at h2;have Vd:m' ≤m∨p=0:=by
   by_cases hp:p=0
   ·exact .inr hp
   refine .inl (Nat.le_of_not_lt fun cL=>?_);obtain⟨q,rfl⟩: ∃q,p=q+1:= ⟨p - 1,by omega⟩;have hm:m<cs.length:=by have:=t.le;omega
   have fH: (cs[m],[m])∈(bJ cs).take m' :=by
    refine aj5 (i:=m) ?_;rw [alA cL,iP hm]
   obtain⟨y,hy,hle⟩:=xT _ q hM (by omega) _ (t.mem _ fH);have:=h5 (by omega) _ (iP hm) y (by simpa using hy);omega
  have hz: ∀i,m≤i→gT ((dK (bJ cs) k).take (2*p)) i=0:=by
   intro i hi;rcases Vd with h|h
   ·exact t.zero i (by omega)
   ·subst h;simp [lB]
  refine⟨m,⟨h2,fun i hi=>by rw [hc,if_neg (by omega),hz i hi],fun i=>?_,?_,fun x hx=>by rw [dK];exact h6 x hx⟩⟩
  ·rw [hc];have:=t.cnt i;split<;>omega
  ·rw [fN (g:=fun i=> (if i<m then 2 ^ (k+1) else 0)+ (2 ^ (k+1) - 2 ^ (k+1 - gT ((dK (bJ cs) k).take (2*p)) i))) (fun i hi=>?_),wR,gI _ _ h2,t.sum,show N=m+p by omega,aj2,ajI]
   ·rw [Nat.mul_right_comm 2 p,ajQ p (2 ^ k*2),ajQ (2*2 ^ k) p,ajQ (2 ^ k) 2,ajQ p]
   ·rw [hc]
    have h7:=t.cnt i;have h8:=hz i;generalize gT ((dK (bJ cs) k).take (2*p)) i=c at h7 h8 ⊢
    by_cases Lp:i<m
    ·rw [if_pos Lp,if_pos Lp,show k+1+1 - (1+c)=k+1 - c by omega]
     have:2 ^ (k+1 - c)≤2 ^ (k+1):=ajk (by omega) (by omega);rw [ajI 2 (k+1)];omega
    ·have h8:=h8 (by omega)
     subst h8;rw [if_neg Lp,if_neg Lp]
     simp
theorem Ni (K:Nat) {n:Nat} (h:n≤2 ^ (K+1)): ∀ {c:Nat→Nat},c 0=n→(∀j,c (j+1)= (c j+1) /2)→c K≤2:=by
 intro c h0 hs;have: ∀j,j≤K→c j≤2 ^ (K+1 - j):=by
  intro j
  induction j with
  |zero=>intro _;rw [h0];exact h
  |succ j ih=>
   intro hj;have h1:=ih (by omega);rw [hs j];have h2:2 ^ (K+1 - j)=2 ^ (K+1 - (j+1))*2:=by rw [show K+1 - j=K+1 - (j+1)+1 by omega,ajI]
   omega
 have:=this K (aiZ _)
 rwa [show K+1 - K=1 by omega] at this
theorem sc (L:List Pk) (hn:1≤L.length): ∀k,(dK L k).length≤2*L.length - 1∧L.length≤(dK L k).length
 |0=>by rw [dK];omega
 |k+1=>by have:=sc L hn k;rw [dK,oP,jF];omega
theorem vf (L:List Pk) (k:Nat) (hn:1≤L.length) (h:L.length≤2 ^ (k+1)):2*L.length - 2≤(dK L k).length:=by
 have:=Ni k h (c:=fun j=>2*L.length - (dK L j).length) (by show 2*L.length - (dK L 0).length=_;rw [dK];omega) (fun j=>by
  have:=sc L hn j;show 2*L.length - (dK L (j+1)).length= (2*L.length - (dK L j).length+1) /2;rw [dK,oP,jF];omega)
 have h2:=sc L hn k;have h3:2*L.length - (dK L k).length≤2:=this;omega
def yK (cs:List Nat) (k:Nat) (i:Nat):Nat:=gT ((dK (bJ cs) k).take (2*cs.length - 2)) i
theorem Kd {cs:List Nat} {k:Nat} (hs:cs.Pairwise (· ≤ ·)) (h2:2≤cs.length) (hk:cs.length≤2 ^ (k+1)):
  eR (fun i=>2 ^ (k+1 - yK cs k i)) cs.length=2 ^ (k+1)∧(∀i,i<cs.length→1≤yK cs k i∧yK cs k i≤k+1):=by
 have he:=vf (bJ cs) k (by rw [cB];omega) (by rw [cB];exact hk);rw [cB] at he;obtain⟨m,t⟩:=Um hs k (2*cs.length - 2) he;have wF:=t.sum;have VF: ∀i,yK cs k i≤k+1:=t.cnt
 change eR (fun i=>2 ^ (k+1) - 2 ^ (k+1 - yK cs k i)) cs.length=_ at wF
 have aa3:=wR (fun i=>2 ^ (k+1) - 2 ^ (k+1 - yK cs k i)) (fun i=>2 ^ (k+1 - yK cs k i)) cs.length;rw [fN (g:=fun i=>if i<cs.length then 2 ^ (k+1) else 0) (fun i hi=>by
  rw [if_pos hi];have:2 ^ (k+1 - yK cs k i)≤2 ^ (k+1):=ajk (by omega) (by omega);omega),gI _ _ (aiZ _),wF] at aa3
 have hK:eR (fun i=>2 ^ (k+1 - yK cs k i)) cs.length=2 ^ (k+1):=by
  have e1: (2*cs.length - 2)*2 ^ k=cs.length*2 ^ (k+1) - 2 ^ (k+1):=by
   rw [ajI,show 2*cs.length - 2= (cs.length - 1)*2 by omega,ak5,ajQ 2,Nat.sub_mul];omega
  have e2:2 ^ (k+1)≤cs.length*2 ^ (k+1):=Nat.le_mul_of_pos_left _ (by omega);omega
 refine⟨hK,fun i hi=> ⟨?_,VF i⟩⟩;refine Nat.pos_of_ne_zero fun h0=>?_;have Qb:eR (fun j=>if j=i then 2 ^ (k+1) else 1) cs.length≤eR (fun j=>2 ^ (k+1 - yK cs k j)) cs.length:=A1 fun j hj=>by
  by_cases e:j=i
  ·subst e;rw [if_pos rfl,h0];exact aiZ _
  ·rw [if_neg e];exact ak8 _
 have kG: ∀n,i<n→eR (fun j=>if j=i then 2 ^ (k+1) else 1) n=2 ^ (k+1)+ (n - 1):=by
  intro n
  induction n with
  |zero=>intro h;omega
  |succ n ih=>
   intro fH;rw [eR]
   by_cases e:n=i
   ·subst e
    rw [if_pos rfl,fN (g:=fun j=>if j<n then 1 else 0) (fun j hj=>by rw [if_neg (by omega),if_pos hj]),gI _ _ (aiZ _)];omega
   ·rw [if_neg e,ih (by omega)];omega
 rw [kG _ hi] at Qb;omega
end
section
variable {H H0 H' :ag} {R:Value→ag→Prop} {v:Value} {L:List It}
theorem _root_.Go.Vc.au.merge {i j k:It} (o:au H0 H (i::j::L)) (hh:i.holds H→j.holds H→k.holds H) (hf: ∀b,k.dF b→i.dF b∨j.dF b):au H0 H (k::L):=by
 have h1:=ajs.1 o.FH;have h2:=ajs.1 h1.2;refine⟨o.ext,fun x hx=>?_,fun x hx b hb=>?_,ajs.2 ⟨fun x hx b hb=>?_,h2.2⟩⟩
 ·rcases ajd.1 hx with rfl|hx
  ·exact hh (o.ok _ (by simp)) (o.ok _ (by simp))
  ·exact o.ok x (by simp [hx])
 ·rcases ajd.1 hx with rfl|hx
  ·rcases hf b hb with h|h
   ·exact o.new i (by simp) b h
   ·exact o.new j (by simp) b h
  ·exact o.new x (by simp [hx]) b hb
 ·rcases hf b hb with h|h
  ·exact h1.1 x (by simp [hx]) b h
  ·exact h2.1 x hx b h
def iH (l:List Nat):List Value:=l.map fun i=> .int .i64 (i:Nat)
theorem dR (l:List Nat): (iH l).length=l.length:=by simp [iH]
theorem He (a b:List Nat):iH (a++b)=iH a++iH b:=by simp [iH]
def pf (H:ag):List Pk→List Value→Prop
 | [],cs=>cs= []
 |p::l,cs=> ∃sv r,cs= .int .i64 (p.1:Int)::sv::r∧(aS sv=true∧Sl H sv 1 (iH p.2)∧p.2≠ [])∧pf H l r
def Xj (cs:List Value) (k:Nat):Prop:= ∃sv∈cs,aY sv=some k
theorem pf.frame: ∀ {l:List Pk} {cs:List Value},pf H l cs→(∀k,Xj cs k→H'[k]? =H[k]?)→pf H' l cs
 | [],cs,h,hf=>h
 |p::l,cs,⟨sv,r,h1,⟨h2,h3,h4⟩,h5⟩,hf=>by
  subst h1;exact⟨sv,r,rfl,⟨h2,h3.frame fun k hk=>hf k ⟨sv,by simp,hk⟩,h4⟩,h5.frame fun k ⟨s,hs,hk⟩=>hf k ⟨s,by simp [hs],hk⟩⟩
theorem pf.lt {k:Nat}: ∀ {l:List Pk} {cs:List Value},pf H l cs→Xj cs k→k<H.size
 | [],cs,h,hk=>by subst h;obtain⟨_,hs,_⟩:=hk;simp at hs
 |p::l,cs,⟨sv,r,h1,⟨h2,h3,h4⟩,h5⟩,⟨s,hs,hk⟩=>by
  subst h1;rcases ajd.1 hs with rfl|hs
  ·simp [aY] at hk
  ·rcases ajd.1 hs with rfl|hs
   ·exact h3.lt (by intro h;exact h4 (by simpa [iH] using h)) hk
   ·exact h5.lt ⟨s,hs,hk⟩
theorem pf.ext {l:List Pk} {cs:List Value} (h:pf H l cs) (hx:Ext H H'):pf H' l cs:=h.frame fun k hk=>hx.get k (h.lt hk)
theorem pf.len: ∀ {l:List Pk} {cs:List Value},pf H l cs→cs.length=l.length*2
 | [],cs,h=>by subst h;rfl
 |p::l,cs,⟨sv,r,h1,_,h5⟩=>by subst h1;simp only [ai6,h5.len];omega
theorem pf.one: ∀ {l:List Pk} {cs:List Value},pf H l cs→cs.all aS=true
 | [],cs,h=>by subst h;rfl
 |p::l,cs,⟨sv,r,h1,⟨h2,_⟩,h5⟩=>by subst h1;exact all_cons rfl (all_cons h2 h5.one)
theorem pf.app: ∀ {l m:List Pk} {cs ds:List Value},pf H l cs→pf H m ds→pf H (l++m) (cs++ds)
 | [],m,cs,ds,h,k=>by subst h;exact k
 |p::l,m,cs,ds,⟨sv,r,h1,h2,h5⟩,k=>by subst h1;exact⟨sv,r++ds,rfl,h2,h5.app k⟩
theorem pf.at_: ∀ {l:List Pk} {cs:List Value} {i:Nat} {p:Pk},pf H l cs→l[i]? =some p→∃sv,cs[i*2]? =some (.int .i64 (p.1:Int))∧cs[i*2+1]? =some sv∧(cs.drop (i*2)).take 2= [.int .i64 (p.1:Int),sv]∧aS sv=true∧Sl H sv 1 (iH p.2)∧p.2≠ []
 | [],cs,i,p,h,hi=>by simp at hi
 |q::l,cs,0,p,⟨sv,r,h1,h2,h5⟩,hi=>by
  simp at hi;subst hi;subst h1
  exact⟨sv,rfl,rfl,rfl,h2⟩
 |q::l,cs,i+1,p,⟨sv,r,h1,h2,h5⟩,hi=>by
  subst h1;obtain⟨s,g1,g2,g3,g4⟩:=h5.at_ (by simpa using hi);refine⟨s,?_,?_,?_,g4⟩
  ·rw [show (i+1)*2=i*2+1+1 by omega];simpa using g1
  ·rw [show (i+1)*2+1= (i*2+1)+1+1 by omega];simpa using g2
  ·rw [show (i+1)*2=i*2+1+1 by omega];simpa using g3
theorem pf.take: ∀ {l:List Pk} {cs:List Value} (n:Nat),pf H l cs→pf H (l.take n) (cs.take (n*2))
 |l,cs,0,h=>by rw [ak7];exact rfl
 | [],cs,n+1,h=>by subst h;exact rfl
 |p::l,cs,n+1,⟨sv,r,h1,h2,h5⟩=>by
  subst h1;rw [show (n+1)*2=n*2+1+1 by omega];exact⟨sv,r.take (n*2),rfl,h2,h5.take n⟩
theorem pf.drop: ∀ {l:List Pk} {cs:List Value} (n:Nat),pf H l cs→pf H (l.drop n) (cs.drop (n*2))
 |l,cs,0,h=>by rw [ak7];exact h
 | [],cs,n+1,h=>by subst h;exact rfl
 |p::l,cs,n+1,⟨sv,r,h1,h2,h5⟩=>by
  subst h1;rw [show (n+1)*2=n*2+1+1 by omega];exact h5.drop n
def qw (l:List Pk) (cs:List Value):eX where
 dF:=Xj cs
 holds H:=pf H l cs
 frame h hf:=h.frame hf
 lt h hk:=h.lt hk
theorem Dq: ∀ {l:List Pk} {k:Nat} {a b:Pk},l[2*k]? =some a→l[2*k+1]? =some b→(cA l)[k]? =some (a.1+b.1,a.2++b.2)
 | [],k,a,b,h1,h2=>by simp at h1
 | [_],0,a,b,h1,h2=>by simp at h2
 | [_],k+1,a,b,h1,h2=>by simp at h2
 |c::d::l,0,a,b,h1,h2=>by simp at h1 h2;subst h1;subst h2;simp [cA]
 |c::d::l,k+1,a,b,h1,h2=>by
  rw [cA,aju];exact Dq (by rw [show 2* (k+1)=2*k+1+1 by omega] at h1;simpa using h1) (by rw [show 2* (k+1)+1= (2*k+1)+1+1 by omega] at h2;simpa using h2)
theorem Ke {l:List Pk} {cs:List Value} (hv:Sl H v 2 cs) (hp:pf H l cs) (hlen:l.length≤600) (hc: ∀p∈l,p.1≤1152921504606846976∧p.2.length≤32768)
  (h: ∀y Gi H',au H H' [.sl y 2 Gi,.aE (qw (cA l) Gi)]→R y H'):ab 215 #[v] H R:=by
 have dg:=hp.len;refine GB.vc _ _ _ ?_;refine⟨fun y i H' => ∃ (k:Nat) (co:List Value),i= .int .i64 ((2*k:Nat):Int)∧2*k≤l.length∧au H H' [.sl y 2 co,.aE (qw ((cA l).take k) co)],fun _ i _=>match i with| .int _ x=> (l.length - x).toNat|_=>0,⟨0,[],rfl,by omega,?_⟩,?_⟩
 ·exact(au.start.add (Ext.refl _) (i:= .aE (qw [] [])) rfl (by rintro k ⟨_,hs,_⟩;simp at hs)).add (Ext.refl _) ⟨by decide,.inl ⟨rfl,rfl⟩⟩ (by intro k hk;exact absurd hk (by simp [It.dF,aY]))
 rintro _ out _ H1 ⟨k,co,rfl,hk,o⟩;rw [ay,aJ];refine hv.df dg ?_;rw [aO];refine av (fun rN=>?_) (fun rN=>?_)
 ·have mB:2*k+1<l.length:=by omega
  obtain⟨a,ha⟩: ∃a,l[2*k]? =some a:= ⟨l[2*k],ai1 _⟩;obtain⟨b,hb⟩: ∃b,l[2*k+1]? =some b:= ⟨l[2*k+1],ai1 _⟩;obtain⟨sa,a1,a2,_,a3,a4,a5⟩:=hp.at_ ha;obtain⟨sb,b1,b2,_,b3,b4,b5⟩:=hp.at_ hb;have hca:=hc a (aj5 ha);have yL:=hc b (aj5 hb);have qL:=hv.ext o.ext;refine qL.gG dg fun p gH=>?_;rw [aiY] at gH;refine gH.field fun q1 Yx=>?_;refine Yx.load qL a1 ?_;rw [ay,aJ];refine qL.gG dg fun p2 um=>?_;rw [show (((2*k:Nat):Int)+1).toNat=2*k+1 by omega] at um;refine um.field fun q2 zg=>?_;refine zg.load qL b1 ?_;rw [ay,aJ];refine qL.gG dg fun p3 Qi=>?_;rw [aiY] at Qi;refine Qi.field fun q3 hq3=>?_;refine hq3.load qL a2 ?_;rw [ay,aJ];refine qL.gG dg fun p4 VG=>?_;rw [show (((2*k:Nat):Int)+1).toNat=2*k+1 by omega] at VG;refine VG.field fun q4 ZM=>?_;refine ZM.load qL b2 ?_;refine o.build (sz:=1) (vs:= [sa,sb]) (by decide) (fun K' hK=>dU a3 b3 hK) rfl fun y H2 o2=>?_;have B6:=hv.ext o2.ext;refine⟨Yx.load B6 a1 rfl,zg.load B6 b1 rfl,?_⟩;refine xR (svs:= [sa,sb]) (ls:= [iH a.2,iH b.2]) (o2.cf) (by simp) rfl (fun j hj=>?_) ?_ ?_ fun z H3 c3=>?_
  ·match j,hj with
   |0,_=>exact⟨a4.ext o2.ext,_,(ai5 _).symm⟩
   |1,_=>exact⟨b4.ext o2.ext,_,(ai5 _).symm⟩
  ·simp [iH,aS]
  ·simp only [aj_,alC,aiV,dR,ai_];omega
  have o3:=o2.call c3;have Un:=hv.ext o3.ext;refine⟨Yx.load Un a1 rfl,zg.load Un b1 rfl,?_⟩;have JE:= (o3.cf (v:=z)).one;have R_:=o3.cf (v:=z);refine dU rfl JE ?_;have e1: ([iH a.2,iH b.2]:List (List Value)).flatten=iH (a.2++b.2):=by rw [He];simp
  rw [e1] at o3 R_;have o4:=o3.arr (L' := [.aE (qw ((cA l).take k) co),.sl z 1 (iH (a.2++b.2)),.sl out 2 co]) (by repeat(first|exact qN.nil|exact dD.here|apply qN.cons|apply dD.there));have hlk: ((cA l).take k).length=k:=by rw [ai2,jF];omega
  have zN:co.length=k*2:=by
   have:= (o4.dS (T:=qw ((cA l).take k) co):pf _ _ _).len
   rwa [hlk] at this
  have o5:au H H3 [.aE (qw ((cA l).take (k+1)) (co++ [.int .i64 ((a.1+b.1:Nat):Int),z])),.sl out 2 co]:=o4.merge (fun hT hS=>by
    have hT:pf H3 ((cA l).take k) co:=hT;show pf H3 _ _;rw [ajr,Dq ha hb];exact hT.app ⟨z,[],rfl,⟨JE,R_,by simp [a5]⟩,rfl⟩) (fun b' ⟨s,hs,iU⟩=>by
    rcases ajo.1 hs with hs|hs
    ·exact .inl ⟨s,hs,iU⟩
    ·simp at hs
     rcases hs with rfl|rfl
     ·simp [aY] at iU
     ·exact .inr iU)
  refine o5.cy (sz:=2) (by decide) rfl rfl fun y2 H4 o6=>?_;refine o6.append (sz:=2) (v:=out) (x:=y2) (n:=k) (m:=1) (by repeat(first|exact dD.here|apply dD.there)) rfl (o6.cf) zN rfl (all_cons rfl (all_cons JE rfl)) (by omega) fun v2 H5 o7=>?_;rw [ay,aJ];refine⟨⟨k+1,co++ [.int .i64 ((a.1+b.1:Nat):Int),z],by rw [show ((2*k:Nat):Int)+2= ((2* (k+1):Nat):Int) by omega],by omega,?_⟩,by show (_:Int).toNat< (_:Int).toNat;omega⟩;have o8:=o7.arr (L' := [.sl v2 2 (co++ [.int .i64 ((a.1:Int)+ (b.1:Int)),z]),.aE (qw ((cA l).take (k+1)) (co++ [.int .i64 ((a.1+b.1:Nat):Int),z]))]) (by repeat(first|exact qN.nil|exact dD.here|apply qN.cons|apply dD.there));exact o8
 ·rw [ajf (by rw [jF];omega)] at o
  exact h _ _ _ o
theorem Hf {va vb:Value} {A B:List Pk} {ca cb:List Value} (ha:Sl H va 2 ca) (hb:Sl H vb 2 cb) (pa:pf H A ca) (pb:pf H B cb) (VH:A.length≤300) (yk:B.length≤300) (hc: ∀p,p∈A∨p∈B→p.1≤2305843009213693952)
  (h: ∀y Gi H',au H H' [.sl y 2 Gi]→pf H (kf A B) Gi →(∀s∈Gi,s∈ca∨s∈cb)→R y H'):ab 214 #[va,vb] H R:=by
 refine Ew.vc _ _ _ _ ?_;refine⟨fun xa xb y H' => ∃ (i j:Nat) (O:List Pk) (co:List Value),i≤A.length∧j≤B.length∧Sl H xa 2 (ca.drop (i*2))∧Sl H xb 2 (cb.drop (j*2))∧au H H' [.sl y 2 co]∧pf H O co∧O.length=i+j∧(∀s∈co,s∈ca∨s∈cb)∧O++kf (A.drop i) (B.drop j)=kf A B,
  fun xa xb _ _=> (jc xa).getD 0+ (jc xb).getD 0,
  ⟨0,0,[],[],by omega,by omega,ha,hb,au.start.add (Ext.refl _) ⟨by decide,.inl ⟨rfl,rfl⟩⟩ (by intro k hk;exact absurd hk (by simp [It.dF,aY])),rfl,rfl,by simp,rfl⟩,?_⟩
 rintro _ xa xb out H1 ⟨i,j,O,co,hi,hj,sa,sb,o,po,Mp,fH,hj0⟩;have ZN :=pa.drop i;have ZO :=pb.drop j;have Kf : (ca.drop (i*2)).length= (A.length - i)*2:=by rw [ZN.len,ai4]
 have Kg : (cb.drop (j*2)).length= (B.length - j)*2:=by rw [ZO.len,ai4]
 have uv: ∀ (S:List Value) (n:Nat) (s:Value),s∈S.drop n→s∈S:=fun S n s h=>amH h;refine sa.df Kf ?_;rw [bc];have zN:co.length= (i+j)*2:=by rw [po.len,Mp]
 have A2: ∀H2,Ext H1 H2→H1=H2→(i=A.length∨j=B.length)→aU H1 291 3 [(.slice none 0 0),(.slice none 0 0),(.slice none 0 0)] [(0,1,out),(1,1,xa),(2,1,xb)] fun x42 S8=>ab 248 #[x42] S8 fun x43 VI=>R x43 VI:=by
  intro H2 _ _ hor;have ja:= (o.cf (v:=out)).one;refine o.build (sz:=1) (vs:= [out,xa,xb]) (by decide) (fun K' hK=>dL ja sa.one sb.one hK) rfl fun y H3 o2=>?_;refine EO (svs:= [out,xa,xb]) (ls:= [co,ca.drop (i*2),cb.drop (j*2)]) (o2.cf) (by simp) rfl (fun k hk=>?_) ?_ ?_ fun z H4 c4=>?_
  ·match k,hk with
   |0,_=>exact⟨o2.cf,_,zN⟩
   |1,_=>exact⟨sa.ext o2.ext,_,Kf⟩
   |2,_=>exact⟨sb.ext o2.ext,_,Kg⟩
  ·simp only [aj_,alC,List.all_append,po.one,ZN.one,ZO.one,List.all_nil,Bool.and_self]
  ·simp only [aj_,alC,aiV,zN,Kf,Kg,ai_];omega
  have o4:= (o2.call c4).arr (L' := [.sl z 2 ([co,ca.drop (i*2),cb.drop (j*2)]:List (List Value)).flatten]) (by repeat(first|exact qN.nil|exact dD.here|apply qN.cons|apply dD.there));refine h _ _ _ o4 ?_ ?_
  ·rw [←hj0]
   simp only [aj_,alC,ajl];refine po.app ?_;rcases hor with e|e
   ·subst e
    rw [ajY,oO];have:ca.drop (A.length*2)= []:=akd (by rw [pa.len];omega);rw [this,aje];exact ZO
   ·subst e
    rw [ajY,kL];have:cb.drop (B.length*2)= []:=akd (by rw [pb.len];omega);rw [this,ajl];exact ZN
  ·intro s hs
   simp only [aj_,alC,ajl,ajo] at hs;rcases hs with hs|hs|hs
   ·exact fH s hs
   ·exact .inl (uv _ _ _ hs)
   ·exact .inr (uv _ _ _ hs)
 by_cases hia:i<A.length
 ·rw [nR]
  refine bs ?_;refine sb.df Kg ?_;rw [bc];intro _;refine av (fun rN=>?_) (fun rN=>A2 H1 (Ext.refl _) rfl (.inr (by omega)));have hjb:j<B.length:=by omega
  obtain⟨p,hp⟩: ∃p,(A.drop i)[0]? =some p:= ⟨A[i],by rw [ajW];exact ai1 hia⟩;obtain⟨q,hq⟩: ∃q,(B.drop j)[0]? =some q:= ⟨B[j],by rw [ajW];exact ai1 hjb⟩;obtain⟨s1,a1,a2,a3,a4,a5,a6⟩:=ZN.at_ hp;obtain⟨s2,b1,b2,b3,b4,b5,b6⟩:=ZO.at_ hq;have hAd:A.drop i=p::A.drop (i+1):=by
   rw [ajJ hia];rw [ajW,ai1 (by omega),ai8] at hp;rw [←hp];simp
  have hBd:B.drop j=q::B.drop (j+1):=by
   rw [ajJ hjb];rw [ajW,ai1 (by omega),ai8] at hq;rw [←hq];simp
  have hpc:=hc p (.inl (amH (aj5 hp)));have hqc:=hc q (.inr (amH (aj5 hq)));have ZP:=sa.ext o.ext;have ZQ:=sb.ext o.ext;refine ZP.at_ Kf (by decide) (by decide) (by omega) fun u1 US=>?_;refine US.field fun u2 UT=>?_;refine UT.load ZP a1 ?_;refine ZQ.at_ Kg (by decide) (by decide) (by omega) fun w1 Hg=>?_;refine Hg.field fun w2 Lo=>?_;refine Lo.load ZQ b1 ?_;rw [gZ];have aa6: ∀ {K:Value→Prop},(∀v',Sl H v' 2 (ca.drop ((i+1)*2))→K v')→gp 2 xa (some (.int .i64 1)) none K:=fun hK=>by
   refine sa.cut (by decide) (lo:=1) (hi:=A.length - i) Kf (by omega) (by omega) (fun v' lQ =>?_) (.inl rfl) (.inr ⟨rfl,rfl⟩);rw [ajK,ajf (by rw [ai4,pa.len];omega),show i*2+1*2= (i+1)*2 by omega] at lQ;exact hK v' lQ
  have aa7: ∀ {K:Value→Prop},(∀v',Sl H v' 2 (cb.drop ((j+1)*2))→K v')→gp 2 xb (some (.int .i64 1)) none K:=fun hK=>by
   refine sb.cut (by decide) (lo:=1) (hi:=B.length - j) Kg (by omega) (by omega) (fun v' lQ =>?_) (.inl rfl) (.inr ⟨rfl,rfl⟩);rw [ajK,ajf (by rw [ai4,pb.len];omega),show j*2+1*2= (j+1)*2 by omega] at lQ;exact hK v' lQ
  have VJ:=sa.jc Kf (by decide);have Sa:=sb.jc Kg (by decide);refine av (fun hle=>?_) (fun hle=>?_)
  ·refine ZP.at_ Kf (by decide) (by decide) (by omega) fun u3 hu3=>?_
   refine hu3.fZ ZP (ws:= [.int .i64 (p.1:Int),s1]) a3 rfl ?_;refine aa6 fun v' lQ =>?_;have B6:=lQ.jc (n:=A.length - (i+1)) (by rw [ai4,pa.len];omega) (by decide);refine o.cy (sz:=2) (by decide) rfl rfl fun y H2 o2=>?_;refine o2.append (sz:=2) (v:=out) (x:=y) (n:=i+j) (m:=1) (by repeat(first|exact dD.here|apply dD.there)) rfl (o2.cf) zN rfl (all_cons rfl (all_cons a4 rfl)) (by omega) fun v2 H3 o3=>?_;refine⟨⟨i+1,j,O++ [p],co++ [.int .i64 (p.1:Int),s1],by omega,by omega,lQ,sb,o3.h_,po.app ⟨s1,[],rfl,⟨a4,a5,a6⟩,rfl⟩,by rw [aiV,Mp,akc];omega,?_,?_⟩,?_⟩
   ·intro s hs
    rcases ajo.1 hs with hs|hs
    ·exact fH s hs
    ·simp at hs
     rcases hs with rfl|rfl
     ·exact .inl (uv _ _ _ (aj5 a1))
     ·exact .inl (uv _ _ _ (aj5 a2))
   ·rw [←hj0,hAd,hBd,kM,if_pos (by omega)];simp
   ·dsimp only;rw [VJ,Sa,B6];show A.length - (i+1)+ (B.length - j)<A.length - i+ (B.length - j);omega
  ·refine ZQ.at_ Kg (by decide) (by decide) (by omega) fun u3 hu3=>?_
   refine hu3.fZ ZQ (ws:= [.int .i64 (q.1:Int),s2]) b3 rfl ?_;refine aa7 fun v' lQ =>?_;have B6:=lQ.jc (n:=B.length - (j+1)) (by rw [ai4,pb.len];omega) (by decide);refine o.cy (sz:=2) (by decide) rfl rfl fun y H2 o2=>?_;refine o2.append (sz:=2) (v:=out) (x:=y) (n:=i+j) (m:=1) (by repeat(first|exact dD.here|apply dD.there)) rfl (o2.cf) zN rfl (all_cons rfl (all_cons b4 rfl)) (by omega) fun v2 H3 o3=>?_;refine⟨⟨i,j+1,O++ [q],co++ [.int .i64 (q.1:Int),s2],by omega,by omega,sa,lQ,o3.h_,po.app ⟨s2,[],rfl,⟨b4,b5,b6⟩,rfl⟩,by rw [aiV,Mp,akc];omega,?_,?_⟩,?_⟩
   ·intro s hs
    rcases ajo.1 hs with hs|hs
    ·exact fH s hs
    ·simp at hs
     rcases hs with rfl|rfl
     ·exact .inr (uv _ _ _ (aj5 b1))
     ·exact .inr (uv _ _ _ (aj5 b2))
   ·rw [←hj0,hAd,hBd,kM,if_neg (by omega)];simp
   ·dsimp only;rw [VJ,Sa,B6];show A.length - i+ (B.length - (j+1))<A.length - i+ (B.length - j);omega
 ·rw [ei]
  rw [dO];intro _;rw [ak];exact A2 H1 (Ext.refl _) rfl (.inl (by omega))
end
section
variable {H H0 H' :ag} {R:Value→ag→Prop} {v:Value} {L:List It} {zs:List Int}
def sB (a b:Int):Int:=if a<b then -1 else if b<a then 1 else 0
def VK:List Int→Int
 | []=>0
 |z::l=>if z≠0 then z else VK l
def EP (zs:List Int) (a b:Nat):Int:=VK [sB (zs.getD a 0) (zs.getD b 0),sB (b:Nat) (a:Nat)]
theorem A3 [Go.Vc.Mode] {a:Int} (h:R (.bool false) H):ab 272 #[.int .i64 a] H R:=by
 refine cmp_isNaN_int.vc _ _ _ ?_;rw [fx,yZ];exact h
theorem vg [Go.Vc.Mode] {a b:Int} (h:R (.int .i64 (sB a b)) H):ab 247 #[.int .i64 a,.int .i64 b] H R:=by
 refine yG.vc _ _ _ _ ?_;refine A3 ?_;refine A3 ?_;rw [ak,ak,aO];unfold sB at h;refine av (fun h1=>?_) (fun h1=>?_)
 ·rw [if_pos h1] at h;exact h
 ·rw [if_neg h1] at h
  rw [bc];refine av (fun h2=>?_) (fun h2=>?_)
  ·rw [if_pos h2] at h;exact h
  ·rw [if_neg h2] at h;exact h
theorem Tk [Go.Vc.Mode] {l:List Int} (hs:Sl H v 1 (aP l)) (hl:l.length≤1000) (h:R (.int .i64 (VK l)) H):ab 246 #[v] H R:=by
 have dg: (aP l).length=l.length*1:=by rw [aV];omega
 refine JC.vc _ _ _ ?_;refine hs.df dg ?_;refine⟨fun i H' => ∃k:Nat,i= .int .i64 k∧k≤l.length∧VK l=VK (l.drop k)∧H=H',fun i _=>match i with| .int _ x=> (l.length - x).toNat|_=>0,⟨0,rfl,by omega,rfl,rfl⟩,?_⟩;rintro _ _ _ ⟨k,rfl,hk,ho,rfl⟩;rw [aO];refine av (fun hc=>?_) (fun hc=>?_)
 ·have e_:k<l.length:=by omega
  refine hs.gG dg fun p hp=>?_;refine hp.load hs (w:= .int .i64 l[k]) (by rw [aiY,ai5,cm e_]) ?_;rw [ajJ e_,VK] at ho;rw [fx];refine cN (fun hb=>?_) (fun hb=>?_)
  ·rw [if_pos (by simpa using hb)] at ho
   rw [ho] at h;exact h
  ·rw [if_neg (by simpa using hb)] at ho
   rw [ay,aJ];exact⟨⟨k+1,rfl,by omega,ho,rfl⟩,by show (_:Int).toNat< (_:Int).toNat;omega⟩
 ·rw [akd (by omega)] at ho
  rw [ho] at h;exact h
theorem Qj [Go.Vc.Mode] {cb:Nat} {cv:Value} {t:TypeId} {fr:Nat × Nat} {a b:Nat} (Tl:H[cb]? =some (.cells #[cv] t fr)) (hs:Sl H cv 1 (aP zs)) (ha:a<zs.length) (hb:b<zs.length) (h: ∀H',Ext H H' →R (.int .i64 (EP zs a b)) H'):
  ab 245 #[.int .i64 (a:Int),.int .i64 (b:Int),.pointer (some ⟨cb,0,none⟩)] H R:=by
 have dg: (aP zs).length=zs.length*1:=by rw [aV];omega
 have ga:zs.getD a 0=zs[a]:=by rw [ai3,ai1 ha];rfl
 have gb:zs.getD b 0=zs[b]:=by rw [ai3,ai1 hb];rfl
 have gY:cellAt H ⟨cb,0,none⟩=some cv:=by rw [dP Tl];rfl
 refine Co.vc _ _ _ _ _ ?_;rw [bo gY];refine hs.gG dg fun p hp=>?_;refine hp.load hs (w:= .int .i64 zs[a]) (by rw [aiY,ai5,cm ha]) ?_;rw [bo gY];refine hs.gG dg fun p hp=>?_;refine hp.load hs (w:= .int .i64 zs[b]) (by rw [aiY,ai5,cm hb]) ?_;refine vg ?_;refine vg ?_;refine(au.start (H:=H)).build (sz:=1) (vs:=aP [sB zs[a] zs[b],sB b a]) (by decide) (fun K' hK=>dU rfl rfl hK) rfl fun y H1 o=>?_;refine Tk (o.cf) (by simp) ?_;have:=h H1 o.ext;unfold EP at this
 rwa [ga,gb] at this
theorem Hh {a b:Nat}:EP zs a b<0↔zs.getD a 0<zs.getD b 0∨(zs.getD a 0=zs.getD b 0∧b<a):=by
 unfold EP;generalize zs.getD a 0=x;generalize zs.getD b 0=y;have e: ∀u w:Int,VK [u,w]=if u≠0 then u else if w≠0 then w else 0:=fun u w=>rfl
 rw [e];rcases Int.lt_trichotomy x y with h|h|h
 ·rw [show sB x y= -1 from if_pos h,if_pos (by decide)]
  exact⟨fun _=> .inl h,fun _=>by decide⟩
 ·subst h
  rw [show sB x x=0 by unfold sB;rw [if_neg (by omega),if_neg (by omega)],if_neg (by decide)];rcases Int.lt_trichotomy (b:Int) (a:Int) with h|h|h
  ·rw [show sB (b:Int) a= -1 from if_pos h,if_pos (by decide)]
   exact⟨fun _=> .inr ⟨rfl,by omega⟩,fun _=>by decide⟩
  ·rw [show sB (b:Int) a=0 by unfold sB;rw [if_neg (by omega),if_neg (by omega)],if_neg (by decide)]
   exact⟨fun h=>absurd h (by decide),fun h=>by omega⟩
  ·rw [show sB (b:Int) a=1 by unfold sB;rw [if_neg (by omega),if_pos h],if_pos (by decide)]
   exact⟨fun h=>absurd h (by decide),fun h=>by omega⟩
 ·rw [show sB x y=1 by unfold sB;rw [if_neg (by omega),if_pos h],if_pos (by decide)]
  exact⟨fun h=>absurd h (by decide),fun h=>by omega⟩
end
section
variable {H H0 H' :ag} {R:Value→ag→Prop} {v:Value} {L:List It} {zs:List Int}
def Kh (zs:List Int) (U:List Nat):Prop:=U.Pairwise fun a b=>zs.getD a 0<zs.getD b 0∨(zs.getD a 0=zs.getD b 0∧b≤a)
theorem Qk {g:Nat} (hg:Tryz.wc.f 15=g) (h:R (.int .i64 0) H):ab g #[.int .u64 0] H R:=by
 subst hg;intro w hw;have h1:=Any.bits_Len (SlLaysF0.n15.bits (P:=Tryz.prog) (ρ:=Tryz.wc) {Tryz.Uf with}) 0 w (by decide) (by decide);exact h1.mono fun e w' ⟨he,nP⟩=> ⟨_,he,by subst nP;exact cq.refl _,by subst nP;rw [hw];exact h⟩
theorem Nj {f:Value} (hv:Sl H v 1 []) (h:R (.tuple #[]) H):ab 244 #[v,f] H R:=by
 refine mZ.vc _ _ _ _ ?_;refine hv.len (n:=0) rfl (by decide) ?_;rw [cP];refine Qk rfl ?_;refine nb.vc _ _ _ _ _ _ _ ?_;refine⟨fun a b _ _ _ H' =>a= .int .i64 0∧b= .int .i64 0∧H=H',fun _ _ _ _ _ _=>0,⟨rfl,rfl,rfl⟩,?_⟩;rintro _ _ _ _ _ _ _ ⟨rfl,rfl,rfl⟩;rw [bq,ff (by decide) (by decide),gZ,decide_eq_true (by decide),aL];refine kq.vc _ _ _ _ _ _ ?_;rw [ay,ff (by decide) (by decide)];refine⟨fun i H' =>i= .int .i64 1∧H=H',fun _ _=>0,⟨rfl,rfl⟩,?_⟩;rintro _ _ _ ⟨rfl,rfl⟩;rw [aO,qO,ak];exact h
theorem Tm (n:Nat):Go.Sort.SWO (ltOf fun a b:Fin n=>EP zs a.val b.val):=by
 have e: ∀a b:Fin n,ltOf (fun a b:Fin n=>EP zs a.val b.val) a b=decide (zs.getD a.val 0<zs.getD b.val 0∨(zs.getD a.val 0=zs.getD b.val 0∧b.val<a.val)):=fun a b=>by
  unfold ltOf;rw [decide_eq_decide];exact Hh
 constructor
 ·intro x;rw [e];simp
 ·intro x y z h1 h2;rw [e] at*;simp only [decide_eq_true_eq] at*;omega
 ·intro x y z h1 h2;rw [e] at*;simp only [decide_eq_false_iff_not] at*;omega
theorem tN {α:Type} [Inhabited α] {enc:α→Value} {w:World} {b m:Nat} {dk:Array α} {os:Array Obj} {k:Nat} (hk:k<w.heap.size) (hb:k≠b): (sortWorld enc w b 0 m dk os).heap[k]? =w.heap[k]? :=by
 unfold sortWorld;rw [Go.Sort.heap_grow_old _ _ (by rw [Go.Sort.size_putRow];exact hk)];show ((w.heap).modify b _)[k]? =_;rw [ak4,if_neg (akk hb)]
theorem Nk {cb:Nat} {cv:Value} {t:TypeId} {U:List Nat} (o:au H0 H (.sl v 1 (iH U):: .box cb [cv] t:: [])) (hs:Sl H0 cv 1 (aP zs)) (hU: ∀u∈U,u<zs.length) (hlen:zs.length≤288) (hul:U.length≤288)
  (h: ∀U' H',U'.Perm U→Kh zs U' →au H0 H' (.sl v 1 (iH U'):: .box cb [cv] t:: [])→R (.tuple #[]) H'):
  ab 244 #[v,.func (.func 245) #[] #[.pointer (some ⟨cb,0,none⟩)]] H R:=by
 by_cases hU0:U= []
 ·subst hU0
  exact Nj (o.cf (v:=v)) (h [] H (alL _) List.Pairwise.nil o)
 have hn:0<zs.length:=by
  obtain⟨u,hu⟩:=List.exists_mem_of_ne_nil U hU0;have:=hU u hu;omega
 haveI:Inhabited (Fin zs.length):= ⟨⟨0,hn⟩⟩
 obtain⟨V,hV⟩: ∃V:List (Fin zs.length),V.map (·.val)=U:= ⟨U.pmap (fun u h=> ⟨u,h⟩) hU,by rw [List.map_pmap];simp⟩;have ZR:V.length=U.length:=by rw [←hV,ajh]
 intro w hw;subst hw;rcases o.own (v:=v) (sz:=1) (l:=iH U) (by repeat(first|exact aiX|apply aiW)) with ⟨_,h0⟩ | ⟨b,n,cap,sp,rfl,⟨t2,fr,hb,hf⟩,hl,hc⟩
 ·exact absurd (by simpa [iH] using h0) hU0
 have yV:b<w.heap.size:=bz hb;have hnU:n=U.length:=by rw [dR] at hl;omega
 subst hnU;have yL:=o.j8 (b:=cb) (cs:= [cv]) (t:=t);have aba:cb<w.heap.size:=bz yL;have cQ:cb≠b:=by
  have:= (ajs.1 o.FH).1 (.box cb [cv] t) (by simp) b rfl;exact this
 have hbn:H0.size≤b:=o.new (.sl (.slice (some ⟨b,0,none⟩) U.length cap) 1 (iH U)) (by simp) b rfl;have hsw:=hs.ext o.ext;have Nl:zs≠ []:=by intro e;rw [e] at hn;simp at hn
 have Xk: ∀k,aY cv=some k→k<w.heap.size∧k≠b:=fun k hk=>by
  have:=hs.lt (by simpa [aP] using Nl) hk;have:=o.ext.size;omega
 have eg: ∀args w,(callFunc 245 args).run Tryz.prog w= .ok (.enter 245 args) w:=enters_of Tryz.func245 (by kernel_rfl) rfl;have Ae: (iH U).length≤cap:=by rw [aiV] at hc;omega
 have hH:Go.Sort.Holds (fun i:Fin zs.length=>Value.int .i64 ((i.val:Nat):Int)) w b 0 V.toArray:=by
  intro j hj;have hj1:j<V.length:=by simpa using hj
  have hjU:j<U.length:=by omega
  rw [ajb];have gY: (iH U++sp)[j]? =some (.int .i64 ((V[j].val:Nat):Int)):=by
   rw [ajL (by rw [dR];exact hjU),←hV]
   simp [iH,hj1]
  constructor
  ·unfold World.cell?
   rw [hb];simp only [Option.isSome_none,akg,if_false,ajC];rw [gY,getElem!_pos V.toArray j hj]
   simp
  ·unfold World.frozen?
   rw [hb];obtain⟨lo,hi⟩:=fr;rcases hf with hf|hf
   ·cases hf;simp
   ·simp only [dR] at Ae
    have: ¬lo≤j:=by simp only at hf;omega
    simp [this]
 have abb:CmpLays1 Tryz.prog 245 #[.pointer (some ⟨cb,0,none⟩)] (fun i:Fin zs.length=>Value.int .i64 ((i.val:Nat):Int)) (fun a b=>EP zs a.val b.val) b 0 V.toArray.size w:=by
  intro m os dk hdk x y;have Tl: (sortWorld (fun i:Fin zs.length=>Value.int .i64 ((i.val:Nat):Int)) w b 0 m dk os).heap[cb]? =some (.cells #[cv] t (0,0)):=by rw [tN aba cQ];exact yL
  have hsc:Sl (sortWorld (fun i:Fin zs.length=>Value.int .i64 ((i.val:Nat):Int)) w b 0 m dk os).heap cv 1 (aP zs):=hsw.frame fun k hk=>tN (Xk k hk).1 (Xk k hk).2;generalize sortWorld (fun i:Fin zs.length=>Value.int .i64 ((i.val:Nat):Int)) w b 0 m dk os=W at Tl hsc ⊢
  letI:Go.Vc.Mode:= ⟨True⟩
  have:=Qj (R:=fun v H' =>v= .int .i64 (EP zs x.val y.val)∧Ext W.heap H') Tl hsc x.isLt y.isLt (fun H' hx=> ⟨rfl,hx⟩) W rfl;refine this.mono fun e w' ⟨v',he,hr,lQ,hx⟩=> ⟨by rw [he,lQ],w'.drawn - W.drawn,w'.heap.extract W.heap.size w'.heap.size,?_⟩;have Uo:w'.heap=W.heap++w'.heap.extract W.heap.size w'.heap.size:=by
   refine akP fun k=>?_;rw [Array.getElem?_append]
   split
   ·rename_i hk;exact hx.get k hk
   ·rename_i hk
    rw [Array.getElem?_extract];have:=hx.size
    split
    ·congr 1;omega
    ·rename_i h2;rw [akB (by omega)]
  have hdr:=hr.drawn trivial;obtain⟨a1,a2,a3,a4,a5⟩:=w';obtain⟨b1,b2,b3,b4,b5⟩:=W;have h1:=hr.os;have h2:=hr.output;have h3:=hr.tape;simp only at h1 h2 h3 Uo hdr;subst h1 h2 h3;unfold Go.Sort.grow World.drewN;simp only [World.mk.injEq,and_true,true_and];exact⟨Uo,by omega⟩
 have main:=Any.slices_SortFunc Tryz.Uf (fun i:Fin zs.length=>Value.int .i64 ((i.val:Nat):Int)) (fun _=>rfl) (fun a b=>EP zs a.val b.val) (Tm _) 245 #[.pointer (some ⟨cb,0,none⟩)] b 0 cap V.toArray w eg abb hH yV (by simp;omega);have qm:V.toArray.size=U.length:=by simpa using ZR
 rw [qm] at main;refine main.mono fun e w' ⟨he,d',m,os,hp,Nn,nP⟩=> ⟨_,he,?_,?_⟩
 ·subst nP;exact⟨rfl,rfl,rfl,fun _=>ali _ _⟩
 obtain⟨gH,_,um⟩:=hp;have IJ :d'.size=U.length:=by rw [gH];simpa using ZR
 have Yy:d'.toList.Perm V:=by
  have e1:d'.extract 0 U.length=d' :=by rw [←IJ];simp
  have e2:V.toArray.extract 0 U.length=V.toArray:=by rw [←qm];simp
  rw [e1,e2] at um
  simpa using um
 have Ql: (d'.toList.map (·.val)).length=U.length:=by simp [IJ]
 refine h (d'.toList.map (·.val)) _ (by rw [←hV];exact Yy.map _) ?_ ?_
 ·unfold Kh
  rw [amb];intro i j hi hj Lq;have Lp:i<d'.size:=by simpa using hi
  have R4:j<d'.size:=by simpa using hj
  have:=Nn i j (ajj _) Lq (by omega);rw [getElem!_pos d' i Lp,getElem!_pos d' j R4] at this;unfold ltOf at this;rw [decide_eq_false_iff_not,Hh] at this;simp only [akL,Array.getElem_toList];omega
 ·subst nP
  refine o.jC cx.here ?_ (fun k hk abc=>tN hk (fun e=>abc (by rw [e];rfl))) ⟨by decide,.inr ⟨b,U.length,cap,sp,rfl,⟨⟨t2,fr,?_,hf⟩,by rw [dR,Ql];omega,by rw [aiV,dR,Ql,←dR U,←aiV];exact hc⟩⟩⟩ (fun k hk=> .inl hk)
  ·unfold sortWorld Go.Sort.grow
   rw [Array.size_append,Go.Sort.size_putRow];exact ali _ _
  ·unfold sortWorld
   rw [Go.Sort.heap_grow_old _ _ (by rw [Go.Sort.size_putRow];exact yV)];show ((w.heap).modify b _)[b]? =_;rw [ak4,if_pos rfl,hb];show some (Obj.cells (Go.Sort.putCells _ 0 d' (iH U++sp).toArray) t2 fr)=_
   congr 2
   refine akP fun k=>?_;unfold Go.Sort.putCells;rw [Array.getElem?_mapIdx,ajC,ajC]
   by_cases hk:k<U.length
   ·rw [ajL (by rw [dR];exact hk),ajL (by rw [dR,Ql];exact hk)]
    have CR:k<d'.size:=by omega
    rw [ai1 (by rw [dR];exact hk)];simp only [ak2,ajj,true_and,ajb,ajO];rw [if_pos CR,getElem!_pos d' k CR]
    simp [iH,CR]
   ·rw [ajP (by rw [dR];omega),ajP (by rw [dR,Ql];omega),dR,dR,Ql]
    cases sp[k - U.length]? with
    |none=>rfl
    |some x=>
     simp only [ak2];rw [if_neg (by omega)]
end
section
variable {H H0 H' :ag} {R:Value→ag→Prop} {v:Value} {L:List It} {zs:List Int}
def ic (zs:List Int) (n:Nat):List Nat:= (List.range n).filter fun i=>decide (0<zs.getD i 0)
theorem tO (zs:List Int) (n:Nat):ic zs (n+1)=ic zs n++ (if 0<zs.getD n 0 then [n] else []):=by
 unfold ic;rw [akF,al8]
 congr 1
 by_cases h:0<zs.getD n 0
 ·rw [if_pos h,List.filter_cons_of_pos (by simpa using h)];rfl
 ·rw [if_neg h,List.filter_cons_of_neg (by simpa using h)];rfl
theorem jR (zs:List Int): ∀n,(ic zs n).length≤n
 |0=>by simp [ic]
 |n+1=>by rw [tO,aiV];have:=jR zs n;split<;>simp<;>omega
theorem kO {zs:List Int} {n i:Nat}:i∈ic zs n↔i<n∧0<zs.getD i 0:=by simp [ic]
theorem Dr (hs:Sl H v 1 (aP zs)) (hlen:zs.length≤288) (h: ∀y U H',U.Perm (ic zs zs.length)→Kh zs U→au H H' [.sl y 1 (iH U)]→R y H'):ab 213 #[v] H R:=by
 have dg: (aP zs).length=zs.length*1:=by rw [aV];omega
 refine JB.vc _ _ _ ?_;refine(au.start (H:=H)).box fun cb H1 o yL=>?_;have h1v:=hs.one;rw [cells_one h1v] at o;refine o.aw (b:=cb) (f:=0) ?_;refine hs.df dg ?_;refine⟨fun y i H' => ∃k:Nat,i= .int .i64 k∧k≤zs.length∧au H H' (.sl y 1 (iH (ic zs k)):: .box cb [v] 59:: []),fun _ i _=>match i with| .int _ x=> (zs.length - x).toNat|_=>0,⟨0,rfl,by omega,?_⟩,?_⟩
 ·exact o.add (Ext.refl _) ⟨by decide,.inl ⟨rfl,rfl⟩⟩ (by intro k hk;exact absurd hk (by simp [It.dF,aY]))
 rintro _ y _ H2 ⟨k,rfl,hk,o⟩;rw [aO];refine av (fun hc=>?_) (fun hc=>?_)
 ·have e_:k<zs.length:=by omega
  have gk:zs.getD k 0=zs[k]:=by rw [ai3,ai1 e_];rfl
  have hul:=jR zs k;refine hs.gG dg fun p hp=>?_;refine hp.load (hs.ext o.ext) (w:= .int .i64 zs[k]) (by rw [aiY,ai5,cm e_]) ?_;rw [bc];have hm: (9223372036854775807:Int) - 0=9223372036854775807:=rfl;refine av (fun hz=>?_) (fun hz=>?_)
  ·refine o.cy (sz:=1) (by decide) rfl rfl fun z H3 o2=>?_
   refine o2.app (v:=y) (x:=z) (by repeat(first|exact dD.here|apply dD.there)) (o2.cf) rfl (by rw [dR];show 2* (_+1)*8≤_;omega) fun y2 H4 o3=>?_;rw [ay,aJ];refine⟨⟨k+1,by rfl,by omega,?_⟩,by show (_:Int).toNat< (_:Int).toNat;omega⟩;rw [tO,if_pos (by rw [gk];exact hz),He];exact o3.h_
  ·rw [ay,aJ]
   refine⟨⟨k+1,by rfl,by omega,?_⟩,by show (_:Int).toNat< (_:Int).toNat;omega⟩;rw [tO,if_neg (by rw [gk];exact hz),ajl];exact o
 ·have e_:k=zs.length:=by omega
  subst e_;have hul:=jR zs zs.length;refine Nk o hs (fun u hu=> (kO.1 hu).1) hlen (by omega) fun U H3 hp Nn o2=>?_;exact h _ _ _ hp Nn (o2.h_)
def xV (zs:List Int):Bool:=zs.all fun z=>decide (0≤z∧z≤1099511627776)
theorem oQ:xV zs=true↔∀z∈zs,0≤z∧z≤1099511627776:=by simp [xV]
theorem No {z:Int} (h:R (.bool (!decide (0≤z∧z≤1099511627776))) H):ab 243 #[.int .i64 z] H R:=by
 refine Aw.vc _ _ _ ?_;rw [aO]
 by_cases h0:z<0
 ·rw [decide_eq_true h0,Gc]
  intro _;rw [ei] at h;exact h
 ·rw [decide_eq_false h0]
  refine aM ?_;rw [bc];intro _;have e:decide (1099511627776<z)= !decide (0≤z∧z≤1099511627776):=by
   rw [ajV,decide_eq_true_eq,akC,decide_eq_false_iff_not];omega
  rw [e];exact h
theorem ER (hs:Sl H v 1 (aP zs)) (hlen:zs.length≤288) (kp:xV zs=true) (h:R (.bool false) H):ab 203 #[v,.func (.func 243) #[] #[]] H R:=by
 have dg: (aP zs).length=zs.length*1:=by rw [aV];omega
 refine eK.vc _ _ _ _ ?_;refine fo.vc _ _ _ _ ?_;refine hs.df dg ?_;refine⟨fun i H' => ∃k:Nat,i= .int .i64 k∧k≤zs.length∧H=H',fun i _=>match i with| .int _ x=> (zs.length - x).toNat|_=>0,⟨0,rfl,by omega,rfl⟩,?_⟩;rintro _ _ _ ⟨k,rfl,hk,rfl⟩;rw [aO];refine av (fun hc=>?_) (fun hc=>?_)
 ·have e_:k<zs.length:=by omega
  refine hs.gG dg fun p hp=>?_;refine hp.load hs (w:= .int .i64 zs[k]) (by rw [aiY,ai5,cm e_]) ?_;refine rZ (by kernel_rfl) ?_;refine No ?_;rw [decide_eq_true (oQ.1 kp _ (ai9 e_))];show aq (.bool false) _ _;rw [ak,ay,aJ];exact⟨⟨k+1,rfl,by omega,rfl⟩,by show (_:Int).toNat< (_:Int).toNat;omega⟩
 ·show jz _ _ _
  rw [dH,qO];exact h
theorem Ki {m:Nat} (hs:Sl H v 1 (aP zs)) (hlen:zs.length≤288) (kp:xV zs=true) (h1:1≤m) (h2:m≤15) (hn: (ic zs zs.length).length≤2 ^ m) (h: ∀H',Ext H H' →R (.int .i64 0) H'):ab 212 #[v,.int .i64 (m:Int)] H R:=by
 have dg: (aP zs).length=zs.length*1:=by rw [aV];omega
 refine GA.vc _ _ _ _ ?_;refine hs.df dg ?_;rw [bc,ei];refine aM ?_;refine ER hs hlen kp ?_;intro _;refine aM ?_;rw [aO,ei];intro _;refine aM ?_;rw [bc,ei];intro _;rw [ak];have hp: (2:Nat) ^ m≤2 ^ 15:=ajk (by omega) h2;have abd: ∀ {K:Value→Prop},K (.int .i64 ((2 ^ m:Nat):Int))→kC (.int .i64 1) (.int .i64 (m:Int)) K:=fun hK=>by
  rw [fB];refine⟨by omega,?_⟩;rw [show min (m:Int).toNat IntKind.i64.bits=m by show min (m:Int).toNat 64=_;omega];rw [show (1:Int)*2 ^ m= ((2 ^ m:Nat):Int) by rw [Int.one_mul,ak6];rfl];generalize 2 ^ m=P at*;rw [aJ];exact hK
 refine abd ?_;refine Dr hs hlen fun y U H1 hU _ o=>?_;refine(o.cf).len (n:=U.length) (by rw [dR];omega) (by decide) ?_;have Yz:=hU.length_eq;rw [bc,ei,ak];exact h _ o.ext
end
section
variable {H H0 H' :ag} {R:Value→ag→Prop} {v:Value} {L:List It} {zs:List Int}
def Hi (B:Nat) (Hc:ag):eX where
 dF k:=B≤k∧k<Hc.size
 holds H:= ∀k,B≤k→k<Hc.size→H[k]? =Hc[k]?
 frame h hf k h1 h2:= (hf k ⟨h1,h2⟩).trans (h k h1 h2)
 lt {H k} h hk:=by
  have:=h k hk.1 hk.2;rw [alH hk.2] at this;exact(akQ.1 this).1
theorem Kj {B:Nat} {Hc H' :ag} {sz:Nat} {l:List Value} (h: (Hi B Hc).holds H') (hs:Sl Hc v sz l) (hb: ∀k,aY v=some k→B≤k):Sl H' v sz l:=by
 by_cases hl:l= []
 ·subst hl
  rcases hs with hs| ⟨a,n,cap,h1,h2,h3,h4⟩
  ·exact .inl hs
  ·exact .inr ⟨a,n,cap,h1,h2,h3,fun i v hv=>by simp at hv⟩
 ·exact hs.frame fun k hk=>h k (hb k hk) (hs.lt hl hk)
theorem Kk {sz n m:Nat} {l:List Value} {K:Value→Prop} (h:Sl H v sz l) (hz:0<sz) (hn:l.length=n*sz) (hm:m≤n) (hk: ∀v',Sl H v' sz (l.take (m*sz))→(∀k,aY v' =some k→aY v=some k)→K v'):gp sz v none (some (.int .i64 (m:Int))) K:=by
 rcases h with ⟨rfl,rfl⟩ | ⟨a,n',cap,rfl,hl,Ae,hr⟩
 ·have Ad:n=0:=by
   rcases akV n with h|h
   ·exact h
   ·have:=akR h hz;simp only [ai_] at hn;omega
  have FF:m=0:=by omega
  subst FF;rw [kW,eD];exact⟨by decide,by decide,hk _ (.inl ⟨by simp,by simp⟩) (fun k hk=>by simp [aY] at hk)⟩
 ·have Ve:n' =n:=akW hz (hl.symm.trans hn)
  subst Ve;rw [kW,eD];refine⟨by omega,by omega,?_⟩;have e: (if cap=0 then (some a:Option Addr) else Option.map (fun x:Addr=>x.add (0*sz)) (some a))=some a:=by
   split
   ·rfl
   ·simp [Addr.add]
  rw [e,aiY];refine hk _ (.inr ⟨a,m,cap,by simp,?_,by omega,fun i w hw=>?_⟩) (fun k hk=>hk)
  ·rw [ai2,hl,ajF (akl sz hm)]
  ·rw [akw] at hw
   split at hw
   ·exact hr i w hw
   ·cases hw
def jh (n:Nat) (U:List Nat) (c:Nat→Nat):List Int:= (List.range n).map fun s=>if s∈U then ((c (U.idxOf s):Nat):Int) else 0
theorem jq {n:Nat} {U:List Nat} {c:Nat→Nat}: (jh n U c).length=n:=by simp [jh]
theorem nB {n:Nat} {U:List Nat} {c:Nat→Nat} {s:Nat} (h:s<n): (jh n U c)[s]'(by rw [jq];exact h)=if s∈U then ((c (U.idxOf s):Nat):Int) else 0:=by simp [jh]
theorem Np {n:Nat} {U:List Nat}:jh n U (fun _=>0)=List.replicate n 0:=by
 refine akA (by simp [jh]) fun i h1 h2=>?_;rw [nB (by simpa [jh] using h1)]
 simp
theorem Qm {n:Nat} {U:List Nat} {c c' :Nat→Nat} {a:Nat} (hU:U.Nodup) (ha:a<U.length) (hn:U[a]<n) (h: ∀i,c' i=c i+if i=a then 1 else 0):
  jh n U c' = (jh n U c).set U[a] (((c a:Nat):Int)+1):=by
 refine akA (by simp [jh]) fun i h1 h2=>?_;have hi:i<n:=by simpa [jh] using h1
 rw [nB hi,amy]
 by_cases e:U[a]=i
 ·rw [if_pos e,if_pos (by rw [←e];exact ai9 ha),←e,hU.idxOf_getElem a ha,h a,if_pos rfl];omega
 ·rw [if_neg e,nB hi]
  by_cases hm:i∈U
  ·rw [if_pos hm,if_pos hm,h,if_neg (fun h3=>e (by
    have h4:=List.getElem_idxOf (amV hm);rw [←h4];congr 1;exact h3.symm)),ajq]
  ·rw [if_neg hm,if_neg hm]
def fA (zs:List Int) (U:List Nat):List Nat:=U.map fun u=> (zs.getD u 0).toNat
theorem Hj {cs:List Nat} {k:Nat} (h:k<cs.length): (bJ cs).take (k+1)= (bJ cs).take k++ [(cs[k],[k])]:=by
 rw [ajr,iP h];rfl
theorem vh {cs:List Nat} (h: ∀c∈cs,c≤1099511627776): ∀k,∀p∈dK (bJ cs) k,p.1≤1099511627776*2 ^ k∧p.2.length≤2 ^ k
 |0,p,hp=>by
  obtain⟨i,hi⟩:=alq (show p∈bJ cs from hp);have cL:i<cs.length:=by have:= (ajD.1 hi).1;rwa [cB] at this
  rw [iP cL,ai8] at hi;subst hi;have:=h _ (ai9 cL)
  simp;exact this
 |k+1,p,hp=>by
  rw [dK,kN] at hp;have ih:=vh h k;rcases hp with hp|hp
  ·have:=vh h 0 p hp
   have e:1≤2 ^ (k+1):=amq
   simp at this
   exact⟨ajv this.1 (amn _ e),by omega⟩
  ·have: ∀ (l:List Pk),(∀p∈l,p.1≤1099511627776*2 ^ k∧p.2.length≤2 ^ k)→∀p∈cA l,p.1≤1099511627776*2 ^ (k+1)∧p.2.length≤2 ^ (k+1):=by
    intro l
    induction l using cA.induct with
    |case1 c d l ih2=>
     intro hl q hq;rw [cA] at hq;rcases ajd.1 hq with rfl|hq
     ·have h1:=hl c (by simp)
      have h2:=hl d (by simp);rw [ajI];refine⟨?_,?_⟩
      ·show c.1+d.1≤_;omega
      ·show (c.2++d.2).length≤_;rw [aiV];omega
     ·exact ih2 (fun x hx=>hl x (by simp [hx])) q hq
    |case2 l cQ=>intro hl q hq;rw [cA] at hq;simp at hq;all_goals exact cQ
   exact this _ ih p hp
theorem Nq {U:List Nat} {y leaves:Value} {K:Value→ag→Prop} (hs:Sl H v 1 (aP zs)) (hy:Sl H y 1 (iH U)) (hU: ∀u∈U,u<zs.length) (hul:U.length≤288) (hz: ∀z∈zs,0≤z∧z≤1099511627776) {k:Nat} {cl:List Value} (hk:k<U.length)
  (o:au H H' [.sl leaves 2 cl,.aE (qw ((bJ (fA zs U)).take k) cl)])
  (h: ∀y2 ZS H2,au H H2 [.sl y2 2 ZS,.aE (qw ((bJ (fA zs U)).take (k+1)) ZS)]→K y2 H2):
  aK 1 y (.int .i64 (k:Int)) fun x49=>ao H' x49 fun x50=>aK 1 v x50 fun x54=>ao H' x54 fun x55=>aU H' 3 1 [(.int .i64 0)] [(0,1,.int .i64 (k:Int))] fun x57 VI=>
  aW [(.int .i64 0),(.slice none 0 0)] [(0,1,x55),(1,1,x57)] fun x58=>aU VI 293 1 [(.int .i64 0),(.slice none 0 0)] [(0,2,x58)] fun x59 abf=>a7 abf 293 2 32 [(.int .i64 0),(.slice none 0 0)] leaves x59 K:=by
 have dg: (aP zs).length=zs.length*1:=by rw [aV];omega
 have huk:=hU _ (ai9 hk);have dM: (fA zs U).length=U.length:=by simp [fA]
 have gk:zs.getD U[k] 0=zs[U[k]]:=by rw [ai3,ai1 huk];rfl
 have ZF:=hz _ (ai9 huk);have hck: (fA zs U)[k]'(by omega)=zs[U[k]].toNat:=by simp only [fA,akL,gk]
 refine hy.at_ (n:=U.length) (by rw [dR];omega) (by decide) (by omega) (by omega) fun p hp=>?_;refine hp.load (hy.ext o.ext) (w:= .int .i64 (U[k]:Nat)) (by rw [aiY,ai5];simp [iH,hk]) ?_;refine hs.gG dg fun p hp=>?_;refine hp.load (hs.ext o.ext) (w:= .int .i64 zs[U[k]]) (by rw [aiY,ai5,cm huk]) ?_;refine o.cy (sz:=1) (by decide) rfl rfl fun z H3 o3=>?_;have JE:= (o3.cf (v:=z)).one;have R_:=o3.cf (v:=z);refine dU rfl JE ?_;have o4:=o3.arr (L' := [.aE (qw ((bJ (fA zs U)).take k) cl),.sl z 1 (iH [k]),.sl leaves 2 cl]) (by repeat(first|exact qN.nil|exact dD.here|apply qN.cons|apply dD.there));have zN:cl.length=k*2:=by
  have:= (o4.dS (T:=qw ((bJ (fA zs U)).take k) cl):pf _ _ _).len
  rwa [ai2,cB,dM,ajF (by omega)] at this
 have o5:au H H3 [.aE (qw ((bJ (fA zs U)).take (k+1)) (cl++ [.int .i64 zs[U[k]],z])),.sl leaves 2 cl]:=o4.merge (fun hT hS=>by
   have hT:pf H3 ((bJ (fA zs U)).take k) cl:=hT;show pf H3 _ _;rw [Hj (by omega)];refine hT.app ⟨z,[],?_,⟨JE,R_,by simp⟩,rfl⟩;rw [hck];show _= [Value.int .i64 ((zs[U[k]].toNat:Nat):Int),z];rw [ajX ZF.1]) (fun b' ⟨s,hs,iU⟩=>by
   rcases ajo.1 hs with hs|hs
   ·exact .inl ⟨s,hs,iU⟩
   ·simp at hs
    rcases hs with rfl|rfl
    ·simp [aY] at iU
    ·exact .inr iU)
 refine o5.cy (sz:=2) (by decide) rfl rfl fun y2 H4 o6=>?_;refine o6.append (sz:=2) (v:=leaves) (x:=y2) (n:=k) (m:=1) (by repeat(first|exact dD.here|apply dD.there)) rfl (o6.cf) zN rfl (all_cons rfl (all_cons JE rfl)) (by omega) fun v2 H5 o7=>?_;exact h _ _ _ (o7.h_)
end
section
variable {H H0 H' :ag} {R:Value→ag→Prop} {v:Value} {L:List It} {zs:List Int}
def ri (zs:List Int) (m:Nat) (ls:List Int):Prop:= ∃U:List Nat,U.Perm (ic zs zs.length)∧Kh zs U∧
 ((U.length<2∧ls=jh zs.length U fun _=>1)∨(2≤U.length∧ls=jh zs.length U (yK (fA zs U) (m - 1))))
theorem Qn (P:List Pk) (p:Pk) (q:Nat) (hq:q<p.2.length): ∀i,gT P i+ (p.2.take (q+1)).count i=gT P i+ (p.2.take q).count i+if i=p.2[q] then 1 else 0:=by
 intro i;rw [ajr,ai1 hq,List.count_append];show _+ (_+List.count i [p.2[q]])=_
 by_cases e:i=p.2[q]
 ·rw [if_pos e,e];simp;omega
 ·rw [if_neg e,amG (l:= [p.2[q]]) (by simpa using e)];omega
theorem Kl {cs:List Nat}: ∀k,∀p∈dK (bJ cs) k,∀i∈p.2,i<cs.length
 |0,p,hp,i,hi=>by
  obtain⟨j,hj⟩:=alq (show p∈bJ cs from hp);have cL:j<cs.length:=by have:= (ajD.1 hj).1;rwa [cB] at this
  rw [iP cL,ai8] at hj;subst hj
  simp at hi;omega
 |k+1,p,hp,i,hi=>by
  rw [dK,kN] at hp;rcases hp with hp|hp
  ·exact Kl 0 p hp i hi
  ·have: ∀ (l:List Pk),(∀p∈l,∀i∈p.2,i<cs.length)→∀p∈cA l,∀i∈p.2,i<cs.length:=by
    intro l
    induction l using cA.induct with
    |case1 c d l ih2=>
     intro hl q hq;rw [cA] at hq;rcases ajd.1 hq with rfl|hq
     ·intro i hi
      rcases ajo.1 hi with hi|hi
      ·exact hl c (by simp) i hi
      ·exact hl d (by simp) i hi
     ·exact ih2 (fun x hx=>hl x (by simp [hx])) q hq
    |case2 l cQ=>intro hl q hq;rw [cA] at hq;simp at hq;all_goals exact cQ
   exact this _ (Kl k) p hp i hi
theorem LI {N i:Nat}: ∀ {l:List Pk},(∀p∈l,p.2.length≤N)→gT l i≤l.length*N
 | [],h=>by simp [lB]
 |p::l,h=>by
  rw [iu,ai6,ak3];have h1:=LI (l:=l) (i:=i) fun q hq=>h q (by simp [hq]);have h2:=h p (by simp);have h3:p.2.count i≤p.2.length:=List.count_le_length;omega
theorem tP {n:Nat} {U:List Nat} {c c' :Nat→Nat} (h: ∀i,c i=c' i):jh n U c=jh n U c' :=by rw [show c=c' from funext h]
theorem vi {m:Nat} (hs:Sl H v 1 (aP zs)) (hlen:zs.length≤288) (kp:xV zs=true) (h1:1≤m) (h2:m≤15) (hn: (ic zs zs.length).length≤2 ^ m)
  (h: ∀y ls H',ri zs m ls→au H H' [.sl y 1 (aP ls)]→R (.tuple #[y,.int .i64 0]) H'):ab 168 #[v,.int .i64 (m:Int)] H R:=by
 have hz:=oQ.1 kp;have dg: (aP zs).length=zs.length*1:=by rw [aV];omega
 refine Cn.vc _ _ _ _ ?_;refine Ki hs hlen kp h1 h2 hn fun H1 jg=>?_;rw [fx,yZ,ak];refine hs.df dg ?_;refine((au.start (H:=H)).more jg).qh (by omega) (by omega) (by omega) fun out H2 o2=>?_;rw [aiY,kK] at o2;refine Dr (hs.ext o2.ext) hlen fun y U H3 hU Nn oU=>?_;have o3:=o2.call oU;have Yz:=hU.length_eq;have iJ:=jR zs zs.length;have ZT: ∀u∈U,u<zs.length:=fun u hu=> (kO.1 (hU.mem_iff.1 hu)).1;have Xl:U.Nodup:=hU.nodup_iff.2 (List.Nodup.sublist List.filter_sublist List.nodup_range);have hy:=oU.cf (v:=y);have Cf: (iH U).length=U.length*1:=by rw [dR];omega
 refine hy.df Cf ?_;rw [aO];refine av (fun hc=>?_) (fun hc=>?_)
 ·refine hy.df Cf ?_
  refine⟨fun i H' => ∃k:Nat,i= .int .i64 k∧k≤U.length∧au H H' (.sl y 1 (iH U):: .sl out 1 (aP (jh zs.length (U.take k) fun _=>1)):: []),fun i _=>match i with| .int _ x=> (U.length - x).toNat|_=>0,⟨0,rfl,by omega,?_⟩,?_⟩
  ·have e:jh zs.length (U.take 0) (fun _=>1)=List.replicate zs.length 0:=by
    refine akA (by simp [jh]) fun i g1 g2=>?_;rw [nB (by simpa [jh] using g1)];simp
   rw [e];exact o3.h_
  rintro _ _ H4 ⟨k,rfl,hk,o⟩;rw [aO];refine av (fun gE=>?_) (fun gE=>?_)
  ·have Ug:k=0:=by omega
   have e_:0<U.length:=by omega
   subst Ug;refine(o.cf (v:=y)).gG Cf fun p hp=>?_;refine hp.load (o.cf (v:=y)) (w:= .int .i64 (U[0]:Nat)) (by simp [iH,e_]) ?_;have hu0:=ZT _ (ai9 e_);refine(o.cf (v:=out)).at_ (n:=zs.length) (by rw [aV,jq];omega) (by decide) (by omega) (by omega) fun p hp=>?_;rw [aiY,ai5] at hp;refine o.store hp (by repeat(first|exact aiX|apply aiW)) (by rw [aV,jq];exact hu0) rfl (by repeat(first|exact cx.here|apply cx.there)) fun H5 o5 _=>?_;rw [ay,aJ];refine⟨⟨1,rfl,by omega,?_⟩,by show (_:Int).toNat< (_:Int).toNat;omega⟩;rw [jP] at o5;have e: (jh zs.length (U.take 0) fun _=>1).set U[0] 1=jh zs.length (U.take 1) fun _=>1:=by
    have hU1:U.take 1= [U[0]]:=by rw [ajr,ai1 e_];rfl
    refine akA (by simp [jh]) fun i g1 g2=>?_;have hi:i<zs.length:=by simpa [jh] using g2
    rw [amy,nB hi,nB hi,hU1]
    by_cases e:U[0]=i
    ·rw [if_pos e,if_pos (by simp [e])];rfl
    ·rw [if_neg e,if_neg (by simp),if_neg (by simpa using fun h=>e h.symm)]
   rw [e] at o5;exact o5
  ·have hkU:k=U.length:=by omega
   rw [hkU,ajc] at o;exact h _ _ _ ⟨U,hU,Nn,.inl ⟨by omega,rfl⟩⟩ (o.h_)
 ·have hU2:2≤U.length:=by omega
  have dM: (fA zs U).length=U.length:=by simp [fA]
  have hcz: ∀c∈fA zs U,c≤1099511627776:=by
   intro c hc;simp only [fA,ajw] at hc;obtain⟨u,hu,rfl⟩:=hc;have Jh:=ZT u hu;rw [ai3,ai1 Jh];have:=hz _ (ai9 Jh);show (zs[u]).toNat≤_;omega
  refine hy.df Cf ?_;have IM:=hs.ext o3.ext;refine⟨fun lv i H' => ∃ (k:Nat) (cl:List Value),i= .int .i64 k∧k≤U.length∧au H3 H' [.sl lv 2 cl,.aE (qw ((bJ (fA zs U)).take k) cl)],fun _ i _=>match i with| .int _ x=> (U.length - x).toNat|_=>0,⟨0,[],rfl,by omega,?_⟩,?_⟩
  ·exact(au.start.add (Ext.refl _) (i:= .aE (qw [] [])) rfl (by rintro k ⟨_,hs,_⟩;simp at hs)).add (Ext.refl _) ⟨by decide,.inl ⟨rfl,rfl⟩⟩ (by intro k hk;exact absurd hk (by simp [It.dF,aY]))
  rintro _ lv _ B_ ⟨k,cl,rfl,hk,oL⟩;rw [aO];refine av (fun gE=>?_) (fun gE=>?_)
  ·refine Nq IM hy ZT (by omega) hz (by omega) oL fun y2 ZS OE o5=>?_
   rw [ay,aJ];exact⟨⟨k+1,ZS,rfl,by omega,o5⟩,by show (_:Int).toNat< (_:Int).toNat;omega⟩
  have hkU:k=U.length:=by omega
  rw [hkU,ajf (by rw [cB,dM];omega)] at oL;have sL:=oL.cf (v:=lv);have pL:pf B_ (bJ (fA zs U)) cl:=oL.dS (T:=qw _ _);have bL: ∀k,aY lv=some k→H3.size≤k:=fun k hk=>oL.Vl (by repeat(first|exact aiX|apply aiW)) hk;have bP: ∀k,Xj cl k→H3.size≤k:=fun k hk=>oL.new (.aE (qw (bJ (fA zs U)) cl)) (by simp) k hk;rw [bq,aJ];refine⟨fun lst i H' => ∃ (j:Nat) (cs:List Value),i= .int .i64 j∧j≤m - 1∧Ext B_ H' ∧Sl H' lst 2 cs∧pf H' (dK (bJ (fA zs U)) j) cs∧(∀k,aY lst=some k→H3.size≤k)∧(∀k,Xj cs k→H3.size≤k),
   fun _ i _=>match i with| .int _ x=> ((m:Int) - x).toNat|_=>0,⟨0,cl,rfl,by omega,Ext.refl _,sL,pL,bL,bP⟩,?_⟩
  rintro _ lst _ OF ⟨j,cs,rfl,hj,hx,sS,pS,bS,bQ⟩;have nT:=sc (bJ (fA zs U)) (by rw [cB];omega) j;rw [cB,dM] at nT;have Mj:=vh hcz j;have hpj:2 ^ j≤2 ^ 14:=ajk (by decide) (by omega);rw [aO];refine av (fun y6=>?_) (fun y6=>?_)
  ·refine Ke sS pS (by omega) (fun p hp=>by have:=Mj p hp;generalize 2 ^ j=P at*;omega) fun y2 cs2 Xm o5=>?_
   have pP:pf Xm (cA (dK (bJ (fA zs U)) j)) cs2:=o5.dS (T:=qw _ _);have abk:=vh hcz (j+1);have afE:2 ^ (j+1)≤2 ^ 14:=ajk (by decide) (by omega);refine Hf (sL.ext (hx.trans o5.ext)) (o5.cf (v:=y2)) (pL.ext (hx.trans o5.ext)) pP (by rw [cB];omega) (by rw [jF];omega) (fun p hp=>by have:=abk p (by rw [dK,kN];exact hp);generalize 2 ^ (j+1)=P at*;omega) fun y3 cs3 H18 o6 p6 hm6=>?_;rw [ay,aJ];have qm:=o5.ext.size;have afH:=hx.size;have afI:=oL.ext.size;refine⟨⟨j+1,cs3,rfl,by omega,(hx.trans o5.ext).trans o6.ext,o6.cf (v:=y3),p6.ext o6.ext,fun k hk=>?_,fun k hk=>?_⟩,by show (_:Int).toNat< (_:Int).toNat;omega⟩
   ·have:=o6.Vl (v:=y3) (by repeat(first|exact aiX|apply aiW)) hk;omega
   ·obtain⟨s,hs,hk⟩:=hk
    rcases hm6 s hs with hs|hs
    ·exact bP k ⟨s,hs,hk⟩
    ·have:=o5.new (.aE (qw (cA (dK (bJ (fA zs U)) j)) cs2)) (by simp) k ⟨s,hs,hk⟩;omega
  have hjm:j=m - 1:=by omega
  have jZ:=vf (bJ (fA zs U)) j (by rw [cB];omega) (by rw [cB,dM,Yz,hjm,show m - 1+1=m by omega];exact hn);rw [cB,dM] at jZ;refine(hy.ext (oL.ext.trans hx)).df Cf ?_;rw [gw,aJ,bq,aJ,show 2* ((U.length:Nat):Int) - 2= ((2*U.length - 2:Nat):Int) by omega];refine Kk sS (by decide) pS.len (by omega) fun cv Xk bcv=>?_;have pT:=pS.take (2*U.length - 2);have hlT: ((dK (bJ (fA zs U)) j).take (2*U.length - 2)).length=2*U.length - 2:=by rw [ai2];omega
  generalize hT: (dK (bJ (fA zs U)) j).take (2*U.length - 2)=T at pT hlT;generalize hct:cs.take ((2*U.length - 2)*2)=ct at Xk pT;have hcT:ct.length= (2*U.length - 2)*2:=by rw [pT.len,hlT]
  have bT: ∀k,Xj ct k→H3.size≤k:=fun k ⟨s,hs,hk⟩=>bQ k ⟨s,by rw [←hct] at hs;exact aj6 hs,hk⟩;have hTm: ∀p∈T,∀i∈p.2,i<U.length:=fun p hp i hi=>by
   rw [←hT] at hp;have:=Kl j p (aj6 hp) i hi
   rwa [dM] at this
  have Up: ∀p∈T,p.2.length≤2 ^ j:=fun p hp=> (Mj p (by rw [←hT] at hp;exact aj6 hp)).2;have abm:H2.size≤H3.size:=oU.ext.size;have VL:Ext H2 OF:= (oU.ext.trans oL.ext).trans hx;have oF:au H OF (.aE (Hi H2.size OF):: .sl out 1 (aP (List.replicate zs.length 0)):: []):=o2.add VL (i:= .aE (Hi H2.size OF)) (fun k _ _=>rfl) (fun k hk=>hk.1);have abn:=hy.ext (oL.ext.trans hx);have abo: ∀k,aY y=some k→H2.size≤k:=fun k hk=>oU.Vl (v:=y) (by repeat(first|exact aiX|apply aiW)) hk;refine Xk.len (n:=2*U.length - 2) hcT (by decide) ?_;refine⟨fun i H' => ∃t:Nat,i= .int .i64 t∧t≤2*U.length - 2∧au H H' (.aE (Hi H2.size OF):: .sl out 1 (aP (jh zs.length U (gT (T.take t)))):: []),fun i _=>match i with| .int _ x=> (2*U.length - x).toNat|_=>0,⟨0,rfl,by omega,?_⟩,?_⟩
  ·have e:jh zs.length U (gT (T.take 0))=List.replicate zs.length 0:=Np (U:=U)
   rw [e];exact oF
  rintro _ _ VM ⟨t,rfl,ht,o⟩;rw [aO];refine av (fun ZU=>?_) (fun ZU=>?_)
  ·have ZV:t<T.length:=by omega
   obtain⟨sv,a1,a2,a3,a4,a5,a6⟩:=pT.at_ (ai1 ZV);have yM:=Up _ (ai9 ZV);have hpm:=hTm _ (ai9 ZV);have bsv: ∀k,aY sv=some k→H2.size≤k:=fun k hk=>by have:=bT k ⟨sv,aj5 a2,hk⟩;omega
   have abq: ∀k,aY cv=some k→H2.size≤k:=fun k hk=>by have:=bS k (bcv k hk);omega
   have YA:Sl VM cv 2 ct:=Kj (o.dS (T:=Hi H2.size OF)) Xk abq;have lR:T.take (t+1)=T.take t++ [T[t]]:=by rw [ajr,ai1 ZV];rfl
   generalize T[t]=P at a1 a3 a5 a6 yM hpm lR;refine YA.gG hcT fun p hp=>?_;rw [aiY] at hp;refine hp.fZ YA (ws:= [.int .i64 (P.1:Int),sv]) a3 rfl ?_;refine o.box fun pb H22 o22 _=>?_;refine o22.de (vs:= [.int .i64 (P.1:Int),sv]) (all_cons rfl (all_cons a4 rfl)) fun H23 o23 _=>?_;rw [ae,ax];refine o23.aw (b:=pb) (f:=0+1) ?_;refine a5.len (n:=P.2.length) (by rw [dR];omega) (by decide) ?_;have o24:au H H23 (.aE (Hi H2.size OF):: .sl out 1 (aP (jh zs.length U fun i=>gT (T.take t) i+ (P.2.take 0).count i)):: []):=by
    rw [tP (c' :=gT (T.take t)) (fun i=>by simp)];exact o23.h_
   have afQ:2 ^ j≤2 ^ 14:=hpj;refine⟨fun i H' => ∃q:Nat,i= .int .i64 q∧q≤P.2.length∧au H H' (.aE (Hi H2.size OF):: .sl out 1 (aP (jh zs.length U fun i=>gT (T.take t) i+ (P.2.take q).count i)):: []),fun i _=>match i with| .int _ x=> (P.2.length - x).toNat|_=>0,⟨0,rfl,by omega,o24⟩,?_⟩;rintro _ _ H26 ⟨q,rfl,hq,o⟩;rw [aO];refine av (fun YB=>?_) (fun YB=>?_)
   ·have hqn:q<P.2.length:=by omega
    have fH:=hpm _ (ai9 hqn);have Pp:=o.dS (T:=Hi H2.size OF);have ssv:=Kj Pp a5 bsv;have syv:=Kj Pp abn abo;have Jh:=ZT _ (ai9 fH);refine ssv.at_ (n:=P.2.length) (by rw [dR];omega) (by decide) (by omega) (by omega) fun p hp=>?_;refine hp.load ssv (w:= .int .i64 (P.2[q]:Nat)) (by rw [aiY,ai5];simp [iH,hqn]) ?_;refine syv.gG Cf fun p hp=>?_;refine hp.load syv (w:= .int .i64 (U[P.2[q]]:Nat)) (by rw [aiY,ai5];simp [iH,fH]) ?_;have so:=o.cf (v:=out);refine so.at_ (n:=zs.length) (by rw [aV,jq];omega) (by decide) (by omega) (by omega) fun p hp=>?_;rw [aiY,ai5] at hp;have n3: (jh zs.length U fun i=>gT (T.take t) i+ (P.2.take q).count i)[U[P.2[q]]]'(by rw [jq];exact Jh)= ((gT (T.take t) P.2[q]+ (P.2.take q).count P.2[q]:Nat):Int):=by
     rw [nB Jh,if_pos (ai9 fH),Xl.idxOf_getElem _ fH]
    refine hp.load so (w:= .int .i64 ((gT (T.take t) P.2[q]+ (P.2.take q).count P.2[q]:Nat):Int)) (by rw [cm (by rw [jq];exact Jh),n3]) ?_;have yL:gT (T.take t) P.2[q]+ (P.2.take q).count P.2[q]≤10000000000:=by
     have c1:=LI (l:=T.take t) (N:=16384) (i:=P.2[q]) fun p hp=>ajv (Up p (aj6 hp)) hpj;have c2: (P.2.take q).count P.2[q]≤(P.2.take q).length:=List.count_le_length;rw [ai2] at c1 c2;have c3:min t T.length*16384≤576*16384:=akl _ (by omega);have c4:=ajv yM hpj;omega
    rw [ay,aJ];refine so.at_ (n:=zs.length) (by rw [aV,jq];omega) (by decide) (by omega) (by omega) fun p hp=>?_;rw [aiY,ai5] at hp;refine o.store hp (by repeat(first|exact aiX|apply aiW)) (by rw [aV,jq];exact Jh) rfl (by repeat(first|exact cx.here|apply cx.there)) fun H27 o27 _=>?_;rw [ay,aJ];refine⟨⟨q+1,rfl,by omega,?_⟩,by show (_:Int).toNat< (_:Int).toNat;omega⟩;rw [jP,←Qm (c' :=fun i=>gT (T.take t) i+ (P.2.take (q+1)).count i) Xl fH Jh (Qn _ P q hqn)] at o27;exact o27
   ·have hqP:q=P.2.length:=by omega
    subst hqP;rw [ay,aJ];refine⟨⟨t+1,rfl,by omega,?_⟩,by show (_:Int).toNat< (_:Int).toNat;omega⟩;rw [tP (c' :=gT (T.take (t+1))) (fun i=>by rw [lR,xU,ajc];show _=_+gT [P] i;rw [iu,lB,ajq])] at o;exact o
  ·have htT:t=T.length:=by omega
   subst htT;rw [ajc] at o;refine h _ _ _ ⟨U,hU,Nn,.inr ⟨hU2,?_⟩⟩ (o.h_);refine tP fun i=>?_;unfold yK;rw [←hT,hjm,dM]
end
section
variable {zs:List Int}
theorem xW (p:Nat→Bool) (h:Nat→Nat): ∀l:List Nat,((l.filter p).map h).sum= (l.map fun s=>if p s=true then h s else 0).sum
 | []=>rfl
 |a::l=>by
  rw [alG,aj3,akX,←xW p h l]
  by_cases e:p a=true
  ·rw [if_pos e,if_pos e,aj3,akX]
  ·rw [if_neg e,if_neg e,ajb]
theorem xX (f:Nat→Nat): ∀n,((List.range n).map f).sum=eR f n
 |0=>rfl
 |n+1=>by rw [akF,ajy,List.sum_append,xX f n];simp [eR]
theorem Ds (a:Nat) (f:Nat→Nat): ∀n,eR (fun i=>a*f i) n=a*eR f n
 |0=>rfl
 |n+1=>by rw [eR,eR,Ds a f n,Nat.mul_add]
theorem Nr {n:Nat} {U:List Nat} {c:Nat→Nat}:natL (jh n U c)= (List.range n).map fun s=>if s∈U then c (U.idxOf s) else 0:=by
 unfold natL jh;rw [alg];refine akm fun s _=>?_;show (if s∈U then ((c (U.idxOf s):Nat):Int) else 0).toNat=_
 by_cases h:s∈U
 ·rw [if_pos h,if_pos h,aiY]
 ·rw [if_neg h,if_neg h];rfl
theorem A4 {U:List Nat} {c f:Nat→Nat} (hU:U.Perm (ic zs zs.length)) (hd:U.Nodup) (h0:f 0=0):
  ((natL (jh zs.length U c)).map f).sum=eR (fun i=>f (c i)) U.length:=by
 rw [Nr,alg];have e1: (List.range zs.length).map (f ∘ fun s=>if s∈U then c (U.idxOf s) else 0)= (List.range zs.length).map fun s=>if decide (0<zs.getD s 0)=true then f (c (U.idxOf s)) else 0:=by
  refine akm fun s hs=>?_;have iJ:=alv.1 hs;show f (if s∈U then c (U.idxOf s) else 0)=_
  by_cases h:0<zs.getD s 0
  ·rw [if_pos (hU.mem_iff.2 (kO.2 ⟨iJ,h⟩)),if_pos (by simpa using h)]
  ·rw [if_neg (fun hm=>h (kO.1 (hU.mem_iff.1 hm)).2),if_neg (by simpa using h),h0]
 rw [e1,←xW];have e2:= (hU.map fun s=>f (c (U.idxOf s))).sum_nat;rw [show List.filter (fun s=>decide (0<zs.getD s 0)) (List.range zs.length)=ic zs zs.length from rfl,←e2,←xX]
 congr 1
 refine akA (by simp) fun i h1 h2=>?_;have hi:i<U.length:=by simpa using h1
 rw [akL,akL,List.getElem_range,hd.idxOf_getElem i hi]
theorem Ns {U:List Nat} (h:Kh zs U): (fA zs U).Pairwise (· ≤ ·):=by
 unfold fA;rw [List.pairwise_map];exact List.Pairwise.imp (fun h=>by omega) h
theorem LJ: ∀ {U V:List Nat},U.Perm V→Kh zs U→Kh zs V→U=V
 | [],V,hp,_,_=>by rw [List.nil_perm.1 hp]
 |a::U,[],hp,_,_=>by have:=hp.length_eq;simp at this
 |a::U,b::V,hp,hu,hv=>by
  have e:a=b:=by
   have h1:a∈b::V:=hp.mem_iff.1 (by simp);have h2:b∈a::U:=hp.mem_iff.2 (by simp);rcases ajd.1 h1 with e|h1
   ·exact e
   rcases ajd.1 h2 with e|h2
   ·exact e.symm
   have r1:= (ajs.1 hu).1 b h2;have r2:= (ajs.1 hv).1 a h1;omega
  subst e;rw [LJ (List.perm_cons a|>.1 hp) (ajs.1 hu).2 (ajs.1 hv).2]
theorem A5 {m:Nat} {a b:List Int} (h:ri zs m a) (k:ri zs m b):a=b:=by
 obtain⟨U,hU,hs,hc⟩:=h;obtain⟨V,hV,ht,hd⟩:=k;have e:U=V:=LJ (hU.trans hV.symm) hs ht;subst e;rcases hc with ⟨h1,rfl⟩ | ⟨h1,rfl⟩<;>rcases hd with ⟨h2,rfl⟩ | ⟨h2,rfl⟩
 ·rfl
 ·omega
 ·omega
 ·rfl
theorem pZ {m:Nat} {ls:List Int} (h:ri zs m ls) (h1:1≤m) (h2:m≤15) (hn: (ic zs zs.length).length≤2 ^ m):
  ls.length=zs.length∧(∀s,s<zs.length→if 0<zs.getD s 0 then 1≤ls.getD s 0∧ls.getD s 0≤m else ls.getD s 0=0)∧
  (2≤(ic zs zs.length).length→shareL (natL ls) 15=32768)∧((ic zs zs.length).length<2→shareL (natL ls) 15= (ic zs zs.length).length*16384∧∀s,s<zs.length→ls.getD s 0≤1)∧qk (natL ls)= (ic zs zs.length).length:=by
 obtain⟨U,hU,hs,xD⟩:=h;have Xl:U.Nodup:=hU.nodup_iff.2 (List.Nodup.sublist List.filter_sublist List.nodup_range);have Yz:=hU.length_eq;have key: ∃c:Nat→Nat,ls=jh zs.length U c∧(∀i,i<U.length→1≤c i∧c i≤m)∧(U.length<2→∀i,c i=1)∧(2≤U.length→eR (fun i=>2 ^ (m - c i)) U.length=2 ^ m):=by
  rcases xD with ⟨cL,e⟩ | ⟨S1,e⟩
  ·exact⟨fun _=>1,e,fun i _=> ⟨aiZ _,h1⟩,fun _ _=>rfl,fun h=>by omega⟩
  ·have dM: (fA zs U).length=U.length:=by simp [fA]
   have hk:=Kd (cs:=fA zs U) (k:=m - 1) (Ns hs) (by omega) (by rw [dM,Yz,show m - 1+1=m by omega];exact hn);rw [dM,show m - 1+1=m by omega] at hk;exact⟨_,e,hk.2,fun h=>by omega,fun _=>hk.1⟩
 obtain⟨c,rfl,rN,gE,y6⟩:=key;have Eg: ∀s,s<zs.length→(jh zs.length U c).getD s 0=if s∈U then ((c (U.idxOf s):Nat):Int) else 0:=fun s hs=>by
  rw [ai3,ai1 (by rw [jq];exact hs),aj9,nB hs]
 refine⟨jq,fun s iJ=>?_,fun S1=>?_,fun cL=> ⟨?_,fun s iJ=>?_⟩,?_⟩
 ·rw [Eg s iJ]
  by_cases h:0<zs.getD s 0
  ·have hm:s∈U:=hU.mem_iff.2 (kO.2 ⟨iJ,h⟩)
   have:=rN _ (amV hm);rw [if_pos h,if_pos hm];omega
  ·rw [if_neg h,if_neg (fun hm=>h (kO.1 (hU.mem_iff.1 hm)).2)]
 ·unfold shareL
  rw [A4 hU Xl (f:=fun k=>if 1≤k∧k≤15 then 2 ^ (15 - k) else 0) rfl];rw [fN (g:=fun i=>2 ^ (15 - m)*2 ^ (m - c i)) (fun i hi=>by
   have:=rN i hi;show (if 1≤c i∧c i≤15 then 2 ^ (15 - c i) else 0)=_;rw [if_pos (by omega),←alc,show 15 - m+ (m - c i)=15 - c i by omega]),Ds,y6 (by omega),←alc,show 15 - m+m=15 by omega]
 ·unfold shareL
  rw [A4 hU Xl (f:=fun k=>if 1≤k∧k≤15 then 2 ^ (15 - k) else 0) rfl,fN (g:=fun i=>if i<U.length then 16384 else 0) (fun i hi=>by
   show (if 1≤c i∧c i≤15 then 2 ^ (15 - c i) else 0)=_;rw [gE (by omega) i,if_pos hi];rfl),gI _ _ (aiZ _),Yz]
 ·rw [Eg s iJ]
  split
  ·rw [gE (by omega)];decide
  ·decide
 ·have e: ∀l:List Nat,qk l= (l.map fun k=>if k=0 then 0 else 1).sum:=fun l=>by
   induction l with
   |nil=>rfl
   |cons a l ih=>
    unfold qk at ih ⊢;rw [akH,aj3,akX,ih]
    by_cases h:a=0<;>simp [h];omega
  rw [e,A4 hU Xl (f:=fun k=>if k=0 then 0 else 1) rfl,fN (g:=fun i=>if i<U.length then 1 else 0) (fun i hi=>by
   have:=rN i hi;show (if c i=0 then 0 else 1)=_;rw [if_neg (by omega),if_pos hi]),gI _ _ (aiZ _)]
  omega
end
section
variable {H H0 H' :ag} {R:Value→ag→Prop} {v:Value} {L:List It} {zs:List Int}
theorem Qo {i:Nat} (hs:Sl H v 1 (aP zs)) (hlen:zs.length≤1000) (hi:i<zs.length) (h: ∀n:Nat,1≤n→i+n≤zs.length→(∀j,j<n→zs.getD (i+j) 0=zs.getD i 0)→(i+n<zs.length→zs.getD (i+n) 0≠zs.getD i 0)→R (.int .i64 (n:Int)) H):
  ab 217 #[v,.int .i64 (i:Int)] H R:=by
 have dg: (aP zs).length=zs.length*1:=by rw [aV];omega
 have gd: ∀ {k:Nat} (hk:k<zs.length),zs.getD k 0=zs[k]:=fun hk=>by rw [ai3,ai1 hk];rfl
 refine MA.vc _ _ _ _ ?_;refine⟨fun n H' => ∃k:Nat,n= .int .i64 k∧1≤k∧i+k≤zs.length∧(∀j,j<k→zs.getD (i+j) 0=zs.getD i 0)∧H=H',fun n _=>match n with| .int _ x=> (zs.length - x).toNat|_=>0,
  ⟨1,rfl,by omega,by omega,fun j hj=>by rw [show j=0 by omega,ajq],rfl⟩,?_⟩
 rintro _ _ _ ⟨k,rfl,h1,hk,hj,rfl⟩;rw [ay,aJ];refine hs.df dg ?_;rw [aO]
 by_cases hc:i+k<zs.length
 ·rw [nR]
  refine bs ?_;rw [ay,aJ];refine hs.gG dg fun p hp=>?_;refine hp.load hs (w:= .int .i64 zs[i+k]) (by rw [show ((i:Int)+ (k:Int)).toNat=i+k by omega,ai5,cm hc]) ?_;refine hs.gG dg fun p hp=>?_;refine hp.load hs (w:= .int .i64 zs[i]) (by rw [aiY,ai5,cm hi]) ?_;rw [aZ];intro _;refine av (fun he=>?_) (fun he=>?_)
  ·rw [ay,aJ]
   refine⟨⟨k+1,rfl,by omega,by omega,fun j R4=>?_,rfl⟩,by show (_:Int).toNat< (_:Int).toNat;omega⟩
   by_cases e:j=k
   ·subst e;rw [gd hc,gd hi];exact he
   ·exact hj j (by omega)
  ·exact h k h1 hk hj fun _=>by rw [gd hc,gd hi];exact he
 ·rw [ei,dO]
  intro _;rw [ak];exact h k h1 hk hj fun h2=>absurd h2 hc
def YC (e:Ex):Value:= .agg #[.int .i64 (e.1:Nat),.int .i64 (e.2.1:Nat),.int .u64 (e.2.2:Nat)]
def FJ (e:Ex):List Value:= [.int .i64 (e.1:Nat),.int .i64 (e.2.1:Nat),.int .u64 (e.2.2:Nat)]
def kP (z:Int) (n:Nat):Ex × Nat × Bool:=
 if z=0∧11≤n then ((18,7,min n 138 - 11),min n 138,true) else if z=0∧3≤n then ((17,3,n - 3),n,true) else if z≠0∧3≤n then ((16,2,min n 6 - 3),min n 6,true) else ((0,0,0),0,false)
theorem Km {z:Int} {n:Nat} (hn:n≤1000) (h: ∀H',Ext H H' →R (.tuple #[YC (kP z n).1,.int .i64 ((kP z n).2.1:Nat),.bool (kP z n).2.2]) H'):ab 218 #[.int .i64 z,.int .i64 (n:Int)] H R:=by
 refine Gv.vc _ _ _ _ ?_;refine(au.start (H:=H)).box fun b H1 o _=>?_;have fin: ∀ {a c:Int} {x:Int} {K:Value→ag→Prop},(∀H',Ext H H' →K (.agg #[.int .i64 a,.int .i64 c,.int .u64 x]) H')→aH H1 3 (.pointer (some ⟨b,0,none⟩)) (.agg #[.int .i64 a,.int .i64 c,.int .u64 x]) fun _ ZJ=>aF ZJ 3 (.pointer (some ⟨b,0,none⟩)) fun r_5=>K r_5 ZJ:=fun {a c x K} hK=>by
  refine o.cz (vs:= [.int .i64 a,.int .i64 c,.int .u64 x]) fun H2 o2 _=>?_;refine o2.bh ?_;exact hK H2 o2.ext
 rw [aZ]
 by_cases hz:z=0
 ·rw [decide_eq_true hz]
  refine bs ?_;rw [dH]
  by_cases ZW:11≤n
  ·rw [nR]
   intro _;rw [aL,kF,bq,show min (n:Int) 138= ((min n 138:Nat):Int) by omega,aJ,cP,show ((min n 138:Nat):Int) - 11= ((min n 138 - 11:Nat):Int) by omega,cF (by omega) (by omega)];refine dL rfl rfl rfl ?_;refine fin fun H2 hx=>?_;have:=h H2 hx;unfold kP at this;rw [if_pos ⟨hz,ZW⟩] at this;exact this
  rw [ei];intro _;rw [ak,aZ,decide_eq_true hz];refine bs ?_;rw [dH]
  by_cases h3:3≤n
  ·rw [nR]
   intro _;rw [aL,bq,aJ,cP,show (n:Int) - 3= ((n - 3:Nat):Int) by omega,cF (by omega) (by omega)];refine dL rfl rfl rfl ?_;refine fin fun H2 hx=>?_;have:=h H2 hx;unfold kP at this;rw [if_neg (by omega),if_pos ⟨hz,h3⟩] at this;exact this
  rw [ei];intro _;rw [ak,fx,decide_eq_false (by simpa using hz),dO];intro _;rw [ak];rw [br];refine fin fun H2 hx=>?_;have:=h H2 hx;unfold kP at this;rw [if_neg (by omega),if_neg (by omega),if_neg (by omega)] at this;exact this
 ·rw [decide_eq_false hz,dO]
  intro _;rw [ak,aZ,decide_eq_false hz,dO];intro _;rw [ak,fx,decide_eq_true hz];refine bs ?_;rw [dH]
  by_cases h3:3≤n
  ·rw [nR]
   intro _;rw [aL,kF,bq,show min (n:Int) 6= ((min n 6:Nat):Int) by omega,aJ,cP,show ((min n 6:Nat):Int) - 3= ((min n 6 - 3:Nat):Int) by omega,cF (by omega) (by omega)];refine dL rfl rfl rfl ?_;refine fin fun H2 hx=>?_;have:=h H2 hx;unfold kP at this;rw [if_neg (by omega),if_neg (by omega),if_pos ⟨hz,h3⟩] at this;exact this
  rw [ei];intro _;rw [ak];rw [br];refine fin fun H2 hx=>?_;have:=h H2 hx;unfold kP at this;rw [if_neg (by omega),if_neg (by omega),if_neg (by omega)] at this;exact this
end
end Go.Proofs.YtpcgccdmmoggmaaGreatDoor
