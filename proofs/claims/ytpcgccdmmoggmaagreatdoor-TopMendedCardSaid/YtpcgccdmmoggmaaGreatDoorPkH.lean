/- Part 8 of the proof of RowTopMended: what it is built on, in the order of its needs. -/
import Derived.Test.YtpcgccdmmoggmaaGreatDoorPkG
set_option linter.unusedSimpArgs false
set_option linter.unusedVariables false
namespace Go.Proofs.YtpcgccdmmoggmaaGreatDoor
open Go Go.Vc Go.Proofs
section
set_option maxRecDepth 100000
variable {H H0 H' :ak} {R:Value→ak→Prop} {L:List It} {s:List UInt8} {b m k:Nat} {l:List Fp} {E0 E:List Ev} {W:Option (List UInt8)}
theorem SZ {V t:List UInt8} (tr:Tr l (E0++E) k (some V)):Tr l (E0++PZ E t) k (some (V++t)):=by
 unfold PZ
 by_cases h:t= []
 ·rw [if_pos h,h,akb];exact tr
 ·rw [if_neg h,←ajT];exact .iY tr
theorem Ny (E:List Ev) (t:List UInt8): (PZ E t).length≤E.length+1:=by
 unfold PZ
 split
 ·omega
 ·simp
theorem Md (hG:Reads H0 ⟨4,0,none⟩ je) (g:nj l) {p:Pd} {S:ir} {d:Nat} (hk:k<l.length) (ff:p.st=1) (hd:p.d=at_ d 0) (d_:l[k].1.iY≠ []) (hf:p.dP<l[k].2.length) (hD:SL d (lh l[k].2 p.dP).2.1 p.dP S) (ji:p.at' =eW l k+ (jT l[k]+p.dP)) (hh:p.h=FB l[k] (eW l k) (lh l[k].2 p.dP).1) (il:p.Aw=false)
  (hr:p.rest= ((dL l).take m).drop p.at') (hc:p.at' ≤m) (hm:m≤(dL l).length) (nz:p.en=eW l k) (tr:Tr l (E0++E) k (some (lh l[k].2 p.dP).1)) (hE:E.length≤3*k+1)
  (o:aw H0 H (.ay S::fC b p (bO 0 (l.take k)) ((ik l).take (k+1)) E L))
  (zx: ∀H' E' k' W',PS H0 H' b l m E0 E' k' W' true L→tO H' b<tO H b→R (.int .i64 0) H')
  (sA: ∀H' E' k' W',PS H0 H' b l m E0 E' k' W' false L→R (.int .i64 2) H'):ab Tryz.prog 42 #[at_ b 0] H R:=by
 have hZ:=mG g.ok;have h5:=g.ok.len;have DT:=sN o;rw [if_neg (by omega)] at DT;have Gi:p.rest.length=m - p.at' :=by rw [hr,aj1,ajW];omega
 have jc:=SX g hk d_;have VR: (run ⟨.hd,toBits l[k].2,[]⟩).2.2=0:=by rw [jc]
 have DY:= (g.ok.pk _ (ajZ hk)).1;have PX:=g.ok.Pv.iY _ (akn.2 ⟨l[k],ajZ hk,rfl⟩);have hinv:=Jm l[k].2 p.dP;have tR:=hr;rw [ji,L_ hk (by rw [←ji];exact hc) (by omega)] at tR;obtain⟨tl,Jb⟩: ∃tl,tl=c9 (cy l[k] 0)++ (a8 (l.drop (k+1))++fM l):= ⟨_,rfl⟩;rw [←Jb] at tR;have Xs: (dL l).length=eW l k+ (jT l[k]+ (l[k].2.length+tl.length)):=by
  have:=congrArg List.length (tN hk);simp only [ajQ,pF] at this;rw [Jb];simp only [ajQ];unfold eW;omega
 have agn:16≤tl.length:=by rw [Jb,ajQ,JP d_];omega
 refine X1 ff (L:= .ay S::L) (o.fW (by repeat(first|exact aY.refl|exact bu.here|apply aY.cons|apply bu.there))) ?_;have PT:l[k].2.length=p.dP+ (l[k].2.length - p.dP):=by omega
 have aaQ: (l[k].2.drop p.dP).length=l[k].2.length - p.dP:=aj1;rcases akz (m - p.at') (l[k].2.length - p.dP) with eF|Vu
 ·have KF:p.rest= (l[k].2.drop p.dP).take (m - p.at'):=by rw [tR,←ji,BL (by omega)]
  have CZ:=zR VR p.dP (m - p.at');rw [←KF] at CZ;obtain⟨ot,D',e,hr9⟩: ∃ot D' e,run ((lh l[k].2 p.dP).2.1.add (toBits p.rest))= (ot,D',e):= ⟨_,_,_,rfl⟩;have WL:=Nl VR (p.dP+ (m - p.at'));rw [hr9] at CZ;rw [CZ] at WL;obtain rfl:e=0:=WL;have GL:=U1 jc (f:=p.dP+ (m - p.at')) (by omega);rw [CZ] at GL;have ago:=Jm l[k].2 (p.dP+ (m - p.at'));obtain⟨o9,ho9,-⟩:=DK (z:= []) jc (f:=p.dP+ (m - p.at')) (by omega);rw [CZ] at ho9;have hW:=congrArg List.length ho9;simp only [ajQ] at hW;refine DI (S:=S) (d:=d) (D' :=D') (ot:=ot) (z:= []) (x:=p.h) hG hd hD hinv.2.2 (by rw [Gi];omega) (by omega) (by omega) hr9 (by rw [hh];exact zU _ _) (by rw [hh];show (lh l[k].2 p.dP).1.length≤_;omega) (by omega) (by omega) il (fun h=>by rw [GL] at h;cases h) o (fun _ H1 S' oe Tb o=>?_) (fun h=>by rw [GL] at h;cases h);obtain⟨p1,lu⟩: ∃p1:Pd,p1= {p with rest:= [],at' :=p.at' +p.rest.length,h:=p.h.tell ot,dP:=p.dP+p.rest.length,ov:=oe}:= ⟨_,rfl⟩;have o:aw H0 H1 (.ay S' ::fC b p1 (bO 0 (l.take k)) ((ik l).take (k+1)) (PZ E ot) L):=by rw [lu];exact o
  have f1:p1.st=1:=by rw [lu];exact ff
  have f2:p1.dP=p.dP+ (m - p.at'):=by rw [lu,←Gi]
  have f3:p1.d=at_ d 0:=by rw [lu];exact hd
  have f4:p1.at' =m:=by rw [lu];show p.at' +p.rest.length=m;omega
  have f5:p1.h=p.h.tell ot:=by rw [lu]
  have f6:p1.rest= []:=by rw [lu]
  have f7:p1.Aw=false:=by rw [lu];exact il
  have f8:p1.en=p.en:=by rw [lu]
  rw [Gi] at Tb;clear lu;have e1: (lh l[k].2 p1.dP)= ((lh l[k].2 p.dP).1++ot,D',0):=by rw [f2];exact CZ
  have ph:=Ph.h1 (p:=p1) (ns:= (ik l).take (k+1)) (S:=S') k hk d f1 f3 d_ (by rw [f2];omega) (by rw [e1,f2];exact Tb) (by rw [f4,f2];omega) (by rw [f5,e1,hh];unfold FB Hd.tell;simp only [ajQ,wT]) f7 rfl;rw [e1] at ph;exact sA H1 _ k _ ⟨p1,_,S',ph,by rw [f6,f4,ak3 (by rw [ajW];omega)],by omega,hm,by rw [f8];exact nz,SZ tr,(fun h=>nomatch h),fun _=> ⟨fun h=>by omega,by have:=Ny E ot;omega,fun _=>by rw [qf hk,pF];omega⟩,o⟩
 ·obtain⟨z,hz⟩: ∃z,z=tl.take (m - p.at' - (l[k].2.length - p.dP)):= ⟨_,rfl⟩
  have KF:p.rest=l[k].2.drop p.dP++z:=by rw [tR,←ji,Nx (by omega),aaQ,hz]
  obtain⟨ot,VK,hr9⟩:=DK (z:=z) jc (f:=p.dP) (Nat.le_of_lt hf);rw [←KF] at hr9;have aaS:=congrArg List.length VK;rw [ajQ] at aaS;have ait:p.rest.length= (l[k].2.length - p.dP)+z.length:=by rw [KF,ajQ,aaQ]
  have sm:=g.ok.sm (ajZ hk) (a:=eW l k) (by have:=g.ok.Em k;unfold eW;omega);have hx:cy l[k] (eW l k)= {p.h.tell ot with p:=p.dP+p.rest.length - z.length}:=by
   rw [hh];unfold cy FB Hd.tell;simp only;rw [wT,decide_eq_false d_,←VK,←aaS]
   congr 1
   omega
  refine DI (S:=S) (d:=d) (D' := ⟨.dn,toBits z,l[k].1.iY⟩) (ot:=ot) (z:=z) (x:=cy l[k] (eW l k)) hG hd hD hinv.2.2 (by rw [Gi];omega) (by omega) (by omega) hr9 (by rw [hh];exact zU _ _) (by rw [hh];show (lh l[k].2 p.dP).1.length≤_;omega) (by omega) (by omega) il (fun _=> ⟨Ma z,by omega,by rw [bs];omega,hx,sm⟩) o (fun h=>by cases h) (fun _ H1 oe o=>?_);obtain⟨p1,lu⟩: ∃p1:Pd,p1= {p with rest:=z,at' :=p.at' +p.rest.length - z.length,st:=2,h:=cy l[k] (eW l k),dP:=p.dP+p.rest.length,ov:=oe}:= ⟨_,rfl⟩;have o:aw H0 H1 (.ay AS::fC b p1 (bO 0 (l.take k)) ((ik l).take (k+1)) (PZ E ot) L):=by
   rw [lu];exact o.add (Ext.refl _) (i:= .ay AS) trivial (fun k hk=>hk.elim)
  have f1:p1.st=2:=by rw [lu]
  have f4:p1.at' =eW l k+ (jT l[k]+l[k].2.length):=by rw [lu];show p.at' +p.rest.length - z.length=_;omega
  have f5:p1.h=cy l[k] (eW l k):=by rw [lu]
  have f6:p1.rest=z:=by rw [lu]
  have f7:p1.Aw=false:=by rw [lu];exact il
  have f8:p1.en=p.en:=by rw [lu]
  clear lu;have DL:=sN o;have En:=Ny E ot;refine zx H1 _ k _ ⟨p1,_,AS,.h2 k hk f1 d_ f4 f5 f7 rfl,?_,by omega,hm,by rw [f8];exact nz,by rw [VK];exact SZ tr,fun _=>by rw [f1];simp only [JO];omega,(fun h=>nomatch h),o⟩ ?_
  ·rw [f6,f4,L_ hk (by omega) (ajR _),akW,aj4,←Jb,hz]
   congr 1
   omega
  ·rw [DT,DL,f1,f6]
   simp only [show ¬ (2=0) by decide,if_false];omega
theorem JQ (g:nj l) {p:Pd} {S:ir} (hk:k<l.length) (ff:p.st=2) (d_:l[k].1.iY≠ []) (ji:p.at' =eW l k+ (jT l[k]+l[k].2.length)) (hh:p.h=cy l[k] (eW l k)) (il:p.Aw=false)
  (hr:p.rest= ((dL l).take m).drop p.at') (hc:p.at' ≤m) (hm:m≤(dL l).length) (nz:p.en=eW l k) (tr:Tr l (E0++E) k (some l[k].1.iY)) (hE:E.length≤3*k+2)
  (o:aw H0 H (.ay S::fC b p (bO 0 (l.take k)) ((ik l).take (k+1)) E L))
  (zx: ∀H' E' k' W',PS H0 H' b l m E0 E' k' W' true L→tO H' b<tO H b→R (.int .i64 0) H')
  (sA: ∀H' E' k' W',PS H0 H' b l m E0 E' k' W' false L→R (.int .i64 2) H'):ab Tryz.prog 42 #[at_ b 0] H R:=by
 have hZ:=mG g.ok;have h5:=g.ok.len;have DT:=sN o;rw [if_neg (by omega)] at DT;have Gi:p.rest.length=m - p.at' :=by rw [hr,aj1,ajW];omega
 have tR:=hr;rw [ji,L_ hk (by rw [←ji];exact hc) (ajR _),akW,aj4] at tR;have PX:=JP d_ 0;have NN:c9 p.h=c9 (cy l[k] 0):=by rw [hh];rfl
 have Xs: (dL l).length=eW l k+ (jT l[k]+ (l[k].2.length+ (16+ (a8 (l.drop (k+1))++fM l).length))):=by
  have:=congrArg List.length (tN hk);simp only [ajQ,pF] at this ⊢;unfold eW;omega
 have h22:22≤(fM l).length:=by unfold fM;rw [ajQ,nV];omega
 have h22:22≤(a8 (l.drop (k+1))++fM l).length:=by rw [ajQ];omega
 refine X2 ff (L:= .ay S::L) (o.fW (by repeat(first|exact aY.refl|exact bu.here|apply aY.cons|apply bu.there))) ?_;have sm:CQ p.h:=by rw [hh];exact g.ok.sm (ajZ hk) (a:=eW l k) (by have:=g.ok.Em k;unfold eW;omega)
 have o2:aw H0 H (fC b p (bO 0 (l.take k)) ((ik l).take (k+1)) E (.ay S::L)):=o.fW (by repeat(first|exact aY.refl|exact bu.here|apply aY.cons|apply bu.there));refine JM (q:=min p.rest.length 16) (L:= .ay S::L) (E:=E) (hs:=bO 0 (l.take k)) sm (by rw [hh];exact decide_eq_false d_) il (by omega) (by rw [j_,ajW];omega) (by omega) rfl ?_ o2 (fun hq H1 o=>?_) (fun hq H1 qN oe o=>?_)
 ·rw [NN,tR,akQ]
  rcases akz (m - (eW l k+ (jT l[k]+l[k].2.length))) 16 with h|h
  ·rw [BL (by omega)]
   congr 1
   rw [ajW,ajQ];omega
  ·rw [BL (by rw [PX];exact akk (Nat.min_le_left _ _) (Nat.min_le_right _ _))]
   congr 1
   rw [ajW,ajQ];omega
 ·exact sA H1 E k _ ⟨p,_,S,.h2 k hk ff d_ ji hh il rfl,hr,hc,hm,nz,tr,(fun h=>nomatch h),fun _=> ⟨fun h=>by omega,by omega,fun _=>by rw [qf hk,pF];omega⟩,o.fW (by repeat(first|exact aY.refl|exact bu.here|apply aY.cons|apply bu.there))⟩
 ·have tQ:eW l (k+1)=p.at' +16:=by rw [qf hk,pF,PX];omega
  have Wm:bO 0 (l.take (k+1))=bO 0 (l.take k)++ [p.h]:=by
   rw [fe hk,qe,bO,bO,aj6,hh];rfl
  rw [←Wm] at o;obtain⟨p1,lu⟩: ∃p1:Pd,p1= {p with rest:=p.rest.drop 16,at' :=p.at' +16,hv:=qN,en:=p.at' +16,ov:=oe,st:=0}:= ⟨_,rfl⟩;have o:aw H0 H1 (.ay S::fC b p1 (bO 0 (l.take (k+1))) ((ik l).take (k+1)) (E++ [⟨3,p.h,[]⟩]) L):=by rw [lu];exact o.fW (by repeat(first|exact aY.refl|exact bu.here|apply aY.cons|apply bu.there))
  have f1:p1.st=0:=by rw [lu]
  have f4:p1.at' =eW l (k+1):=by rw [lu,tQ]
  have f6:p1.rest=p.rest.drop 16:=by rw [lu]
  have f8:p1.en=eW l (k+1):=by rw [lu,tQ]
  clear lu;have DL:=sN o;refine zx H1 _ (k+1) none ⟨p1,_,S,.h0 (k+1) hk f1 f4 rfl,?_,by omega,hm,f8,?_,fun _=>by rw [f1];simp only [JO,ajQ,alf];omega,(fun h=>nomatch h),o⟩ ?_
  ·rw [f6,f4,tQ,←akR,←hr]
  ·rw [←ajT]
   exact .fil hk tr (by rw [hh];rfl) (by rw [hh];rfl)
  ·rw [DT,DL,f1,f6,aj1]
   simp only [if_true];omega
theorem Me (g:nj l) {p:Pd} {S:ir} {ns:List (List UInt8)} {j:Nat} (hj:j< (fM l).length) (ff:p.st=3) (ji:p.at' =eW l l.length+j) (ht:p.tail= (fM l).drop j)
  (hr:p.rest= ((dL l).take m).drop p.at') (hc:p.at' ≤m) (hm:m≤(dL l).length) (nz:p.en=eW l l.length) (tr:Tr l (E0++E) l.length none) (hE:E.length≤3*l.length)
  (o:aw H0 H (.ay S::fC b p (bO 0 (l.take l.length)) ns E L))
  (zx: ∀H' E' k' W',PS H0 H' b l m E0 E' k' W' true L→tO H' b<tO H b→R (.int .i64 0) H')
  (sA: ∀H' E' k' W',PS H0 H' b l m E0 E' k' W' false L→R (.int .i64 2) H'):ab Tryz.prog 42 #[at_ b 0] H R:=by
 have hZ:=mG g.ok;have h5:=g.ok.len;have DT:=sN o;rw [if_neg (by omega)] at DT;have Gi:p.rest.length=m - p.at' :=by rw [hr,aj1,ajW];omega
 have ze:=BK l;have Xs: (dL l).length=eW l l.length+ (fM l).length:=by unfold dL;rw [ajQ,ze]
 have tR:p.rest=p.tail.take (m - p.at'):=by
  rw [hr,ht];refine G1 (p:=a8 l++ (fM l).take j) ?_ ?_ hc
  ·unfold dL;rw [ajT,akf]
  ·rw [ajQ,ajW,ji,ze];omega
 have Jb:p.tail.length= (fM l).length - j:=by rw [ht,aj1]
 refine X3 ff (L:= .ay S::L) (o.fW (by repeat(first|exact aY.refl|exact bu.here|apply aY.cons|apply bu.there))) ?_;have o2:aw H0 H (fC b p (bO 0 (l.take l.length)) ns E (.ay S::L)):=o.fW (by repeat(first|exact aY.refl|exact bu.here|apply aY.cons|apply bu.there));refine G0 (q:=min p.rest.length p.tail.length) (L:= .ay S::L) (E:=E) (by omega) (by omega) rfl ?_ o2 (fun hq H1 o=>?_) (fun hq H1 oe o=>?_)
 ·obtain⟨q,hq⟩: ∃q,q=min p.rest.length p.tail.length:= ⟨_,rfl⟩
  have Tl:q≤m - p.at' :=by omega
  rw [←hq,tR,akQ,aks Tl]
 ·have Gw:min p.rest.length p.tail.length=p.rest.length:=by omega
  rw [Gw] at o hq;obtain⟨p1,lu⟩: ∃p1:Pd,p1= {p with rest:=p.rest.drop p.rest.length,at' :=p.at' +p.rest.length,tail:=p.tail.drop p.rest.length}:= ⟨_,rfl⟩;have o:aw H0 H1 (.ay S::fC b p1 (bO 0 (l.take l.length)) ns E L):=by rw [lu];exact o.fW (by repeat(first|exact aY.refl|exact bu.here|apply aY.cons|apply bu.there))
  have f1:p1.st=3:=by rw [lu];exact ff
  have f4:p1.at' =eW l l.length+ (j+p.rest.length):=by rw [lu];show p.at' +_=_;omega
  have f5:p1.tail= (fM l).drop (j+p.rest.length):=by rw [lu];show p.tail.drop _=_;rw [ht,akR]
  have f6:p1.rest= []:=by rw [lu];exact akW
  have f8:p1.en=eW l l.length:=by rw [lu];exact nz
  clear lu;exact sA H1 E _ none ⟨p1,_,S,.h3 (j+p.rest.length) (by omega) f1 f4 f5,by rw [f6,f4,ak3 (by rw [ajW];omega)],by omega,hm,f8,tr,(fun h=>nomatch h),fun _=> ⟨fun h=>by omega,by omega,fun h=>by omega⟩,o⟩
 ·have Gw:p.tail.length≤p.rest.length:=by omega
  obtain⟨p1,lu⟩: ∃p1:Pd,p1= {p with rest:=p.rest.drop (min p.rest.length p.tail.length),at' :=p.at' +min p.rest.length p.tail.length,tail:= [],ov:=oe,st:=4}:= ⟨_,rfl⟩;have o:aw H0 H1 (.ay S::fC b p1 (bO 0 (l.take l.length)) ns (E++ [⟨4,Hd.zero,[]⟩]) L):=by rw [lu];exact o.fW (by repeat(first|exact aY.refl|exact bu.here|apply aY.cons|apply bu.there))
  have f1:p1.st=4:=by rw [lu]
  have f4:p1.at' = (dL l).length:=by rw [lu];show p.at' +_=_;omega
  have f6:p1.rest= []:=by rw [lu];exact ak3 (by omega)
  have f8:p1.en=eW l l.length:=by rw [lu];exact nz
  clear lu;have DL:=sN o;refine zx H1 _ _ none ⟨p1,_,S,.h4 f1 f4,by rw [f6,f4,ak3 (by rw [ajW];omega)],by omega,hm,f8,by rw [←ajT];exact .don tr,fun _=>by rw [f1];simp only [JO,ajQ,alf];omega,(fun h=>nomatch h),o⟩ ?_;rw [DT,DL,f1,f6];simp only [show ¬ (4=0) by decide,if_false,aj7];omega
theorem Mf (hG:Reads H0 ⟨4,0,none⟩ je) (g:nj l) (ps:PS H0 H b l m E0 E k W true L)
  (zx: ∀H' E' k' W',PS H0 H' b l m E0 E' k' W' true L→tO H' b<tO H b→R (.int .i64 0) H')
  (sA: ∀H' E' k' W',PS H0 H' b l m E0 E' k' W' false L→R (.int .i64 2) H'):ab Tryz.prog 42 #[at_ b 0] H R:=by
 obtain⟨p,ns,S,ph,hr,hc,hm,nz,tr,hE,-,o⟩:=ps;have hE:=hE rfl
 cases ph with
 |h0 k hk ff ji DS=>subst DS;rw [ff] at hE;exact Mb g hk ff ji hr hc hm nz tr hE o zx sA
 |h1 k hk d ff hd d_ hf hD ji hh il DS=>subst DS;rw [ff] at hE;exact Md hG g hk ff hd d_ hf hD ji hh il hr hc hm nz tr hE o zx sA
 |h2 k hk ff d_ ji hh il DS=>subst DS;rw [ff] at hE;exact JQ g hk ff d_ ji hh il hr hc hm nz tr hE o zx sA
 |h3 j hj ff ji ht=>rw [ff] at hE;exact Me g hj ff ji ht hr hc hm nz tr hE o zx sA
 |h4 ff ji=>
  have PR:p.rest= []:=by rw [hr,ji,ak3 (by rw [ajW];omega)]
  refine X4 ff PR (L:= .ay S::L) (o.fW (by repeat(first|exact aY.refl|exact bu.here|apply aY.cons|apply bu.there))) ?_;exact sA H E _ none ⟨p,ns,S,.h4 ff ji,hr,hc,hm,nz,tr,(fun h=>nomatch h),fun _=> ⟨fun _=>ff,by rw [ff] at hE;have:=g.ok.len;simp only [JO] at hE;omega,fun h=>by omega⟩,o⟩
end
section
set_option maxRecDepth 100000
variable {H H0 H' :ak} {R:Value→ak→Prop} {L:List It} {s:List UInt8} {b m k:Nat} {l:List Fp} {E0 E:List Ev} {W:Option (List UInt8)}
def YR (b:Nat) (l:List Fp) (m:Nat) (E0 E:List Ev) (k:Nat) (W:Option (List UInt8)) (ov:Value) (P:ir):Prop:= ∀ (H0 H:ak) (N:List It),aw H0 H (.sl ov 14 (pq E):: .ay P::N)→
 ∃p ns S,Ph l p ns S k W∧p.rest= ((dL l).take m).drop p.at' ∧p.at' ≤m∧m≤(dL l).length∧p.en=eW l k∧Tr l (E0++E) k W∧(m= (dL l).length→0<m→p.st=4)∧E.length≤20∧(k<l.length→m<eW l (k+1))∧p.ov=ov∧aw H0 H (.ay S::fC b p (bO 0 (l.take k)) ns E N)
theorem S0 {p:Pd} {ns:List (List UInt8)} {S:ir} (ph:Ph l p ns S k W) (hr:p.rest= ((dL l).take m).drop p.at') (hc:p.at' ≤m) (hm:m≤(dL l).length) (nz:p.en=eW l k) (tr:Tr l (E0++E) k W) (hw:m= (dL l).length→0<m→p.st=4) (hE:E.length≤20) (hn:k<l.length→m<eW l (k+1)) (o:aw H0 H (.ay S::fC b p (bO 0 (l.take k)) ns E L)):
  ∃P,YR b l m E0 E k W p.ov P∧aw H0 H (.sl p.ov 14 (pq E):: .ay P::L):=by
 refine⟨qu [.ay S,.box b p.cells 105,.ay (vO p.tb),.sl p.hv 12 (mr (bO 0 (l.take k))),.sl p.nv 1 (iC ns)],fun H0 H N o=> ⟨p,ns,S,ph,hr,hc,hm,nz,tr,hw,hE,hn,rfl,?_⟩,?_⟩
 ·have o:=nT (o.perm (List.Perm.swap _ _ _))
  exact o.fW (by repeat(first|exact aY.refl|exact bu.here|apply aY.cons|apply bu.there))
 ·have o2:aw H0 H ([.ay S,.box b p.cells 105,.ay (vO p.tb),.sl p.hv 12 (mr (bO 0 (l.take k))),.sl p.nv 1 (iC ns)]++ (.sl p.ov 14 (pq E)::L)):=o.fW (by repeat(first|exact aY.refl|exact bu.here|apply aY.cons|apply bu.there))
  exact(qK o2).perm (List.Perm.swap _ _ _)
theorem FC (l:List Fp) (o:aw H0 H L) (h: ∀H' b P,YR b l 0 [] [] 0 none (.slice none 0 0) P→aw H0 H' (.sl (.slice none 0 0) 14 (pq []):: .ay P::L)→R (at_ b 0) H'):ab Tryz.prog 11 #[] H R:=by
 refine qZ.vc _ _ ?_;unfold qZ.res;refine xz fun H1 tb ht nP YO=>?_;have o:=o.add nP (i:= .ay (vO tb)) ht (by intro k hk;obtain rfl:k=tb:=hk;exact YO);refine aU rfl (ajU rfl) ?_;rw [bG];refine o.box fun b H2 o _=>?_;have o:=yQ 12 (by decide) (yQ 1 (by decide) (yQ 14 (by decide) (o.add (Ext.refl _) (i:= .ay AS) trivial (fun k hk=>hk.elim))));obtain⟨p,hp⟩: ∃p:Pd,p= ⟨tb,[],0,0,0,Hd.zero,false,.pointer none,0,.slice none 0 0,.slice none 0 0,[],.slice none 0 0⟩:= ⟨_,rfl⟩;have o:aw H0 H2 (.ay AS::fC b p (bO 0 (l.take 0)) [] [] L):=by
  rw [hp];exact o.fW (by repeat(first|exact aY.refl|exact bu.here|apply aY.cons|apply bu.there))
 obtain⟨P,hP,o⟩:=S0 (l:=l) (k:=0) (W:=none) (m:=0) (E0:= []) (.h0 0 (akj _) (by rw [hp]) (by rw [hp];rfl) rfl) (by rw [hp];simp) (by rw [hp];exact ajR _) (akj _) (by rw [hp];rfl) .nil (fun _ h=>by omega) (akj _) (fun h=>by rw [qf h,pF];unfold jT;rw [kx];omega) o;have e:p.ov= .slice none 0 0:=by rw [hp]
 rw [e] at hP o;exact h H2 b P hP o
theorem DN {P:ir} {ov:Value} (hG:Reads H0 ⟨4,0,none⟩ je) (g:nj l) (hp:YR b l m E0 E k W ov P) (hm:m+s.length≤(dL l).length) (hs:s= ((dL l).drop m).take s.length) (o:aw H0 H (.sl ov 14 (pq E):: .ay P::L))
  (h: ∀H' E' k' W' oe P',YR b l (m+s.length) (E0++E) E' k' W' oe P' →aw H0 H' (.sl oe 14 (pq E'):: .ay P' ::L)→R (.tuple #[oe,.int .i64 0]) H'):ab Tryz.prog 12 #[at_ b 0,str s] H R:=by
 obtain⟨p,ns,S,ph,hr,hc,JZ,nz,tr,hw,-,-,YS,o1⟩:=hp _ _ _ o;subst YS;clear o hp;have o:=o1;have hZ:=mG g.ok;have Gi:p.rest.length=m - p.at' :=by rw [hr,aj1,ajW];omega
 refine ig.vc _ _ _ _ ?_;unfold ig.res;rw [iA,ao];refine aI (aj ?_);refine o.az (b:=b) (f:=0+24) (w:= .int .i64 0) (by repeat(first|exact ajP|apply ajO)) rfl ?_;refine jD ?_;rw [ao];refine aI (aj ?_);refine o.bK (b:=b) (f:=0+23) (by repeat(first|exact ajP|apply ajO)) (ajU rfl) rfl (by repeat(first|exact bd.here|apply bd.there)) fun H1 o _=>?_;refine aI (aj ?_);refine o.az (b:=b) (f:=0+1) (w:=str p.rest) (by repeat(first|exact ajP|apply ajO)) rfl ?_;refine aT (by omega) ?_;refine aI (aj ?_);refine o.bK (b:=b) (f:=0+1) (by repeat(first|exact ajP|apply ajO)) (ajU rfl) rfl (by repeat(first|exact bd.here|apply bd.there)) fun H2 o _=>?_;have o:=yQ 14 (by decide) o;obtain⟨p1,lu⟩: ∃p1:Pd,p1= {p with rest:=p.rest++s,ov:= .slice none 0 0}:= ⟨_,rfl⟩;have o:aw H0 H2 (.sl p.ov 14 (pq E):: .ay S::fC b p1 (bO 0 (l.take k)) ns [] L):=by rw [lu];exact o.fW (by repeat(first|exact aY.refl|exact bu.here|apply aY.cons|apply bu.there))
 have o:=o.rN 1;have ph1:Ph l p1 ns S k W:=by
  rw [lu]
  cases ph with
  |h0 k hk ff ji DS=>exact .h0 k hk ff ji DS
  |h1 k hk d ff hd d_ hf hD ji hh il DS=>exact .h1 (p:= {p with rest:=p.rest++s,ov:= .slice none 0 0}) k hk d ff hd d_ hf hD ji hh il DS
  |h2 k hk ff d_ ji hh il DS=>exact .h2 k hk ff d_ ji hh il DS
  |h3 j hj ff ji ht=>exact .h3 j hj ff ji ht
  |h4 ff ji=>exact .h4 ff ji
 have f1:p1.rest= ((dL l).take (m+s.length)).drop p1.at' :=by
  have e1:p1.rest=p.rest++s:=by rw [lu]
  have e2:p1.at' =p.at' :=by rw [lu]
  rw [e1,e2,hr,List.take_add,akH (by rw [ajW];omega),←hs]
 have f2:p1.at' =p.at' :=by rw [lu]
 have f3:p1.en=p.en:=by rw [lu]
 clear lu;refine⟨fun H' => ∃E' k' W',PS H0 H' b l (m+s.length) (E0++E) E' k' W' true L,fun H' =>tO H' b,⟨[],k,W,p1,ns,S,ph1,f1,by omega,hm,by rw [f3];exact nz,by rw [akb];exact tr,fun _=>akj _,(fun h=>nomatch h),o⟩,?_⟩;rintro _ H3 ⟨E',k',W',ps⟩;refine Mf hG g ps (fun H4 E4 k4 W4 ps4 eF=>?_) (fun H4 E4 k4 W4 ps4=>?_)
 ·rw [bj,decide_eq_true rfl,aH]
  exact⟨⟨E4,k4,W4,ps4⟩,eF⟩
 ·rw [bj,decide_eq_false (by decide),ao,bj,decide_eq_true rfl,aH]
  obtain⟨p4,ns4,S4,q1,q2,q3,q4,q5,q6,-,q8,o4⟩:=ps4;refine aI (aj ?_);refine o4.az (b:=b) (f:=0+23) (w:=p4.ov) (by repeat(first|exact ajP|apply ajO)) rfl ?_;obtain⟨P4,hP4,o4⟩:=S0 q1 q2 q3 q4 q5 q6 (fun h _=> (q8 rfl).1 h) (q8 rfl).2.1 (q8 rfl).2.2 o4;exact h H4 E4 k4 W4 p4.ov P4 hP4 o4
end
section
set_option maxRecDepth 100000
variable {H H0 H' :ak} {R:Value→ak→Prop} {L:List It} {s:List UInt8}
theorem Ep {a p:List UInt8} (e:s=a++p) (hs:s.length≤1000000000) (h:R (.bool true) H):ab Tryz.prog 136 #[str s,str p] H R:=by
 have hl:=congrArg List.length e;rw [ajQ] at hl;refine strings_HasSuffix.vc _ _ _ _ ?_;unfold strings_HasSuffix.res;refine stringslite_HasSuffix.vc _ _ _ _ ?_;unfold stringslite_HasSuffix.res;refine aJ ?_;refine aJ ?_;rw [iU,decide_eq_true (by omega)];refine bX ?_;refine aJ ?_;refine aJ ?_;rw [bE,show ((s.length:Int) - (p.length:Int))= ((a.length:Nat):Int) by omega,bH (by omega) (by omega)];refine bz (lo:=a.length) (hi:=s.length) (.inl rfl) (.inr ⟨rfl,rfl⟩) (by omega) (ajR _) ?_;rw [aj9 (by rw [aj1];omega),e,als];refine pD ?_;rw [decide_eq_true rfl];intro _;exact h
theorem DO {a n:Nat} (hs:s.length≤1000000000) (h:a+n≤s.length) (hk:R (.tuple #[str ((s.drop a).take n),.bool true]) H):ab Tryz.prog 135 #[str s,.int .u64 (a:Int),.int .u64 (n:Int)] H R:=by
 refine mf.vc _ _ _ _ _ ?_;unfold mf.res;refine aJ ?_;refine cC ?_;rw [eX (by omega) (by omega),bU,decide_eq_false (by omega)];refine bh ?_;rw [bE,eX (by omega) (by omega),bU,decide_eq_false (by omega)];intro _;rw [ao,aC,eX (by omega) (by omega)];have e:bt (str s) (some (.int .u64 (a:Int))) (some (.int .u64 ((a:Int)+ (n:Int))))=fun K:Value→Prop=>bt (str s) (some (.int .i64 (a:Int))) (some (.int .i64 ((a+n:Nat):Int))) K:=by
  funext K
  rw [sZ,sZ,ua,ua,show ((a:Int)+ (n:Int))= ((a+n:Nat):Int) by omega]
 rw [e];refine bz (lo:=a) (hi:=a+n) (.inl rfl) (.inl rfl) (by omega) h ?_;rw [amj];exact hk
def JR (n:Nat):List UInt8:=if n>4294967294 then [255,255,255,255] else aP n 4
def U2 (c z a:Nat):List UInt8:= [80,75,5,6]++ (aP 0 4++ (aP (min c 65535) 2++ (aP (min c 65535) 2++ (JR z++ (JR a++aP 0 2)))))
theorem tP (n:Nat): (JR n).length=4:=by unfold JR;split<;>simp [aD]
theorem DP {n:Nat} (hn:n<18446744073709551616) (h: ∀H',Ext H H' →R (str (JR n)) H'):ab Tryz.prog 148 #[.int .u64 (n:Int),.bool (decide (n>4294967294))] H R:=by
 refine lG.vc _ _ _ _ ?_;unfold lG.res;unfold JR at h
 by_cases hg:n>4294967294
 ·rw [decide_eq_true hg,aH]
  rw [if_pos hg] at h;exact h H (Ext.refl _)
 ·rw [decide_eq_false hg,ao]
  rw [if_neg hg] at h;exact cL (n:=n) (k:=4) hn (by decide) (by decide) h
theorem A0 (h: ∀H' t,t.length=2→Ext H H' →R (str t) H'):ab Tryz.prog 146 #[.bool true] H R:=by
 refine kh.vc _ _ _ ?_;unfold kh.res;rw [aH];exact cL (n:=45) (k:=2) (by decide) (by decide) (by decide) fun H' hx=>h H' _ (aD _ _) hx
theorem U3 {c z a:Nat} (hc:c<18446744073709551616) (hz:z<18446744073709551616) (ha:a<18446744073709551616)
  (h: ∀H' t,Ext H H' →(t.length=98→(c>65534∨z>4294967294∨a>4294967294)∧∃p,p.length=76∧t=p++U2 c z a)→R (str t) H'):ab Tryz.prog 99 #[.int .u64 (c:Int),.int .u64 (z:Int),.int .u64 (a:Int)] H R:=by
 refine r8.vc _ _ _ _ _ ?_;unfold r8.res;rw [iU];refine oy (d:=decide (z≥4611686018427387904)) (fun _=>by rw [iU];exact⟨by congr 1;exact decide_eq_decide.2 (by omega),rfl⟩) ?_;intro _;refine oy (d:=decide (a≥4611686018427387904)) (fun _=>by rw [iU];exact⟨by congr 1;exact decide_eq_decide.2 (by omega),rfl⟩) ?_;intro _;refine fI (fun _=>?_) (fun Ah=>?_)
 ·exact h H [] (Ext.refl _) (fun e=>by simp at e)
 ·simp only [alu,decide_eq_false_iff_not] at Ah
  refine⟨fun s H' => ∃q,s=str q∧(q= []∨q.length=76∧(c>65534∨z>4294967294∨a>4294967294))∧Ext H H',?_,?_⟩
  ·rintro _ _ H1 ⟨q,rfl,hq,nP⟩
   have Tl:q.length≤76:=by rcases hq with rfl| ⟨hq,_⟩<;>simp_all
   rw [qm,show min (c:Int) 65535= ((min c 65535:Nat):Int) by omega];refine cL (n:=min c 65535) (k:=2) (by omega) (by decide) (by decide) fun H2 rR=>?_;refine aT (by simp only [aj2,aj7];omega) ?_;refine cL (n:=0) (k:=4) (by decide) (by decide) (by decide) fun H3 wx=>?_;refine aT (by simp only [ajQ,aD,aj2,aj7];omega) ?_;refine aT (by simp only [ajQ,aD,aj2,aj7];omega) ?_;refine aT (by simp only [ajQ,aD,aj2,aj7];omega) ?_;rw [bU,show decide ((z:Int)>4294967294)=decide (z>4294967294) from decide_eq_decide.2 (by omega)];refine DP hz fun H4 tV=>?_;refine aT (by simp only [ajQ,aD,tP,aj2,aj7];omega) ?_;rw [bU,show decide ((a:Int)>4294967294)=decide (a>4294967294) from decide_eq_decide.2 (by omega)];refine DP ha fun H5 wQ=>?_;refine aT (by simp only [ajQ,aD,tP,aj2,aj7];omega) ?_;refine cL (n:=0) (k:=2) (by decide) (by decide) (by decide) fun H6 xn=>?_;refine aT (by simp only [ajQ,aD,tP,aj2,aj7];omega) ?_;refine h H6 _ (((((nP.trans rR).trans wx).trans tV).trans wQ).trans xn) fun hl=>?_;rcases hq with rfl| ⟨hq,hb⟩
   ·simp [aD,tP] at hl
   ·exact⟨hb,q,hq,by unfold U2;simp only [ajT]⟩
  ·rw [bU]
   refine oy (d:=decide (z>4294967294)) (fun _=>by rw [bU];exact⟨by congr 1;exact decide_eq_decide.2 (by omega),rfl⟩) ?_;intro _;refine oy (d:=decide (a>4294967294)) (fun _=>by rw [bU];exact⟨by congr 1;exact decide_eq_decide.2 (by omega),rfl⟩) ?_;intro _;refine fI (fun hb=>?_) (fun _=> ⟨[],rfl,.inl rfl,Ext.refl _⟩);have hb:c>65534∨z>4294967294∨a>4294967294:=by
    simp only [ak5,decide_eq_true_eq] at hb;omega
   refine cL (n:=44) (k:=8) (by decide) (by decide) (by decide) fun H1 nP=>?_;refine aT (by simp [aD]) ?_;refine A0 fun H2 v1 w5 rR=>?_;refine aT (by simp [aD];omega) ?_;refine A0 fun H3 v2 HK wx=>?_;refine aT (by simp [aD];omega) ?_;refine cL (n:=0) (k:=8) (by decide) (by decide) (by decide) fun H4 tV=>?_;refine aT (by simp [aD];omega) ?_;refine cL (n:=c) (k:=8) (by omega) (by decide) (by decide) fun H5 wQ=>?_;refine aT (by simp [aD];omega) ?_;refine cL (n:=c) (k:=8) (by omega) (by decide) (by decide) fun H6 xn=>?_;refine aT (by simp [aD];omega) ?_;refine cL (n:=z) (k:=8) (by omega) (by decide) (by decide) fun H7 RA=>?_;refine aT (by simp [aD];omega) ?_;refine cL (n:=a) (k:=8) (by omega) (by decide) (by decide) fun H8 Oy=>?_;refine aT (by simp [aD];omega) ?_;refine cL (n:=0) (k:=4) (by decide) (by decide) (by decide) fun H9 ZU=>?_;refine aT (by simp [aD]) ?_;rw [aC,show ((a:Int)+ (z:Int))= ((a+z:Nat):Int) by omega,eX (by omega) (by omega)];refine cL (n:=a+z) (k:=8) (by omega) (by decide) (by decide) fun RU LV=>?_;refine aT (by simp [aD]) ?_;refine cL (n:=1) (k:=4) (by decide) (by decide) (by decide) fun UF LW=>?_;refine aT (by simp [aD]) ?_;refine aT (by simp [aD];omega) ?_;exact⟨_,rfl,.inr ⟨by simp [aD,w5,HK],hb⟩,((((((((((nP.trans rR).trans wx).trans tV).trans wQ).trans xn).trans RA).trans Oy).trans ZU).trans LV).trans LW)⟩
theorem S1 {c z a n z' a' :Nat} (hn:n≤1000) (hz:z' ≤100000000) (ha:a' ≤100000000) (hb:c>65534∨z>4294967294∨a>4294967294):U2 c z a≠uU n z' a' :=by
 intro e;have e0:uU n z' a' = [80,75,5,6]++ (aP 0 4++ (aP n 2++ (aP n 2++ (aP z' 4++ (aP a' 4++aP 0 2))))):=by unfold uU;simp only [ajT]
 rw [e0] at e;unfold U2 at e;have e1:=List.append_cancel_left (List.append_cancel_left e);have e2:=amE e1 (by rw [aD,aD]);have e3:=amE e2.2 (by rw [aD,aD]);have e4:=amE e3.2 (by rw [tP,aD]);have e5:=amE e4.2 (by rw [tP,aD]);have f1:=congrArg qs e2.1;rw [rL,rL] at f1;have f4:=congrArg qs e4.1;have f5:=congrArg qs e5.1;rw [rL] at f4 f5;have aaT: ∀q,q>4294967294→qs (JR q)=4294967295:=fun q hq=>by unfold JR;rw [if_pos hq];rfl
 rcases hb with h|h|h
 ·omega
 ·rw [aaT _ h] at f4;omega
 ·rw [aaT _ h] at f5;omega
end
section
set_option maxRecDepth 100000
variable {H H0 H' :ak} {R:Value→ak→Prop} {L:List It} {s:List UInt8}
theorem mg {n k:Nat} (hk:k≤8) (hn:n<256 ^ k) (h:R (.int .u64 (n:Int)) H):ab Tryz.prog 109 #[str (aP n k)] H R:=by
 refine Cs (by rw [aD];omega) ?_;rw [if_pos (by rw [aD];exact hk),rL,aj_ hn];exact h
theorem mh {x:List UInt8} (hx:x.length≤8) (h: ∀n:Nat,n<18446744073709551616→R (.int .u64 (n:Int)) H):ab Tryz.prog 109 #[str x] H R:=by
 refine Cs (by omega) ?_;rw [if_pos hx];exact h _ (Q3 hx)
theorem qM {s:List UInt8} {a n:Nat}: ((s.drop a).take n).length≤n:=by rw [ajW];omega
theorem PC {X:List UInt8} {n z a:Nat} (hn:n≤1000) (hz:z≤100000000) (ha:a≤100000000) (e:s=X++uU n z a) (hs:s.length≤1000000)
  (h: ∀H',Ext H H' →R (.tuple #[.agg #[.int .u64 (n:Int),.int .u64 (z:Int),.int .u64 (a:Int)],.bool true]) H'):ab Tryz.prog 187 #[str s] H R:=by
 have hl:s.length=X.length+22:=by rw [e,ajQ,nV]
 have e0:uU n z a= [80,75,5,6]++ (aP 0 4++ (aP n 2++ (aP n 2++ (aP z 4++ (aP a 4++aP 0 2))))):=by unfold uU;simp only [ajT]
 have bl:=nV n z a;have b1: ((uU n z a).drop 8).take 2=aP n 2:=GX (p:= [80,75,5,6]++aP 0 4) (r:=aP n 2++ (aP z 4++ (aP a 4++aP 0 2))) (by rw [e0];simp only [ajT]) (by simp [aD]) (by simp [aD]);have b2: ((uU n z a).drop 12).take 4=aP z 4:=GX (p:= [80,75,5,6]++aP 0 4++aP n 2++aP n 2) (r:=aP a 4++aP 0 2) (by rw [e0];simp only [ajT]) (by simp [aD]) (by simp [aD]);have b3: ((uU n z a).drop 16).take 4=aP a 4:=GX (p:= [80,75,5,6]++aP 0 4++aP n 2++aP n 2++aP z 4) (r:=aP 0 2) (by rw [e0];simp only [ajT]) (by simp [aD]) (by simp [aD]);refine nh.vc _ _ _ ?_;unfold nh.res;refine(aw.start (H:=H)).box fun q H1 o _=>?_;refine aJ ?_;rw [aQ,decide_eq_false (by omega),ao];refine aJ ?_;rw [bE,show ((s.length:Int) - 22)= ((X.length:Nat):Int) by omega,bH (by omega) (by omega)];refine bz (lo:=X.length) (hi:=s.length) (.inl rfl) (.inr ⟨rfl,rfl⟩) (by omega) (ajR _) ?_;rw [aj9 (by rw [aj1];omega),show s.drop X.length=uU n z a by rw [e,als]];refine⟨fun p H' => ∃pb,p=at_ pb 0∧aw H H' [.box pb [.int .u64 (n:Int),.int .u64 (z:Int),.int .u64 (a:Int)] 266,.box q [.int .u64 0,.int .u64 0,.int .u64 0] 266],?_,?_⟩
 ·clear o
  rintro _ _ H2 ⟨pb,rfl,o⟩;refine⟨fun H' =>aw H H' [.box pb [.int .u64 (n:Int),.int .u64 (z:Int),.int .u64 (a:Int)] 266,.box q [.int .u64 0,.int .u64 0,.int .u64 0] 266],?_,?_⟩
  ·clear o
   rintro _ H3 o;refine o.bC (b:=pb) (by repeat(first|exact ajP|apply ajO)) rfl ?_;refine aj ?_;refine o.az (b:=pb) (f:=0+0) (w:= .int .u64 (n:Int)) (by repeat(first|exact ajP|apply ajO)) rfl ?_;refine aj ?_;refine o.az (b:=pb) (f:=0+1) (w:= .int .u64 (z:Int)) (by repeat(first|exact ajP|apply ajO)) rfl ?_;refine aj ?_;refine o.az (b:=pb) (f:=0+2) (w:= .int .u64 (a:Int)) (by repeat(first|exact ajP|apply ajO)) rfl ?_;refine DC hn hz ha fun H4 hx=>?_;have o:=o.more hx;refine⟨o.bC (b:=pb) (by repeat(first|exact ajP|apply ajO)) rfl rfl,?_⟩;refine pD ?_;rw [decide_eq_true rfl];refine o.bW (b:=q) (by repeat(first|exact ajP|apply ajO)) rfl rfl rfl (by repeat(first|exact bd.here|apply bd.there)) fun H5 o _=>?_;refine o.bC (b:=q) (by repeat(first|exact ajP|apply ajO)) rfl ?_;exact h H5 o.ext
  ·refine aJ ?_
   rw [iU];refine ax (fun hc=>?_) (fun _=>o);obtain⟨m,hm⟩: ∃m,s.length - 98=m:= ⟨_,rfl⟩;refine aJ ?_;rw [bE,show ((s.length:Int) - 98)= ((m:Nat):Int) by omega,bH (by omega) (by omega)];refine bz (lo:=m) (hi:=s.length) (.inl rfl) (.inr ⟨rfl,rfl⟩) (by omega) (ajR _) ?_;rw [aj9 (by rw [aj1];omega)];obtain⟨c,y7⟩: ∃c,s.drop m=c:= ⟨_,rfl⟩;have iz:c.length=98:=by rw [←y7,aj1];omega
   have hce:c=X.drop m++uU n z a:=by rw [←y7,e,akH (by omega)]
   rw [y7];refine⟨fun v H' => ∃ (qb c1 z1 a1:Nat),v=at_ qb 0∧c1<18446744073709551616∧z1<18446744073709551616∧a1<18446744073709551616∧aw H H' [.box qb [.int .u64 (c1:Int),.int .u64 (z1:Int),.int .u64 (a1:Int)] 266,.box pb [.int .u64 (n:Int),.int .u64 (z:Int),.int .u64 (a:Int)] 266,.box q [.int .u64 0,.int .u64 0,.int .u64 0] 266],?_,?_⟩
   ·clear o
    rintro _ _ H3 ⟨qb,c1,z1,a1,rfl,aeQ,PO,tQ,o⟩;refine aj ?_;refine o.az (b:=qb) (f:=0+0) (w:= .int .u64 (c1:Int)) (by repeat(first|exact ajP|apply ajO)) rfl ?_;refine aj ?_;refine o.az (b:=qb) (f:=0+1) (w:= .int .u64 (z1:Int)) (by repeat(first|exact ajP|apply ajO)) rfl ?_;refine aj ?_;refine o.az (b:=qb) (f:=0+2) (w:= .int .u64 (a1:Int)) (by repeat(first|exact ajP|apply ajO)) rfl ?_;refine U3 aeQ PO tQ fun H4 t hx ht=>?_;have o:=o.more hx;refine aJ ?_;rw [bj];refine kn (d:=false) (fun h98=>?_) ?_
    ·refine pD ?_
     refine⟨?_,rfl⟩
     congr 1
     refine decide_eq_false fun et=>?_;have h98:t.length=98:=by have:=of_decide_eq_true h98;omega
     obtain⟨hb,p,hp,OG⟩:=ht h98;rw [et,hce] at OG;have:= (amE OG (by have:=congrArg List.length hce;rw [ajQ,bl,iz] at this;omega)).2;exact S1 hn hz ha hb this.symm
    ·intro _
     rw [amS,ao];exact o.rN 1
   ·refine bz (lo:=24) (hi:=32) (.inl rfl) (.inl rfl) (by decide) (by omega) ?_
    refine bz (lo:=40) (hi:=48) (.inl rfl) (.inl rfl) (by decide) (by omega) ?_;refine bz (lo:=48) (hi:=56) (.inl rfl) (.inl rfl) (by decide) (by omega) ?_;refine⟨mh qM fun x1 h1=> ⟨mh qM fun x2 h2=> ⟨mh qM fun x3 h3=>eY rfl rfl rfl (o.box fun qb H4 o _=>o.bW (b:=qb) (by repeat(first|exact ajP|apply ajO)) rfl rfl rfl (by repeat(first|exact bd.here|apply bd.there)) fun H5 o _=> ⟨qb,x1,x2,x3,rfl,h1,h2,h3,o⟩),?_⟩,?_⟩,?_⟩
    ·refine o.box fun qb H4 o _=>mh qM fun x3 h3=>eY rfl rfl rfl (o.bW (b:=qb) (by repeat(first|exact ajP|apply ajO)) rfl rfl rfl (by repeat(first|exact bd.here|apply bd.there)) fun H5 o _=> ⟨qb,x1,x2,x3,rfl,h1,h2,h3,o⟩)
    ·refine o.box fun qb H4 o _=>mh qM fun x2 h2=>mh qM fun x3 h3=>eY rfl rfl rfl (o.bW (b:=qb) (by repeat(first|exact ajP|apply ajO)) rfl rfl rfl (by repeat(first|exact bd.here|apply bd.there)) fun H5 o _=> ⟨qb,x1,x2,x3,rfl,h1,h2,h3,o⟩)
    ·refine o.box fun qb H4 o _=>mh qM fun x1 h1=>mh qM fun x2 h2=>mh qM fun x3 h3=>eY rfl rfl rfl (o.bW (b:=qb) (by repeat(first|exact ajP|apply ajO)) rfl rfl rfl (by repeat(first|exact bd.here|apply bd.there)) fun H5 o _=> ⟨qb,x1,x2,x3,rfl,h1,h2,h3,o⟩)
 ·refine bz (lo:=8) (hi:=10) (.inl rfl) (.inl rfl) (by decide) (by omega) ?_
  refine bz (lo:=12) (hi:=16) (.inl rfl) (.inl rfl) (by decide) (by omega) ?_;refine bz (lo:=16) (hi:=20) (.inl rfl) (.inl rfl) (by decide) (by omega) ?_;rw [show 10 - 8=2 from rfl,show 16 - 12=4 from rfl,b1,b2,b3];have g1:n<256 ^ 2:=by show n<65536;omega
  have g2:z<256 ^ 4:=by show z<4294967296;omega
  have g3:a<256 ^ 4:=by show a<4294967296;omega
  refine⟨mg (by decide) g1 ⟨mg (by decide) g2 ⟨mg (by decide) g3 (eY rfl rfl rfl (o.box fun pb H4 o _=>o.bW (b:=pb) (by repeat(first|exact ajP|apply ajO)) rfl rfl rfl (by repeat(first|exact bd.here|apply bd.there)) fun H5 o _=> ⟨pb,rfl,o⟩)),?_⟩,?_⟩,?_⟩
  ·refine o.box fun pb H4 o _=>mg (by decide) g3 (eY rfl rfl rfl (o.bW (b:=pb) (by repeat(first|exact ajP|apply ajO)) rfl rfl rfl (by repeat(first|exact bd.here|apply bd.there)) fun H5 o _=> ⟨pb,rfl,o⟩))
  ·refine o.box fun pb H4 o _=>mg (by decide) g2 (mg (by decide) g3 (eY rfl rfl rfl (o.bW (b:=pb) (by repeat(first|exact ajP|apply ajO)) rfl rfl rfl (by repeat(first|exact bd.here|apply bd.there)) fun H5 o _=> ⟨pb,rfl,o⟩)))
  ·refine o.box fun pb H4 o _=>mg (by decide) g1 (mg (by decide) g2 (mg (by decide) g3 (eY rfl rfl rfl (o.bW (b:=pb) (by repeat(first|exact ajP|apply ajO)) rfl rfl rfl (by repeat(first|exact bd.here|apply bd.there)) fun H5 o _=> ⟨pb,rfl,o⟩))))
theorem G2 {x:Hd} {iY:List UInt8} (hG:Reads H ⟨4,0,none⟩ je) (hs:s.length≤6000) (hk:x.k=decide (iY= [])) (jc:iY≠ []→run ⟨.hd,toBits s,[]⟩= (iY,⟨.dn,[],iY⟩,0))
  (h: ∀H',Ext H H' →R (.tuple #[str iY,.int .i64 0]) H'):ab Tryz.prog 137 #[str s,x.v] H R:=by
 refine j8.vc _ _ _ _ ?_;unfold j8.res;refine(aw.start (H:=H)).box fun b H1 o _=>?_;refine aj ?_;refine o.az (b:=b) (f:=0+11) (w:= .bool x.k) (by repeat(first|exact ajP|apply ajO)) rfl ?_;rw [hk];refine ax (fun hd=>?_) (fun hd=>?_)
 ·rw [hd] at h
  exact h H1 o.ext
 ·have hr:=jc hd
  refine Ft hG o (by omega) (fun ot D' H2 tR GL hx=>?_) (fun ot D' H2 tR GL hx=>?_) (fun ot D' e H2 tR he hx=>?_)
  ·rw [hr] at tR
   cases tR
   refine ai (vs:= [str iY,_,.int .i64 0]) rfl ?_;refine ai (vs:= [str iY,_,.int .i64 0]) rfl ?_;refine ai (vs:= [str iY,_,.int .i64 0]) rfl ?_;refine⟨fun v H' =>v= .int .i64 0∧Ext H H',?_,?_⟩
   ·rintro _ _ H3 ⟨rfl,wx⟩
    exact h H3 wx
   ·rw [bj,decide_eq_true rfl]
    refine bX ?_;refine pC ?_;intro _;rw [decide_eq_false (by simp [eZ,a7]),ao];exact⟨rfl,hx⟩
  ·rw [hr] at tR
   cases tR
   cases GL
  ·rw [hr] at tR
   simp only [ak4] at tR;exact absurd tR.2.2.symm he
theorem S2 (p r:List UInt8):preB p (p++r)=true:=by unfold preB;rw [amX];exact decide_eq_true rfl
theorem PD {tb k:Nat} {l:List Fp} (g:nj l) (hk:k<l.length) (hG:Reads H ⟨4,0,none⟩ je) (ht:VN H tb)
  (h: ∀H',Ext H H' →R (.tuple #[.agg l[k].1.cells.toArray,.int .i64 0]) H'):ab Tryz.prog 88 #[Bl tb,str (dL l),(cy l[k] (eW l k)).v] H R:=by
 have hZ:=mG g.ok;have he:=g.ok.Em k;have YM:= (g.ok.ent (ajZ hk)).1;have DY:= (g.ok.pk _ (ajZ hk)).1;have PX:=g.ok.Pv.iY _ (akn.2 ⟨_,ajZ hk,rfl⟩);have D7:=tN hk;have nz:=pF l[k];have ze:eW l k= (a8 (l.take k)).length:=rfl;have sm:CQ (cy l[k] (eW l k)):=g.ok.sm (ajZ hk) (by omega);have e3:bM (cy l[k] (eW l k))=bM (cy l[k] 0):=rfl;have e4:c9 (cy l[k] (eW l k))=c9 (cy l[k] 0):=rfl;have Tp:jT l[k]= (bM (cy l[k] 0)).length:=rfl;have aeS: ((dL l).drop (eW l k)).take (jT l[k]+l[k].2.length+ (c9 (cy l[k] 0)).length)=mC l[k]:=GX D7 rfl (by rw [nz];omega);have hle:eW l k+ (jT l[k]+l[k].2.length+ (c9 (cy l[k] 0)).length)≤(dL l).length:=by
  have:=congrArg List.length D7;simp only [ajQ] at this;omega
 have aeT: ((mC l[k]).drop (jT l[k])).take ((jT l[k]+l[k].2.length) - jT l[k])=l[k].2:=GX (p:=bM (cy l[k] 0)) (r:=c9 (cy l[k] 0)) rfl rfl (by omega);have Jx:preB (bM (cy l[k] 0)) (mC l[k])=true:=S2 _ _;have aeU:mC l[k]= (bM (cy l[k] 0)++l[k].2)++c9 (cy l[k] 0):=by unfold mC;rw [ajT]
 have jc:=g.run _ (ajZ hk);obtain⟨x,hx⟩: ∃x,cy l[k] (eW l k)=x:= ⟨_,rfl⟩;have f1:x.nm=l[k].1.nm:=by rw [←hx];rfl
 have f2:x.t=l[k].1.t:=by rw [←hx];rfl
 have f3:x.p=l[k].2.length:=by rw [←hx];rfl
 have f4:x.z=l[k].1.iY.length:=by rw [←hx];rfl
 have f5:x.u=mq 0 l[k].1.iY:=by rw [←hx];rfl
 have f6:x.a=eW l k:=by rw [←hx];rfl
 have f7:x.k=decide (l[k].1.iY= []):=by rw [←hx];rfl
 rw [hx] at sm e3 e4 ⊢;clear hx;refine me.vc _ _ _ _ _ ?_;unfold me.res;refine(aw.start (H:=H)).box fun b5 H1 o _=>?_;refine o.box fun b6 H2 o _=>?_;have o:aw H H2 [.box b6 _ 48,.box b5 x.cells 44]:=o;refine o.bC (b:=b5) (by repeat(first|exact ajP|apply ajO)) rfl ?_;refine o.bC (b:=b5) (by repeat(first|exact ajP|apply ajO)) rfl ?_;refine rF sm fun H3 wx=>?_;have o:=o.more wx;refine⟨o.bC (b:=b5) (by repeat(first|exact ajP|apply ajO)) rfl rfl,?_⟩;refine rG sm fun H4 tV=>?_;have o:=o.more tV;rw [e3,e4];refine aj ?_;refine o.az (b:=b5) (f:=0+10) (w:= .int .u64 (x.a:Int)) (by repeat(first|exact ajP|apply ajO)) rfl ?_;refine aJ ?_;refine cC ?_;rw [eX (by omega) (by omega)];refine aj ?_;refine o.az (b:=b5) (f:=0+7) (w:= .int .u64 (x.p:Int)) (by repeat(first|exact ajP|apply ajO)) rfl ?_;rw [f3,f6,aC,eX (by omega) (by omega)];refine aJ ?_;refine cC ?_;rw [eX (by omega) (by omega),aC,eX (by omega) (by omega),←Tp,show ((jT l[k]:Int)+ (l[k].2.length:Int)+ ((c9 (cy l[k] 0)).length:Int))= ((jT l[k]+l[k].2.length+ (c9 (cy l[k] 0)).length:Nat):Int) by omega];refine DO (by omega) hle ?_;rw [aeS];refine ai (vs:= [str (mC l[k]),.bool true]) rfl ?_;refine ai (vs:= [str (mC l[k]),.bool true]) rfl ?_;refine kp ?_;rw [show (!true)=false from rfl];refine bh ?_;refine nW (by omega) (by omega) ?_;rw [Jx];refine kp ?_;intro _;refine bh ?_;refine Ep aeU (by omega) ?_;refine kp ?_;intro _;rw [show (!true)=false from rfl,ao];refine aJ ?_;refine aJ ?_;refine aJ ?_;rw [bE,nz,←Tp,show (((jT l[k]+ (l[k].2.length+ (c9 (cy l[k] 0)).length):Nat):Int) - ((c9 (cy l[k] 0)).length:Int))= ((jT l[k]+l[k].2.length:Nat):Int) by omega,bH (by omega) (by omega)];refine bz (lo:=jT l[k]) (hi:=jT l[k]+l[k].2.length) (.inl rfl) (.inl rfl) (by omega) (by omega) ?_;rw [aeT];refine o.bC (b:=b5) (by repeat(first|exact ajP|apply ajO)) rfl ?_;refine G2 (x:=x) (hG.ext o.ext) DY f7 jc fun H5 wQ=>?_;have o:=o.more wQ;refine ai (vs:= [str l[k].1.iY,.int .i64 0]) rfl ?_;refine ai (vs:= [str l[k].1.iY,.int .i64 0]) rfl ?_;refine jD ?_;rw [ao];refine aJ ?_;refine cC ?_;rw [eX (by omega) (by omega)];refine aj ?_;refine o.az (b:=b5) (f:=0+8) (w:= .int .u64 (x.z:Int)) (by repeat(first|exact ajP|apply ajO)) rfl ?_;rw [f4,mP,decide_eq_false (by simp),ao];refine aj ?_;refine o.az (b:=b5) (f:=0+9) (w:= .int .u32 (x.u:Int)) (by repeat(first|exact ajP|apply ajO)) rfl ?_;refine Fy (by omega) (ht.ext o.ext) ?_;refine⟨o.az (b:=b5) (f:=0+9) (by repeat(first|exact ajP|apply ajO)) rfl rfl,?_⟩;rw [f5,mP,decide_eq_false (by simp),ao];refine aj ?_;refine o.az (b:=b5) (f:=0+0) (w:=str x.nm) (by repeat(first|exact ajP|apply ajO)) rfl ?_;refine aj ?_;refine fU (o.ll (b:=b5) (by repeat(first|exact ajP|apply ajO))) (ws:=x.t.cells.toList) rfl (ajU rfl) ?_;refine aU rfl (ajU rfl) ?_;rw [fV];refine⟨rfl,ajU rfl,?_⟩;refine aU rfl (ajU rfl) ?_;rw [bG];refine o.bW (b:=b6) (vs:= (⟨x.nm,x.t,l[k].1.iY⟩:Fl).cells) (by repeat(first|exact ajP|apply ajO)) rfl rfl (Bm _) (by repeat(first|exact bd.here|apply bd.there)) fun H6 o _=>?_;refine o.bC (b:=b6) (by repeat(first|exact ajP|apply ajO)) rfl ?_;rw [f1,f2];exact h H6 o.ext
end
section
set_option maxRecDepth 100000
variable {H H0 H' :ak} {R:Value→ak→Prop} {L:List It} {s:List UInt8}
theorem S3 {a:Int} {K:Value→Prop} (h:bt (str s) (some (.int .i64 a)) none K):bt (str s) (some (.int .u64 a)) none K:=by
 rw [sZ,rp] at h ⊢;exact h
theorem PE {l:List Fp} {k:Nat} (hk:k<l.length):bO (eW l k) (l.drop k)=cy l[k] (eW l k)::bO (eW l (k+1)) (l.drop (k+1)):=by
 rw [akN hk,bO,qf hk]
theorem JS {l:List Fp} {k:Nat} (hk:k<l.length):jh (bO (eW l k) (l.drop k))=kG (cy l[k] (eW l k))++jh (bO (eW l (k+1)) (l.drop (k+1))):=by
 rw [PE hk];rfl
theorem Mg {l:List Fp} (g:jP l) (h: ∀H' v,aw H H' [.sl v 12 (mr (bO 0 l))]→R (.tuple #[v,.int .i64 0]) H'):ab Tryz.prog 134 #[str (dL l)] H R:=by
 have hZ:=mG g;have En:=g.Em l.length;have iz:=yR g l.length (ajR _);have XZ:=g.len;rw [aj8] at En iz;have xE:=BK l;have hZe:dL l= (a8 l++jh (bO 0 l))++uU l.length (jh (bO 0 l)).length (a8 l).length:=by unfold dL fM;rw [ajT]
 have hZl: (dL l).length= (a8 l).length+ (jh (bO 0 l)).length+22:=by rw [hZe,ajQ,ajQ,nV]
 have aeV: ((dL l).drop (a8 l).length).take (jh (bO 0 l)).length=jh (bO 0 l):=GX (p:=a8 l) (r:=uU l.length (jh (bO 0 l)).length (a8 l).length) (by rw [hZe,ajT]) rfl rfl;have Bd: (dL l).drop ((a8 l).length+ (jh (bO 0 l)).length)=uU l.length (jh (bO 0 l)).length (a8 l).length:=by rw [hZe,←ajQ,als]
 refine kY.vc _ _ _ ?_;unfold kY.res;refine PC (X:=a8 l++jh (bO 0 l)) (by omega) (by omega) (by omega) hZe (by omega) fun H1 nP=>?_;refine ai (vs:= [.agg #[.int .u64 (l.length:Int),.int .u64 ((jh (bO 0 l)).length:Int),.int .u64 ((a8 l).length:Int)],.bool true]) rfl ?_;refine ai (vs:= [.agg #[.int .u64 (l.length:Int),.int .u64 ((jh (bO 0 l)).length:Int),.int .u64 ((a8 l).length:Int)],.bool true]) rfl ?_;refine((aw.start (H:=H)).more nP).box fun q H2 o _=>?_;refine o.bW (b:=q) (vs:= [.int .u64 (l.length:Int),.int .u64 ((jh (bO 0 l)).length:Int),.int .u64 ((a8 l).length:Int)]) (by repeat(first|exact ajP|apply ajO)) rfl rfl rfl (by repeat(first|exact bd.here|apply bd.there)) fun H3 o _=>?_;refine aj ?_;refine o.az (b:=q) (f:=0+2) (w:= .int .u64 ((a8 l).length:Int)) (by repeat(first|exact ajP|apply ajO)) rfl ?_;refine aj ?_;refine o.az (b:=q) (f:=0+1) (w:= .int .u64 ((jh (bO 0 l)).length:Int)) (by repeat(first|exact ajP|apply ajO)) rfl ?_;refine DO (by omega) (by omega) ?_;rw [aeV];refine ai (vs:= [str (jh (bO 0 l)),.bool true]) rfl ?_;refine ai (vs:= [str (jh (bO 0 l)),.bool true]) rfl ?_;refine aj ?_;refine o.az (b:=q) (f:=0+0) (w:= .int .u64 (l.length:Int)) (by repeat(first|exact ajP|apply ajO)) rfl ?_;refine aj ?_;refine o.az (b:=q) (f:=0+1) (w:= .int .u64 ((jh (bO 0 l)).length:Int)) (by repeat(first|exact ajP|apply ajO)) rfl ?_;refine aj ?_;refine o.az (b:=q) (f:=0+2) (w:= .int .u64 ((a8 l).length:Int)) (by repeat(first|exact ajP|apply ajO)) rfl ?_;refine DC (by omega) (by omega) (by omega) fun H5 wQ=>?_;have o:=o.more wQ;refine kp ?_;rw [show (!true)=false from rfl];refine bh ?_;refine kp ?_;rw [show (!true)=false from rfl];intro _;refine bh ?_;refine aj ?_;refine o.az (b:=q) (f:=0+2) (w:= .int .u64 ((a8 l).length:Int)) (by repeat(first|exact ajP|apply ajO)) rfl ?_;refine aj ?_;refine o.az (b:=q) (f:=0+1) (w:= .int .u64 ((jh (bO 0 l)).length:Int)) (by repeat(first|exact ajP|apply ajO)) rfl ?_;rw [aC,eX (by omega) (by omega),show (((a8 l).length:Int)+ ((jh (bO 0 l)).length:Int))= (((a8 l).length+ (jh (bO 0 l)).length:Nat):Int) by omega];refine S3 ?_;refine bz (lo:= (a8 l).length+ (jh (bO 0 l)).length) (hi:= (dL l).length) (.inl rfl) (.inr ⟨rfl,rfl⟩) (by omega) (ajR _) ?_;rw [aj9 (by rw [aj1];omega),Bd];refine pC ?_;rw [decide_eq_false (by simp)];intro _;rw [ao];have o:=yQ 12 (by decide) o;refine⟨fun d v a H' => ∃k:Nat,d=str (jh (bO (eW l k) (l.drop k)))∧a= .int .u64 (eW l k:Int)∧k≤l.length∧aw H H' [.sl v 12 (mr (bO 0 (l.take k))),.box q [.int .u64 (l.length:Int),.int .u64 ((jh (bO 0 l)).length:Int),.int .u64 ((a8 l).length:Int)] 266],
  fun d _ _ _=>match d with| .string b=>b.size|_=>0,⟨0,rfl,rfl,akj _,o⟩,?_⟩
 clear o;rintro _ _ v _ H6 ⟨k,rfl,rfl,hk,o⟩;have hek:=g.Em k;have hak:eW l k= (a8 (l.take k)).length:=rfl;refine pC ?_;refine ax (fun hc=>?_) (fun hc=>?_)
 ·have j5:k<l.length:=by
   rcases akz k l.length with h1|h1
   ·exact h1
   ·rw [ak3 h1] at hc
    exact absurd rfl hc
  have sm:CQ (cy l[k] (eW l k)):=g.sm (ajZ j5) (by omega);have YA:=JS j5;have e6:eW l (k+1)=eW l k+ (jT l[k]+ (l[k].2.length+ (c9 (cy l[k] 0)).length)):=by rw [qf j5,pF]
  have DY:= (g.pk _ (ajZ j5)).1;have aiw:= (g.ent (ajZ j5)).2;have hd4:=xB (cy l[k] 0);have Tp:jT l[k]= (bM (cy l[k] 0)).length:=rfl;have e3:bM (cy l[k] (eW l k))=bM (cy l[k] 0):=rfl;have e4:c9 (cy l[k] (eW l k))=c9 (cy l[k] 0):=rfl;have e5:mr (bO 0 (l.take (k+1)))=mr (bO 0 (l.take k))++ (cy l[k] (eW l k)).cells:=by
   rw [fe j5,qe,mr,ij,bO,bO,k_,aj6];rfl
  have VS:=nU (cy l[k] (eW l k));have PX: (jh (bO (eW l k) (l.drop k))).length≤1000:=by
   have h1:jh (bO 0 l)=jh (bO 0 (l.take k))++jh (bO (eW l k) (l.drop k)):=by
    conv=>lhs;rw [←akf k l,qe,DH,aj6]
    rfl
   have:=congrArg List.length h1;rw [ajQ] at this;omega
  have aaU:=congrArg List.length YA;rw [ajQ] at aaU;obtain⟨x,hx⟩: ∃x,cy l[k] (eW l k)=x:= ⟨_,rfl⟩;have f3:x.p=l[k].2.length:=by rw [←hx];rfl
  have f6:x.a=eW l k:=by rw [←hx];rfl
  rw [hx] at sm YA e3 e4 e5 VS aaU;clear hx;refine JF sm YA (by omega) fun H7 RA=>?_;have o:=o.more RA;refine ai (vs:= [x.v,.int .i64 ((46+x.nm.length:Nat):Int)]) rfl ?_;refine ai (vs:= [x.v,.int .i64 ((46+x.nm.length:Nat):Int)]) rfl ?_;refine o.box fun b H8 o _=>?_;refine o.bW (b:=b) (vs:=x.cells) (by repeat(first|exact ajP|apply ajO)) rfl rfl (tJ _) (by repeat(first|exact bd.here|apply bd.there)) fun H9 o _=>?_;rw [qw,decide_eq_false (by omega)];refine bh ?_;refine aj ?_;refine o.az (b:=b) (f:=0+10) (w:= .int .u64 (x.a:Int)) (by repeat(first|exact ajP|apply ajO)) rfl ?_;rw [f6,mP,decide_eq_false (by simp)];intro _;rw [ao];refine o.bC (b:=b) (by repeat(first|exact ajP|apply ajO)) rfl ?_;refine aj ?_;refine o.az (b:=b) (f:=0+7) (w:= .int .u64 (x.p:Int)) (by repeat(first|exact ajP|apply ajO)) rfl ?_;refine o.bC (b:=b) (by repeat(first|exact ajP|apply ajO)) rfl ?_;refine rF sm fun RU LV=>?_;have o:=o.more LV;refine⟨o.az (b:=b) (f:=0+7) (by repeat(first|exact ajP|apply ajO)) rfl rfl,o.bC (b:=b) (by repeat(first|exact ajP|apply ajO)) rfl rfl,?_⟩;refine aJ ?_;refine cC ?_;rw [e3,f3,eX (by omega) (by omega),aC,eX (by omega) (by omega)];refine rG sm fun UF LW=>?_;have o:=o.more LW;rw [e4];refine⟨o.az (b:=b) (f:=0+7) (w:= .int .u64 (x.p:Int)) (by repeat(first|exact ajP|apply ajO)) rfl (by rw [f3]),?_⟩;refine aJ ?_;refine cC ?_;rw [eX (by omega) (by omega),aC,eX (by omega) (by omega),aC,eX (by omega) (by omega)];refine bz (lo:=46+x.nm.length) (hi:= (jh (bO (eW l k) (l.drop k))).length) (.inl rfl) (.inr ⟨rfl,rfl⟩) (by omega) (ajR _) ?_;rw [aj9 (by rw [aj1];omega),YA,←VS,als];refine o.bC (b:=b) (by repeat(first|exact ajP|apply ajO)) rfl ?_;refine o.ej (sz:=12) (by decide) rfl rfl fun y H12 o=>?_;refine o.append (n:=k) (m:=1) (by repeat(first|exact bu.here|apply bu.there)) rfl (o.sl (v:=y) (by repeat(first|exact ajP|apply ajO))) (by rw [qd,j_,ajW,aks (by omega)]) rfl (tJ _) (by omega) fun v' H13 o=>?_;refine⟨⟨k+1,rfl,by congr 1;omega,by omega,?_⟩,?_⟩
  ·rw [e5]
   exact o.arr (by repeat(first|exact dV.nil|exact bu.here|apply dV.cons|apply bu.there))
  ·show (kI _).length< (kI _).length
   rw [cn,cn];rw [←YA];omega
 ·have j5:k=l.length:=by
   rcases akz k l.length with h1|h1
   ·rw [JS h1] at hc
    exact absurd (fun h0=>by
     have:=congrArg List.length h0;rw [ajQ,nU] at this
     simp at this) hc
   ·omega
  subst j5;rw [aj8] at o;refine(o.sl (v:=v) (by repeat(first|exact ajP|apply ajO))).len (n:=l.length) (by rw [qd,j_]) (by decide) ?_;refine cC ?_;rw [eX (by omega) (by omega)];refine aj ?_;refine o.az (b:=q) (f:=0+0) (w:= .int .u64 (l.length:Int)) (by repeat(first|exact ajP|apply ajO)) rfl ?_;rw [mP,decide_eq_false (by simp)];refine bh ?_;refine aj ?_;refine o.az (b:=q) (f:=0+2) (w:= .int .u64 ((a8 l).length:Int)) (by repeat(first|exact ajP|apply ajO)) rfl ?_;rw [xE,mP,decide_eq_false (by simp)];intro _;rw [ao];exact h H6 v (o.arr (by repeat(first|exact dV.nil|exact bu.here|apply dV.cons|apply bu.there)))
theorem Mh {l:List Fp} (g:jP l) (h: ∀H' v ns,aw H H' [.sl v 12 (mr (bO 0 l))]→R (.tuple #[v,ns,.int .i64 0]) H'):ab Tryz.prog 87 #[str (dL l)] H R:=by
 have XZ:=g.len;have iv: (mr (bO 0 l)).length=l.length*12:=by rw [qd,j_]
 refine kX.vc _ _ _ ?_;unfold kX.res;refine Mg g fun H1 v o=>?_;refine ai (vs:= [v,.int .i64 0]) rfl ?_;refine ai (vs:= [v,.int .i64 0]) rfl ?_;refine jD ?_;rw [ao];refine(o.sl (v:=v) (by repeat(first|exact ajP|apply ajO))).len iv (by decide) ?_;have o:=yQ 1 (by decide) o;refine⟨fun y i H' => ∃k:Nat,i= .int .i64 (k:Int)∧k≤l.length∧aw H H' [.sl y 1 (iC ((ik l).take k)),.sl v 12 (mr (bO 0 l))],fun _ i _=>match i with| .int _ x=> (l.length - x).toNat|_=>0,⟨0,rfl,akj _,o⟩,?_⟩;clear o;rintro _ ns _ H2 ⟨k,rfl,hk,o⟩;have PU: (ik l).length=l.length:=by unfold ik;rw [aka,aka]
 rw [aQ];refine ax (fun hc=>?_) (fun hc=>?_)
 ·have j5:k<l.length:=by omega
  have VO:k< (bO 0 l).length:=by rw [j_];exact j5
  refine(o.sl (v:=v) (by repeat(first|exact ajP|apply ajO))).at_ iv (by decide) (by omega) (by omega) fun p hp=>?_;rw [ajS] at hp;refine hp.kf (o.sl (v:=v) (by repeat(first|exact ajP|apply ajO))) (ws:= (bO 0 l)[k].cells) (jN BI VO) rfl ?_;rw [BJ j5 VO,aj6];refine o.box fun b H3 o _=>?_;refine o.bW (b:=b) (vs:= (cy l[k] (a8 (l.take k)).length).cells) (by repeat(first|exact ajP|apply ajO)) rfl rfl (tJ _) (by repeat(first|exact bd.here|apply bd.there)) fun H4 o _=>?_;refine aj ?_;refine o.az (b:=b) (f:=0+0) (w:=str l[k].1.nm) (by repeat(first|exact ajP|apply ajO)) rfl ?_;refine o.ej (sz:=1) (by decide) rfl rfl fun y H5 o=>?_;refine o.append (n:=k) (m:=1) (by repeat(first|exact bu.here|apply bu.there)) rfl (o.sl (v:=y) (by repeat(first|exact ajP|apply ajO))) (by rw [oJ,ajW];omega) rfl rfl (by omega) fun v' H6 o=>?_;rw [aC,bH (by omega) (by omega)];refine⟨⟨k+1,rfl,by omega,?_⟩,by show (_:Int).toNat< (_:Int).toNat;omega⟩;have e:iC ((ik l).take (k+1))=iC ((ik l).take k)++ (str l[k].1.nm).cells.toList:=by
   rw [fe (by omega),nK];unfold ik;rw [alG,alG]
   rfl
  rw [e];exact o.arr (by repeat(first|exact dV.nil|exact bu.here|apply dV.cons|apply bu.there))
 ·refine g.Pv.XX.all k _ _ _ (o.sl (v:=ns) (by repeat(first|exact ajP|apply ajO))) fun H3 hx=>?_
  have o:=o.more hx;refine ai (vs:= [.int .i64 0,.int .i64 0]) rfl ?_;refine ai (vs:= [.int .i64 0,.int .i64 0]) rfl ?_;refine jD ?_;rw [ao];exact h H3 v ns (o.rN 1)
theorem PF {l:List Fp} (g:nj l) (hG:Reads H ⟨4,0,none⟩ je) (h: ∀H' v,aw H H' [.sl v 8 (iZ (l.map Prod.fst))]→R (.tuple #[v,.int .i64 0]) H'):ab Tryz.prog 39 #[str (dL l)] H R:=by
 have XZ:=g.ok.len;have iv: (mr (bO 0 l)).length=l.length*12:=by rw [qd,j_]
 refine ng.vc _ _ _ ?_;unfold ng.res;refine Mh g.ok fun H1 v ns o=>?_;refine ai (vs:= [v,ns,.int .i64 0]) rfl ?_;refine ai (vs:= [v,ns,.int .i64 0]) rfl ?_;refine ai (vs:= [v,ns,.int .i64 0]) rfl ?_;refine jD ?_;rw [ao];refine xz fun H2 tb ht nP YO=>?_;have o:=o.add nP (i:= .ay (vO tb)) ht (by intro k hk;obtain rfl:k=tb:=hk;exact YO);refine(o.sl (v:=v) (by repeat(first|exact ajP|apply ajO))).len iv (by decide) ?_;have o:=yQ 8 (by decide) o;refine⟨fun y i H' => ∃k:Nat,i= .int .i64 (k:Int)∧k≤l.length∧aw H H' [.sl y 8 (iZ ((l.map Prod.fst).take k)),.ay (vO tb),.sl v 12 (mr (bO 0 l))],fun _ i _=>match i with| .int _ x=> (l.length - x).toNat|_=>0,⟨0,rfl,akj _,o⟩,?_⟩;clear o ht nP YO;rintro _ out _ H2 ⟨k,rfl,hk,o⟩;rw [aQ];refine ax (fun hc=>?_) (fun hc=>?_)
 ·have j5:k<l.length:=by omega
  have VO:k< (bO 0 l).length:=by rw [j_];exact j5
  refine(o.sl (v:=v) (by repeat(first|exact ajP|apply ajO))).at_ iv (by decide) (by omega) (by omega) fun p hp=>?_;rw [ajS] at hp;refine hp.kf (o.sl (v:=v) (by repeat(first|exact ajP|apply ajO))) (ws:= (bO 0 l)[k].cells) (jN BI VO) rfl ?_;rw [BJ j5 VO,aj6];refine o.box fun b H3 o _=>?_;refine o.bW (b:=b) (vs:= (cy l[k] (a8 (l.take k)).length).cells) (by repeat(first|exact ajP|apply ajO)) rfl rfl (tJ _) (by repeat(first|exact bd.here|apply bd.there)) fun H4 o _=>?_;refine o.bC (b:=b) (by repeat(first|exact ajP|apply ajO)) rfl ?_;refine PD g j5 (hG.ext o.ext) (o.ay (T:=vO tb) (by repeat(first|exact ajP|apply ajO))) fun H5 wQ=>?_;have o:=o.more wQ;refine ai (vs:= [.agg l[k].1.cells.toArray,.int .i64 0]) rfl ?_;refine ai (vs:= [.agg l[k].1.cells.toArray,.int .i64 0]) rfl ?_;refine o.box fun c H6 o _=>?_;refine o.bW (b:=c) (vs:=l[k].1.cells) (by repeat(first|exact ajP|apply ajO)) rfl rfl (Bm _) (by repeat(first|exact bd.here|apply bd.there)) fun H7 o _=>?_;refine jD ?_;rw [ao];refine o.bC (b:=c) (by repeat(first|exact ajP|apply ajO)) rfl ?_;refine o.ej (sz:=8) (by decide) rfl rfl fun y H8 o=>?_;refine o.append (n:=k) (m:=1) (by repeat(first|exact bu.here|apply bu.there)) rfl (o.sl (v:=y) (by repeat(first|exact ajP|apply ajO))) (by rw [gM,ajW,aka];omega) rfl (Bm _) (by omega) fun v' H9 o=>?_;rw [aC,bH (by omega) (by omega)];refine⟨⟨k+1,rfl,by omega,?_⟩,by show (_:Int).toNat< (_:Int).toNat;omega⟩;have e:iZ ((l.map Prod.fst).take (k+1))=iZ ((l.map Prod.fst).take k)++l[k].1.cells:=by
   rw [fe (by rw [aka];exact j5),iZ,ij,k_,alG]
   rfl
  rw [e];exact o.arr (by repeat(first|exact dV.nil|exact bu.here|apply dV.cons|apply bu.there))
 ·have j5:k=l.length:=by omega
  subst j5;rw [aj9 (by rw [aka];exact ajR _)] at o;exact h H2 out (o.arr (by repeat(first|exact dV.nil|exact bu.here|apply dV.cons|apply bu.there)))
theorem U4 {f:Fl} {K:Value→Prop} (h:K (.bool false)):J6 [1,0,0,0,0,0,0,1] (.agg f.cells.toArray) (.agg f.cells.toArray) K:=by
 simp only [J6,Fl.cells,eG,rf,if_true,decide_true,Bool.and_true,ak0];exact h
theorem Mi {v w:Value} {fs:List Fl} (hf:fs.length≤5) (hv:Sl H v 8 (iZ fs)) (hw:Sl H w 8 (iZ fs)) (h:R (.bool true) H):ab Tryz.prog 40 #[v,w] H R:=by
 have iv:=gM fs;refine bA.vc _ _ _ _ ?_;unfold bA.res;refine hv.len iv (by decide) ?_;refine hw.len iv (by decide) ?_;rw [mP,decide_eq_false (by simp),ao];refine hv.len iv (by decide) ?_;refine⟨fun i H' => ∃k:Nat,i= .int .i64 (k:Int)∧k≤fs.length∧H' =H,fun i _=>match i with| .int _ x=> (fs.length - x).toNat|_=>0,⟨0,rfl,akj _,rfl⟩,?_⟩;rintro _ _ _ ⟨k,rfl,hk,rfl⟩;rw [aQ];refine ax (fun hc=>?_) (fun hc=>h);have j5:k<fs.length:=by omega
 refine hv.at_ iv (by decide) (by omega) (by omega) fun p hp=>?_;rw [ajS] at hp;refine hp.kf hv (ws:=fs[k].cells) (jN rM j5) rfl ?_;refine hw.at_ iv (by decide) (by omega) (by omega) fun p hp=>?_;rw [ajS] at hp;refine hp.kf hw (ws:=fs[k].cells) (jN rM j5) rfl ?_;refine U4 ?_;rw [ao,aC,bH (by omega) (by omega)];exact⟨⟨k+1,rfl,by omega,rfl⟩,by show (_:Int).toNat< (_:Int).toNat;omega⟩
theorem FD {v:Value} {l:List Fp} (g:nj l) (hG:Reads H ⟨4,0,none⟩ je) (hv:Sl H v 8 (iZ (l.map Prod.fst))) (h: ∀H',Ext H H' →R (.bool true) H'):ab Tryz.prog 10 #[v,str (dL l)] H R:=by
 refine ma.vc _ _ _ _ ?_;unfold ma.res;refine PF g hG fun H1 w o=>?_;refine ai (vs:= [w,.int .i64 0]) rfl ?_;refine ai (vs:= [w,.int .i64 0]) rfl ?_;rw [bj,decide_eq_true rfl];refine bX ?_;refine Mi g.ok.Pv.len (o.sl (v:=w) (by repeat(first|exact ajP|apply ajO))) (hv.ext o.ext) ?_;intro _;exact h H1 o.ext
end
section
set_option maxRecDepth 100000
variable {l:List Fp} {E:List Ev} {k m:Nat} {W:Option (List UInt8)}
def yS (x:List Fl × List UInt8) (e:Ev):List Fl × List UInt8:=
 if e.k=1 then (x.1,[]) else if e.k=2 then (x.1,x.2++e.x) else if e.k=3 then (x.1++ [⟨e.h.nm,e.h.t,x.2⟩],x.2) else x
def i_ (E:List Ev):List Fl × List UInt8:=E.foldl yS ([],[])
theorem nk (E:List Ev) (e:Ev):i_ (E++ [e])=yS (i_ E) e:=by simp [i_]
theorem Nz (t:Tr l E k W): (i_ E).1= (l.take k).map Prod.fst∧∀w,W=some w→(i_ E).2=w:=by
 induction t with
 |nil=>exact⟨rfl,fun w h=>nomatch h⟩
 |beg hk t h1 h2 ih=>rw [nk];exact⟨ih.1,fun w hw=>by cases hw;rfl⟩
 |iY t ih=>rw [nk];exact⟨ih.1,fun w hw=>by cases hw;show (i_ _).2++_=_;rw [ih.2 _ rfl]⟩
 |fil hk t h1 h2 ih=>
  rw [nk];refine⟨?_,fun w h=>nomatch h⟩;show (i_ _).1++ [⟨_,_,(i_ _).2⟩]=_;rw [ih.1,ih.2 _ rfl,h1,h2,fe hk,aky]
  rfl
 |don t ih=>rw [nk];exact⟨ih.1,fun w h=>nomatch h⟩
theorem wC {α:Type} (E:List α) (e:α) (i:Nat): (E++ [e]).take i=E.take i∨(E++ [e]).take i=E++ [e]:=by
 rcases akz E.length i with h|h
 ·exact .inr (aj9 (by rw [ajQ,alf];omega))
 ·exact .inl (akM h)
theorem U5 {B:Nat} (hB: ∀x∈l,x.1.iY.length≤B) (t:Tr l E k W): (∀w,W=some w→w.length≤B)→∀i,(i_ (E.take i)).2.length≤B:=by
 induction t with
 |nil=>intro _ i;rw [amW];exact akj _
 | @beg E k h hk t h1 h2 ih=>
  intro hw i;rcases wC E ⟨1,h,[]⟩ i with e|e<;>rw [e]
  ·exact ih (fun w h=>nomatch h) i
  ·rw [nk];exact akj _
 | @iY E k W x t ih=>
  intro hw i;have hx:=hw _ rfl;rcases wC E ⟨2,Hd.zero,x⟩ i with e|e<;>rw [e]
  ·refine ih (fun w h=>?_) i
   cases h
   rw [ajQ] at hx;omega
  ·rw [(Nz (.iY t)).2 _ rfl];exact hx
 | @fil E k h hk t h1 h2 ih=>
  intro hw i;have hb:=hB _ (ajZ hk);have ih:=ih (fun w h=>by cases h;exact hb);rcases wC E ⟨3,h,[]⟩ i with e|e<;>rw [e]
  ·exact ih i
  ·rw [nk]
   have:=ih E.length;rw [aj8] at this;exact this
 | @don E t ih=>
  intro hw i;have ih:=ih (fun w h=>nomatch h);rcases wC E ⟨4,Hd.zero,[]⟩ i with e|e<;>rw [e]
  ·exact ih i
  ·rw [nk]
   have:=ih E.length;rw [aj8] at this;exact this
theorem S5 (E:List Ev): (i_ E).1.length≤E.length:=by
 have h: ∀ (E:List Ev) (x:List Fl × List UInt8),(E.foldl yS x).1.length≤x.1.length+E.length:=by
  intro E
  induction E with
  |nil=>intro x;exact ajR _
  |cons e E ih=>
   intro x;rw [alx,aj2];refine akk (ih _) ?_;have: (yS x e).1.length≤x.1.length+1:=by
    unfold yS
    split
    ·exact akh _
    ·split
     ·exact akh _
     ·split
      ·simp
      ·exact akh _
   omega
 have:=h E ([],[]);rw [aj7,aj6] at this;exact this
theorem JT (l:List Fp) {i j:Nat} (h:i≤j):eW l i≤eW l j:=by
 unfold eW;have e:l.take j=l.take i++ (l.take j).drop i:=by
  conv=>lhs;rw [←akf i (l.take j),akQ,aks h]
 rw [e,pn,ajQ];omega
def DQ (l:List Fp) (m k:Nat):Prop:=k≤l.length∧eW l k≤m∧(k<l.length→m<eW l (k+1))
theorem DQ.one {i j:Nat} (h:DQ l m i) (g:DQ l m j):i=j:=by
 obtain⟨a1,a2,a3⟩:=h;obtain⟨b1,b2,b3⟩:=g;rcases amB i j with h|h|h
 ·have:=a3 (by omega);have:=JT l (i:=i+1) (j:=j) h;omega
 ·exact h
 ·have:=b3 (by omega);have:=JT l (i:=j+1) (j:=i) h;omega
theorem JU (g:nj l) {p:Pd} {ns:List (List UInt8)} {S:ir} (ph:Ph l p ns S k W) (hc:p.at' ≤m):k≤l.length∧eW l k≤m∧∀w,W=some w→w.length≤400:=by
 cases ph with
 |h0 k hk ff ji DS=>exact⟨hk,by omega,fun w h=>nomatch h⟩
 |h1 k hk d ff hd d_ hf hD ji hh il DS=>
  refine⟨by omega,by omega,fun w h=>?_⟩
  cases h
  obtain⟨o,h1,-⟩:=DK (z:= []) (SX g hk d_) (f:=p.dP) (by omega);have h2:=congrArg List.length h1;rw [ajQ] at h2;have:=g.ok.Pv.iY _ (akn.2 ⟨_,ajZ hk,rfl⟩);omega
 |h2 k hk ff d_ ji hh il DS=>
  refine⟨by omega,by omega,fun w h=>?_⟩
  cases h
  exact g.ok.Pv.iY _ (akn.2 ⟨_,ajZ hk,rfl⟩)
 |h3 j hj ff ji ht=>exact⟨ajR _,by omega,fun w h=>nomatch h⟩
 |h4 ff ji=>exact⟨ajR _,by rw [BK];unfold dL at ji;rw [ajQ] at ji;omega,fun w h=>nomatch h⟩
end
section
set_option maxRecDepth 100000
variable {H H0 H' :ak} {R:Value→ak→Prop} {L:List It} {s:List UInt8} {b m k:Nat} {l:List Fp} {E0 E:List Ev} {W:Option (List UInt8)}
theorem yT {P:ir} {ov:Value} (hp:YR b l m E0 E k W ov P) (o:aw H0 H (.sl ov 14 (pq E):: .ay P::L)) (h:R (i64 (eW l k)) H):ab Tryz.prog 43 #[at_ b 0] H R:=by
 obtain⟨p,ns,S,ph,hr,hc,hm,nz,tr,hw,hE,hn,YS,o1⟩:=hp _ _ _ o;refine fA.vc _ _ _ ?_;unfold fA.res;rw [iA,ao];refine aI (aj ?_);refine o1.az (b:=b) (f:=0+4) (w:=i64 p.en) (by repeat(first|exact ajP|apply ajO)) rfl ?_;rw [nz];exact h
theorem G3 {v:Value} {hs:List Hd} (hl:hs.length≤100) (hv:Sl H v 12 (mr hs)) (h: ∀H' w,Sl H' w 12 (mr hs)→Ext H H' →R w H'):ab Tryz.prog 101 #[v] H R:=by
 refine cD.vc _ _ _ ?_;unfold cD.res;have Tt:=hv;rcases hv with ⟨rfl,h0⟩ | ⟨a,n,cap,rfl,h2,h3,h4⟩
 ·rw [Qx,aH]
  exact h H _ Tt (Ext.refl _)
 ·rw [Qy,ao]
  refine(aw.start (H:=H)).QG 12 (by decide) fun y H1 o=>?_;refine o.append (n:=0) (m:=hs.length) (by repeat(first|exact bu.here|apply bu.there)) rfl (Tt.ext o.ext) rfl (qd hs) (wA tJ) (by omega) fun w H2 o=>?_;have hw:Sl H2 w 12 ([]++mr hs):=o.sl (v:=w) (by repeat(first|exact ajP|apply ajO));exact h H2 w hw o.ext
theorem JV {P:ir} {ov:Value} (g:nj l) (hp:YR b l m E0 E k W ov P) (o:aw H0 H (.sl ov 14 (pq E):: .ay P::L)) (h: ∀H' v,Sl H' v 12 (mr (bO 0 (l.take k)))→Ext H H' →R v H'):ab Tryz.prog 46 #[at_ b 0] H R:=by
 obtain⟨p,ns,S,ph,hr,hc,hm,nz,tr,hw,hE,hn,YS,o1⟩:=hp _ _ _ o;refine gE.vc _ _ _ ?_;unfold gE.res;rw [iA,ao];refine aI (aj ?_);refine o1.az (b:=b) (f:=0+20) (w:=p.hv) (by repeat(first|exact ajP|apply ajO)) rfl ?_;refine G3 ?_ (o1.sl (v:=p.hv) (by repeat(first|exact ajP|apply ajO))) h;have:=g.ok.len;rw [j_,ajW];omega
theorem nj.take (g:nj l) (k:Nat):nj (l.take k):= ⟨g.ok.take k,fun x hx=>g.run x (akL hx)⟩
theorem S6 (l:List Fp) (k:Nat): (dL l).take (eW l k)=a8 (l.take k):=by
 have e:dL l=a8 (l.take k)++ (a8 (l.drop k)++fM l):=by
  unfold dL
  conv=>lhs;rw [←akf k l,pn,ajT]
  rw [akf]
 rw [e];exact amX
theorem PG (g:nj l) (hG:Reads H ⟨4,0,none⟩ je) (hm:m≤(dL l).length) (h: ∀H' k,DQ l m k→Ext H H' →R (str (dL (l.take k))) H'):ab Tryz.prog 16 #[str ((dL l).take m)] H R:=by
 have hZ:=mG g.ok;have n_: ((dL l).take m).length=m:=by rw [ajW];omega
 refine mc.vc _ _ _ ?_;unfold mc.res;refine FC l (aw.start (H:=H)) fun H1 b P hP o=>?_;refine DN hG g hP (by omega) (by rw [ako,n_]) o fun H2 E k W ov P hP o=>?_;obtain⟨p,ns,S,ph,hr,hc,JZ,nz,tr,hw,hE,hn,YS,o1⟩:=hP _ _ _ o;obtain⟨q1,q2,q3⟩:=JU g ph hc;rw [n_,aj6] at hn q2;refine yT hP o ?_;refine bz (lo:=0) (hi:=eW l k) (.inr ⟨rfl,rfl⟩) (.inl rfl) (akj _) (by omega) ?_;rw [ako,akG,akQ,aks q2,S6];refine JV g hP o fun H3 v hv wx=>?_;refine zX (g.ok.take k) hv fun H4 tV=>?_;have hk:=mG (g.ok.take k);unfold dL at hk;rw [ajQ] at hk;refine aT (by omega) ?_;exact h H4 k ⟨q1,q2,hn⟩ ((o.ext.trans wx).trans tV)
theorem G4 (g:nj l) (hG:Reads H ⟨4,0,none⟩ je) (hm:m≤(dL l).length) (h: ∀H' k v,DQ l m k→Sl H' v 8 (iZ ((l.take k).map Prod.fst))→Ext H H' →R (.tuple #[v,i64 (eW l k)]) H'):ab Tryz.prog 14 #[str ((dL l).take m)] H R:=by
 have hZ:=mG g.ok;have n_: ((dL l).take m).length=m:=by rw [ajW];omega
 refine jz.vc _ _ _ ?_;unfold jz.res;refine FC l (aw.start (H:=H)) fun H1 b P hP o=>?_;refine DN hG g hP (by omega) (by rw [ako,n_]) o fun H2 E k W ov P hP o=>?_;obtain⟨p,ns,S,ph,hr,hc,JZ,nz,tr,hw,hE,hn,YS,o1⟩:=hP _ _ _ o;obtain⟨q1,q2,q3⟩:=JU g ph hc;rw [n_,aj6] at hn q2;have tr:Tr l E k W:=tr;clear ph hr hc JZ nz hw YS o1;have hle:=U5 (B:=400) (fun x hx=>g.ok.Pv.iY _ (akn.2 ⟨_,hx,rfl⟩)) tr q3;have ff:= (Nz tr).1;refine ai (vs:= [ov,.int .i64 0]) rfl ?_;refine ai (vs:= [ov,.int .i64 0]) rfl ?_;refine(o.sl (v:=ov) (by repeat(first|exact ajP|apply ajO))).len (tL E) (by decide) ?_;have o:=yQ 8 (by decide) o;refine⟨fun y t i H' => ∃j:Nat,i= .int .i64 (j:Int)∧j≤E.length∧t=str (i_ (E.take j)).2∧aw H H' [.sl y 8 (iZ (i_ (E.take j)).1),.sl ov 14 (pq E),.ay P],fun _ _ i _=>match i with| .int _ x=> (E.length - x).toNat|_=>0,⟨0,rfl,akj _,rfl,o⟩,?_⟩;clear o;rintro _ y _ _ H3 ⟨j,rfl,hj,rfl,o⟩;rw [aQ];refine ax (fun hc=>?_) (fun hc=>?_)
 ·have MB:j<E.length:=by omega
  have CZ:i_ (E.take (j+1))=yS (i_ (E.take j)) E[j]:=by rw [fe MB,nk]
  have aeW:=hle (j+1);have hlen:=S5 (E.take j);rw [ajW] at hlen;refine(o.sl (v:=ov) (by repeat(first|exact ajP|apply ajO))).at_ (tL E) (by decide) (by omega) (by omega) fun p hp=>?_;rw [ajS] at hp;refine hp.kf (o.sl (v:=ov) (by repeat(first|exact ajP|apply ajO))) (ws:=E[j].cells) (jN Nw MB) rfl ?_;obtain⟨e,he⟩: ∃e,E[j]=e:= ⟨_,rfl⟩;rw [he] at CZ ⊢;clear he;refine o.box fun c H4 o _=>?_;refine o.bW (b:=c) (vs:=e.cells) (by repeat(first|exact ajP|apply ajO)) rfl rfl (JK _) (by repeat(first|exact bd.here|apply bd.there)) fun H5 o _=>?_;refine aj ?_;refine o.az (b:=c) (f:=0+0) (w:=i64 e.k) (by repeat(first|exact ajP|apply ajO)) rfl ?_;rw [bj];refine ax (fun h1=>?_) (fun h1=>?_)
  ·have h1:e.k=1:=by omega
   have MF:yS (i_ (E.take j)) e= ((i_ (E.take j)).1,[]):=by unfold yS;rw [if_pos h1]
   rw [MF] at CZ;rw [aC,bH (by omega) (by omega)];refine⟨⟨j+1,rfl,by omega,by rw [CZ],?_⟩,by show (_:Int).toNat< (_:Int).toNat;omega⟩;rw [CZ];exact o.rN 1
  ·have h1:e.k≠1:=by omega
   rw [bj];refine ax (fun h2=>?_) (fun h2=>?_)
   ·have h2:e.k=2:=by omega
    have MF:yS (i_ (E.take j)) e= ((i_ (E.take j)).1,(i_ (E.take j)).2++e.x):=by unfold yS;rw [if_neg h1,if_pos h2]
    rw [MF] at CZ;rw [CZ,ajQ] at aeW;refine aj ?_;refine o.az (b:=c) (f:=0+13) (w:=str e.x) (by repeat(first|exact ajP|apply ajO)) rfl ?_;refine aT (by omega) ?_;rw [aC,bH (by omega) (by omega)];refine⟨⟨j+1,rfl,by omega,by rw [CZ],?_⟩,by show (_:Int).toNat< (_:Int).toNat;omega⟩;rw [CZ];exact o.rN 1
   ·have h2:e.k≠2:=by omega
    rw [bj];refine ax (fun h3=>?_) (fun h3=>?_)
    ·have h3:e.k=3:=by omega
     have MF:yS (i_ (E.take j)) e= ((i_ (E.take j)).1++ [⟨e.h.nm,e.h.t,(i_ (E.take j)).2⟩],(i_ (E.take j)).2):=by unfold yS;rw [if_neg h1,if_neg h2,if_pos h3]
     rw [MF] at CZ;refine aj (aj ?_);refine o.az (b:=c) (f:=0+1+0) (w:=str e.h.nm) (by repeat(first|exact ajP|apply ajO)) rfl ?_;refine aj (aj ?_);refine fU (o.ll (b:=c) (by repeat(first|exact ajP|apply ajO))) (ws:=e.h.t.cells.toList) rfl (ajU rfl) ?_;refine aU rfl (ajU rfl) ?_;rw [fV];refine⟨rfl,ajU rfl,?_⟩;refine aU rfl (ajU rfl) ?_;rw [bG];refine o.ej (sz:=8) (by decide) rfl rfl fun z H6 o=>?_;refine o.append (n:= (i_ (E.take j)).1.length) (m:=1) (by repeat(first|exact bu.here|apply bu.there)) rfl (o.sl (v:=z) (by repeat(first|exact ajP|apply ajO))) (gM _) rfl (Bm ⟨e.h.nm,e.h.t,(i_ (E.take j)).2⟩) (by omega) fun v' H7 o=>?_;rw [aC,bH (by omega) (by omega)];refine⟨⟨j+1,rfl,by omega,by rw [CZ],?_⟩,by show (_:Int).toNat< (_:Int).toNat;omega⟩;have e9:iZ ((i_ (E.take j)).1++ [⟨e.h.nm,e.h.t,(i_ (E.take j)).2⟩])=iZ (i_ (E.take j)).1++ (⟨e.h.nm,e.h.t,(i_ (E.take j)).2⟩:Fl).cells:=by unfold iZ;rw [ij,k_]
     rw [CZ,e9];exact o.arr (by repeat(first|exact dV.nil|exact bu.here|apply dV.cons|apply bu.there))
    ·have h3:e.k≠3:=by omega
     have MF:yS (i_ (E.take j)) e=i_ (E.take j):=by unfold yS;rw [if_neg h1,if_neg h2,if_neg h3]
     rw [MF] at CZ;rw [aC,bH (by omega) (by omega)];refine⟨⟨j+1,rfl,by omega,by rw [CZ],?_⟩,by show (_:Int).toNat< (_:Int).toNat;omega⟩;rw [CZ];exact o.rN 1
 ·have MB:j=E.length:=by omega
  subst MB;rw [aj8,ff] at o;refine yT hP (L:= [.sl y 8 (iZ ((l.take k).map Prod.fst))]) (o.fW (by repeat(first|exact aY.refl|exact bu.here|apply aY.cons|apply bu.there))) ?_;exact h H3 k y ⟨q1,q2,hn⟩ (o.sl (v:=y) (by repeat(first|exact ajP|apply ajO))) o.ext
end
section
set_option maxRecDepth 100000
theorem FE: ∀ (fuel:Nat) (y d:Int),0≤d→∃ (k:Nat) (e:Int),k≤fuel∧mj fuel y d= (y+k,e)∧d=yP k y+e∧0≤e∧(k<fuel→e<lD (y+k))
 |0,y,d,h=> ⟨0,d,by omega,by simp [mj],by simp [yP],h,by omega⟩
 |fuel+1,y,d,h=>by
  by_cases hc:d<lD y
  ·refine⟨0,d,by omega,?_,by simp [yP],h,fun _=>by simpa using hc⟩
   rw [mj,if_pos hc];simp
  ·obtain⟨k,e,h1,h2,h3,h4,h5⟩:=FE fuel (y+1) (d - lD y) (by omega)
   refine⟨k+1,e,by omega,?_,?_,h4,fun hk=>?_⟩
   ·rw [mj,if_neg hc,h2,show y+1+ (k:Int)=y+ ((k+1:Nat):Int) by omega]
   ·rw [yP];omega
   ·have:=h5 (by omega)
    rw [show y+1+ (k:Int)=y+ ((k+1:Nat):Int) by omega] at this;exact this
theorem JW: ∀ (fuel:Nat) (y m d:Int),0≤d→∃ (k:Nat) (e:Int),k≤fuel∧uJ fuel y m d= (m+k,e)∧d=GW k y m+e∧0≤e∧(k<fuel→e<iW y (m+k))
 |0,y,m,d,h=> ⟨0,d,by omega,by simp [uJ],by simp [GW],h,by omega⟩
 |fuel+1,y,m,d,h=>by
  by_cases hc:iW y m≤d
  ·obtain⟨k,e,h1,h2,h3,h4,h5⟩:=JW fuel y (m+1) (d - iW y m) (by omega)
   refine⟨k+1,e,by omega,?_,?_,h4,fun hk=>?_⟩
   ·rw [uJ,if_pos hc,h2,show m+1+ (k:Int)=m+ ((k+1:Nat):Int) by omega]
   ·rw [GW];omega
   ·have:=h5 (by omega)
    rw [show m+1+ (k:Int)=m+ ((k+1:Nat):Int) by omega] at this;exact this
  ·refine⟨0,d,by omega,?_,by simp [GW],h,fun _=>by simpa using hc⟩
   rw [uJ,if_neg hc];simp
theorem JX:yP 128 1980=46751:=by decide+kernel
theorem U6 {k:Nat} (hk:k≤128):yP k 1980≤46751:=by
 have key: ∀j:Nat,j≤128→yP (128 - j) 1980+365*j≤46751:=by
  intro j
  induction j with
  |zero=>intro _;rw [show 128 - 0=128 by omega,JX];decide
  |succ j ih=>
   intro hj;have ih:=ih (by omega);have:=DD (128 - (j+1)) 1980;rw [show 128 - (j+1)+1=128 - j by omega] at this;have:=LX (1980+ ((128 - (j+1):Nat):Int));omega
 have:=key (128 - k) (by omega);rw [show 128 - (128 - k)=k by omega] at this;omega
theorem U7 {t:T6} (h:1980≤t.y∧t.y≤2107∧1≤t.d∧t.d≤iW t.y t.m∧0≤t.h∧t.h<24∧0≤t.n∧t.n<60∧0≤t.s∧t.s<60∧t.s%2=0):pQ t=true:=by
 simp only [pQ,decide_eq_true_eq];rw [ale h.2.2.2.2.2.2.2.2.1];exact h
theorem X_ {n:Int} (h0:0≤n): (n<2019643200∧∃t,Vn n=some t∧pQ t=true∧aaH t=n∧t.s=n%43200%30*2)∨(2019643200≤n∧Vn n=none):=by
 obtain⟨k,e,hk,hy,hd,WL,J1⟩:=FE 128 1980 (n/43200) (by omega);rw [Vn,if_neg (by omega),hy]
 dsimp only
 by_cases D4:k=128
 ·right
  subst D4;rw [if_pos (by omega)];rw [JX] at hd;exact⟨by omega,rfl⟩
 ·left
  have J1:=J1 (by omega);have hle:=U6 (k:=k+1) (by omega);rw [DD] at hle;rw [if_neg (by omega)];obtain⟨j,f,hj,hm,Zv,hf0,hf1⟩:=JW 11 (1980+k) 1 e WL;rw [hm]
  dsimp only
  have hf:f<iW (1980+k) (1+j):=by
   by_cases Vz:j=11
   ·subst Vz
    have:=Fz 11 0 (1980+k) 1;rw [show 0+11=11 by omega,H_] at this;simp only [vn] at this;omega
   ·exact hf1 (by omega)
  refine⟨by omega,_,rfl,U7 ?_,?_,rfl⟩
  ·dsimp only;exact⟨by omega,by omega,by omega,by omega,by omega,by omega,by omega,by omega,by omega,by omega,by omega⟩
  ·simp only [aaH]
   rw [show (1980+ (k:Int) - 1980).toNat=k by omega,show (1+ (j:Int) - 1).toNat=j by omega];omega
end
section
set_option maxRecDepth 100000
variable {H H0 H' :ak} {R:Value→ak→Prop} {L:List It} {s:List UInt8}
def aFl:Fl:= ⟨[97],⟨1980,1,1,0,0,0⟩,[120]⟩
theorem Ya:nX [aFl]:= ⟨Z2,fun f hf=>by obtain rfl:=akt.1 hf;decide,fun f hf=>by obtain rfl:=akt.1 hf;decide⟩
theorem Yb {fs:List Fl} {lev:Nat} {X:List UInt8} (h:zY fs lev X): ∃l,nj l∧l.map Prod.fst=fs∧X=dL l:=by
 obtain⟨l,h1,h2,h3,h4⟩:=h;exact⟨l,⟨h1,fun x hx hd=> ((h2 x hx).2.1 hd).2⟩,h3,h4⟩
theorem Er (hT:Reads H ⟨5,0,none⟩ jU) (hG:Reads H ⟨0,0,none⟩ je) (hI:Reads H ⟨4,0,none⟩ je) (h: ∀H',Ext H H' →R (.bool true) H'):ab Tryz.prog 6 #[] H R:=by
 refine fR.vc _ _ ?_;unfold fR.res;refine aU rfl (ajU rfl) ?_;refine aU rfl (ajU rfl) ?_;refine aU rfl (ajU rfl) ?_;rw [bG];refine aU rfl (ajU rfl) ?_;rw [fV];refine⟨rfl,ajU rfl,?_⟩;refine aU rfl (ajU rfl) ?_;rw [bG];refine(aw.start (H:=H)).ej (sz:=8) (by decide) rfl rfl fun y H1 o=>?_;have hy:Sl H1 y 8 (iZ [aFl]):=o.sl (v:=y) (by repeat(first|exact ajP|apply ajO));refine z8 (lev:=6) (hT.ext o.ext) (hG.ext o.ext) hy Ya (by decide) fun H2 X hX rR=>?_;obtain⟨l,g,hl,rfl⟩:=Yb hX;refine ai (vs:= [str (dL l),.int .i64 0]) rfl ?_;refine ai (vs:= [str (dL l),.int .i64 0]) rfl ?_;have o:=o.more rR;refine Jj (hG.ext o.ext) (hI.ext o.ext) fun H3 wx=>?_;have o:=o.more wx;refine bX ?_;rw [bj,decide_eq_true rfl];intro _;refine bX ?_;refine FD g (hI.ext o.ext) (by rw [hl];exact o.sl (v:=y) (by repeat(first|exact ajP|apply ajO))) fun H4 tV=>?_;intro _;exact h H4 (o.ext.trans tV)
def G5:List (Int × List UInt8)→List Value
 | []=> []
 |p::T=> .int .i64 p.1::str p.2::G5 T
theorem JY: ∀T:List (Int × List UInt8),(G5 T).length=T.length*2
 | []=>rfl
 |p::T=>by rw [G5,aj2,aj2,JY T,aj2];omega
theorem NA: ∀ (T:List (Int × List UInt8)) (i:Nat) (p:Int × List UInt8),T[i]? =some p→(G5 T)[i*2]? =some (.int .i64 p.1)∧(G5 T)[i*2+1]? =some (str p.2)
 | [],i,p,h=>by simp at h
 |q::T,0,p,h=>by
  cases h
  exact⟨rfl,rfl⟩
 |q::T,i+1,p,h=>by
  have:=NA T i p h;rw [G5,show (i+1)*2=i*2+1+1 by omega];exact this
theorem S7: ∀L:List (List Value),(∀r∈L,r.length=2)→(∀r∈L,w6 [.int .i64,.string] fun j=>r[j]?)→∃T:List (Int × List UInt8),T.length=L.length∧G5 T=L.flatten∧∀p∈T,(-9223372036854775808≤p.1∧p.1≤9223372036854775807)∧p.2.length≤maxLen
 | [],_,_=> ⟨[],rfl,rfl,by simp⟩
 |r::L,h1,h2=>by
  obtain⟨T,h3,h4,h5⟩:=S7 L (fun r hr=>h1 r (by simp [hr])) (fun r hr=>h2 r (by simp [hr]));have hl:=h1 r (by simp);have hf:=h2 r (by simp)
  match r,hl with
  | [x,y],_=>
   obtain⟨_,g0,z,rfl,hz⟩:=hf 0 _ rfl;obtain⟨_,g1,s,rfl,hs⟩:=hf 1 _ rfl
   simp at g0 g1
   subst g0 g1;refine⟨(z,s)::T,by simp [h3],?_,?_⟩
   ·rw [akP,←h4];rfl
   ·intro p hp
    rcases aj5.1 hp with rfl|hp
    ·exact⟨Zk hz,hs⟩
    ·exact h5 p hp
theorem Mj: ∀k:Fin 5,IntKind.u8.wrap (97+ (k.val:Int))= ((UInt8.ofNat (97+k.val)).toNat:Int):=by decide
theorem G6 (k:Nat):qJ (k+1)=qJ k++ [UInt8.ofNat (97+k)]:=by unfold qJ;rw [ame,aky];rfl
theorem Mk {v:Value} {T:List (Int × List UInt8)} (hS:Sl H v 2 (G5 T)) (hlen:T.length≤9223372036854775807) (hT: ∀p∈T,(-9223372036854775808≤p.1∧p.1≤9223372036854775807)∧p.2.length≤maxLen) (h: ∀H' w fs,nX fs→aw H H' [.sl w 8 (iZ fs)]→R w H'):ab Tryz.prog 7 #[v] H R:=by
 have Rm:maxLen=9223372036854775807:=rfl;have iv:=JY T;refine iT.vc _ _ _ ?_;unfold iT.res;have o:=yQ 8 (by decide) (aw.start (H:=H));refine⟨fun y i H' => ∃ (k:Nat) (fs:List Fl),i= .int .i64 (k:Int)∧k≤T.length∧k≤5∧fs.length=k∧fs.map Fl.nm= (qJ k).map fK∧(∀f∈fs,pQ f.t=true∧f.iY.length≤400)∧aw H H' [.sl y 8 (iZ fs)],fun _ i _=>match i with| .int _ x=> (5 - x).toNat|_=>0,
  ⟨0,[],rfl,akj _,akj _,rfl,rfl,(fun f hf=>by cases hf),o⟩,?_⟩
 clear o;rintro _ y _ H1 ⟨k,fs,rfl,hk,hk5,Ul,Qj,NB,o⟩;have hS1:=hS.ext o.ext;refine hS1.len iv (by decide) ?_;rw [aQ];refine kn (d:=decide ((k:Int)<5)) (fun _=>by rw [aQ];exact⟨rfl,rfl⟩) ?_;intro _;refine fI (fun hc=>?_) (fun hc=>?_)
 ·rw [aj3,decide_eq_true_eq,decide_eq_true_eq] at hc
  have VM:k<T.length:=by omega
  obtain⟨p,hp⟩: ∃p,T[k]? =some p:= ⟨T[k],ajV VM⟩;obtain⟨at0,A2⟩:=NA T k p hp;obtain⟨⟨lu,D8⟩,Z6⟩:=hT p (akK hp);refine hS1.at_ iv (by decide) (by omega) (by omega) fun q hq=>?_;refine hq.field (f:=0) fun q2 Gw=>?_;refine Gw.load hS1 (by rw [ajS];exact at0) ?_;rw [KA,sD];refine⟨by decide,?_⟩;obtain⟨n,hn⟩: ∃n,(max p.1 0).tmod 2019643200=n:= ⟨_,rfl⟩;have EK:0≤n∧n<2019643200:=by
   rw [←hn,ale (by omega)];exact⟨alC _ (by decide),al6 _ (by decide)⟩
  rw [hn];clear hn;refine T1 (by omega) fun H2 rR=>?_;have o:=o.more rR;obtain⟨t,ht,Tk⟩: ∃t,Vn n=some t∧pQ t=true:=by
   rcases X_ EK.1 with ⟨_,t,h1,h2,_⟩ | ⟨h1,_⟩
   ·exact⟨t,h1,h2⟩
   ·omega
  rw [ht];refine ai (vs:= [t.v,.bool true]) rfl ?_;refine ai (vs:= [t.v,.bool true]) rfl ?_;refine o.box fun b H3 o _=>?_;refine o.bW (b:=b) (vs:=t.cells.toList) (by repeat(first|exact ajP|apply ajO)) rfl rfl rfl (by repeat(first|exact bd.here|apply bd.there)) fun H4 o _=>?_;rw [aC,bH (by omega) (by omega)];refine cC ?_;have aaV:=Mj ⟨k,by omega⟩;simp only at aaV;rw [aaV];refine o.bC (b:=b) (by repeat(first|exact ajP|apply ajO)) rfl ?_;have YL:=hS.ext o.ext;refine YL.at_ iv (by decide) (by omega) (by omega) fun q3 hq3=>?_;refine hq3.field (f:=1) fun q4 hq4=>?_;refine hq4.load YL (by rw [ajS];exact A2) ?_;refine YL.at_ iv (by decide) (by omega) (by omega) fun q5 hq5=>?_;refine hq5.field (f:=1) fun q6 hq6=>?_;refine hq6.load YL (by rw [ajS];exact A2) ?_;refine aJ ?_;rw [qm,show min (p.2.length:Int) 400= ((min p.2.length 400:Nat):Int) by omega];refine bz (lo:=0) (hi:=min p.2.length 400) (.inr ⟨rfl,rfl⟩) (.inl rfl) (by omega) (by omega) ?_;rw [ako,akG];have Ha: (p.2.take (min p.2.length 400)).length≤400:=by rw [ajW];omega
  generalize p.2.take (min p.2.length 400)=iY at Ha;obtain⟨c,iz⟩: ∃c,UInt8.ofNat (97+k)=c:= ⟨_,rfl⟩;rw [iz];refine o.ej (sz:=1) (by decide) rfl rfl fun z H5 o=>?_;have hS5:=hS.ext o.ext;refine⟨o.bC (b:=b) (by repeat(first|exact ajP|apply ajO)) rfl rfl,hq4.load hS5 (by rw [ajS];exact A2) rfl,hq6.load hS5 (by rw [ajS];exact A2) rfl,?_⟩;have hz:Sl H5 z 1 ([c].map cY):=o.sl (v:=z) (by repeat(first|exact ajP|apply ajO));refine hz.str ?_;refine aT (ajU rfl) ?_;refine aU rfl (ajU rfl) ?_;rw [fV];refine⟨rfl,ajU rfl,?_⟩;refine aU rfl (ajU rfl) ?_;rw [bG];refine o.ej (sz:=8) (by decide) rfl rfl fun z2 H6 o=>?_;refine o.append (n:=k) (m:=1) (by repeat(first|exact bu.here|apply bu.there)) rfl (o.sl (v:=z2) (by repeat(first|exact ajP|apply ajO))) (by rw [gM,Ul]) rfl (Bm ⟨fK c,t,iY⟩) (by omega) fun v' H7 o=>?_;rw [aC,bH (by omega) (by omega)];refine⟨⟨k+1,fs++ [⟨fK c,t,iY⟩],rfl,by omega,by omega,by rw [ajQ,Ul];rfl,by rw [aky,Qj,G6,aky,iz];rfl,fun f hf=>?_,?_⟩,by show (_:Int).toNat< (_:Int).toNat;omega⟩
  ·rcases akg.1 hf with hf|hf
   ·exact NB f hf
   ·obtain rfl:=akt.1 hf
    exact⟨Tk,Ha⟩
  ·have e9:iZ (fs++ [⟨fK c,t,iY⟩])=iZ fs++ (⟨fK c,t,iY⟩:Fl).cells:=by unfold iZ;rw [ij,k_]
   rw [e9];exact o.arr (by repeat(first|exact dV.nil|exact bu.here|apply dV.cons|apply bu.there))
 ·exact h H1 y fs ⟨by rw [Qj];exact IF k hk5,fun f hf=> (NB f hf).1,fun f hf=> (NB f hf).2⟩ o
end
end Go.Proofs.YtpcgccdmmoggmaaGreatDoor
namespace Go.Vc
open Go
section
set_option maxRecDepth 100000
theorem S8 {z n:Int} (hn:0<n):0≤(z.tmod n+n).tmod n∧(z.tmod n+n).tmod n<n:=by
 have h1: -n<z.tmod n:=by
  have:=Int.lt_tmod_of_pos z hn;omega
 have h2:=Int.tmod_lt_of_pos z hn;rw [ale (by omega)];exact⟨alC _ (by omega),al6 _ hn⟩
theorem Ml {z n:Int} (hn:0<n): -n<z.tmod n∧z.tmod n<n:= ⟨by have:=Int.lt_tmod_of_pos z hn;omega,Int.tmod_lt_of_pos z hn⟩
end
end Go.Vc
namespace Go.Proofs.YtpcgccdmmoggmaaGreatDoor
open Go Go.Vc Go.Proofs
section
set_option maxRecDepth 100000
variable {H H0 H' :ak} {R:Value→ak→Prop} {L:List It} {s:List UInt8}
theorem S9 (n:Int): ∃lev:Nat,lev≤9∧(n%2 ^ 4+10).tmod 10= (lev:Int):=by
 have h0:=alC n (show (2:Int) ^ 4≠0 by decide);have h1:=al6 n (show (0:Int)<2 ^ 4 by decide);have e:=ale (a:=n%2 ^ 4+10) (b:=10) (by omega);exact⟨((n%2 ^ 4+10).tmod 10).toNat,by omega,by omega⟩
theorem PH {fs:List Fl} {k:Nat} (hk:k≤fs.length): (iZ fs).drop (k*8)=iZ (fs.drop k):=by
 have e:iZ fs=iZ (fs.take k)++iZ (fs.drop k):=by
  conv=>lhs;rw [←akf k fs]
  exact ij _ _
 have hl: (iZ (fs.take k)).length=k*8:=by rw [gM,ajW,aks hk]
 rw [e,←hl,als]
theorem Es (a:Option Addr) (len cap:Nat) (level cut:Int) (hT:Reads H ⟨5,0,none⟩ jU) (hG:Reads H ⟨0,0,none⟩ je) (hI:Reads H ⟨4,0,none⟩ je)
  (w0:qO [.int .i64,.string] H a len cap) (w1: (Lit.int .i64 level).wf=true) (w2: (Lit.int .i64 cut).wf=true):ab Tryz.prog 4 #[.slice a len cap,.int .i64 level,.int .i64 cut] H (Vj H):=by
 have Rm:maxLen=9223372036854775807:=rfl;obtain⟨LL,hLl,hlm,hL1,hL2,hS⟩:=w0.rows (by decide);obtain⟨T,hT1,hT2,hT3⟩:=S7 LL hL1 hL2;have hS:Sl H (.slice a len cap) 2 (G5 T):=by rw [hT2];exact hS
 have VE:T.length=len:=hT1.trans hLl;obtain⟨hc0,y7⟩:=Zk w2;refine fy.vc _ _ _ _ _ ?_;unfold fy.res;refine Er hT hG hI fun H1 nP=>?_;rw [fc,ak0,ao];refine Mk (hS.ext nP) (by omega) hT3 fun H2 fv fs NB o2=>?_;have o:=o2;have rR:=nP.trans o.ext;rw [dF,t_ (k:=4) (by decide) (by decide),aC];have T_:=alC level (show (2:Int) ^ 4≠0 by decide);have XB:=al6 level (show (0:Int)<2 ^ 4 by decide);rw [bH (by omega) (by omega),sD];refine⟨by decide,?_⟩;obtain⟨lev,tK,hle⟩:=S9 level;rw [hle];have iv:=gM fs;have Ul:=NB.len;refine z8 (hT.ext rR) (hG.ext rR) (o.sl (v:=fv) (by repeat(first|exact ajP|apply ajO))) NB tK fun H3 X hX wx=>?_;have o:=o.more wx;obtain⟨l,aaW,Uj,hl3,rfl⟩:=hX;have hX:zY fs lev (dL l):= ⟨l,aaW,Uj,hl3,rfl⟩;have g:nj l:= ⟨aaW,fun x hx hd=> ((Uj x hx).2.1 hd).2⟩;have xE:l.length=fs.length:=by rw [←hl3,aka]
 have hZ:=mG g.ok;have hZ0:22≤(dL l).length:=by unfold dL fM;simp only [ajQ,nV];omega
 refine ai (vs:= [str (dL l),.int .i64 0]) rfl ?_;refine ai (vs:= [str (dL l),.int .i64 0]) rfl ?_;refine aJ ?_;rw [sD];refine⟨by omega,?_⟩;refine aJ ?_;have hn: (0:Int)< ((dL l).length:Int):=by omega
 have hr:=Ml (z:=cut) hn;rw [aC,bH (by omega) (by omega)];refine aJ ?_;rw [sD];refine⟨by omega,?_⟩;have hm:=S8 (z:=cut) hn;obtain⟨m,DT⟩: ∃m:Nat,(cut.tmod ((dL l).length:Int)+ ((dL l).length:Int)).tmod ((dL l).length:Int)= (m:Int):= ⟨_,(alc hm.1).symm⟩;rw [DT] at hm ⊢;have hml:m≤(dL l).length:=by omega
 refine bz (lo:=0) (hi:=m) (.inr ⟨rfl,rfl⟩) (.inl rfl) (akj _) hml ?_;rw [ako,akG];refine G4 g (hI.ext (nP.trans o.ext)) hml fun H4 k gv hk hgv tV=>?_;have o:=o.more tV;have j5:=hk.1;have hgl: (iZ ((l.take k).map Prod.fst)).length=k*8:=by rw [gM,aka,ajW,aks j5]
 have sd: (l.take k).map Prod.fst=fs.take k:=by rw [amk,hl3]
 refine ai (vs:= [gv,i64 (eW l k)]) rfl ?_;refine ai (vs:= [gv,i64 (eW l k)]) rfl ?_;refine hgv.len hgl (by decide) ?_;refine(o.sl (v:=fv) (by repeat(first|exact ajP|apply ajO))).len iv (by decide) ?_;rw [bU,decide_eq_false (by omega),ao];refine hgv.len hgl (by decide) ?_;refine(o.sl (v:=fv) (by repeat(first|exact ajP|apply ajO))).cut (n:=fs.length) (lo:=k) (hi:=fs.length) (by decide) iv (by omega) (ajR _) (fun rv hrv=>?_) (.inl rfl) (.inr ⟨rfl,rfl⟩);have hrv:Sl H4 rv 8 (iZ (fs.drop k)):=by
  rw [PH (by omega),aj9 (by rw [gM,aj1];omega)] at hrv;exact hrv
 rw [sd] at hgv hgl;have aaY :=nP.trans o.ext;refine PA (fs1:=fs.take k) (fs2:=fs.drop k) (hT.ext aaY) (hG.ext aaY) hgv hrv (by rw [akf];exact NB) tK fun H5 X' hX' wQ=>?_;rw [akf] at hX';obtain rfl:=hX.one hX';have o:=o.more wQ;refine ai (vs:= [str (dL l),.int .i64 0,.int .i64 0]) rfl ?_;refine ai (vs:= [str (dL l),.int .i64 0,.int .i64 0]) rfl ?_;refine ai (vs:= [str (dL l),.int .i64 0,.int .i64 0]) rfl ?_;refine bz (lo:=0) (hi:=m) (.inr ⟨rfl,rfl⟩) (.inl rfl) (akj _) hml ?_;rw [ako,akG];refine PG g (hI.ext (nP.trans o.ext)) hml fun H6 k2 D4 xn=>?_;obtain rfl:=hk.one D4;have o:=o.more xn;rw [bj,decide_eq_true rfl];refine bX ?_;refine pD ?_;rw [decide_eq_true rfl];intro _;refine bX ?_;rw [qw,decide_eq_true (by have:=hk.2.1;omega)];intro _;refine bX ?_;refine((hgv.ext wQ).ext xn).len hgl (by decide) ?_;refine(o.sl (v:=fv) (by repeat(first|exact ajP|apply ajO))).cut (n:=fs.length) (lo:=0) (hi:=k) (by decide) iv (akj _) (by omega) (fun rv2 U8=>?_) (.inr ⟨rfl,rfl⟩) (.inl rfl);have U8:Sl H6 rv2 8 (iZ ((l.take k).map Prod.fst)):=by
  rw [al8,ako,akG] at U8;rw [sd,←show (iZ fs).take (k*8)=iZ (fs.take k) from L1 rM k];exact U8
 refine FD (g.take k) (hI.ext (nP.trans o.ext)) U8 fun H7 RA=>?_;intro _;exact⟨rfl,(nP.trans o.ext).trans RA⟩
end
end Go.Proofs.YtpcgccdmmoggmaaGreatDoor
