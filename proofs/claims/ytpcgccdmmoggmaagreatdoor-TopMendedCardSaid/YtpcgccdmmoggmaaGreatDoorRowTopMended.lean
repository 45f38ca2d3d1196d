/- The given law 'TopMended': the row's step, from the theorem 'TopMended_law' over heaps. -/
import Derived.Test.YtpcgccdmmoggmaaGreatDoorPkH
import Derived.Test.YtpcgccdmmoggmaaGreatDoorRows
import Derived.Test.YtpcgccdmmoggmaaGreatDoorCards
import Derived.Test.YtpcgccdmmoggmaaGreatDoorTie
import Derived.SevenTiedAt
import Derived.LaidMore
import Derived.Stop.Joined
import Derived.Lay
import Derived.WalkKit
import Derived.ProofKit
import Derived.OpenShut
import Derived.ShutString
import Derived.ChangeOld
import Derived.Below
set_option linter.unusedSimpArgs false
set_option linter.unusedVariables false
namespace Go.Proofs.YtpcgccdmmoggmaaGreatDoor.topMended
open Go Go.Vc Go.ChangeShapes Go.WideShapes Go.ChangeAt Go.RowKit
open Go.ChangeMaps (open_string shut_string)
section
theorem own:ownKnob Tryz.prog.godebug=none:=by kernel_rfl
theorem laidOut:laidOutB Tryz.prog=true:=by kernel_rfl
abbrev DR:List (String × DataW Unit):= [("lighter/match.depths",Rows.laid_lighter_match_depths),("unicode/utf8.acceptRanges",Rows.laid_unicode_utf8_acceptRanges),("lighter/block.order",Rows.laid_lighter_block_order),("lighter/inflate.order",Rows.laid_lighter_inflate_order),("unicode/utf8.first",Rows.laid_unicode_utf8_first)]
theorem gD:Tryz.prog.globalNamed "lighter/match.depths" =some 5:=by kernel_rfl
theorem tD: (Tryz.prog.globals[5]?).map (·.type)=some 399:=by kernel_rfl
theorem table {W:World} (h:laidMetH Tryz.prog DR W):Reads W.heap ⟨5,0,none⟩ jU:=by
 rw [MakeChecks.laidMetH_plain _ _ _ (by kernel_rfl)] at h;obtain⟨ps,⟨g0,t0,cs0,f0,p0,q0,VT,ht0,Tt,Ha,_,_⟩,_,_⟩:=h;obtain rfl:=akA (gD.symm.trans VT);obtain rfl:=akA (tD.symm.trans ht0);obtain⟨xs,m1,rfl,nP,hlen,hn,En⟩:=DataW.trod_array Tryz.underlying399 Ha;have cE:Tryz.prog.cellsOf 3=1:=by kernel_rfl
 rw [ak4] at nP;intro i v hv;have hi:i<10:=by have:= (aku.1 hv).1;rwa [show jU.length=10 from rfl] at this
 have En:=En i hi;rw [cE,aj0] at En;obtain⟨x,hx⟩: ∃x,xs[i]? =some x:= ⟨xs[i],ajV (by omega)⟩;rw [hx] at En;obtain⟨k,e1,e2,_⟩:=DataW.trod_int Tryz.underlying3 En;have hD:=congrArg (fun d=>match d with|DataW.agg l=>l[i]? |_=>Option.none) nP.1;have hD2: (match (Rows.laid_lighter_match_depths:DataW Unit) with|DataW.agg l=>l[i]? |_=>Option.none)=some (.lit (.int .i64 (uC i:Int))):=by
  match i,hi with
  |0,_|1,_|2,_|3,_|4,_|5,_|6,_|7,_|8,_|9,_=>rfl
  |n+10,h=>exact absurd h (by omega)
 have YE: (match (DataW.agg (xs.map (·.1)):DataW Unit) with|DataW.agg l=>l[i]? |_=>Option.none)=some (.lit (.int .i64 k)):=by
  show (xs.map (·.1))[i]? =_;rw [ake,hx,e2];rfl
 have hk: (DataW.lit (.int .i64 (uC i:Int)):DataW Unit)= .lit (.int .i64 k):=akA (hD2.symm.trans (hD.trans YE));simp only [DataW.lit.injEq,Lit.int.injEq,true_and] at hk;rw [AX hi,ajY] at hv;subst hv;have kz:=World.var?_cell VT Tt i;have hc:cs0[i]? =some (.int .i64 k):=by
  have:=congrArg (fun l=>l[0]?) e1
  simpa [alQ,ak7] using this
 have K7:W.cell? ⟨5,i,none⟩=some (.int .i64 (uC i:Int)):=by rw [kz,hc,hk]
 rw [show (⟨5,0,none⟩:Addr).add i= ⟨5,i,none⟩ from by cases i<;>simp [Addr.add]];unfold World.cell? at K7;unfold cellAt;exact K7
theorem gD3:Tryz.prog.globalNamed "lighter/block.order" =some 0:=by kernel_rfl
theorem tD3: (Tryz.prog.globals[0]?).map (·.type)=some 247:=by kernel_rfl
theorem Yc {W:World} (h:laidMetH Tryz.prog DR W):Reads W.heap ⟨0,0,none⟩ je:=by
 rw [MakeChecks.laidMetH_plain _ _ _ (by kernel_rfl)] at h;obtain⟨ps,⟨_,_,_,_,_,_,_,_,_,_,⟨_,_,_,_,_,_,_,_,_,_,⟨g0,t0,cs0,f0,p0,q0,VT,ht0,Tt,Ha,_,_⟩,_⟩,_⟩,_,_⟩:=h;obtain rfl:=akA (gD3.symm.trans VT);obtain rfl:=akA (tD3.symm.trans ht0);obtain⟨xs,m1,rfl,nP,hlen,hn,En⟩:=DataW.trod_array Tryz.underlying247 Ha;have cE:Tryz.prog.cellsOf 3=1:=by kernel_rfl
 rw [ak4] at nP;intro i v hv;have hi:i<19:=by have:= (aku.1 hv).1;rwa [show je.length=19 from rfl] at this
 have En:=En i hi;rw [cE,aj0] at En;obtain⟨x,hx⟩: ∃x,xs[i]? =some x:= ⟨xs[i],ajV (by omega)⟩;rw [hx] at En;obtain⟨k,e1,e2,_⟩:=DataW.trod_int Tryz.underlying3 En;have hD:=congrArg (fun d=>match d with|DataW.agg l=>l[i]? |_=>Option.none) nP.1;have hD2: (match (Rows.laid_lighter_block_order:DataW Unit) with|DataW.agg l=>l[i]? |_=>Option.none)=some (.lit (.int .i64 (O3 i:Int))):=by
  match i,hi with
  |0,_|1,_|2,_|3,_|4,_|5,_|6,_|7,_|8,_|9,_|10,_|11,_|12,_|13,_|14,_|15,_|16,_|17,_|18,_=>rfl
  |n+19,h=>exact absurd h (by omega)
 have YE: (match (DataW.agg (xs.map (·.1)):DataW Unit) with|DataW.agg l=>l[i]? |_=>Option.none)=some (.lit (.int .i64 k)):=by
  show (xs.map (·.1))[i]? =_;rw [ake,hx,e2];rfl
 have hk: (DataW.lit (.int .i64 (O3 i:Int)):DataW Unit)= .lit (.int .i64 k):=akA (hD2.symm.trans (hD.trans YE));simp only [DataW.lit.injEq,Lit.int.injEq,true_and] at hk;rw [vC hi,ajY] at hv;subst hv;have kz:=World.var?_cell VT Tt i;have hc:cs0[i]? =some (.int .i64 k):=by
  have:=congrArg (fun l=>l[0]?) e1
  simpa [alQ,ak7] using this
 have K7:W.cell? ⟨0,i,none⟩=some (.int .i64 (O3 i:Int)):=by rw [kz,hc,hk]
 rw [show (⟨0,0,none⟩:Addr).add i= ⟨0,i,none⟩ from by cases i<;>simp [Addr.add]];unfold World.cell? at K7;unfold cellAt;exact K7
theorem gD4:Tryz.prog.globalNamed "lighter/inflate.order" =some 4:=by kernel_rfl
theorem tD4: (Tryz.prog.globals[4]?).map (·.type)=some 247:=by kernel_rfl
theorem Yd {W:World} (h:laidMetH Tryz.prog DR W):Reads W.heap ⟨4,0,none⟩ je:=by
 rw [MakeChecks.laidMetH_plain _ _ _ (by kernel_rfl)] at h;obtain⟨ps,⟨_,_,_,_,_,_,_,_,_,_,⟨_,_,_,_,_,_,_,_,_,_,⟨_,_,_,_,_,_,_,_,_,_,⟨g0,t0,cs0,f0,p0,q0,VT,ht0,Tt,Ha,_,_⟩,_⟩,_⟩,_⟩,_,_⟩:=h;obtain rfl:=akA (gD4.symm.trans VT);obtain rfl:=akA (tD4.symm.trans ht0);obtain⟨xs,m1,rfl,nP,hlen,hn,En⟩:=DataW.trod_array Tryz.underlying247 Ha;have cE:Tryz.prog.cellsOf 3=1:=by kernel_rfl
 rw [ak4] at nP;intro i v hv;have hi:i<19:=by have:= (aku.1 hv).1;rwa [show je.length=19 from rfl] at this
 have En:=En i hi;rw [cE,aj0] at En;obtain⟨x,hx⟩: ∃x,xs[i]? =some x:= ⟨xs[i],ajV (by omega)⟩;rw [hx] at En;obtain⟨k,e1,e2,_⟩:=DataW.trod_int Tryz.underlying3 En;have hD:=congrArg (fun d=>match d with|DataW.agg l=>l[i]? |_=>Option.none) nP.1;have hD2: (match (Rows.laid_lighter_inflate_order:DataW Unit) with|DataW.agg l=>l[i]? |_=>Option.none)=some (.lit (.int .i64 (O3 i:Int))):=by
  match i,hi with
  |0,_|1,_|2,_|3,_|4,_|5,_|6,_|7,_|8,_|9,_|10,_|11,_|12,_|13,_|14,_|15,_|16,_|17,_|18,_=>rfl
  |n+19,h=>exact absurd h (by omega)
 have YE: (match (DataW.agg (xs.map (·.1)):DataW Unit) with|DataW.agg l=>l[i]? |_=>Option.none)=some (.lit (.int .i64 k)):=by
  show (xs.map (·.1))[i]? =_;rw [ake,hx,e2];rfl
 have hk: (DataW.lit (.int .i64 (O3 i:Int)):DataW Unit)= .lit (.int .i64 k):=akA (hD2.symm.trans (hD.trans YE));simp only [DataW.lit.injEq,Lit.int.injEq,true_and] at hk;rw [vC hi,ajY] at hv;subst hv;have kz:=World.var?_cell VT Tt i;have hc:cs0[i]? =some (.int .i64 k):=by
  have:=congrArg (fun l=>l[0]?) e1
  simpa [alQ,ak7] using this
 have K7:W.cell? ⟨4,i,none⟩=some (.int .i64 (O3 i:Int)):=by rw [kz,hc,hk]
 rw [show (⟨4,0,none⟩:Addr).add i= ⟨4,i,none⟩ from by cases i<;>simp [Addr.add]];unfold World.cell? at K7;unfold cellAt;exact K7
theorem walk (a0:Option Addr) (PI PJ:Nat) (a1:Int) (a2:Int) (w:World) (hG:Reads w.heap ⟨5,0,none⟩ jU) (hG3:Reads w.heap ⟨0,0,none⟩ je) (hG4:Reads w.heap ⟨4,0,none⟩ je) (w0:qO [.int .i64,.string] w.heap a0 PI PJ) (w1: (Lit.int .i64 a1).wf=true) (w2: (Lit.int .i64 a2).wf=true):
  Calls Tryz.prog 4 #[.slice a0 PI PJ,.int .i64 a1,.int .i64 a2] w fun e w' =>e= .returned (.bool true)∧∃D5 :World,w'.Alike D5 ∧Below w.heap.size w D5 :=by
 exact QA (Es a0 PI PJ a1 a2 hG hG3 hG4 w0 w1 w2)
set_option maxRecDepth 100000 in
theorem lifted (os:Os) (started:os.Started) (H:Type) (enc:TypeId × Value→H):
  ReturnsInHanded {} Tryz.checked os 4 .any (fun w args=> (Rows.topMendedSpec.pre enc Tryz.prog Tryz.f4 [] false w args∧laidMetH Tryz.prog DR w)∧sizedMet enc Tryz.prog Tryz.f4 (OpenSpec.ofChange Rows.topMendedSpec) false w args) (Rows.topMendedSpec.post enc Tryz.prog Tryz.f4 false true false false):=by
 refine returnsInHanded_of_change_and (C:=Tryz.checked) (X:=fun w _=>laidMetH Tryz.prog DR w) (fun _ _ _ hh h=>h.of_heap hh) own started (by kernel_rfl) Tryz.func4
  (ChangeSpec.witness_shaped (enc:=enc) (C:=Tryz.checked) (os:=os) (X:=fun w _=>laidMetH Tryz.prog DR w) false (World.laidAll Tryz.prog os DR) #[.slice none 0 0,.int .i64 0,.int .i64 0] 8 (World.laidAll_os _ _ _) (World.shaped_of_ZipB (by kernel_rfl) (by kernel_rfl)) (by kernel_rfl) (by kernel_rfl) (by kernel_rfl) (by rw [MakeChecks.laidMetH_plain _ _ _ (by kernel_rfl)];exact laidMet_laidAll _ (by kernel_rfl) (by kernel_rfl))) ?_
 intro W base args ds gs before VU hW _ _ hL _;have HO: ∀ (j:Nat) t v,Tryz.f4.params[j]? =some t→args[j]? =some v→Value.okWide Tryz.prog W .any base t v:=VU;have ZW :=hW;obtain⟨p,q,hA0,hV,rfl,QB,Zp⟩:=hW;have hA:DataW.TrodAll enc Tryz.prog W 0 (fun _=>true) true Tryz.f4.params.toList args.toList ds p:=hA0;rw [Tryz.params4] at hA HO;obtain⟨v0,vs0,d0,ds0,p0,q0,agw,rfl,rfl,h0,r0⟩:=trodAll_cons hA;obtain⟨v1,vs1,d1,ds1,p1,q1,rfl,rfl,rfl,h1,r1⟩:=trodAll_cons r0;obtain⟨v2,vs2,d2,ds2,p2,q2,rfl,rfl,rfl,h2,r2⟩:=trodAll_cons r1;obtain⟨rfl,rfl,rfl⟩:=trodAll_nil r2;obtain rfl:args= #[v0,v1,v2]:=by cases args;simp_all
 obtain⟨rfl,rfl⟩:=trodVars_none hV;have k0:=h0;have lt0: ∀x∈p0,x.block<W.heap.size:=by obtain⟨m,hm⟩:=k0;exact DataW.trod_lt m _ _ _ hm
 obtain⟨a0,PI,PJ,rfl⟩:=okWide_slice Tryz.underlying22 (HO 0 22 v0 rfl rfl);have w0:qO [.int .i64,.string] W.heap a0 PI PJ:=by
  obtain⟨fuel,hf⟩:=h0;exact FY Tryz.underlying22 Tryz.underlying81 (by kernel_rfl) (by kernel_rfl) (by kernel_rfl) (by kernel_rfl) hf
 obtain⟨a1,rfl,rfl,rfl,w1⟩:=open_int Tryz.underlying3 (HO 1 3 v1 rfl rfl) h1;obtain⟨a2,rfl,rfl,rfl,w2⟩:=open_int Tryz.underlying3 (HO 2 3 v2 rfl rfl) h2;clear hA0 VU;refine(walk a0 PI PJ a1 a2 W (table hL) (Yc hL) (Yd hL) w0 w1 w2).mono fun e W' ⟨he,Tm,ze,bel⟩=>?_;subst he;exact⟨_,rfl,ChangeSpec.post_alike ⟨_,_,_,[],_,[],ZW,trodAll_mk1 (shut_bool Tryz.underlying4 _),(trodAll_cons_mk (Below.trod laidOut (by kernel_rfl) (of_decide_eq_true (by kernel_rfl)) k0 bel lt0) (trodAll_cons_mk (shut_int Tryz.underlying3 w1) (trodAll_cons_mk (shut_int Tryz.underlying3 w2) trodAll_mk0))),rfl,bel.frame _,fun h=>by cases h⟩ ze⟩
theorem both {a b:Bool} (h:a=true) (k:b=true): (a && b)=true:=by rw [h,k];rfl
theorem aa2:laidOutB Tryz.pinned.checked.prog=true:=by kernel_rfl
theorem aa3:mapsRowed Tryz.pinned.checked.prog=true:=by kernel_rfl
theorem aa4: (Rows.topMendedRow.inPlace==Tryz.pinned.checked.prog.inPlace 4)=true:=by kernel_rfl
theorem Ye: (Rows.topMendedRow.unfollowed==Tryz.pinned.checked.prog.unfollowed 4)=true:=by kernel_rfl
theorem Yf: (Rows.topMendedRow.recurses==Tryz.pinned.checked.prog.recurses 4)=true:=by kernel_rfl
theorem Yg: (Rows.topMendedRow.named==Tryz.pinned.checked.prog.varsNamed 4)=true:=by kernel_rfl
theorem Yh: (Rows.topMendedRow.plainKeys==Tryz.pinned.checked.prog.plainKeys)=true:=by kernel_rfl
theorem Yi:Tryz.pinned.checked.prog.stopsHeard=true:=by kernel_rfl
theorem Yj:Tryz.pinned.checked.prog.mayEnter=true:=by kernel_rfl
theorem Yk: (Rows.topMendedRow.lifted==Tryz.pinned.checked.prog.liftsFinal)=true:=by kernel_rfl
theorem Yl: (Tryz.pinned.checked.prog.make==some Rows.topMendedRow.make)=true:=by kernel_rfl
theorem closed:joinedFacts Tryz.pinned.checked.prog 4 Tryz.f4 Rows.topMendedSpec Rows.topMendedRow=true:=by
 unfold joinedFacts;exact(both (both (both (both (both (both (both (both (both (both (both (both (both (both (both (both (both (both (both (both (both (both (both (both (both (both (both (both (both (both (both (by kernel_rfl) aa2) aa3) (by kernel_rfl)) (by kernel_rfl)) (by kernel_rfl)) (by kernel_rfl)) (by kernel_rfl)) (by kernel_rfl)) aa4) Ye) Yf) Yg) (by kernel_rfl)) (by kernel_rfl)) (by kernel_rfl)) (by kernel_rfl)) (by kernel_rfl)) (by kernel_rfl)) (by kernel_rfl)) (by kernel_rfl)) (by kernel_rfl)) Yh) (by kernel_rfl)) Yi) Yj) Yk) Yl) (by kernel_rfl)) (by kernel_rfl)) (by kernel_rfl)) (by kernel_rfl))
theorem over:Rows.topMendedRow.holds Tryz.pinned (OpenSpec.ofChange Rows.topMendedSpec):=
 OpenClaim.holds_of_wide 4 Tryz.f4 rfl rfl rfl rfl rfl rfl rfl ⟨rfl,rfl,rfl,rfl,rfl⟩ rfl rfl rfl rfl rfl (by kernel_rfl) Tryz.func4 closed
  (of_decide_eq_true (by kernel_rfl)) (by unfold Func.isWrapper;first| (rw [if_pos (by decide+kernel)];kernel_rfl) | (rw [if_neg (by decide+kernel)];exact⟨rfl,rfl⟩))
  (fun os started H enc _=>lifted os started H enc)
end
end Go.Proofs.YtpcgccdmmoggmaaGreatDoor.topMended
namespace Go.Proofs.YtpcgccdmmoggmaaGreatDoor
section
theorem TopMended_proved:Rows.TopMendedCardSaid:=
 Claim7.holds_tied_plain_at .later [] [.data,.data,.widerDeep,.widerDeep,.pinned] true (true,"ff86a9bbbee56acf0164f6c32c5843417354baeffbd7e783743294b2dfe31c9a") false
  topMended.over (fun _ h=>by cases h) (by kernel_rfl) (fun _ h=>by cases h) topMended_row_tie rfl ⟨rfl,rfl⟩ (by kernel_rfl) rfl
  (fun f fn hf hfn=>by
   obtain rfl:f=4:=akA ((show Tryz.prog.funcNamed "lighter/lightertop.TopMended" =some 4 by kernel_rfl).symm.trans hf) |>.symm
   obtain rfl:fn=Tryz.f4:= (akA (Tryz.func4.symm.trans hfn)).symm;exact⟨by kernel_rfl,fun j t ht=>by
    rw [Tryz.params4] at ht;have hm:t∈ [22,3,3]:=by simpa using Array.mem_of_getElem? ht
    have qC: ([22,3,3].all fun u=> !Tryz.prog.wantsStandIn u)=true:=by kernel_rfl
    exact(show Tryz.prog.wantsStandIn t=false by simpa using alA.1 qC t hm)⟩)
  (by kernel_rfl)
#print axioms TopMended_proved
end
end Go.Proofs.YtpcgccdmmoggmaaGreatDoor
