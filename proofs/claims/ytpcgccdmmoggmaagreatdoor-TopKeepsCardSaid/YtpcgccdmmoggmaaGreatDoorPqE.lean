/- Part 5 of the proof of RowTopKeeps: what it is built on, in the order of its needs. -/
import Derived.Test.YtpcgccdmmoggmaaGreatDoorPqD
set_option linter.unusedSimpArgs false
set_option linter.unusedVariables false
set_option maxRecDepth 100000
namespace Go.Proofs.YtpcgccdmmoggmaaGreatDoor
open Go Go.Vc Go.Proofs
section
variable {H:ai} {R:Value→ai→Prop} {v:Value}
theorem JX {sz:Nat} {ls:List (List Value)}: (∀l∈ls,∃n,l.length=n*sz)→∃m,ls.flatten.length=m*sz:=by
 induction ls with
 |nil=>exact fun _=> ⟨0,by simp⟩
 |cons a ls ih=>
  intro h;obtain⟨n,hn⟩:=h a (by simp);obtain⟨m,hm⟩:=ih fun l hl=>h l (by simp [hl]);exact⟨n+m,by rw [ag0,af9,hn,hm,ahw]⟩
theorem Lr {n:Int} (h0:0≤n) (hb:2*n.toNat*8≤281474976710656) (h: ∀y H',ar H H' [.sl y 1 []]→R y H'):ab 219 #[.slice none 0 0,.int .i64 n] H R:=by
 refine oK.vc _ _ _ _ ?_;refine⟨fun H' =>H=H',?_,?_⟩
 ·rintro _ _ rfl
  rw [Cs,o_,aZ];rw [ba (by omega) (by omega),aZ,show n - (((0:Nat):Int) - ((0:Nat):Int))=n by omega,ba (by omega) (by omega),a8];refine av (fun hc=>?_) (fun hc=>?_)
  ·rw [Cs,gH,dc]
   refine⟨by decide,by decide,?_⟩;refine⟨⟨by omega,hb⟩,fun c f_=>?_⟩
   dsimp only
   rw [o_,gH,dc];refine⟨by decide,by omega,?_⟩;have e: (if c=0 then (some ⟨H.size,0,none⟩:Option Addr) else Option.map (fun x:Addr=>x.add (0*1)) (some (⟨H.size,0,none⟩:Addr)))=some ⟨H.size,0,none⟩:=by
    split
    ·rfl
    ·simp [Addr.add]
   rw [e];refine h _ _ (ar.start.add (Ext.refl _).push ⟨by decide,.inr ⟨_,0,c,_,rfl,⟨⟨_,(0,0),by rw [agn];exact bW,.inl rfl⟩,by simp,?_⟩⟩⟩ (fun j hj=>by simp only [It.cN,aS,agf] at hj;omega));rw [agn,af9,gp,gp];simp only [agi,agt];omega
  ·exact h _ _ (ar.start.add (Ext.refl _) ⟨by decide,.inl ⟨rfl,rfl⟩⟩ (by intro k hk;exact absurd hk (by simp [It.cN,aS])))
 ·rw [aN]
  refine av (fun hc=>by omega) (fun _=>rfl)
theorem vU {svs:List Value} {ls:List (List Value)} (hv:Sl H v 1 svs) (Ts:svs.length≤1000) (hl:svs.length=ls.length) (hs: ∀k (h:k<svs.length),Sl H svs[k] 1 (ls[k]'(by omega))∧∃n,(ls[k]'(by omega)).length=n*1) (ho:ls.flatten.all aK=true)
  (hb:2*ls.flatten.length*8≤281474976710656) (h: ∀y H',ar H H' [.sl y 1 ls.flatten]→R y H'):ab 171 #[v] H R:=by
 have tq: ∀k (hk:k<svs.length),(ls.take (k+1)).flatten= (ls.take k).flatten++ls[k]'(by omega):=fun k hk=>by rw [agz,agb (by omega),ahz];simp
 have hle: ∀k,(ls.take k).flatten.length≤ls.flatten.length:=fun k=>by
  have:=congrArg (fun l=>l.flatten.length) (agE k ls);simp only [ahz,af9] at this;omega
 refine mQ.vc _ _ _ ?_;refine hv.len (n:=svs.length) (by omega) (by decide) ?_;refine⟨fun s i H' => ∃k m:Nat,s= .int .i64 m∧i= .int .i64 k∧k≤svs.length∧(ls.take k).flatten.length=m*1∧H=H',fun _ i _=>match i with| .int _ x=> (svs.length - x).toNat|_=>0,⟨0,0,rfl,rfl,by omega,by simp,rfl⟩,?_⟩;rintro _ _ _ _ ⟨k,m,rfl,rfl,hk,hm,rfl⟩;rw [aN];refine av (fun hc=>?_) (fun hc=>?_)
 ·have dV:k<svs.length:=by omega
  refine hv.at_ (n:=svs.length) (by omega) (by decide) (by omega) (by omega) fun p hp=>?_;refine hp.load hv (w:=svs[k]) (by rw [af_,agh];exact agb dV) ?_;obtain⟨Er,n,hn⟩:=hs k dV;refine Er.len hn (by decide) ?_;have lD:=hle (k+1);rw [tq k dV,af9,hm,hn] at lD;rw [az,ba (by omega) (by omega),aN];refine av (fun Hm=>by omega) (fun _=>?_);rw [az,ba (by have:=hv;omega) (by have:=hle svs.length;omega)];exact⟨⟨k+1,m+n,by rw [show ((m+n:Nat):Int)= (m:Int)+n by omega],rfl,by omega,by rw [tq k dV,af9,hm,hn,ahw],rfl⟩,by show (_:Int).toNat< (_:Int).toNat;omega⟩
 ·have dV:k=ls.length:=by omega
  rw [dV,agr] at hm;refine Lr (by omega) (by rw [af_];omega) fun y H1 o=>?_;refine hv.len (n:=svs.length) (by omega) (by decide) ?_;refine⟨fun s i H' => ∃k:Nat,i= .int .i64 k∧k≤svs.length∧ar H H' [.sl s 1 (ls.take k).flatten],fun _ i _=>match i with| .int _ x=> (svs.length - x).toNat|_=>0,⟨0,rfl,by omega,by simpa using o⟩,?_⟩;rintro _ s _ H2 ⟨k,rfl,hk,o⟩;rw [aN];refine av (fun hc=>?_) (fun hc=>?_)
  ·have dV:k<svs.length:=by omega
   refine hv.at_ (n:=svs.length) (by omega) (by decide) (by omega) (by omega) fun p hp=>?_;refine hp.load (hv.ext o.ext) (w:=svs[k]) (by rw [af_,agh];exact agb dV) ?_;obtain⟨Er,n,hn⟩:=hs k dV;have lD:=hle (k+1);rw [tq k dV,af9] at lD;obtain⟨m2,Lb⟩: ∃m2,(ls.take k).flatten.length=m2*1:=JX fun l hl=>by
    obtain⟨j,hj,rfl⟩:=ahZ (ag3 hl);exact(hs j (by omega)).2
   refine o.append (sz:=1) (n:=m2) (m:=n) (by repeat(first|exact bw.here|apply bw.there)) rfl (Er.ext o.ext) Lb hn (by
    rw [ahu] at ho ⊢;exact fun x hx=>ho x (List.mem_flatten.2 ⟨_,agj (by omega),hx⟩)) (by omega) fun y2 H3 o=>?_
   rw [az,ba (by omega) (by omega)];exact⟨⟨k+1,rfl,by omega,by rw [tq k dV];exact o⟩,by show (_:Int).toNat< (_:Int).toNat;omega⟩
  ·have dV:k=ls.length:=by omega
   rw [dV,agr] at o;exact h _ _ o
theorem Iz {n:Int} (h0:0≤n) (hb:2*n.toNat*32≤281474976710656) (h: ∀y H',ar H H' [.sl y 2 []]→R y H'):ab 273 #[.slice none 0 0,.int .i64 n] H R:=by
 refine gZ.vc _ _ _ _ ?_;refine⟨fun H' =>H=H',?_,?_⟩
 ·rintro _ _ rfl
  rw [Cs,o_,aZ];rw [ba (by omega) (by omega),aZ,show n - (((0:Nat):Int) - ((0:Nat):Int))=n by omega,ba (by omega) (by omega),a8];refine av (fun hc=>?_) (fun hc=>?_)
  ·rw [Cs,gH,dc]
   refine⟨by decide,by decide,?_⟩;refine⟨⟨by omega,hb⟩,fun c f_=>?_⟩
   dsimp only
   rw [o_,gH,dc];refine⟨by decide,by omega,?_⟩;have e: (if c=0 then (some ⟨H.size,0,none⟩:Option Addr) else Option.map (fun x:Addr=>x.add (0*2)) (some (⟨H.size,0,none⟩:Addr)))=some ⟨H.size,0,none⟩:=by
    split
    ·rfl
    ·simp [Addr.add]
   rw [e];refine h _ _ (ar.start.add (Ext.refl _).push ⟨by decide,.inr ⟨_,0,c,_,rfl,⟨⟨_,(0,0),by rw [agn];exact bW,.inl rfl⟩,by simp,?_⟩⟩⟩ (fun j hj=>by simp only [It.cN,aS,agf] at hj;omega));rw [agn,af9,gp,gp];simp only [agi,agt];omega
  ·exact h _ _ (ar.start.add (Ext.refl _) ⟨by decide,.inl ⟨rfl,rfl⟩⟩ (by intro k hk;exact absurd hk (by simp [It.cN,aS])))
 ·rw [aN]
  refine av (fun hc=>by omega) (fun _=>rfl)
theorem C6 {svs:List Value} {ls:List (List Value)} (hv:Sl H v 1 svs) (Ts:svs.length≤1000) (hl:svs.length=ls.length) (hs: ∀k (h:k<svs.length),Sl H svs[k] 2 (ls[k]'(by omega))∧∃n,(ls[k]'(by omega)).length=n*2) (ho:ls.flatten.all aK=true)
  (hb:2*ls.flatten.length*32≤281474976710656) (h: ∀y H',ar H H' [.sl y 2 ls.flatten]→R y H'):ab 248 #[v] H R:=by
 have tq: ∀k (hk:k<svs.length),(ls.take (k+1)).flatten= (ls.take k).flatten++ls[k]'(by omega):=fun k hk=>by rw [agz,agb (by omega),ahz];simp
 have hle: ∀k,(ls.take k).flatten.length≤ls.flatten.length:=fun k=>by
  have:=congrArg (fun l=>l.flatten.length) (agE k ls);simp only [ahz,af9] at this;omega
 refine gK.vc _ _ _ ?_;refine hv.len (n:=svs.length) (by omega) (by decide) ?_;refine⟨fun s i H' => ∃k m:Nat,s= .int .i64 m∧i= .int .i64 k∧k≤svs.length∧(ls.take k).flatten.length=m*2∧H=H',fun _ i _=>match i with| .int _ x=> (svs.length - x).toNat|_=>0,⟨0,0,rfl,rfl,by omega,by simp,rfl⟩,?_⟩;rintro _ _ _ _ ⟨k,m,rfl,rfl,hk,hm,rfl⟩;rw [aN];refine av (fun hc=>?_) (fun hc=>?_)
 ·have dV:k<svs.length:=by omega
  refine hv.at_ (n:=svs.length) (by omega) (by decide) (by omega) (by omega) fun p hp=>?_;refine hp.load hv (w:=svs[k]) (by rw [af_,agh];exact agb dV) ?_;obtain⟨Er,n,hn⟩:=hs k dV;refine Er.len hn (by decide) ?_;have lD:=hle (k+1);rw [tq k dV,af9,hm,hn] at lD;rw [az,ba (by omega) (by omega),aN];refine av (fun Hm=>by omega) (fun _=>?_);rw [az,ba (by have:=hv;omega) (by have:=hle svs.length;omega)];exact⟨⟨k+1,m+n,by rw [show ((m+n:Nat):Int)= (m:Int)+n by omega],rfl,by omega,by rw [tq k dV,af9,hm,hn,ahw],rfl⟩,by show (_:Int).toNat< (_:Int).toNat;omega⟩
 ·have dV:k=ls.length:=by omega
  rw [dV,agr] at hm;refine Iz (by omega) (by rw [af_];omega) fun y H1 o=>?_;refine hv.len (n:=svs.length) (by omega) (by decide) ?_;refine⟨fun s i H' => ∃k:Nat,i= .int .i64 k∧k≤svs.length∧ar H H' [.sl s 2 (ls.take k).flatten],fun _ i _=>match i with| .int _ x=> (svs.length - x).toNat|_=>0,⟨0,rfl,by omega,by simpa using o⟩,?_⟩;rintro _ s _ H2 ⟨k,rfl,hk,o⟩;rw [aN];refine av (fun hc=>?_) (fun hc=>?_)
  ·have dV:k<svs.length:=by omega
   refine hv.at_ (n:=svs.length) (by omega) (by decide) (by omega) (by omega) fun p hp=>?_;refine hp.load (hv.ext o.ext) (w:=svs[k]) (by rw [af_,agh];exact agb dV) ?_;obtain⟨Er,n,hn⟩:=hs k dV;have lD:=hle (k+1);rw [tq k dV,af9] at lD;obtain⟨m2,Lb⟩: ∃m2,(ls.take k).flatten.length=m2*2:=JX fun l hl=>by
    obtain⟨j,hj,rfl⟩:=ahZ (ag3 hl);exact(hs j (by omega)).2
   refine o.append (sz:=2) (n:=m2) (m:=n) (by repeat(first|exact bw.here|apply bw.there)) rfl (Er.ext o.ext) Lb hn (by
    rw [ahu] at ho ⊢;exact fun x hx=>ho x (List.mem_flatten.2 ⟨_,agj (by omega),hx⟩)) (by omega) fun y2 H3 o=>?_
   rw [az,ba (by omega) (by omega)];exact⟨⟨k+1,rfl,by omega,by rw [tq k dV];exact o⟩,by show (_:Int).toNat< (_:Int).toNat;omega⟩
  ·have dV:k=ls.length:=by omega
   rw [dV,agr] at o;exact h _ _ o
end
section
abbrev Pk:=Nat × List Nat
def b_:List Pk→List Pk
 |a::b::l=> (a.1+b.1,a.2++b.2)::b_ l
 |_=> []
def iZ:List Pk→List Pk→List Pk
 | [],b=>b
 |x::a,[]=>x::a
 |x::a,y::b=>if x.1≤y.1 then x::iZ a (y::b) else y::iZ (x::a) b
termination_by a b=>a.length+b.length
theorem mT (b:List Pk):iZ [] b=b:=by unfold iZ;rfl
theorem jF (a:List Pk):iZ a []=a:=by cases a<;> (unfold iZ;rfl)
theorem jG (x y:Pk) (a b:List Pk):iZ (x::a) (y::b)=if x.1≤y.1 then x::iZ a (y::b) else y::iZ (x::a) b:=by
 rw [iZ]
theorem mU: ∀a b:List Pk,(iZ a b).length=a.length+b.length
 | [],b=>by rw [mT];simp
 |x::a,[]=>by rw [jF];simp
 |x::a,y::b=>by
  rw [jG]
  split
  ·rw [agi,mU a (y::b)];simp;omega
  ·rw [agi,mU (x::a) b];simp;omega
termination_by a b=>a.length+b.length
theorem ix: ∀l:List Pk,(b_ l).length=l.length/2
 | []=>by simp [b_]
 | [_]=>by simp [b_]
 |a::b::l=>by rw [b_,agi,ix l];simp;omega
def fy (l:List Pk) (i:Nat):Nat:= (l.map fun p=>p.2.count i).sum
theorem j9 (i:Nat):fy [] i=0:=rfl
theorem fN (p:Pk) (l:List Pk) (i:Nat):fy (p::l) i=p.2.count i+fy l i:=by unfold fy;simp
def Oe (l:List Pk):Prop:=l.Pairwise fun a b=>a.1≤b.1
theorem jH: ∀ (a b:List Pk) (z:Pk),z∈iZ a b↔z∈a∨z∈b
 | [],b,z=>by rw [mT];simp
 |x::a,[],z=>by rw [jF];simp
 |x::a,y::b,z=>by
  rw [jG]
  split
  ·rw [ago,jH a (y::b)];simp only [ago,or_assoc]
  ·rw [ago,jH (x::a) b];simp only [ago];constructor
   ·rintro(h| (h|h) |h)<;>simp [h]
   ·rintro((h|h) |h|h)<;>simp [h]
termination_by a b=>a.length+b.length
theorem uR: ∀ (a b:List Pk),Oe a→Oe b→Oe (iZ a b)
 | [],b,ha,hb=>by rw [mT];exact hb
 |x::a,[],ha,hb=>by rw [jF];exact ha
 |x::a,y::b,ha,hb=>by
  have Ei :=agC.1 ha;have PH :=agC.1 hb;rw [jG]
  split
  ·rename_i h
   refine agC.2 ⟨fun z hz=>?_,uR a (y::b) Ei.2 hb⟩;rcases (jH _ _ _).1 hz with hz|hz
   ·exact Ei.1 z hz
   ·rcases ago.1 hz with rfl|hz
    ·exact h
    ·exact agJ h (PH.1 z hz)
  ·rename_i h
   refine agC.2 ⟨fun z hz=>?_,uR (x::a) b ha PH.2⟩;rcases (jH _ _ _).1 hz with hz|hz
   ·rcases ago.1 hz with rfl|hz
    ·omega
    ·have:=Ei.1 z hz;omega
   ·exact PH.1 z hz
termination_by a b=>a.length+b.length
theorem yX: ∀ (l:List Pk),Oe l→Oe (b_ l)
 | [],h=>by rw [b_];exact List.Pairwise.nil;all_goals simp
 | [_],h=>by rw [b_];exact List.Pairwise.nil;all_goals simp
 |a::b::l,h=>by
  have h1:=agC.1 h;have h2:=agC.1 h1.2;rw [b_];refine agC.2 ⟨fun z hz=>?_,yX l h2.2⟩;have VK: ∀ (l:List Pk),(∀x∈l,a.1≤x.1∧b.1≤x.1)→∀z∈b_ l,a.1+b.1≤z.1:=by
   intro l
   induction l using b_.induct with
   |case1 c d l ih=>
    intro hl z hz;rw [b_] at hz;rcases ago.1 hz with rfl|hz
    ·have:=hl c (by simp);have:=hl d (by simp);show _≤c.1+d.1;omega
    ·exact ih (fun x hx=>hl x (by simp [hx])) z hz
   |case2 l df=>intro hl z hz;rw [b_] at hz;simp at hz;all_goals exact df
  exact VK l (fun x hx=> ⟨h1.1 x (by simp [hx]),h2.1 x hx⟩) z hz
theorem rR: ∀ (a b:List Pk) (N:Nat),Oe a→N≤a.length+b.length→∃m p,m+p=N∧m≤a.length∧p≤b.length∧(∀i,fy ((iZ a b).take N) i=fy (a.take m) i+fy (b.take p) i)∧
  (0<p→∀x∈a[m]?,∀y∈b[p - 1]?,y.1<x.1)∧(∀x∈a.take m,x∈(iZ a b).take N)
 | [],b,N,hs,h=> ⟨0,N,by omega,aga _,by simpa using h,fun i=>by rw [mT];simp [j9],fun _ x hx=>by simp at hx,fun x hx=>by simp at hx⟩
 |x::a,[],N,hs,h=> ⟨N,0,by omega,by simpa using h,aga _,fun i=>by rw [jF];simp [j9],fun h=>by omega,fun x hx=>by rw [jF];exact hx⟩
 |x::a,y::b,0,hs,h=> ⟨0,0,rfl,agK _,agK _,fun i=>by simp [j9],fun h=>by omega,fun x hx=>by simp at hx⟩
 |x::a,y::b,N+1,hs,h=>by
  rw [jG]
  split
  ·rename_i hle
   obtain⟨m,p,h1,h2,h3,h4,h5,h6⟩:=rR a (y::b) N (agC.1 hs).2 (by simp at h ⊢;omega);refine⟨m+1,p,by omega,by simpa using h2,h3,fun i=>by rw [ahf,ahf,fN,fN,h4 i];omega,fun hp z hz=>h5 hp z (by simpa using hz),fun z hz=>?_⟩;rw [ahf] at hz ⊢;rcases ago.1 hz with rfl|hz
   ·simp
   ·exact af7 _ (h6 z hz)
  ·rename_i hle
   obtain⟨m,p,h1,h2,h3,h4,h5,h6⟩:=rR (x::a) b N hs (by simp at h ⊢;omega);refine⟨m,p+1,by omega,h2,by simpa using h3,fun i=>by rw [ahf,ahf,fN,fN,h4 i];omega,fun hp z hz u hu=>?_,fun z hz=>?_⟩
   ·by_cases VL:p=0
    ·subst VL
     simp at hu
     subst hu;have YF:z∈x::a:=ag9 hz;rcases ago.1 YF with rfl|YF
     ·omega
     ·have:= (agC.1 hs).1 z YF;omega
    ·exact h5 (by omega) z hz u (by rw [show p+1 - 1= (p - 1)+1 by omega] at hu;simpa using hu)
   ·rw [ahf]
    exact af7 _ (h6 z hz)
termination_by a b N _ _=>a.length+b.length
theorem vV: ∀ (l:List Pk) (p:Nat),2*p≤l.length→∀i,fy ((b_ l).take p) i=fy (l.take (2*p)) i
 |l,0,h,i=>by simp
 | [],p+1,h,i=>by simp at h
 | [_],p+1,h,i=>by simp at h;omega
 |a::b::l,p+1,h,i=>by
  rw [b_,show 2* (p+1)=2*p+1+1 by omega,ahf,ahf,ahf,fN,fN,fN,vV l p (by simp at h;omega) i,List.count_append];omega
theorem vW: ∀ (l:List Pk) (p:Nat),Oe l→2* (p+1)≤l.length→∀x∈l.take (2* (p+1)),∃y,(b_ l)[p]? =some y∧x.1≤y.1
 | [],p,hs,h,x,hx=>by simp at h
 | [_],p,hs,h,x,hx=>by simp at h;omega
 |a::b::l,0,hs,h,x,hx=>by
  refine⟨(a.1+b.1,a.2++b.2),by simp [b_],?_⟩
  simp at hx
  rcases hx with rfl|rfl
  ·show _≤_;simp
  ·simp
 |a::b::l,p+1,hs,h,x,hx=>by
  have h1:=agC.1 hs;have h2:=agC.1 h1.2;rw [show 2* (p+1+1)=2* (p+1)+1+1 by omega,ahf,ahf] at hx;have hl:2* (p+1)≤l.length:=by simp at h;omega
  have key: ∀x∈l.take (2* (p+1)),∃y,(b_ l)[p]? =some y∧x.1≤y.1:=vW l p h2.2 hl;have df: ∃c,c∈l.take (2* (p+1)):=by
   cases l with
   |nil=>simp at hl
   |cons c l=>exact⟨c,by rw [show 2* (p+1)= (2*p+1)+1 by omega,ahf];simp⟩
  rcases ago.1 hx with rfl|hx
  ·obtain⟨c,hc⟩:=df
   obtain⟨y,hy,hle⟩:=key c hc;exact⟨y,by rw [b_];simpa using hy,agJ (h1.1 c (by simp [ag3 hc])) hle⟩
  ·rcases ago.1 hx with rfl|hx
   ·obtain⟨c,hc⟩:=df
    obtain⟨y,hy,hle⟩:=key c hc;exact⟨y,by rw [b_];simpa using hy,agJ (h2.1 c (ag3 hc)) hle⟩
   ·obtain⟨y,hy,hle⟩:=key x hx
    exact⟨y,by rw [b_];simpa using hy,hle⟩
def bC (cs:List Nat):List Pk:=cs.zipIdx.map fun x=> (x.1,[x.2])
theorem cc (cs:List Nat): (bC cs).length=cs.length:=by simp [bC]
theorem gz {cs:List Nat} {i:Nat} (h:i<cs.length): (bC cs)[i]? =some (cs[i],[i]):=by simp [bC,h]
theorem Fx {cs:List Nat} (h:cs.Pairwise (· ≤ ·)):Oe (bC cs):=by
 unfold Oe;rw [ajA] at h ⊢;intro i j hi hj JH;rw [cc] at hi hj;have e1:=gz hi;have e2:=gz hj;rw [agb (by rw [cc];exact hi),agf] at e1;rw [agb (by rw [cc];exact hj),agf] at e2;rw [e1,e2];exact h i j hi hj JH
theorem vZ (a b:List Pk) (i:Nat):fy (a++b) i=fy a i+fy b i:=by unfold fy;simp
theorem j_ {cs:List Nat}: ∀ {m:Nat},m≤cs.length→∀i,fy ((bC cs).take m) i=if i<m then 1 else 0
 |0,h,i=>by simp [j9]
 |m+1,h,i=>by
  rw [agz,gz (by omega),vZ,j_ (by omega) i];show _+fy [_] i=_;rw [fN,j9]
  by_cases h1:i<m
  ·rw [if_pos h1,if_pos (by omega),ajC (by simp;omega)]
  ·by_cases h2:i=m
   ·subst h2;rw [if_neg h1,if_pos (by omega)];simp
   ·rw [if_neg h1,if_neg (by omega),ajC (by simp;omega)]
def c8 (L:List Pk):Nat→List Pk
 |0=>L
 |k+1=>iZ L (b_ (c8 L k))
def dN (f:Nat→Nat):Nat→Nat
 |0=>0
 |n+1=>dN f n+f n
theorem eI {f g:Nat→Nat}: ∀ {n},(∀i,i<n→f i=g i)→dN f n=dN g n
 |0,h=>rfl
 |n+1,h=>by rw [dN,dN,eI (fun i hi=>h i (by omega)),h n (by omega)]
theorem uS (f g:Nat→Nat): ∀n,dN (fun i=>f i+g i) n=dN f n+dN g n
 |0=>rfl
 |n+1=>by rw [dN,dN,dN,uS f g n];omega
theorem fj (c m:Nat): ∀ {n},m≤n→dN (fun i=>if i<m then c else 0) n=m*c
 |0,h=>by
  have:m=0:=by omega
  subst this;simp [dN]
 |n+1,h=>by
  rw [dN]
  by_cases hm:m=n+1
  ·subst hm
   rw [if_pos (by omega),eI (g:=fun i=>if i<n then c else 0) (fun i hi=>by rw [if_pos (by omega),if_pos hi]),fj c n (aga _),ah4]
  ·rw [if_neg (by omega),fj c m (by omega)];omega
theorem yY {f g:Nat→Nat}: ∀ {n},(∀i,i<n→f i≤g i)→dN f n≤dN g n
 |0,h=>aga _
 |n+1,h=>by have:=yY (n:=n) (fun i hi=>h i (by omega));have:=h n (by omega);rw [dN,dN];omega
theorem BF {L:List Pk} (h:Oe L): ∀k,Oe (c8 L k)
 |0=>h
 |k+1=>uR _ _ h (yX _ (BF h k))
structure VM (cs:List Nat) (k N:Nat) (m:Nat):Prop where
 le:m≤cs.length
 zero: ∀i,m≤i→fy ((c8 (bC cs) k).take N) i=0
 YG: ∀i,fy ((c8 (bC cs) k).take N) i≤k+1
 sum:dN (fun i=>2 ^ (k+1) - 2 ^ (k+1 - fy ((c8 (bC cs) k).take N) i)) cs.length=N*2 ^ k
 mem: ∀x∈(bC cs).take m,x∈(c8 (bC cs) k).take N
theorem R7 {cs:List Nat} (hs:cs.Pairwise (· ≤ ·)): ∀ (k N:Nat),N≤(c8 (bC cs) k).length→∃m,VM cs k N m
 |0,N,h=>by
  have hN:N≤cs.length:=by rwa [c8,cc] at h
  refine⟨N,⟨hN,fun i hi=>?_,fun i=>?_,?_,fun x hx=>hx⟩⟩
  ·rw [c8,j_ hN,if_neg (by omega)]
  ·rw [c8,j_ hN];split<;>omega
  ·rw [eI (g:=fun i=>if i<N then 1 else 0) (fun i hi=>by rw [c8,j_ hN];split<;>rfl),fj 1 N hN]
 |k+1,N,h=>by
  have hL:=Fx hs;have hM:=BF hL k;rw [c8,mU] at h;obtain⟨m,p,h1,h2,h3,h4,h5,h6⟩:=rR (bC cs) (b_ (c8 (bC cs) k)) N hL h;rw [ix] at h3;obtain⟨m',t⟩:=R7 hs k (2*p) (by omega);have hc: ∀i,fy ((c8 (bC cs) (k+1)).take N) i= (if i<m then 1 else 0)+fy ((c8 (bC cs) k).take (2*p)) i:=by
   intro i;rw [c8,h4 i,j_ (by rwa [cc] at h2),vV _ p (by omega)]
  rw [cc] at h2;have Yb:m' ≤m∨p=0:=by
   by_cases hp:p=0
   ·exact .inr hp
   refine .inl (Nat.le_of_not_lt fun cF=>?_);obtain⟨q,rfl⟩: ∃q,p=q+1:= ⟨p - 1,by omega⟩;have hm:m<cs.length:=by have:=t.le;omega
   have dz: (cs[m],[m])∈(bC cs).take m' :=by
    refine ag9 (i:=m) ?_;rw [ajD cF,gz hm]
   obtain⟨y,hy,hle⟩:=vW _ q hM (by omega) _ (t.mem _ dz);have:=h5 (by omega) _ (gz hm) y (by simpa using hy);omega
  have hz: ∀i,m≤i→fy ((c8 (bC cs) k).take (2*p)) i=0:=by
   intro i hi;rcases Yb with h|h
   ·exact t.zero i (by omega)
   ·subst h;simp [j9]
  refine⟨m,⟨h2,fun i hi=>by rw [hc,if_neg (by omega),hz i hi],fun i=>?_,?_,fun x hx=>by rw [c8];exact h6 x hx⟩⟩
  ·rw [hc];have:=t.YG i;split<;>omega
  ·rw [eI (g:=fun i=> (if i<m then 2 ^ (k+1) else 0)+ (2 ^ (k+1) - 2 ^ (k+1 - fy ((c8 (bC cs) k).take (2*p)) i))) (fun i hi=>?_),uS,fj _ _ h2,t.sum,show N=m+p by omega,ahw,agW]
   ·rw [Nat.mul_right_comm 2 p,agT p (2 ^ k*2),agT (2*2 ^ k) p,agT (2 ^ k) 2,agT p]
   ·rw [hc]
    have h7:=t.YG i;have h8:=hz i;generalize fy ((c8 (bC cs) k).take (2*p)) i=c at h7 h8 ⊢
    by_cases JG:i<m
    ·rw [if_pos JG,if_pos JG,show k+1+1 - (1+c)=k+1 - c by omega]
     have:2 ^ (k+1 - c)≤2 ^ (k+1):=agA (by omega) (by omega);rw [agW 2 (k+1)];omega
    ·have h8:=h8 (by omega)
     subst h8;rw [if_neg JG,if_neg JG]
     simp
theorem Ls (K:Nat) {n:Nat} (h:n≤2 ^ (K+1)): ∀ {c:Nat→Nat},c 0=n→(∀j,c (j+1)= (c j+1) /2)→c K≤2:=by
 intro c h0 hs;have: ∀j,j≤K→c j≤2 ^ (K+1 - j):=by
  intro j
  induction j with
  |zero=>intro _;rw [h0];exact h
  |succ j ih=>
   intro hj;have h1:=ih (by omega);rw [hs j];have h2:2 ^ (K+1 - j)=2 ^ (K+1 - (j+1))*2:=by rw [show K+1 - j=K+1 - (j+1)+1 by omega,agW]
   omega
 have:=this K (aga _)
 rwa [show K+1 - K=1 by omega] at this
theorem qt (L:List Pk) (hn:1≤L.length): ∀k,(c8 L k).length≤2*L.length - 1∧L.length≤(c8 L k).length
 |0=>by rw [c8];omega
 |k+1=>by have:=qt L hn k;rw [c8,mU,ix];omega
theorem tr (L:List Pk) (k:Nat) (hn:1≤L.length) (h:L.length≤2 ^ (k+1)):2*L.length - 2≤(c8 L k).length:=by
 have:=Ls k h (c:=fun j=>2*L.length - (c8 L j).length) (by show 2*L.length - (c8 L 0).length=_;rw [c8];omega) (fun j=>by
  have:=qt L hn j;show 2*L.length - (c8 L (j+1)).length= (2*L.length - (c8 L j).length+1) /2;rw [c8,mU,ix];omega)
 have h2:=qt L hn k;have h3:2*L.length - (c8 L k).length≤2:=this;omega
def w9 (cs:List Nat) (k:Nat) (i:Nat):Nat:=fy ((c8 (bC cs) k).take (2*cs.length - 2)) i
theorem IA {cs:List Nat} {k:Nat} (hs:cs.Pairwise (· ≤ ·)) (h2:2≤cs.length) (hk:cs.length≤2 ^ (k+1)):
  dN (fun i=>2 ^ (k+1 - w9 cs k i)) cs.length=2 ^ (k+1)∧(∀i,i<cs.length→1≤w9 cs k i∧w9 cs k i≤k+1):=by
 have he:=tr (bC cs) k (by rw [cc];omega) (by rw [cc];exact hk);rw [cc] at he;obtain⟨m,t⟩:=R7 hs k (2*cs.length - 2) he;have CR:=t.sum;have Tt: ∀i,w9 cs k i≤k+1:=t.YG
 change dN (fun i=>2 ^ (k+1) - 2 ^ (k+1 - w9 cs k i)) cs.length=_ at CR
 have YH:=uS (fun i=>2 ^ (k+1) - 2 ^ (k+1 - w9 cs k i)) (fun i=>2 ^ (k+1 - w9 cs k i)) cs.length;rw [eI (g:=fun i=>if i<cs.length then 2 ^ (k+1) else 0) (fun i hi=>by
  rw [if_pos hi];have:2 ^ (k+1 - w9 cs k i)≤2 ^ (k+1):=agA (by omega) (by omega);omega),fj _ _ (aga _),CR] at YH
 have hK:dN (fun i=>2 ^ (k+1 - w9 cs k i)) cs.length=2 ^ (k+1):=by
  have e1: (2*cs.length - 2)*2 ^ k=cs.length*2 ^ (k+1) - 2 ^ (k+1):=by
   rw [agW,show 2*cs.length - 2= (cs.length - 1)*2 by omega,ah8,agT 2,Nat.sub_mul];omega
  have e2:2 ^ (k+1)≤cs.length*2 ^ (k+1):=Nat.le_mul_of_pos_left _ (by omega);omega
 refine⟨hK,fun i hi=> ⟨?_,Tt i⟩⟩;refine Nat.pos_of_ne_zero fun h0=>?_;have Ll:dN (fun j=>if j=i then 2 ^ (k+1) else 1) cs.length≤dN (fun j=>2 ^ (k+1 - w9 cs k j)) cs.length:=yY fun j hj=>by
  by_cases e:j=i
  ·subst e;rw [if_pos rfl,h0];exact aga _
  ·rw [if_neg e];exact aib _
 have lF: ∀n,i<n→dN (fun j=>if j=i then 2 ^ (k+1) else 1) n=2 ^ (k+1)+ (n - 1):=by
  intro n
  induction n with
  |zero=>intro h;omega
  |succ n ih=>
   intro dz;rw [dN]
   by_cases e:n=i
   ·subst e
    rw [if_pos rfl,eI (g:=fun j=>if j<n then 1 else 0) (fun j hj=>by rw [if_neg (by omega),if_pos hj]),fj _ _ (aga _)];omega
   ·rw [if_neg e,ih (by omega)];omega
 rw [lF _ hi] at Ll;omega
end
section
variable {H H0 H' :ai} {R:Value→ai→Prop} {v:Value} {L:List It}
theorem _root_.Go.Vc.ar.merge {i j k:It} (o:ar H0 H (i::j::L)) (hh:i.holds H→j.holds H→k.holds H) (hf: ∀b,k.cN b→i.cN b∨j.cN b):ar H0 H (k::L):=by
 have h1:=agC.1 o.D0;have h2:=agC.1 h1.2;refine⟨o.ext,fun x hx=>?_,fun x hx b hb=>?_,agC.2 ⟨fun x hx b hb=>?_,h2.2⟩⟩
 ·rcases ago.1 hx with rfl|hx
  ·exact hh (o.ok _ (by simp)) (o.ok _ (by simp))
  ·exact o.ok x (by simp [hx])
 ·rcases ago.1 hx with rfl|hx
  ·rcases hf b hb with h|h
   ·exact o.new i (by simp) b h
   ·exact o.new j (by simp) b h
  ·exact o.new x (by simp [hx]) b hb
 ·rcases hf b hb with h|h
  ·exact h1.1 x (by simp [hx]) b h
  ·exact h2.1 x hx b h
def gj (l:List Nat):List Value:=l.map fun i=> .int .i64 (i:Nat)
theorem de (l:List Nat): (gj l).length=l.length:=by simp [gj]
theorem Fy (a b:List Nat):gj (a++b)=gj a++gj b:=by simp [gj]
def nj (H:ai):List Pk→List Value→Prop
 | [],cs=>cs= []
 |p::l,cs=> ∃sv r,cs= .int .i64 (p.1:Int)::sv::r∧(aK sv=true∧Sl H sv 1 (gj p.2)∧p.2≠ [])∧nj H l r
def UH (cs:List Value) (k:Nat):Prop:= ∃sv∈cs,aS sv=some k
theorem nj.frame: ∀ {l:List Pk} {cs:List Value},nj H l cs→(∀k,UH cs k→H'[k]? =H[k]?)→nj H' l cs
 | [],cs,h,hf=>h
 |p::l,cs,⟨sv,r,h1,⟨h2,h3,h4⟩,h5⟩,hf=>by
  subst h1;exact⟨sv,r,rfl,⟨h2,h3.frame fun k hk=>hf k ⟨sv,by simp,hk⟩,h4⟩,h5.frame fun k ⟨s,hs,hk⟩=>hf k ⟨s,by simp [hs],hk⟩⟩
theorem nj.lt {k:Nat}: ∀ {l:List Pk} {cs:List Value},nj H l cs→UH cs k→k<H.size
 | [],cs,h,hk=>by subst h;obtain⟨_,hs,_⟩:=hk;simp at hs
 |p::l,cs,⟨sv,r,h1,⟨h2,h3,h4⟩,h5⟩,⟨s,hs,hk⟩=>by
  subst h1;rcases ago.1 hs with rfl|hs
  ·simp [aS] at hk
  ·rcases ago.1 hs with rfl|hs
   ·exact h3.lt (by intro h;exact h4 (by simpa [gj] using h)) hk
   ·exact h5.lt ⟨s,hs,hk⟩
theorem nj.ext {l:List Pk} {cs:List Value} (h:nj H l cs) (hx:Ext H H'):nj H' l cs:=h.frame fun k hk=>hx.get k (h.lt hk)
theorem nj.len: ∀ {l:List Pk} {cs:List Value},nj H l cs→cs.length=l.length*2
 | [],cs,h=>by subst h;rfl
 |p::l,cs,⟨sv,r,h1,_,h5⟩=>by subst h1;simp only [agi,h5.len];omega
theorem nj.one: ∀ {l:List Pk} {cs:List Value},nj H l cs→cs.all aK=true
 | [],cs,h=>by subst h;rfl
 |p::l,cs,⟨sv,r,h1,⟨h2,_⟩,h5⟩=>by subst h1;exact all_cons rfl (all_cons h2 h5.one)
theorem nj.app: ∀ {l m:List Pk} {cs ds:List Value},nj H l cs→nj H m ds→nj H (l++m) (cs++ds)
 | [],m,cs,ds,h,k=>by subst h;exact k
 |p::l,m,cs,ds,⟨sv,r,h1,h2,h5⟩,k=>by subst h1;exact⟨sv,r++ds,rfl,h2,h5.app k⟩
theorem nj.at_: ∀ {l:List Pk} {cs:List Value} {i:Nat} {p:Pk},nj H l cs→l[i]? =some p→∃sv,cs[i*2]? =some (.int .i64 (p.1:Int))∧cs[i*2+1]? =some sv∧(cs.drop (i*2)).take 2= [.int .i64 (p.1:Int),sv]∧aK sv=true∧Sl H sv 1 (gj p.2)∧p.2≠ []
 | [],cs,i,p,h,hi=>by simp at hi
 |q::l,cs,0,p,⟨sv,r,h1,h2,h5⟩,hi=>by
  simp at hi;subst hi;subst h1
  exact⟨sv,rfl,rfl,rfl,h2⟩
 |q::l,cs,i+1,p,⟨sv,r,h1,h2,h5⟩,hi=>by
  subst h1;obtain⟨s,g1,g2,g3,g4⟩:=h5.at_ (by simpa using hi);refine⟨s,?_,?_,?_,g4⟩
  ·rw [show (i+1)*2=i*2+1+1 by omega];simpa using g1
  ·rw [show (i+1)*2+1= (i*2+1)+1+1 by omega];simpa using g2
  ·rw [show (i+1)*2=i*2+1+1 by omega];simpa using g3
theorem nj.take: ∀ {l:List Pk} {cs:List Value} (n:Nat),nj H l cs→nj H (l.take n) (cs.take (n*2))
 |l,cs,0,h=>by rw [aiI];exact rfl
 | [],cs,n+1,h=>by subst h;exact rfl
 |p::l,cs,n+1,⟨sv,r,h1,h2,h5⟩=>by
  subst h1;rw [show (n+1)*2=n*2+1+1 by omega];exact⟨sv,r.take (n*2),rfl,h2,h5.take n⟩
theorem nj.drop: ∀ {l:List Pk} {cs:List Value} (n:Nat),nj H l cs→nj H (l.drop n) (cs.drop (n*2))
 |l,cs,0,h=>by rw [aiI];exact h
 | [],cs,n+1,h=>by subst h;exact rfl
 |p::l,cs,n+1,⟨sv,r,h1,h2,h5⟩=>by
  subst h1;rw [show (n+1)*2=n*2+1+1 by omega];exact h5.drop n
def oN (l:List Pk) (cs:List Value):jl where
 cN:=UH cs
 holds H:=nj H l cs
 frame h hf:=h.frame hf
 lt h hk:=h.lt hk
theorem BG: ∀ {l:List Pk} {k:Nat} {a b:Pk},l[2*k]? =some a→l[2*k+1]? =some b→(b_ l)[k]? =some (a.1+b.1,a.2++b.2)
 | [],k,a,b,h1,h2=>by simp at h1
 | [_],0,a,b,h1,h2=>by simp at h2
 | [_],k+1,a,b,h1,h2=>by simp at h2
 |c::d::l,0,a,b,h1,h2=>by simp at h1 h2;subst h1;subst h2;simp [b_]
 |c::d::l,k+1,a,b,h1,h2=>by
  rw [b_,agI];exact BG (by rw [show 2* (k+1)=2*k+1+1 by omega] at h1;simpa using h1) (by rw [show 2* (k+1)+1= (2*k+1)+1+1 by omega] at h2;simpa using h2)
theorem IB {l:List Pk} {cs:List Value} (hv:Sl H v 2 cs) (hp:nj H l cs) (hlen:l.length≤600) (hc: ∀p∈l,p.1≤1152921504606846976∧p.2.length≤32768)
  (h: ∀y EE H',ar H H' [.sl y 2 EE,.aA (oN (b_ l) EE)]→R y H'):ab 215 #[v] H R:=by
 have dI:=hp.len;refine EU.vc _ _ _ ?_;refine⟨fun y i H' => ∃ (k:Nat) (co:List Value),i= .int .i64 ((2*k:Nat):Int)∧2*k≤l.length∧ar H H' [.sl y 2 co,.aA (oN ((b_ l).take k) co)],fun _ i _=>match i with| .int _ x=> (l.length - x).toNat|_=>0,⟨0,[],rfl,by omega,?_⟩,?_⟩
 ·exact(ar.start.add (Ext.refl _) (i:= .aA (oN [] [])) rfl (by rintro k ⟨_,hs,_⟩;simp at hs)).add (Ext.refl _) ⟨by decide,.inl ⟨rfl,rfl⟩⟩ (by intro k hk;exact absurd hk (by simp [It.cN,aS]))
 rintro _ out _ H1 ⟨k,co,rfl,hk,o⟩;rw [az,ba (by omega) (by omega)];refine hv.len dI (by decide) ?_;rw [aN];refine av (fun vB=>?_) (fun vB=>?_)
 ·have lD:2*k+1<l.length:=by omega
  obtain⟨a,ha⟩: ∃a,l[2*k]? =some a:= ⟨l[2*k],agb _⟩;obtain⟨b,hb⟩: ∃b,l[2*k+1]? =some b:= ⟨l[2*k+1],agb _⟩;obtain⟨sa,a1,a2,_,a3,a4,a5⟩:=hp.at_ ha;obtain⟨sb,b1,b2,_,b3,b4,b5⟩:=hp.at_ hb;have hca:=hc a (ag9 ha);have w_:=hc b (ag9 hb);have rp:=hv.ext o.ext;refine rp.at_ dI (by decide) (by omega) (by omega) fun p Iy=>?_;rw [af_] at Iy;refine Iy.field fun q1 YI=>?_;refine YI.load rp a1 ?_;rw [az,ba (by omega) (by omega)];refine rp.at_ dI (by decide) (by omega) (by omega) fun p2 Aq=>?_;rw [show (((2*k:Nat):Int)+1).toNat=2*k+1 by omega] at Aq;refine Aq.field fun q2 GX=>?_;refine GX.load rp b1 ?_;rw [az,ba (by omega) (by omega)];refine rp.at_ dI (by decide) (by omega) (by omega) fun p3 VN=>?_;rw [af_] at VN;refine VN.field fun q3 YJ=>?_;refine YJ.load rp a2 ?_;rw [az,ba (by omega) (by omega)];refine rp.at_ dI (by decide) (by omega) (by omega) fun p4 hp4=>?_;rw [show (((2*k:Nat):Int)+1).toNat=2*k+1 by omega] at hp4;refine hp4.field fun q4 Xq=>?_;refine Xq.load rp b2 ?_;refine o.build (sz:=1) (vs:= [sa,sb]) (by decide) (fun K' hK=>dm a3 b3 hK) rfl fun y H2 o2=>?_;have EC:=hv.ext o2.ext;refine⟨YI.load EC a1 rfl,GX.load EC b1 rfl,?_⟩;refine vU (svs:= [sa,sb]) (ls:= [gj a.2,gj b.2]) (o2.sl (by repeat(first|exact af8|apply af7))) (by simp) rfl (fun j hj=>?_) ?_ ?_ fun z H3 c3=>?_
  ·match j,hj with
   |0,_=>exact⟨a4.ext o2.ext,_,(agh _).symm⟩
   |1,_=>exact⟨b4.ext o2.ext,_,(agh _).symm⟩
  ·simp [gj,aK]
  ·simp only [ag0,aiD,af9,de,agt];omega
  have o3:=o2.call c3;have VO:=hv.ext o3.ext;refine⟨YI.load VO a1 rfl,GX.load VO b1 rfl,?_⟩;have KY:= (o3.sl (v:=z) (by repeat(first|exact af8|apply af7))).one;have P0:=o3.sl (v:=z) (by repeat(first|exact af8|apply af7));refine dm rfl KY ?_;have e1: ([gj a.2,gj b.2]:List (List Value)).flatten=gj (a.2++b.2):=by rw [Fy];simp
  rw [e1] at o3 P0;have o4:=o3.arr (L' := [.aA (oN ((b_ l).take k) co),.sl z 1 (gj (a.2++b.2)),.sl out 2 co]) (by repeat(first|exact cC.nil|exact bw.here|apply cC.cons|apply bw.there));have hlk: ((b_ l).take k).length=k:=by rw [age,ix];omega
  have xL:co.length=k*2:=by
   have:= (o4.aA (T:=oN ((b_ l).take k) co) (by repeat(first|exact af8|apply af7)):nj _ _ _).len
   rwa [hlk] at this
  have o5:ar H H3 [.aA (oN ((b_ l).take (k+1)) (co++ [.int .i64 ((a.1+b.1:Nat):Int),z])),.sl out 2 co]:=o4.merge (fun hT hS=>by
    have hT:nj H3 ((b_ l).take k) co:=hT;show nj H3 _ _;rw [agz,BG ha hb];exact hT.app ⟨z,[],rfl,⟨KY,P0,by simp [a5]⟩,rfl⟩) (fun b' ⟨s,hs,gE⟩=>by
    rcases agv.1 hs with hs|hs
    ·exact .inl ⟨s,hs,gE⟩
    ·simp at hs
     rcases hs with rfl|rfl
     ·simp [aS] at gE
     ·exact .inr gE)
  refine o5.dj (sz:=2) (by decide) rfl rfl fun y2 H4 o6=>?_;refine o6.append (sz:=2) (v:=out) (x:=y2) (n:=k) (m:=1) (by repeat(first|exact bw.here|apply bw.there)) rfl (o6.sl (by repeat(first|exact af8|apply af7))) xL rfl (all_cons rfl (all_cons KY rfl)) (by omega) fun v2 H5 o7=>?_;rw [az,ba (by omega) (by omega)];refine⟨⟨k+1,co++ [.int .i64 ((a.1+b.1:Nat):Int),z],by rw [show ((2*k:Nat):Int)+2= ((2* (k+1):Nat):Int) by omega],by omega,?_⟩,by show (_:Int).toNat< (_:Int).toNat;omega⟩;have o8:=o7.arr (L' := [.sl v2 2 (co++ [.int .i64 ((a.1:Int)+ (b.1:Int)),z]),.aA (oN ((b_ l).take (k+1)) (co++ [.int .i64 ((a.1+b.1:Nat):Int),z]))]) (by repeat(first|exact cC.nil|exact bw.here|apply cC.cons|apply bw.there));exact o8
 ·rw [agx (by rw [ix];omega)] at o
  exact h _ _ _ o
theorem Fz {va vb:Value} {A B:List Pk} {ca cb:List Value} (ha:Sl H va 2 ca) (hb:Sl H vb 2 cb) (pa:nj H A ca) (pb:nj H B cb) (P1:A.length≤300) (Uq:B.length≤300) (hc: ∀p,p∈A∨p∈B→p.1≤2305843009213693952)
  (h: ∀y EE H',ar H H' [.sl y 2 EE]→nj H (iZ A B) EE →(∀s∈EE,s∈ca∨s∈cb)→R y H'):ab 214 #[va,vb] H R:=by
 refine CN.vc _ _ _ _ ?_;refine⟨fun xa xb y H' => ∃ (i j:Nat) (O:List Pk) (co:List Value),i≤A.length∧j≤B.length∧Sl H xa 2 (ca.drop (i*2))∧Sl H xb 2 (cb.drop (j*2))∧ar H H' [.sl y 2 co]∧nj H O co∧O.length=i+j∧(∀s∈co,s∈ca∨s∈cb)∧O++iZ (A.drop i) (B.drop j)=iZ A B,
  fun xa xb _ _=> (iJ xa).getD 0+ (iJ xb).getD 0,
  ⟨0,0,[],[],by omega,by omega,ha,hb,ar.start.add (Ext.refl _) ⟨by decide,.inl ⟨rfl,rfl⟩⟩ (by intro k hk;exact absurd hk (by simp [It.cN,aS])),rfl,rfl,by simp,rfl⟩,?_⟩
 rintro _ xa xb out H1 ⟨i,j,O,co,hi,hj,sa,sb,o,po,Hu,dz,YK⟩;have Xr :=pa.drop i;have Xs :=pb.drop j;have IC : (ca.drop (i*2)).length= (A.length - i)*2:=by rw [Xr.len,agl]
 have ID : (cb.drop (j*2)).length= (B.length - j)*2:=by rw [Xs.len,agl]
 have wB: ∀ (S:List Value) (n:Nat) (s:Value),s∈S.drop n→s∈S:=fun S n s h=>ajE h;refine sa.len IC (by decide) ?_;rw [a8];have xL:co.length= (i+j)*2:=by rw [po.len,Hu]
 have JY: ∀H2,Ext H1 H2→H1=H2→(i=A.length∨j=B.length)→aY H1 291 3 [(.slice none 0 0),(.slice none 0 0),(.slice none 0 0)] [(0,1,out),(1,1,xa),(2,1,xb)] fun x42 QO=>ab 248 #[x42] QO fun x43 Tu=>R x43 Tu:=by
  intro H2 _ _ hor;have gW:= (o.sl (v:=out) (by repeat(first|exact af8|apply af7))).one;refine o.build (sz:=1) (vs:= [out,xa,xb]) (by decide) (fun K' hK=>c9 gW sa.one sb.one hK) rfl fun y H3 o2=>?_;refine C6 (svs:= [out,xa,xb]) (ls:= [co,ca.drop (i*2),cb.drop (j*2)]) (o2.sl (by repeat(first|exact af8|apply af7))) (by simp) rfl (fun k hk=>?_) ?_ ?_ fun z H4 c4=>?_
  ·match k,hk with
   |0,_=>exact⟨o2.sl (by repeat(first|exact af8|apply af7)),_,xL⟩
   |1,_=>exact⟨sa.ext o2.ext,_,IC⟩
   |2,_=>exact⟨sb.ext o2.ext,_,ID⟩
  ·simp only [ag0,aiD,List.all_append,po.one,Xr.one,Xs.one,List.all_nil,Bool.and_self]
  ·simp only [ag0,aiD,af9,xL,IC,ID,agt];omega
  have o4:= (o2.call c4).arr (L' := [.sl z 2 ([co,ca.drop (i*2),cb.drop (j*2)]:List (List Value)).flatten]) (by repeat(first|exact cC.nil|exact bw.here|apply cC.cons|apply bw.there));refine h _ _ _ o4 ?_ ?_
  ·rw [←YK]
   simp only [ag0,aiD,agy];refine po.app ?_;rcases hor with e|e
   ·subst e
    rw [ahM,mT];have:ca.drop (A.length*2)= []:=ah2 (by rw [pa.len];omega);rw [this,agn];exact Xs
   ·subst e
    rw [ahM,jF];have:cb.drop (B.length*2)= []:=ah2 (by rw [pb.len];omega);rw [this,agy];exact Xr
  ·intro s hs
   simp only [ag0,aiD,agy,agv] at hs;rcases hs with hs|hs|hs
   ·exact dz s hs
   ·exact .inl (wB _ _ _ hs)
   ·exact .inr (wB _ _ _ hs)
 by_cases hia:i<A.length
 ·rw [decide_eq_true (by omega)]
  refine bB ?_;refine sb.len ID (by decide) ?_;rw [a8];intro _;refine av (fun vB=>?_) (fun vB=>JY H1 (Ext.refl _) rfl (.inr (by omega)));have hjb:j<B.length:=by omega
  obtain⟨p,hp⟩: ∃p,(A.drop i)[0]? =some p:= ⟨A[i],by rw [ag7];exact agb hia⟩;obtain⟨q,hq⟩: ∃q,(B.drop j)[0]? =some q:= ⟨B[j],by rw [ag7];exact agb hjb⟩;obtain⟨s1,a1,a2,a3,a4,a5,a6⟩:=Xr.at_ hp;obtain⟨s2,b1,b2,b3,b4,b5,b6⟩:=Xs.at_ hq;have hAd:A.drop i=p::A.drop (i+1):=by
   rw [ag4 hia];rw [ag7,agb (by omega),agf] at hp;rw [←hp];simp
  have hBd:B.drop j=q::B.drop (j+1):=by
   rw [ag4 hjb];rw [ag7,agb (by omega),agf] at hq;rw [←hq];simp
  have hpc:=hc p (.inl (ajE (ag9 hp)));have hqc:=hc q (.inr (ajE (ag9 hq)));have Xt:=sa.ext o.ext;have Xu:=sb.ext o.ext;refine Xt.at_ IC (by decide) (by decide) (by omega) fun u1 RP=>?_;refine RP.field fun u2 SG=>?_;refine SG.load Xt a1 ?_;refine Xu.at_ ID (by decide) (by decide) (by omega) fun w1 JZ=>?_;refine JZ.field fun w2 PM=>?_;refine PM.load Xu b1 ?_;rw [kp];have YL: ∀ {K:Value→Prop},(∀v',Sl H v' 2 (ca.drop ((i+1)*2))→K v')→fg 2 xa (some (.int .i64 1)) none K:=fun hK=>by
   refine sa.cut (by decide) (lo:=1) (hi:=A.length - i) IC (by omega) (by omega) (fun v' sD =>?_) (.inl rfl) (.inr ⟨rfl,rfl⟩);rw [ahc,agx (by rw [agl,pa.len];omega),show i*2+1*2= (i+1)*2 by omega] at sD;exact hK v' sD
  have YM: ∀ {K:Value→Prop},(∀v',Sl H v' 2 (cb.drop ((j+1)*2))→K v')→fg 2 xb (some (.int .i64 1)) none K:=fun hK=>by
   refine sb.cut (by decide) (lo:=1) (hi:=B.length - j) ID (by omega) (by omega) (fun v' sD =>?_) (.inl rfl) (.inr ⟨rfl,rfl⟩);rw [ahc,agx (by rw [agl,pb.len];omega),show j*2+1*2= (j+1)*2 by omega] at sD;exact hK v' sD
  have hxa:=sa.iJ IC (by decide);have hxb:=sb.iJ ID (by decide);refine av (fun hle=>?_) (fun hle=>?_)
  ·refine Xt.at_ IC (by decide) (by decide) (by omega) fun u3 YN=>?_
   refine YN.fE Xt (ws:= [.int .i64 (p.1:Int),s1]) a3 rfl ?_;refine YL fun v' sD =>?_;have EC:=sD.iJ (n:=A.length - (i+1)) (by rw [agl,pa.len];omega) (by decide);refine o.dj (sz:=2) (by decide) rfl rfl fun y H2 o2=>?_;refine o2.append (sz:=2) (v:=out) (x:=y) (n:=i+j) (m:=1) (by repeat(first|exact bw.here|apply bw.there)) rfl (o2.sl (by repeat(first|exact af8|apply af7))) xL rfl (all_cons rfl (all_cons a4 rfl)) (by omega) fun v2 H3 o3=>?_;refine⟨⟨i+1,j,O++ [p],co++ [.int .i64 (p.1:Int),s1],by omega,by omega,sD,sb,o3.arr (by repeat(first|exact cC.nil|exact bw.here|apply cC.cons|apply bw.there)),po.app ⟨s1,[],rfl,⟨a4,a5,a6⟩,rfl⟩,by rw [af9,Hu,aii];omega,?_,?_⟩,?_⟩
   ·intro s hs
    rcases agv.1 hs with hs|hs
    ·exact dz s hs
    ·simp at hs
     rcases hs with rfl|rfl
     ·exact .inl (wB _ _ _ (ag9 a1))
     ·exact .inl (wB _ _ _ (ag9 a2))
   ·rw [←YK,hAd,hBd,jG,if_pos (by omega)];simp
   ·dsimp only;rw [hxa,hxb,EC];show A.length - (i+1)+ (B.length - j)<A.length - i+ (B.length - j);omega
  ·refine Xu.at_ ID (by decide) (by decide) (by omega) fun u3 YN=>?_
   refine YN.fE Xu (ws:= [.int .i64 (q.1:Int),s2]) b3 rfl ?_;refine YM fun v' sD =>?_;have EC:=sD.iJ (n:=B.length - (j+1)) (by rw [agl,pb.len];omega) (by decide);refine o.dj (sz:=2) (by decide) rfl rfl fun y H2 o2=>?_;refine o2.append (sz:=2) (v:=out) (x:=y) (n:=i+j) (m:=1) (by repeat(first|exact bw.here|apply bw.there)) rfl (o2.sl (by repeat(first|exact af8|apply af7))) xL rfl (all_cons rfl (all_cons b4 rfl)) (by omega) fun v2 H3 o3=>?_;refine⟨⟨i,j+1,O++ [q],co++ [.int .i64 (q.1:Int),s2],by omega,by omega,sa,sD,o3.arr (by repeat(first|exact cC.nil|exact bw.here|apply cC.cons|apply bw.there)),po.app ⟨s2,[],rfl,⟨b4,b5,b6⟩,rfl⟩,by rw [af9,Hu,aii];omega,?_,?_⟩,?_⟩
   ·intro s hs
    rcases agv.1 hs with hs|hs
    ·exact dz s hs
    ·simp at hs
     rcases hs with rfl|rfl
     ·exact .inr (wB _ _ _ (ag9 b1))
     ·exact .inr (wB _ _ _ (ag9 b2))
   ·rw [←YK,hAd,hBd,jG,if_neg (by omega)];simp
   ·dsimp only;rw [hxa,hxb,EC];show A.length - i+ (B.length - (j+1))<A.length - i+ (B.length - j);omega
 ·rw [decide_eq_false (by omega)]
  rw [cW];intro _;rw [aj];exact JY H1 (Ext.refl _) rfl (.inl (by omega))
end
section
variable {H H0 H' :ai} {R:Value→ai→Prop} {v:Value} {L:List It} {zs:List Int}
def qM (a b:Int):Int:=if a<b then -1 else if b<a then 1 else 0
def Tv:List Int→Int
 | []=>0
 |z::l=>if z≠0 then z else Tv l
def C7 (zs:List Int) (a b:Nat):Int:=Tv [qM (zs.getD a 0) (zs.getD b 0),qM (b:Nat) (a:Nat)]
theorem yZ [Go.Vc.Mode] {a:Int} (h:R (.bool false) H):ab 272 #[.int .i64 a] H R:=by
 refine cmp_isNaN_int.vc _ _ _ ?_;rw [cA,decide_eq_false (by simp)];exact h
theorem ts [Go.Vc.Mode] {a b:Int} (h:R (.int .i64 (qM a b)) H):ab 247 #[.int .i64 a,.int .i64 b] H R:=by
 refine wW.vc _ _ _ _ ?_;refine yZ ?_;refine yZ ?_;rw [aj,aj,aN];unfold qM at h;refine av (fun h1=>?_) (fun h1=>?_)
 ·rw [if_pos h1] at h;exact h
 ·rw [if_neg h1] at h
  rw [a8];refine av (fun h2=>?_) (fun h2=>?_)
  ·rw [if_pos h2] at h;exact h
  ·rw [if_neg h2] at h;exact h
theorem Q4 [Go.Vc.Mode] {l:List Int} (hs:Sl H v 1 (aH l)) (hl:l.length≤1000) (h:R (.int .i64 (Tv l)) H):ab 246 #[v] H R:=by
 have dI: (aH l).length=l.length*1:=by rw [aL];omega
 refine HO.vc _ _ _ ?_;refine hs.len dI (by decide) ?_;refine⟨fun i H' => ∃k:Nat,i= .int .i64 k∧k≤l.length∧Tv l=Tv (l.drop k)∧H=H',fun i _=>match i with| .int _ x=> (l.length - x).toNat|_=>0,⟨0,rfl,by omega,rfl,rfl⟩,?_⟩;rintro _ _ _ ⟨k,rfl,hk,ho,rfl⟩;rw [aN];refine av (fun hc=>?_) (fun hc=>?_)
 ·have dV:k<l.length:=by omega
  refine hs.at_ dI (by decide) (by omega) (by omega) fun p hp=>?_;refine hp.load hs (w:= .int .i64 l[k]) (by rw [af_,agh,bM dV]) ?_;rw [ag4 dV,Tv] at ho;rw [cA];refine cy (fun hb=>?_) (fun hb=>?_)
  ·rw [if_pos (by simpa using hb)] at ho
   rw [ho] at h;exact h
  ·rw [if_neg (by simpa using hb)] at ho
   rw [az,ba (by omega) (by omega)];exact⟨⟨k+1,rfl,by omega,ho,rfl⟩,by show (_:Int).toNat< (_:Int).toNat;omega⟩
 ·rw [ah2 (by omega)] at ho
  rw [ho] at h;exact h
theorem Of [Go.Vc.Mode] {cb:Nat} {cv:Value} {t:TypeId} {fr:Nat × Nat} {a b:Nat} (Q5:H[cb]? =some (.cells #[cv] t fr)) (hs:Sl H cv 1 (aH zs)) (ha:a<zs.length) (hb:b<zs.length) (h: ∀H',Ext H H' →R (.int .i64 (C7 zs a b)) H'):
  ab 245 #[.int .i64 (a:Int),.int .i64 (b:Int),.pointer (some ⟨cb,0,none⟩)] H R:=by
 have dI: (aH zs).length=zs.length*1:=by rw [aL];omega
 have ga:zs.getD a 0=zs[a]:=by rw [agd,agb ha];rfl
 have gb:zs.getD b 0=zs[b]:=by rw [agd,agb hb];rfl
 have eD:cellAt H ⟨cb,0,none⟩=some cv:=by rw [da Q5];rfl
 refine AI.vc _ _ _ _ _ ?_;rw [aW eD];refine hs.at_ dI (by decide) (by omega) (by omega) fun p hp=>?_;refine hp.load hs (w:= .int .i64 zs[a]) (by rw [af_,agh,bM ha]) ?_;rw [aW eD];refine hs.at_ dI (by decide) (by omega) (by omega) fun p hp=>?_;refine hp.load hs (w:= .int .i64 zs[b]) (by rw [af_,agh,bM hb]) ?_;refine ts ?_;refine ts ?_;refine(ar.start (H:=H)).build (sz:=1) (vs:=aH [qM zs[a] zs[b],qM b a]) (by decide) (fun K' hK=>dm rfl rfl hK) rfl fun y H1 o=>?_;refine Q4 (o.sl (by repeat(first|exact af8|apply af7))) (by simp) ?_;have:=h H1 o.ext;unfold C7 at this
 rwa [ga,gb] at this
theorem FA {a b:Nat}:C7 zs a b<0↔zs.getD a 0<zs.getD b 0∨(zs.getD a 0=zs.getD b 0∧b<a):=by
 unfold C7;generalize zs.getD a 0=x;generalize zs.getD b 0=y;have e: ∀u w:Int,Tv [u,w]=if u≠0 then u else if w≠0 then w else 0:=fun u w=>rfl
 rw [e];rcases Int.lt_trichotomy x y with h|h|h
 ·rw [show qM x y= -1 from if_pos h,if_pos (by decide)]
  exact⟨fun _=> .inl h,fun _=>by decide⟩
 ·subst h
  rw [show qM x x=0 by unfold qM;rw [if_neg (by omega),if_neg (by omega)],if_neg (by decide)];rcases Int.lt_trichotomy (b:Int) (a:Int) with h|h|h
  ·rw [show qM (b:Int) a= -1 from if_pos h,if_pos (by decide)]
   exact⟨fun _=> .inr ⟨rfl,by omega⟩,fun _=>by decide⟩
  ·rw [show qM (b:Int) a=0 by unfold qM;rw [if_neg (by omega),if_neg (by omega)],if_neg (by decide)]
   exact⟨fun h=>absurd h (by decide),fun h=>by omega⟩
  ·rw [show qM (b:Int) a=1 by unfold qM;rw [if_neg (by omega),if_pos h],if_pos (by decide)]
   exact⟨fun h=>absurd h (by decide),fun h=>by omega⟩
 ·rw [show qM x y=1 by unfold qM;rw [if_neg (by omega),if_pos h],if_pos (by decide)]
  exact⟨fun h=>absurd h (by decide),fun h=>by omega⟩
end
section
variable {H H0 H' :ai} {R:Value→ai→Prop} {v:Value} {L:List It} {zs:List Int}
def IE (zs:List Int) (U:List Nat):Prop:=U.Pairwise fun a b=>zs.getD a 0<zs.getD b 0∨(zs.getD a 0=zs.getD b 0∧b≤a)
theorem Og {g:Nat} (hg:Tryz.uo.f 15=g) (h:R (.int .i64 0) H):ab g #[.int .u64 0] H R:=by
 subst hg;intro w hw;have h1:=Any.bits_Len (SlLaysF0.n15.bits (P:=Tryz.prog) (ρ:=Tryz.uo) {Tryz.R0 with}) 0 w (by decide) (by decide);exact h1.mono fun e w' ⟨he,mn⟩=> ⟨_,he,by subst mn;exact b0.refl _,by subst mn;rw [hw];exact h⟩
theorem Lt {f:Value} (hv:Sl H v 1 []) (h:R (.tuple #[]) H):ab 244 #[v,f] H R:=by
 refine lI.vc _ _ _ _ ?_;refine hv.len (n:=0) rfl (by decide) ?_;rw [bR];refine Og rfl ?_;refine lJ.vc _ _ _ _ _ _ _ ?_;refine⟨fun a b _ _ _ H' =>a= .int .i64 0∧b= .int .i64 0∧H=H',fun _ _ _ _ _ _=>0,⟨rfl,rfl,rfl⟩,?_⟩;rintro _ _ _ _ _ _ _ ⟨rfl,rfl,rfl⟩;rw [aZ,ba (by decide) (by decide),kp,decide_eq_true (by decide),aD];refine jj.vc _ _ _ _ _ _ ?_;rw [az,ba (by decide) (by decide)];refine⟨fun i H' =>i= .int .i64 1∧H=H',fun _ _=>0,⟨rfl,rfl⟩,?_⟩;rintro _ _ _ ⟨rfl,rfl⟩;rw [aN,decide_eq_false (by decide),aj];exact h
theorem Q6 (n:Nat):Go.Sort.SWO (ltOf fun a b:Fin n=>C7 zs a.val b.val):=by
 have e: ∀a b:Fin n,ltOf (fun a b:Fin n=>C7 zs a.val b.val) a b=decide (zs.getD a.val 0<zs.getD b.val 0∨(zs.getD a.val 0=zs.getD b.val 0∧b.val<a.val)):=fun a b=>by
  unfold ltOf;rw [decide_eq_decide];exact FA
 constructor
 ·intro x;rw [e];simp
 ·intro x y z h1 h2;rw [e] at*;simp only [decide_eq_true_eq] at*;omega
 ·intro x y z h1 h2;rw [e] at*;simp only [decide_eq_false_iff_not] at*;omega
theorem rS {α:Type} [Inhabited α] {enc:α→Value} {w:World} {b m:Nat} {dk:Array α} {os:Array Obj} {k:Nat} (hk:k<w.heap.size) (hb:k≠b): (sortWorld enc w b 0 m dk os).heap[k]? =w.heap[k]? :=by
 unfold sortWorld;rw [Go.Sort.heap_grow_old _ _ (by rw [Go.Sort.size_putRow];exact hk)];show ((w.heap).modify b _)[k]? =_;rw [ah6,if_neg (ahh hb)]
theorem Lu {cb:Nat} {cv:Value} {t:TypeId} {U:List Nat} (o:ar H0 H (.sl v 1 (gj U):: .box cb [cv] t:: [])) (hs:Sl H0 cv 1 (aH zs)) (hU: ∀u∈U,u<zs.length) (hlen:zs.length≤288) (Xv:U.length≤288)
  (h: ∀U' H',U'.Perm U→IE zs U' →ar H0 H' (.sl v 1 (gj U'):: .box cb [cv] t:: [])→R (.tuple #[]) H'):
  ab 244 #[v,.func (.func 245) #[] #[.pointer (some ⟨cb,0,none⟩)]] H R:=by
 by_cases YO:U= []
 ·subst YO
  exact Lt (o.sl (v:=v) (by repeat(first|exact af8|apply af7))) (h [] H (aiK _) List.Pairwise.nil o)
 have hn:0<zs.length:=by
  obtain⟨u,hu⟩:=List.exists_mem_of_ne_nil U YO;have:=hU u hu;omega
 haveI:Inhabited (Fin zs.length):= ⟨⟨0,hn⟩⟩
 obtain⟨V,hV⟩: ∃V:List (Fin zs.length),V.map (·.val)=U:= ⟨U.pmap (fun u h=> ⟨u,h⟩) hU,by rw [List.map_pmap];simp⟩;have hVl:V.length=U.length:=by rw [←hV,agw]
 intro w hw;subst hw;rcases o.own (v:=v) (sz:=1) (l:=gj U) (by repeat(first|exact af8|apply af7)) with ⟨_,h0⟩ | ⟨b,n,cap,sp,rfl,⟨t2,fr,hb,hf⟩,hl,hc⟩
 ·exact absurd (by simpa [gj] using h0) YO
 have Bb:b<w.heap.size:=bq hb;have hnU:n=U.length:=by rw [de] at hl;omega
 subst hnU;have w_:=o.fZ (b:=cb) (cs:= [cv]) (t:=t) (by repeat(first|exact af8|apply af7));have YP:cb<w.heap.size:=bq w_;have df:cb≠b:=by
  have:= (agC.1 o.D0).1 (.box cb [cv] t) (by simp) b rfl;exact this
 have hbn:H0.size≤b:=o.new (.sl (.slice (some ⟨b,0,none⟩) U.length cap) 1 (gj U)) (by simp) b rfl;have hsw:=hs.ext o.ext;have hzl:zs≠ []:=by intro e;rw [e] at hn;simp at hn
 have UI: ∀k,aS cv=some k→k<w.heap.size∧k≠b:=fun k hk=>by
  have:=hs.lt (by simpa [aH] using hzl) hk;have:=o.ext.size;omega
 have eg: ∀args w,(callFunc 245 args).run Tryz.prog w= .ok (.enter 245 args) w:=enters_of Tryz.func245 (by kernel_rfl) rfl;have x_: (gj U).length≤cap:=by rw [af9] at hc;omega
 have hH:Go.Sort.Holds (fun i:Fin zs.length=>Value.int .i64 ((i.val:Nat):Int)) w b 0 V.toArray:=by
  intro j hj;have hj1:j<V.length:=by simpa using hj
  have hjU:j<U.length:=by omega
  rw [ags];have eD: (gj U++sp)[j]? =some (.int .i64 ((V[j].val:Nat):Int)):=by
   rw [agM (by rw [de];exact hjU),←hV]
   simp [gj,hj1]
  constructor
  ·unfold World.cell?
   rw [hb];simp only [Option.isSome_none,ahe,if_false,agO];rw [eD,getElem!_pos V.toArray j hj]
   simp
  ·unfold World.frozen?
   rw [hb];obtain⟨lo,hi⟩:=fr;rcases hf with hf|hf
   ·cases hf;simp
   ·simp only [de] at x_
    have: ¬lo≤j:=by simp only at hf;omega
    simp [this]
 have YQ:CmpLays1 Tryz.prog 245 #[.pointer (some ⟨cb,0,none⟩)] (fun i:Fin zs.length=>Value.int .i64 ((i.val:Nat):Int)) (fun a b=>C7 zs a.val b.val) b 0 V.toArray.size w:=by
  intro m os dk hdk x y;have Q5: (sortWorld (fun i:Fin zs.length=>Value.int .i64 ((i.val:Nat):Int)) w b 0 m dk os).heap[cb]? =some (.cells #[cv] t (0,0)):=by rw [rS YP df];exact w_
  have hsc:Sl (sortWorld (fun i:Fin zs.length=>Value.int .i64 ((i.val:Nat):Int)) w b 0 m dk os).heap cv 1 (aH zs):=hsw.frame fun k hk=>rS (UI k hk).1 (UI k hk).2;generalize sortWorld (fun i:Fin zs.length=>Value.int .i64 ((i.val:Nat):Int)) w b 0 m dk os=W at Q5 hsc ⊢
  letI:Go.Vc.Mode:= ⟨True⟩
  have:=Of (R:=fun v H' =>v= .int .i64 (C7 zs x.val y.val)∧Ext W.heap H') Q5 hsc x.isLt y.isLt (fun H' hx=> ⟨rfl,hx⟩) W rfl;refine this.mono fun e w' ⟨v',he,hr,sD,hx⟩=> ⟨by rw [he,sD],w'.drawn - W.drawn,w'.heap.extract W.heap.size w'.heap.size,?_⟩;have R8:w'.heap=W.heap++w'.heap.extract W.heap.size w'.heap.size:=by
   refine ahS fun k=>?_;rw [Array.getElem?_append]
   split
   ·rename_i hk;exact hx.get k hk
   ·rename_i hk
    rw [Array.getElem?_extract];have:=hx.size
    split
    ·congr 1;omega
    ·rename_i h2;rw [ahH (by omega)]
  have Ye:=hr.drawn trivial;obtain⟨a1,a2,a3,a4,a5⟩:=w';obtain⟨b1,b2,b3,b4,b5⟩:=W;have h1:=hr.os;have h2:=hr.output;have h3:=hr.tape;simp only at h1 h2 h3 R8 Ye;subst h1 h2 h3;unfold Go.Sort.grow World.drewN;simp only [World.mk.injEq,and_true,true_and];exact⟨R8,by omega⟩
 have main:=Any.slices_SortFunc Tryz.R0 (fun i:Fin zs.length=>Value.int .i64 ((i.val:Nat):Int)) (fun _=>rfl) (fun a b=>C7 zs a.val b.val) (Q6 _) 245 #[.pointer (some ⟨cb,0,none⟩)] b 0 cap V.toArray w eg YQ hH Bb (by simp;omega);have kg:V.toArray.size=U.length:=by simpa using hVl
 rw [kg] at main;refine main.mono fun e w' ⟨he,d',m,os,hp,Lv,mn⟩=> ⟨_,he,?_,?_⟩
 ·subst mn;exact⟨rfl,rfl,rfl,fun _=>ah7 _ _⟩
 obtain⟨Iy,_,Aq⟩:=hp;have GS :d'.size=U.length:=by rw [Iy];simpa using hVl
 have VP:d'.toList.Perm V:=by
  have e1:d'.extract 0 U.length=d' :=by rw [←GS];simp
  have e2:V.toArray.extract 0 U.length=V.toArray:=by rw [←kg];simp
  rw [e1,e2] at Aq
  simpa using Aq
 have Oh: (d'.toList.map (·.val)).length=U.length:=by simp [GS]
 refine h (d'.toList.map (·.val)) _ (by rw [←hV];exact VP.map _) ?_ ?_
 ·unfold IE
  rw [ajA];intro i j hi hj JH;have JG:i<d'.size:=by simpa using hi
  have PN:j<d'.size:=by simpa using hj
  have:=Lv i j (agK _) JH (by omega);rw [getElem!_pos d' i JG,getElem!_pos d' j PN] at this;unfold ltOf at this;rw [decide_eq_false_iff_not,FA] at this;simp only [ah0,Array.getElem_toList];omega
 ·subst mn
  refine o.eX aV.here ?_ (fun k hk YR=>rS hk (fun e=>YR (by rw [e];rfl))) ⟨by decide,.inr ⟨b,U.length,cap,sp,rfl,⟨⟨t2,fr,?_,hf⟩,by rw [de,Oh];omega,by rw [af9,de,Oh,←de U,←af9];exact hc⟩⟩⟩ (fun k hk=> .inl hk)
  ·unfold sortWorld Go.Sort.grow
   rw [Array.size_append,Go.Sort.size_putRow];exact ah7 _ _
  ·unfold sortWorld
   rw [Go.Sort.heap_grow_old _ _ (by rw [Go.Sort.size_putRow];exact Bb)];show ((w.heap).modify b _)[b]? =_;rw [ah6,if_pos rfl,hb];show some (Obj.cells (Go.Sort.putCells _ 0 d' (gj U++sp).toArray) t2 fr)=_
   congr 2
   refine ahS fun k=>?_;unfold Go.Sort.putCells;rw [Array.getElem?_mapIdx,agO,agO]
   by_cases hk:k<U.length
   ·rw [agM (by rw [de];exact hk),agM (by rw [de,Oh];exact hk)]
    have Ap:k<d'.size:=by omega
    rw [agb (by rw [de];exact hk)];simp only [ahD,agK,true_and,ags,ahb];rw [if_pos Ap,getElem!_pos d' k Ap]
    simp [gj,Ap]
   ·rw [agQ (by rw [de];omega),agQ (by rw [de,Oh];omega),de,de,Oh]
    cases sp[k - U.length]? with
    |none=>rfl
    |some x=>
     simp only [ahD];rw [if_neg (by omega)]
end
section
variable {H H0 H' :ai} {R:Value→ai→Prop} {v:Value} {L:List It} {zs:List Int}
def fI (zs:List Int) (n:Nat):List Nat:= (List.range n).filter fun i=>decide (0<zs.getD i 0)
theorem rT (zs:List Int) (n:Nat):fI zs (n+1)=fI zs n++ (if 0<zs.getD n 0 then [n] else []):=by
 unfold fI;rw [aiC,aiO]
 congr 1
 by_cases h:0<zs.getD n 0
 ·rw [if_pos h,List.filter_cons_of_pos (by simpa using h)];rfl
 ·rw [if_neg h,List.filter_cons_of_neg (by simpa using h)];rfl
theorem iG (zs:List Int): ∀n,(fI zs n).length≤n
 |0=>by simp [fI]
 |n+1=>by rw [rT,af9];have:=iG zs n;split<;>simp<;>omega
theorem jI {zs:List Int} {n i:Nat}:i∈fI zs n↔i<n∧0<zs.getD i 0:=by simp [fI]
theorem BH (hs:Sl H v 1 (aH zs)) (hlen:zs.length≤288) (h: ∀y U H',U.Perm (fI zs zs.length)→IE zs U→ar H H' [.sl y 1 (gj U)]→R y H'):ab 213 #[v] H R:=by
 have dI: (aH zs).length=zs.length*1:=by rw [aL];omega
 refine HN.vc _ _ _ ?_;refine(ar.start (H:=H)).box fun cb H1 o w_=>?_;have h1v:=hs.one;rw [cells_one h1v] at o;refine o.aw (b:=cb) (f:=0) (by repeat(first|exact af8|apply af7)) rfl ?_;refine hs.len dI (by decide) ?_;refine⟨fun y i H' => ∃k:Nat,i= .int .i64 k∧k≤zs.length∧ar H H' (.sl y 1 (gj (fI zs k)):: .box cb [v] 59:: []),fun _ i _=>match i with| .int _ x=> (zs.length - x).toNat|_=>0,⟨0,rfl,by omega,?_⟩,?_⟩
 ·exact o.add (Ext.refl _) ⟨by decide,.inl ⟨rfl,rfl⟩⟩ (by intro k hk;exact absurd hk (by simp [It.cN,aS]))
 rintro _ y _ H2 ⟨k,rfl,hk,o⟩;rw [aN];refine av (fun hc=>?_) (fun hc=>?_)
 ·have dV:k<zs.length:=by omega
  have gk:zs.getD k 0=zs[k]:=by rw [agd,agb dV];rfl
  have Xv:=iG zs k;refine hs.at_ dI (by decide) (by omega) (by omega) fun p hp=>?_;refine hp.load (hs.ext o.ext) (w:= .int .i64 zs[k]) (by rw [af_,agh,bM dV]) ?_;rw [a8];have hm: (9223372036854775807:Int) - 0=9223372036854775807:=rfl;refine av (fun hz=>?_) (fun hz=>?_)
  ·refine o.dj (sz:=1) (by decide) rfl rfl fun z H3 o2=>?_
   refine o2.app (v:=y) (x:=z) (by repeat(first|exact bw.here|apply bw.there)) (o2.sl (by repeat(first|exact af8|apply af7))) rfl (by rw [de];show 2* (_+1)*8≤_;omega) fun y2 H4 o3=>?_;rw [az,ba (by omega) (by omega)];refine⟨⟨k+1,by rfl,by omega,?_⟩,by show (_:Int).toNat< (_:Int).toNat;omega⟩;rw [rT,if_pos (by rw [gk];exact hz),Fy];exact o3.arr (by repeat(first|exact cC.nil|exact bw.here|apply cC.cons|apply bw.there))
  ·rw [az,ba (by omega) (by omega)]
   refine⟨⟨k+1,by rfl,by omega,?_⟩,by show (_:Int).toNat< (_:Int).toNat;omega⟩;rw [rT,if_neg (by rw [gk];exact hz),agy];exact o
 ·have dV:k=zs.length:=by omega
  subst dV;have Xv:=iG zs zs.length;refine Lu o hs (fun u hu=> (jI.1 hu).1) hlen (by omega) fun U H3 hp Lv o2=>?_;exact h _ _ _ hp Lv (o2.arr (by repeat(first|exact cC.nil|exact bw.here|apply cC.cons|apply bw.there)))
def v7 (zs:List Int):Bool:=zs.all fun z=>decide (0≤z∧z≤1099511627776)
theorem mV:v7 zs=true↔∀z∈zs,0≤z∧z≤1099511627776:=by simp [v7]
theorem Lw {z:Int} (h:R (.bool (!decide (0≤z∧z≤1099511627776))) H):ab 243 #[.int .i64 z] H R:=by
 refine yA.vc _ _ _ ?_;rw [aN]
 by_cases h0:z<0
 ·rw [decide_eq_true h0,cY]
  intro _;rw [decide_eq_false (by omega)] at h;exact h
 ·rw [decide_eq_false h0]
  refine aO ?_;rw [a8];intro _;have e:decide (1099511627776<z)= !decide (0≤z∧z≤1099511627776):=by
   rw [ahm,decide_eq_true_eq,ahV,decide_eq_false_iff_not];omega
  rw [e];exact h
theorem C8 (hs:Sl H v 1 (aH zs)) (hlen:zs.length≤288) (gl:v7 zs=true) (h:R (.bool false) H):ab 203 #[v,.func (.func 243) #[] #[]] H R:=by
 have dI: (aH zs).length=zs.length*1:=by rw [aL];omega
 refine dJ.vc _ _ _ _ ?_;refine dq.vc _ _ _ _ ?_;refine hs.len dI (by decide) ?_;refine⟨fun i H' => ∃k:Nat,i= .int .i64 k∧k≤zs.length∧H=H',fun i _=>match i with| .int _ x=> (zs.length - x).toNat|_=>0,⟨0,rfl,by omega,rfl⟩,?_⟩;rintro _ _ _ ⟨k,rfl,hk,rfl⟩;rw [aN];refine av (fun hc=>?_) (fun hc=>?_)
 ·have dV:k<zs.length:=by omega
  refine hs.at_ dI (by decide) (by omega) (by omega) fun p hp=>?_;refine hp.load hs (w:= .int .i64 zs[k]) (by rw [af_,agh,bM dV]) ?_;refine qn (by kernel_rfl) ?_;refine Lw ?_;rw [decide_eq_true (mV.1 gl _ (agj dV))];show ao (.bool false) _ _;rw [aj,az,ba (by omega) (by omega)];exact⟨⟨k+1,rfl,by omega,rfl⟩,by show (_:Int).toNat< (_:Int).toNat;omega⟩
 ·show lB _ _ _
  rw [dP,decide_eq_false (by decide)];exact h
theorem IF {m:Nat} (hs:Sl H v 1 (aH zs)) (hlen:zs.length≤288) (gl:v7 zs=true) (h1:1≤m) (h2:m≤15) (hn: (fI zs zs.length).length≤2 ^ m) (h: ∀H',Ext H H' →R (.int .i64 0) H'):ab 212 #[v,.int .i64 (m:Int)] H R:=by
 have dI: (aH zs).length=zs.length*1:=by rw [aL];omega
 refine ET.vc _ _ _ _ ?_;refine hs.len dI (by decide) ?_;rw [a8,decide_eq_false (by omega)];refine aO ?_;refine C8 hs hlen gl ?_;intro _;refine aO ?_;rw [aN,decide_eq_false (by omega)];intro _;refine aO ?_;rw [a8,decide_eq_false (by omega)];intro _;rw [aj];have hp: (2:Nat) ^ m≤2 ^ 15:=agA (by omega) h2;have YS: ∀ {K:Value→Prop},K (.int .i64 ((2 ^ m:Nat):Int))→jv (.int .i64 1) (.int .i64 (m:Int)) K:=fun hK=>by
  rw [eB];refine⟨by omega,?_⟩;rw [show min (m:Int).toNat IntKind.i64.bits=m by show min (m:Int).toNat 64=_;omega];rw [show (1:Int)*2 ^ m= ((2 ^ m:Nat):Int) by rw [Int.one_mul,aia];rfl];generalize 2 ^ m=P at*;rw [ba (by omega) (by omega)];exact hK
 refine YS ?_;refine BH hs hlen fun y U H1 hU _ o=>?_;refine(o.sl (by repeat(first|exact af8|apply af7))).len (n:=U.length) (by rw [de];omega) (by decide) ?_;have VQ:=hU.length_eq;rw [a8,decide_eq_false (by omega),aj];exact h _ o.ext
end
section
variable {H H0 H' :ai} {R:Value→ai→Prop} {v:Value} {L:List It} {zs:List Int}
def FB (B:Nat) (Hc:ai):jl where
 cN k:=B≤k∧k<Hc.size
 holds H:= ∀k,B≤k→k<Hc.size→H[k]? =Hc[k]?
 frame h hf k h1 h2:= (hf k ⟨h1,h2⟩).trans (h k h1 h2)
 lt {H k} h hk:=by
  have:=h k hk.1 hk.2;rw [aiG hk.2] at this;exact(ahT.1 this).1
theorem IG {B:Nat} {Hc H' :ai} {sz:Nat} {l:List Value} (h: (FB B Hc).holds H') (hs:Sl Hc v sz l) (hb: ∀k,aS v=some k→B≤k):Sl H' v sz l:=by
 by_cases hl:l= []
 ·subst hl
  rcases hs with hs| ⟨a,n,cap,h1,h2,h3,h4⟩
  ·exact .inl hs
  ·exact .inr ⟨a,n,cap,h1,h2,h3,fun i v hv=>by simp at hv⟩
 ·exact hs.frame fun k hk=>h k (hb k hk) (hs.lt hl hk)
theorem IH {sz n m:Nat} {l:List Value} {K:Value→Prop} (h:Sl H v sz l) (hz:0<sz) (hn:l.length=n*sz) (hm:m≤n) (hk: ∀v',Sl H v' sz (l.take (m*sz))→(∀k,aS v' =some k→aS v=some k)→K v'):fg sz v none (some (.int .i64 (m:Int))) K:=by
 rcases h with ⟨rfl,rfl⟩ | ⟨a,n',cap,rfl,hl,x_,hr⟩
 ·have Bg:n=0:=by
   rcases air n with h|h
   ·exact h
   ·have:=ah9 h hz;simp only [agt] at hn;omega
  have MA:m=0:=by omega
  subst MA;rw [gH,dc];exact⟨by decide,by decide,hk _ (.inl ⟨by simp,by simp⟩) (fun k hk=>by simp [aS] at hk)⟩
 ·have Vl:n' =n:=ais hz (hl.symm.trans hn)
  subst Vl;rw [gH,dc];refine⟨by omega,by omega,?_⟩;have e: (if cap=0 then (some a:Option Addr) else Option.map (fun x:Addr=>x.add (0*sz)) (some a))=some a:=by
   split
   ·rfl
   ·simp [Addr.add]
  rw [e,af_];refine hk _ (.inr ⟨a,m,cap,by simp,?_,by omega,fun i w hw=>?_⟩) (fun k hk=>hk)
  ·rw [age,hl,ag2 (aht sz hm)]
  ·rw [agV] at hw
   split at hw
   ·exact hr i w hw
   ·cases hw
def gT (n:Nat) (U:List Nat) (c:Nat→Nat):List Int:= (List.range n).map fun s=>if s∈U then ((c (U.idxOf s):Nat):Int) else 0
theorem h_ {n:Nat} {U:List Nat} {c:Nat→Nat}: (gT n U c).length=n:=by simp [gT]
theorem l4 {n:Nat} {U:List Nat} {c:Nat→Nat} {s:Nat} (h:s<n): (gT n U c)[s]'(by rw [h_];exact h)=if s∈U then ((c (U.idxOf s):Nat):Int) else 0:=by simp [gT]
theorem Lx {n:Nat} {U:List Nat}:gT n U (fun _=>0)=List.replicate n 0:=by
 refine ahF (by simp [gT]) fun i h1 h2=>?_;rw [l4 (by simpa [gT] using h1)]
 simp
theorem Oi {n:Nat} {U:List Nat} {c c' :Nat→Nat} {a:Nat} (hU:U.Nodup) (ha:a<U.length) (hn:U[a]<n) (h: ∀i,c' i=c i+if i=a then 1 else 0):
  gT n U c' = (gT n U c).set U[a] (((c a:Nat):Int)+1):=by
 refine ahF (by simp [gT]) fun i h1 h2=>?_;have hi:i<n:=by simpa [gT] using h1
 rw [l4 hi,ajw]
 by_cases e:U[a]=i
 ·rw [if_pos e,if_pos (by rw [←e];exact agj ha),←e,hU.idxOf_getElem a ha,h a,if_pos rfl];omega
 ·rw [if_neg e,l4 hi]
  by_cases hm:i∈U
  ·rw [if_pos hm,if_pos hm,h,if_neg (fun h3=>e (by
    have h4:=List.getElem_idxOf (ajT hm);rw [←h4];congr 1;exact h3.symm)),agL]
  ·rw [if_neg hm,if_neg hm]
def ew (zs:List Int) (U:List Nat):List Nat:=U.map fun u=> (zs.getD u 0).toNat
theorem FC {cs:List Nat} {k:Nat} (h:k<cs.length): (bC cs).take (k+1)= (bC cs).take k++ [(cs[k],[k])]:=by
 rw [agz,gz h];rfl
theorem tt {cs:List Nat} (h: ∀c∈cs,c≤1099511627776): ∀k,∀p∈c8 (bC cs) k,p.1≤1099511627776*2 ^ k∧p.2.length≤2 ^ k
 |0,p,hp=>by
  obtain⟨i,hi⟩:=ahI (show p∈bC cs from hp);have cF:i<cs.length:=by have:= (agD.1 hi).1;rwa [cc] at this
  rw [gz cF,agf] at hi;subst hi;have:=h _ (agj cF)
  simp;exact this
 |k+1,p,hp=>by
  rw [c8,jH] at hp;have ih:=tt h k;rcases hp with hp|hp
  ·have:=tt h 0 p hp
   have e:1≤2 ^ (k+1):=ajq
   simp at this
   exact⟨agJ this.1 (ajn _ e),by omega⟩
  ·have: ∀ (l:List Pk),(∀p∈l,p.1≤1099511627776*2 ^ k∧p.2.length≤2 ^ k)→∀p∈b_ l,p.1≤1099511627776*2 ^ (k+1)∧p.2.length≤2 ^ (k+1):=by
    intro l
    induction l using b_.induct with
    |case1 c d l Tw=>
     intro hl q hq;rw [b_] at hq;rcases ago.1 hq with rfl|hq
     ·have h1:=hl c (by simp)
      have h2:=hl d (by simp);rw [agW];refine⟨?_,?_⟩
      ·show c.1+d.1≤_;omega
      ·show (c.2++d.2).length≤_;rw [af9];omega
     ·exact Tw (fun x hx=>hl x (by simp [hx])) q hq
    |case2 l df=>intro hl q hq;rw [b_] at hq;simp at hq;all_goals exact df
   exact this _ ih p hp
theorem Ly {U:List Nat} {y leaves:Value} {K:Value→ai→Prop} (hs:Sl H v 1 (aH zs)) (hy:Sl H y 1 (gj U)) (hU: ∀u∈U,u<zs.length) (Xv:U.length≤288) (hz: ∀z∈zs,0≤z∧z≤1099511627776) {k:Nat} {cl:List Value} (hk:k<U.length)
  (o:ar H H' [.sl leaves 2 cl,.aA (oN ((bC (ew zs U)).take k) cl)])
  (h: ∀y2 Xw H2,ar H H2 [.sl y2 2 Xw,.aA (oN ((bC (ew zs U)).take (k+1)) Xw)]→K y2 H2):
  aI 1 y (.int .i64 (k:Int)) fun x49=>ak H' x49 fun x50=>aI 1 v x50 fun x54=>ak H' x54 fun x55=>aY H' 3 1 [(.int .i64 0)] [(0,1,.int .i64 (k:Int))] fun x57 Tu=>
  aT [(.int .i64 0),(.slice none 0 0)] [(0,1,x55),(1,1,x57)] fun x58=>aY Tu 293 1 [(.int .i64 0),(.slice none 0 0)] [(0,2,x58)] fun x59 YT=>bj YT 293 2 32 [(.int .i64 0),(.slice none 0 0)] leaves x59 K:=by
 have dI: (aH zs).length=zs.length*1:=by rw [aL];omega
 have YU:=hU _ (agj hk);have dX: (ew zs U).length=U.length:=by simp [ew]
 have gk:zs.getD U[k] 0=zs[U[k]]:=by rw [agd,agb YU];rfl
 have Yo:=hz _ (agj YU);have hck: (ew zs U)[k]'(by omega)=zs[U[k]].toNat:=by simp only [ew,ah0,gk]
 refine hy.at_ (n:=U.length) (by rw [de];omega) (by decide) (by omega) (by omega) fun p hp=>?_;refine hp.load (hy.ext o.ext) (w:= .int .i64 (U[k]:Nat)) (by rw [af_,agh];simp [gj,hk]) ?_;refine hs.at_ dI (by decide) (by omega) (by omega) fun p hp=>?_;refine hp.load (hs.ext o.ext) (w:= .int .i64 zs[U[k]]) (by rw [af_,agh,bM YU]) ?_;refine o.dj (sz:=1) (by decide) rfl rfl fun z H3 o3=>?_;have KY:= (o3.sl (v:=z) (by repeat(first|exact af8|apply af7))).one;have P0:=o3.sl (v:=z) (by repeat(first|exact af8|apply af7));refine dm rfl KY ?_;have o4:=o3.arr (L' := [.aA (oN ((bC (ew zs U)).take k) cl),.sl z 1 (gj [k]),.sl leaves 2 cl]) (by repeat(first|exact cC.nil|exact bw.here|apply cC.cons|apply bw.there));have xL:cl.length=k*2:=by
  have:= (o4.aA (T:=oN ((bC (ew zs U)).take k) cl) (by repeat(first|exact af8|apply af7)):nj _ _ _).len
  rwa [age,cc,dX,ag2 (by omega)] at this
 have o5:ar H H3 [.aA (oN ((bC (ew zs U)).take (k+1)) (cl++ [.int .i64 zs[U[k]],z])),.sl leaves 2 cl]:=o4.merge (fun hT hS=>by
   have hT:nj H3 ((bC (ew zs U)).take k) cl:=hT;show nj H3 _ _;rw [FC (by omega)];refine hT.app ⟨z,[],?_,⟨KY,P0,by simp⟩,rfl⟩;rw [hck];show _= [Value.int .i64 ((zs[U[k]].toNat:Nat):Int),z];rw [ahv Yo.1]) (fun b' ⟨s,hs,gE⟩=>by
   rcases agv.1 hs with hs|hs
   ·exact .inl ⟨s,hs,gE⟩
   ·simp at hs
    rcases hs with rfl|rfl
    ·simp [aS] at gE
    ·exact .inr gE)
 refine o5.dj (sz:=2) (by decide) rfl rfl fun y2 H4 o6=>?_;refine o6.append (sz:=2) (v:=leaves) (x:=y2) (n:=k) (m:=1) (by repeat(first|exact bw.here|apply bw.there)) rfl (o6.sl (by repeat(first|exact af8|apply af7))) xL rfl (all_cons rfl (all_cons KY rfl)) (by omega) fun v2 H5 o7=>?_;exact h _ _ _ (o7.arr (by repeat(first|exact cC.nil|exact bw.here|apply cC.cons|apply bw.there)))
end
section
variable {H H0 H' :ai} {R:Value→ai→Prop} {v:Value} {L:List It} {zs:List Int}
def pI (zs:List Int) (m:Nat) (ls:List Int):Prop:= ∃U:List Nat,U.Perm (fI zs zs.length)∧IE zs U∧
 ((U.length<2∧ls=gT zs.length U fun _=>1)∨(2≤U.length∧ls=gT zs.length U (w9 (ew zs U) (m - 1))))
theorem Oj (P:List Pk) (p:Pk) (q:Nat) (hq:q<p.2.length): ∀i,fy P i+ (p.2.take (q+1)).count i=fy P i+ (p.2.take q).count i+if i=p.2[q] then 1 else 0:=by
 intro i;rw [agz,agb hq,List.count_append];show _+ (_+List.count i [p.2[q]])=_
 by_cases e:i=p.2[q]
 ·rw [if_pos e,e];simp;omega
 ·rw [if_neg e,ajC (l:= [p.2[q]]) (by simpa using e)];omega
theorem II {cs:List Nat}: ∀k,∀p∈c8 (bC cs) k,∀i∈p.2,i<cs.length
 |0,p,hp,i,hi=>by
  obtain⟨j,hj⟩:=ahI (show p∈bC cs from hp);have cF:j<cs.length:=by have:= (agD.1 hj).1;rwa [cc] at this
  rw [gz cF,agf] at hj;subst hj
  simp at hi;omega
 |k+1,p,hp,i,hi=>by
  rw [c8,jH] at hp;rcases hp with hp|hp
  ·exact II 0 p hp i hi
  ·have: ∀ (l:List Pk),(∀p∈l,∀i∈p.2,i<cs.length)→∀p∈b_ l,∀i∈p.2,i<cs.length:=by
    intro l
    induction l using b_.induct with
    |case1 c d l Tw=>
     intro hl q hq;rw [b_] at hq;rcases ago.1 hq with rfl|hq
     ·intro i hi
      rcases agv.1 hi with hi|hi
      ·exact hl c (by simp) i hi
      ·exact hl d (by simp) i hi
     ·exact Tw (fun x hx=>hl x (by simp [hx])) q hq
    |case2 l df=>intro hl q hq;rw [b_] at hq;simp at hq;all_goals exact df
   exact this _ (II k) p hp i hi
theorem J0 {N i:Nat}: ∀ {l:List Pk},(∀p∈l,p.2.length≤N)→fy l i≤l.length*N
 | [],h=>by simp [j9]
 |p::l,h=>by
  rw [fN,agi,ah4];have h1:=J0 (l:=l) (i:=i) fun q hq=>h q (by simp [hq]);have h2:=h p (by simp);have h3:p.2.count i≤p.2.length:=List.count_le_length;omega
theorem rW {n:Nat} {U:List Nat} {c c' :Nat→Nat} (h: ∀i,c i=c' i):gT n U c=gT n U c' :=by rw [show c=c' from funext h]
theorem tu {m:Nat} (hs:Sl H v 1 (aH zs)) (hlen:zs.length≤288) (gl:v7 zs=true) (h1:1≤m) (h2:m≤15) (hn: (fI zs zs.length).length≤2 ^ m)
  (h: ∀y ls H',pI zs m ls→ar H H' [.sl y 1 (aH ls)]→R (.tuple #[y,.int .i64 0]) H'):ab 168 #[v,.int .i64 (m:Int)] H R:=by
 have hz:=mV.1 gl;have dI: (aH zs).length=zs.length*1:=by rw [aL];omega
 refine AH.vc _ _ _ _ ?_;refine IF hs hlen gl h1 h2 hn fun H1 kr=>?_;rw [cA,decide_eq_false (by simp),aj];refine hs.len dI (by decide) ?_;refine((ar.start (H:=H)).more kr).qV (by omega) (by omega) (by omega) fun out H2 o2=>?_;rw [af_,jE] at o2;refine BH (hs.ext o2.ext) hlen fun y U H3 hU Lv oU=>?_;have o3:=o2.call oU;have VQ:=hU.length_eq;have ik:=iG zs zs.length;have Xx: ∀u∈U,u<zs.length:=fun u hu=> (jI.1 (hU.mem_iff.1 hu)).1;have UJ:U.Nodup:=hU.nodup_iff.2 (List.Nodup.sublist List.filter_sublist List.nodup_range);have hy:=oU.sl (v:=y) (by repeat(first|exact af8|apply af7));have DZ: (gj U).length=U.length*1:=by rw [de];omega
 refine hy.len DZ (by decide) ?_;rw [aN];refine av (fun hc=>?_) (fun hc=>?_)
 ·refine hy.len DZ (by decide) ?_
  refine⟨fun i H' => ∃k:Nat,i= .int .i64 k∧k≤U.length∧ar H H' (.sl y 1 (gj U):: .sl out 1 (aH (gT zs.length (U.take k) fun _=>1)):: []),fun i _=>match i with| .int _ x=> (U.length - x).toNat|_=>0,⟨0,rfl,by omega,?_⟩,?_⟩
  ·have e:gT zs.length (U.take 0) (fun _=>1)=List.replicate zs.length 0:=by
    refine ahF (by simp [gT]) fun i g1 g2=>?_;rw [l4 (by simpa [gT] using g1)];simp
   rw [e];exact o3.arr (by repeat(first|exact cC.nil|exact bw.here|apply cC.cons|apply bw.there))
  rintro _ _ H4 ⟨k,rfl,hk,o⟩;rw [aN];refine av (fun f_=>?_) (fun f_=>?_)
  ·have PS:k=0:=by omega
   have dV:0<U.length:=by omega
   subst PS;refine(o.sl (v:=y) (by repeat(first|exact af8|apply af7))).at_ DZ (by decide) (by omega) (by omega) fun p hp=>?_;refine hp.load (o.sl (v:=y) (by repeat(first|exact af8|apply af7))) (w:= .int .i64 (U[0]:Nat)) (by simp [gj,dV]) ?_;have hu0:=Xx _ (agj dV);refine(o.sl (v:=out) (by repeat(first|exact af8|apply af7))).at_ (n:=zs.length) (by rw [aL,h_];omega) (by decide) (by omega) (by omega) fun p hp=>?_;rw [af_,agh] at hp;refine o.store hp (by repeat(first|exact af8|apply af7)) (by rw [aL,h_];exact hu0) rfl (by repeat(first|exact aV.here|apply aV.there)) fun H5 o5 _=>?_;rw [az,ba (by omega) (by omega)];refine⟨⟨1,rfl,by omega,?_⟩,by show (_:Int).toNat< (_:Int).toNat;omega⟩;rw [iD] at o5;have e: (gT zs.length (U.take 0) fun _=>1).set U[0] 1=gT zs.length (U.take 1) fun _=>1:=by
    have hU1:U.take 1= [U[0]]:=by rw [agz,agb dV];rfl
    refine ahF (by simp [gT]) fun i g1 g2=>?_;have hi:i<zs.length:=by simpa [gT] using g2
    rw [ajw,l4 hi,l4 hi,hU1]
    by_cases e:U[0]=i
    ·rw [if_pos e,if_pos (by simp [e])];rfl
    ·rw [if_neg e,if_neg (by simp),if_neg (by simpa using fun h=>e h.symm)]
   rw [e] at o5;exact o5
  ·have YV:k=U.length:=by omega
   rw [YV,agr] at o;exact h _ _ _ ⟨U,hU,Lv,.inl ⟨by omega,rfl⟩⟩ (o.arr (by repeat(first|exact cC.nil|exact bw.here|apply cC.cons|apply bw.there)))
 ·have hU2:2≤U.length:=by omega
  have dX: (ew zs U).length=U.length:=by simp [ew]
  have hcz: ∀c∈ew zs U,c≤1099511627776:=by
   intro c hc;simp only [ew,agP] at hc;obtain⟨u,hu,rfl⟩:=hc;have Hr:=Xx u hu;rw [agd,agb Hr];have:=hz _ (agj Hr);show (zs[u]).toNat≤_;omega
  refine hy.len DZ (by decide) ?_;have GW:=hs.ext o3.ext;refine⟨fun lv i H' => ∃ (k:Nat) (cl:List Value),i= .int .i64 k∧k≤U.length∧ar H3 H' [.sl lv 2 cl,.aA (oN ((bC (ew zs U)).take k) cl)],fun _ i _=>match i with| .int _ x=> (U.length - x).toNat|_=>0,⟨0,[],rfl,by omega,?_⟩,?_⟩
  ·exact(ar.start.add (Ext.refl _) (i:= .aA (oN [] [])) rfl (by rintro k ⟨_,hs,_⟩;simp at hs)).add (Ext.refl _) ⟨by decide,.inl ⟨rfl,rfl⟩⟩ (by intro k hk;exact absurd hk (by simp [It.cN,aS]))
  rintro _ lv _ Q7 ⟨k,cl,rfl,hk,oL⟩;rw [aN];refine av (fun f_=>?_) (fun f_=>?_)
  ·refine Ly GW hy Xx (by omega) hz (by omega) oL fun y2 Xw R9 o5=>?_
   rw [az,ba (by omega) (by omega)];exact⟨⟨k+1,Xw,rfl,by omega,o5⟩,by show (_:Int).toNat< (_:Int).toNat;omega⟩
  have YV:k=U.length:=by omega
  rw [YV,agx (by rw [cc,dX];omega)] at oL;have sL:=oL.sl (v:=lv) (by repeat(first|exact af8|apply af7));have pL:nj Q7 (bC (ew zs U)) cl:=oL.aA (T:=oN _ _) (by repeat(first|exact af8|apply af7));have bL: ∀k,aS lv=some k→H3.size≤k:=fun k hk=>oL.Tb (by repeat(first|exact af8|apply af7)) hk;have bP: ∀k,UH cl k→H3.size≤k:=fun k hk=>oL.new (.aA (oN (bC (ew zs U)) cl)) (by simp) k hk;rw [aZ,ba (by omega) (by omega)];refine⟨fun YW i H' => ∃ (j:Nat) (cs:List Value),i= .int .i64 j∧j≤m - 1∧Ext Q7 H' ∧Sl H' YW 2 cs∧nj H' (c8 (bC (ew zs U)) j) cs∧(∀k,aS YW=some k→H3.size≤k)∧(∀k,UH cs k→H3.size≤k),
   fun _ i _=>match i with| .int _ x=> ((m:Int) - x).toNat|_=>0,⟨0,cl,rfl,by omega,Ext.refl _,sL,pL,bL,bP⟩,?_⟩
  rintro _ YW _ Ol ⟨j,cs,rfl,hj,hx,sS,pS,bS,bQ⟩;have xn:=qt (bC (ew zs U)) (by rw [cc];omega) j;rw [cc,dX] at xn;have Ho:=tt hcz j;have YX:2 ^ j≤2 ^ 14:=agA (by decide) (by omega);rw [aN];refine av (fun Ar=>?_) (fun Ar=>?_)
  ·refine IB sS pS (by omega) (fun p hp=>by have:=Ho p hp;generalize 2 ^ j=P at*;omega) fun y2 cs2 VR o5=>?_
   have pP:nj VR (b_ (c8 (bC (ew zs U)) j)) cs2:=o5.aA (T:=oN _ _) (by repeat(first|exact af8|apply af7));have YY:=tt hcz (j+1);have ac3:2 ^ (j+1)≤2 ^ 14:=agA (by decide) (by omega);refine Fz (sL.ext (hx.trans o5.ext)) (o5.sl (v:=y2) (by repeat(first|exact af8|apply af7))) (pL.ext (hx.trans o5.ext)) pP (by rw [cc];omega) (by rw [ix];omega) (fun p hp=>by have:=YY p (by rw [c8,jH];exact hp);generalize 2 ^ (j+1)=P at*;omega) fun y3 cs3 H18 o6 p6 hm6=>?_;rw [az,ba (by omega) (by omega)];have kg:=o5.ext.size;have YZ:=hx.size;have ac7:=oL.ext.size;refine⟨⟨j+1,cs3,rfl,by omega,(hx.trans o5.ext).trans o6.ext,o6.sl (v:=y3) (by repeat(first|exact af8|apply af7)),p6.ext o6.ext,fun k hk=>?_,fun k hk=>?_⟩,by show (_:Int).toNat< (_:Int).toNat;omega⟩
   ·have:=o6.Tb (v:=y3) (by repeat(first|exact af8|apply af7)) hk;omega
   ·obtain⟨s,hs,hk⟩:=hk
    rcases hm6 s hs with hs|hs
    ·exact bP k ⟨s,hs,hk⟩
    ·have:=o5.new (.aA (oN (b_ (c8 (bC (ew zs U)) j)) cs2)) (by simp) k ⟨s,hs,hk⟩;omega
  have hjm:j=m - 1:=by omega
  have rl:=tr (bC (ew zs U)) j (by rw [cc];omega) (by rw [cc,dX,VQ,hjm,show m - 1+1=m by omega];exact hn);rw [cc,dX] at rl;refine(hy.ext (oL.ext.trans hx)).len DZ (by decide) ?_;rw [mc,ba (by omega) (by omega),aZ,ba (by omega) (by omega),show 2* ((U.length:Nat):Int) - 2= ((2*U.length - 2:Nat):Int) by omega];refine IH sS (by decide) pS.len (by omega) fun cv UI bcv=>?_;have pT:=pS.take (2*U.length - 2);have hlT: ((c8 (bC (ew zs U)) j).take (2*U.length - 2)).length=2*U.length - 2:=by rw [age];omega
  generalize hT: (c8 (bC (ew zs U)) j).take (2*U.length - 2)=T at pT hlT;generalize hct:cs.take ((2*U.length - 2)*2)=ct at UI pT;have hcT:ct.length= (2*U.length - 2)*2:=by rw [pT.len,hlT]
  have bT: ∀k,UH ct k→H3.size≤k:=fun k ⟨s,hs,hk⟩=>bQ k ⟨s,by rw [←hct] at hs;exact ag3 hs,hk⟩;have hTm: ∀p∈T,∀i∈p.2,i<U.length:=fun p hp i hi=>by
   rw [←hT] at hp;have:=II j p (ag3 hp) i hi
   rwa [dX] at this
  have R_: ∀p∈T,p.2.length≤2 ^ j:=fun p hp=> (Ho p (by rw [←hT] at hp;exact ag3 hp)).2;have Y0:H2.size≤H3.size:=oU.ext.size;have Tx:Ext H2 Ol:= (oU.ext.trans oL.ext).trans hx;have oF:ar H Ol (.aA (FB H2.size Ol):: .sl out 1 (aH (List.replicate zs.length 0)):: []):=o2.add Tx (i:= .aA (FB H2.size Ol)) (fun k _ _=>rfl) (fun k hk=>hk.1);have Y1:=hy.ext (oL.ext.trans hx);have Y2: ∀k,aS y=some k→H2.size≤k:=fun k hk=>oU.Tb (v:=y) (by repeat(first|exact af8|apply af7)) hk;refine UI.len (n:=2*U.length - 2) hcT (by decide) ?_;refine⟨fun i H' => ∃t:Nat,i= .int .i64 t∧t≤2*U.length - 2∧ar H H' (.aA (FB H2.size Ol):: .sl out 1 (aH (gT zs.length U (fy (T.take t)))):: []),fun i _=>match i with| .int _ x=> (2*U.length - x).toNat|_=>0,⟨0,rfl,by omega,?_⟩,?_⟩
  ·have e:gT zs.length U (fy (T.take 0))=List.replicate zs.length 0:=Lx (U:=U)
   rw [e];exact oF
  rintro _ _ UK ⟨t,rfl,ht,o⟩;rw [aN];refine av (fun Xy=>?_) (fun Xy=>?_)
  ·have Xz:t<T.length:=by omega
   obtain⟨sv,a1,a2,a3,a4,a5,a6⟩:=pT.at_ (agb Xz);have y5:=R_ _ (agj Xz);have Y3:=hTm _ (agj Xz);have bsv: ∀k,aS sv=some k→H2.size≤k:=fun k hk=>by have:=bT k ⟨sv,ag9 a2,hk⟩;omega
   have Y4: ∀k,aS cv=some k→H2.size≤k:=fun k hk=>by have:=bS k (bcv k hk);omega
   have VS:Sl UK cv 2 ct:=IG (o.aA (T:=FB H2.size Ol) (by repeat(first|exact af8|apply af7))) UI Y4;have me:T.take (t+1)=T.take t++ [T[t]]:=by rw [agz,agb Xz];rfl
   generalize T[t]=P at a1 a3 a5 a6 y5 Y3 me;refine VS.at_ hcT (by decide) (by omega) (by omega) fun p hp=>?_;rw [af_] at hp;refine hp.fE VS (ws:= [.int .i64 (P.1:Int),sv]) a3 rfl ?_;refine o.box fun pb H22 o22 _=>?_;refine o22.br (vs:= [.int .i64 (P.1:Int),sv]) (by repeat(first|exact af8|apply af7)) rfl rfl (all_cons rfl (all_cons a4 rfl)) (by repeat(first|exact aV.here|apply aV.there)) fun H23 o23 _=>?_;rw [ae,al];refine o23.aw (b:=pb) (f:=0+1) (by repeat(first|exact af8|apply af7)) rfl ?_;refine a5.len (n:=P.2.length) (by rw [de];omega) (by decide) ?_;have o24:ar H H23 (.aA (FB H2.size Ol):: .sl out 1 (aH (gT zs.length U fun i=>fy (T.take t) i+ (P.2.take 0).count i)):: []):=by
    rw [rW (c' :=fy (T.take t)) (fun i=>by simp)];exact o23.arr (by repeat(first|exact cC.nil|exact bw.here|apply cC.cons|apply bw.there))
   have adh:2 ^ j≤2 ^ 14:=YX;refine⟨fun i H' => ∃q:Nat,i= .int .i64 q∧q≤P.2.length∧ar H H' (.aA (FB H2.size Ol):: .sl out 1 (aH (gT zs.length U fun i=>fy (T.take t) i+ (P.2.take q).count i)):: []),fun i _=>match i with| .int _ x=> (P.2.length - x).toNat|_=>0,⟨0,rfl,by omega,o24⟩,?_⟩;rintro _ _ H26 ⟨q,rfl,hq,o⟩;rw [aN];refine av (fun VT=>?_) (fun VT=>?_)
   ·have VU:q<P.2.length:=by omega
    have dz:=Y3 _ (agj VU);have No:=o.aA (T:=FB H2.size Ol) (by repeat(first|exact af8|apply af7));have ssv:=IG No a5 bsv;have syv:=IG No Y1 Y2;have Hr:=Xx _ (agj dz);refine ssv.at_ (n:=P.2.length) (by rw [de];omega) (by decide) (by omega) (by omega) fun p hp=>?_;refine hp.load ssv (w:= .int .i64 (P.2[q]:Nat)) (by rw [af_,agh];simp [gj,VU]) ?_;refine syv.at_ DZ (by decide) (by omega) (by omega) fun p hp=>?_;refine hp.load syv (w:= .int .i64 (U[P.2[q]]:Nat)) (by rw [af_,agh];simp [gj,dz]) ?_;have so:=o.sl (v:=out) (by repeat(first|exact af8|apply af7));refine so.at_ (n:=zs.length) (by rw [aL,h_];omega) (by decide) (by omega) (by omega) fun p hp=>?_;rw [af_,agh] at hp;have mz: (gT zs.length U fun i=>fy (T.take t) i+ (P.2.take q).count i)[U[P.2[q]]]'(by rw [h_];exact Hr)= ((fy (T.take t) P.2[q]+ (P.2.take q).count P.2[q]:Nat):Int):=by
     rw [l4 Hr,if_pos (agj dz),UJ.idxOf_getElem _ dz]
    refine hp.load so (w:= .int .i64 ((fy (T.take t) P.2[q]+ (P.2.take q).count P.2[q]:Nat):Int)) (by rw [bM (by rw [h_];exact Hr),mz]) ?_;have w_:fy (T.take t) P.2[q]+ (P.2.take q).count P.2[q]≤10000000000:=by
     have c1:=J0 (l:=T.take t) (N:=16384) (i:=P.2[q]) fun p hp=>agJ (R_ p (ag3 hp)) YX;have c2: (P.2.take q).count P.2[q]≤(P.2.take q).length:=List.count_le_length;rw [age] at c1 c2;have c3:min t T.length*16384≤576*16384:=aht _ (by omega);have c4:=agJ y5 YX;omega
    rw [az,ba (by omega) (by omega)];refine so.at_ (n:=zs.length) (by rw [aL,h_];omega) (by decide) (by omega) (by omega) fun p hp=>?_;rw [af_,agh] at hp;refine o.store hp (by repeat(first|exact af8|apply af7)) (by rw [aL,h_];exact Hr) rfl (by repeat(first|exact aV.here|apply aV.there)) fun H27 o27 _=>?_;rw [az,ba (by omega) (by omega)];refine⟨⟨q+1,rfl,by omega,?_⟩,by show (_:Int).toNat< (_:Int).toNat;omega⟩;rw [iD,←Oi (c' :=fun i=>fy (T.take t) i+ (P.2.take (q+1)).count i) UJ dz Hr (Oj _ P q VU)] at o27;exact o27
   ·have hqP:q=P.2.length:=by omega
    subst hqP;rw [az,ba (by omega) (by omega)];refine⟨⟨t+1,rfl,by omega,?_⟩,by show (_:Int).toNat< (_:Int).toNat;omega⟩;rw [rW (c' :=fy (T.take (t+1))) (fun i=>by rw [me,vZ,agr];show _=_+fy [P] i;rw [fN,j9,agL])] at o;exact o
  ·have htT:t=T.length:=by omega
   subst htT;rw [agr] at o;refine h _ _ _ ⟨U,hU,Lv,.inr ⟨hU2,?_⟩⟩ (o.arr (by repeat(first|exact cC.nil|exact bw.here|apply cC.cons|apply bw.there)));refine rW fun i=>?_;unfold w9;rw [←hT,hjm,dX]
end
section
variable {zs:List Int}
theorem v8 (p:Nat→Bool) (h:Nat→Nat): ∀l:List Nat,((l.filter p).map h).sum= (l.map fun s=>if p s=true then h s else 0).sum
 | []=>rfl
 |a::l=>by
  rw [ain,aha,aid,←v8 p h l]
  by_cases e:p a=true
  ·rw [if_pos e,if_pos e,aha,aid]
  ·rw [if_neg e,if_neg e,ags]
theorem v_ (f:Nat→Nat): ∀n,((List.range n).map f).sum=dN f n
 |0=>rfl
 |n+1=>by rw [aiC,agU,List.sum_append,v_ f n];simp [dN]
theorem BI (a:Nat) (f:Nat→Nat): ∀n,dN (fun i=>a*f i) n=a*dN f n
 |0=>rfl
 |n+1=>by rw [dN,dN,BI a f n,Nat.mul_add]
theorem Lz {n:Nat} {U:List Nat} {c:Nat→Nat}:natL (gT n U c)= (List.range n).map fun s=>if s∈U then c (U.idxOf s) else 0:=by
 unfold natL gT;rw [ah5];refine ahs fun s _=>?_;show (if s∈U then ((c (U.idxOf s):Nat):Int) else 0).toNat=_
 by_cases h:s∈U
 ·rw [if_pos h,if_pos h,af_]
 ·rw [if_neg h,if_neg h];rfl
theorem y6 {U:List Nat} {c f:Nat→Nat} (hU:U.Perm (fI zs zs.length)) (hd:U.Nodup) (h0:f 0=0):
  ((natL (gT zs.length U c)).map f).sum=dN (fun i=>f (c i)) U.length:=by
 rw [Lz,ah5];have e1: (List.range zs.length).map (f ∘ fun s=>if s∈U then c (U.idxOf s) else 0)= (List.range zs.length).map fun s=>if decide (0<zs.getD s 0)=true then f (c (U.idxOf s)) else 0:=by
  refine ahs fun s hs=>?_;have ik:=aiy.1 hs;show f (if s∈U then c (U.idxOf s) else 0)=_
  by_cases h:0<zs.getD s 0
  ·rw [if_pos (hU.mem_iff.2 (jI.2 ⟨ik,h⟩)),if_pos (by simpa using h)]
  ·rw [if_neg (fun hm=>h (jI.1 (hU.mem_iff.1 hm)).2),if_neg (by simpa using h),h0]
 rw [e1,←v8];have e2:= (hU.map fun s=>f (c (U.idxOf s))).sum_nat;rw [show List.filter (fun s=>decide (0<zs.getD s 0)) (List.range zs.length)=fI zs zs.length from rfl,←e2,←v_]
 congr 1
 refine ahF (by simp) fun i h1 h2=>?_;have hi:i<U.length:=by simpa using h1
 rw [ah0,ah0,List.getElem_range,hd.idxOf_getElem i hi]
theorem LA {U:List Nat} (h:IE zs U): (ew zs U).Pairwise (· ≤ ·):=by
 unfold ew;rw [List.pairwise_map];exact List.Pairwise.imp (fun h=>by omega) h
theorem J1: ∀ {U V:List Nat},U.Perm V→IE zs U→IE zs V→U=V
 | [],V,hp,_,_=>by rw [List.nil_perm.1 hp]
 |a::U,[],hp,_,_=>by have:=hp.length_eq;simp at this
 |a::U,b::V,hp,hu,hv=>by
  have e:a=b:=by
   have h1:a∈b::V:=hp.mem_iff.1 (by simp);have h2:b∈a::U:=hp.mem_iff.2 (by simp);rcases ago.1 h1 with e|h1
   ·exact e
   rcases ago.1 h2 with e|h2
   ·exact e.symm
   have r1:= (agC.1 hu).1 b h2;have r2:= (agC.1 hv).1 a h1;omega
  subst e;rw [J1 (List.perm_cons a|>.1 hp) (agC.1 hu).2 (agC.1 hv).2]
theorem y7 {m:Nat} {a b:List Int} (h:pI zs m a) (k:pI zs m b):a=b:=by
 obtain⟨U,hU,hs,hc⟩:=h;obtain⟨V,hV,ht,hd⟩:=k;have e:U=V:=J1 (hU.trans hV.symm) hs ht;subst e;rcases hc with ⟨h1,rfl⟩ | ⟨h1,rfl⟩<;>rcases hd with ⟨h2,rfl⟩ | ⟨h2,rfl⟩
 ·rfl
 ·omega
 ·omega
 ·rfl
theorem nU {m:Nat} {ls:List Int} (h:pI zs m ls) (h1:1≤m) (h2:m≤15) (hn: (fI zs zs.length).length≤2 ^ m):
  ls.length=zs.length∧(∀s,s<zs.length→if 0<zs.getD s 0 then 1≤ls.getD s 0∧ls.getD s 0≤m else ls.getD s 0=0)∧
  (2≤(fI zs zs.length).length→shareL (natL ls) 15=32768)∧((fI zs zs.length).length<2→shareL (natL ls) 15= (fI zs zs.length).length*16384∧∀s,s<zs.length→ls.getD s 0≤1)∧sh (natL ls)= (fI zs zs.length).length:=by
 obtain⟨U,hU,hs,jq⟩:=h;have UJ:U.Nodup:=hU.nodup_iff.2 (List.Nodup.sublist List.filter_sublist List.nodup_range);have VQ:=hU.length_eq;have key: ∃c:Nat→Nat,ls=gT zs.length U c∧(∀i,i<U.length→1≤c i∧c i≤m)∧(U.length<2→∀i,c i=1)∧(2≤U.length→dN (fun i=>2 ^ (m - c i)) U.length=2 ^ m):=by
  rcases jq with ⟨cF,e⟩ | ⟨hge,e⟩
  ·exact⟨fun _=>1,e,fun i _=> ⟨aga _,h1⟩,fun _ _=>rfl,fun h=>by omega⟩
  ·have dX: (ew zs U).length=U.length:=by simp [ew]
   have hk:=IA (cs:=ew zs U) (k:=m - 1) (LA hs) (by omega) (by rw [dX,VQ,show m - 1+1=m by omega];exact hn);rw [dX,show m - 1+1=m by omega] at hk;exact⟨_,e,hk.2,fun h=>by omega,fun _=>hk.1⟩
 obtain⟨c,rfl,vB,f_,Ar⟩:=key;have pc: ∀s,s<zs.length→(gT zs.length U c).getD s 0=if s∈U then ((c (U.idxOf s):Nat):Int) else 0:=fun s hs=>by
  rw [agd,agb (by rw [h_];exact hs),ahi,l4 hs]
 refine⟨h_,fun s ik=>?_,fun hge=>?_,fun cF=> ⟨?_,fun s ik=>?_⟩,?_⟩
 ·rw [pc s ik]
  by_cases h:0<zs.getD s 0
  ·have hm:s∈U:=hU.mem_iff.2 (jI.2 ⟨ik,h⟩)
   have:=vB _ (ajT hm);rw [if_pos h,if_pos hm];omega
  ·rw [if_neg h,if_neg (fun hm=>h (jI.1 (hU.mem_iff.1 hm)).2)]
 ·unfold shareL
  rw [y6 hU UJ (f:=fun k=>if 1≤k∧k≤15 then 2 ^ (15 - k) else 0) rfl];rw [eI (g:=fun i=>2 ^ (15 - m)*2 ^ (m - c i)) (fun i hi=>by
   have:=vB i hi;show (if 1≤c i∧c i≤15 then 2 ^ (15 - c i) else 0)=_;rw [if_pos (by omega),←aih,show 15 - m+ (m - c i)=15 - c i by omega]),BI,Ar (by omega),←aih,show 15 - m+m=15 by omega]
 ·unfold shareL
  rw [y6 hU UJ (f:=fun k=>if 1≤k∧k≤15 then 2 ^ (15 - k) else 0) rfl,eI (g:=fun i=>if i<U.length then 16384 else 0) (fun i hi=>by
   show (if 1≤c i∧c i≤15 then 2 ^ (15 - c i) else 0)=_;rw [f_ (by omega) i,if_pos hi];rfl),fj _ _ (aga _),VQ]
 ·rw [pc s ik]
  split
  ·rw [f_ (by omega)];decide
  ·decide
 ·have e: ∀l:List Nat,sh l= (l.map fun k=>if k=0 then 0 else 1).sum:=fun l=>by
   induction l with
   |nil=>rfl
   |cons a l ih=>
    unfold sh at ih ⊢;rw [aic,aha,aid,ih]
    by_cases h:a=0<;>simp [h];omega
  rw [e,y6 hU UJ (f:=fun k=>if k=0 then 0 else 1) rfl,eI (g:=fun i=>if i<U.length then 1 else 0) (fun i hi=>by
   have:=vB i hi;show (if c i=0 then 0 else 1)=_;rw [if_neg (by omega),if_pos hi]),fj _ _ (aga _)]
  omega
end
section
variable {H H0 H' :ai} {R:Value→ai→Prop} {v:Value} {L:List It} {zs:List Int}
theorem Om {i:Nat} (hs:Sl H v 1 (aH zs)) (hlen:zs.length≤1000) (hi:i<zs.length) (h: ∀n:Nat,1≤n→i+n≤zs.length→(∀j,j<n→zs.getD (i+j) 0=zs.getD i 0)→(i+n<zs.length→zs.getD (i+n) 0≠zs.getD i 0)→R (.int .i64 (n:Int)) H):
  ab 217 #[v,.int .i64 (i:Int)] H R:=by
 have dI: (aH zs).length=zs.length*1:=by rw [aL];omega
 have gd: ∀ {k:Nat} (hk:k<zs.length),zs.getD k 0=zs[k]:=fun hk=>by rw [agd,agb hk];rfl
 refine KQ.vc _ _ _ _ ?_;refine⟨fun n H' => ∃k:Nat,n= .int .i64 k∧1≤k∧i+k≤zs.length∧(∀j,j<k→zs.getD (i+j) 0=zs.getD i 0)∧H=H',fun n _=>match n with| .int _ x=> (zs.length - x).toNat|_=>0,
  ⟨1,rfl,by omega,by omega,fun j hj=>by rw [show j=0 by omega,agL],rfl⟩,?_⟩
 rintro _ _ _ ⟨k,rfl,h1,hk,hj,rfl⟩;rw [az,ba (by omega) (by omega)];refine hs.len dI (by decide) ?_;rw [aN]
 by_cases hc:i+k<zs.length
 ·rw [decide_eq_true (by omega)]
  refine bB ?_;rw [az,ba (by omega) (by omega)];refine hs.at_ dI (by decide) (by omega) (by omega) fun p hp=>?_;refine hp.load hs (w:= .int .i64 zs[i+k]) (by rw [show ((i:Int)+ (k:Int)).toNat=i+k by omega,agh,bM hc]) ?_;refine hs.at_ dI (by decide) (by omega) (by omega) fun p hp=>?_;refine hp.load hs (w:= .int .i64 zs[i]) (by rw [af_,agh,bM hi]) ?_;rw [bc];intro _;refine av (fun he=>?_) (fun he=>?_)
  ·rw [az,ba (by omega) (by omega)]
   refine⟨⟨k+1,rfl,by omega,by omega,fun j PN=>?_,rfl⟩,by show (_:Int).toNat< (_:Int).toNat;omega⟩
   by_cases e:j=k
   ·subst e;rw [gd hc,gd hi];exact he
   ·exact hj j (by omega)
  ·exact h k h1 hk hj fun _=>by rw [gd hc,gd hi];exact he
 ·rw [decide_eq_false (by omega),cW]
  intro _;rw [aj];exact h k h1 hk hj fun h2=>absurd h2 hc
def VV (e:Ex):Value:= .agg #[.int .i64 (e.1:Nat),.int .i64 (e.2.1:Nat),.int .u64 (e.2.2:Nat)]
def D3 (e:Ex):List Value:= [.int .i64 (e.1:Nat),.int .i64 (e.2.1:Nat),.int .u64 (e.2.2:Nat)]
def jJ (z:Int) (n:Nat):Ex × Nat × Bool:=
 if z=0∧11≤n then ((18,7,min n 138 - 11),min n 138,true) else if z=0∧3≤n then ((17,3,n - 3),n,true) else if z≠0∧3≤n then ((16,2,min n 6 - 3),min n 6,true) else ((0,0,0),0,false)
theorem IJ {z:Int} {n:Nat} (hn:n≤1000) (h: ∀H',Ext H H' →R (.tuple #[VV (jJ z n).1,.int .i64 ((jJ z n).2.1:Nat),.bool (jJ z n).2.2]) H'):ab 218 #[.int .i64 z,.int .i64 (n:Int)] H R:=by
 refine EM.vc _ _ _ _ ?_;refine(ar.start (H:=H)).box fun b H1 o _=>?_;have fin: ∀ {a c:Int} {x:Int} {K:Value→ai→Prop},(∀H',Ext H H' →K (.agg #[.int .i64 a,.int .i64 c,.int .u64 x]) H')→aC H1 3 (.pointer (some ⟨b,0,none⟩)) (.agg #[.int .i64 a,.int .i64 c,.int .u64 x]) fun _ Xl=>aE Xl 3 (.pointer (some ⟨b,0,none⟩)) fun r_5=>K r_5 Xl:=fun {a c x K} hK=>by
  refine o.br (vs:= [.int .i64 a,.int .i64 c,.int .u64 x]) (by repeat(first|exact af8|apply af7)) rfl rfl rfl (by repeat(first|exact aV.here|apply aV.there)) fun H2 o2 _=>?_;refine o2.bf (by repeat(first|exact af8|apply af7)) rfl ?_;exact hK H2 o2.ext
 rw [bc]
 by_cases hz:z=0
 ·rw [decide_eq_true hz]
  refine bB ?_;rw [dP]
  by_cases XA:11≤n
  ·rw [decide_eq_true (by omega)]
   intro _;rw [aD,iV,aZ,show min (n:Int) 138= ((min n 138:Nat):Int) by omega,ba (by omega) (by omega),bR,show ((min n 138:Nat):Int) - 11= ((min n 138 - 11:Nat):Int) by omega,cR (by omega) (by omega)];refine c9 rfl rfl rfl ?_;refine fin fun H2 hx=>?_;have:=h H2 hx;unfold jJ at this;rw [if_pos ⟨hz,XA⟩] at this;exact this
  rw [decide_eq_false (by omega)];intro _;rw [aj,bc,decide_eq_true hz];refine bB ?_;rw [dP]
  by_cases h3:3≤n
  ·rw [decide_eq_true (by omega)]
   intro _;rw [aD,aZ,ba (by omega) (by omega),bR,show (n:Int) - 3= ((n - 3:Nat):Int) by omega,cR (by omega) (by omega)];refine c9 rfl rfl rfl ?_;refine fin fun H2 hx=>?_;have:=h H2 hx;unfold jJ at this;rw [if_neg (by omega),if_pos ⟨hz,h3⟩] at this;exact this
  rw [decide_eq_false (by omega)];intro _;rw [aj,cA,decide_eq_false (by simpa using hz),cW];intro _;rw [aj];rw [bz];refine fin fun H2 hx=>?_;have:=h H2 hx;unfold jJ at this;rw [if_neg (by omega),if_neg (by omega),if_neg (by omega)] at this;exact this
 ·rw [decide_eq_false hz,cW]
  intro _;rw [aj,bc,decide_eq_false hz,cW];intro _;rw [aj,cA,decide_eq_true hz];refine bB ?_;rw [dP]
  by_cases h3:3≤n
  ·rw [decide_eq_true (by omega)]
   intro _;rw [aD,iV,aZ,show min (n:Int) 6= ((min n 6:Nat):Int) by omega,ba (by omega) (by omega),bR,show ((min n 6:Nat):Int) - 3= ((min n 6 - 3:Nat):Int) by omega,cR (by omega) (by omega)];refine c9 rfl rfl rfl ?_;refine fin fun H2 hx=>?_;have:=h H2 hx;unfold jJ at this;rw [if_neg (by omega),if_neg (by omega),if_pos ⟨hz,h3⟩] at this;exact this
  rw [decide_eq_false (by omega)];intro _;rw [aj];rw [bz];refine fin fun H2 hx=>?_;have:=h H2 hx;unfold jJ at this;rw [if_neg (by omega),if_neg (by omega),if_neg (by omega)] at this;exact this
end
section
variable {H H0 H' :ai} {R:Value→ai→Prop} {v:Value} {L:List It} {zs:List Int}
theorem AQ {g:Nat} (hm:jT g Tryz.C=true) (hs:Sl H v 1 (aH zs)) (hlen:zs.length≤1000) (hg: ∀z∈zs,∀ (H:ai) (R:Value→ai→Prop),R (.bool false) H→ab g #[.int .i64 z] H R) (h:R (.bool false) H):
  ab 203 #[v,.func (.func g) #[] #[]] H R:=by
 have dI: (aH zs).length=zs.length*1:=by rw [aL];omega
 refine dJ.vc _ _ _ _ ?_;refine dq.vc _ _ _ _ ?_;refine hs.len dI (by decide) ?_;refine⟨fun i H' => ∃k:Nat,i= .int .i64 k∧k≤zs.length∧H=H',fun i _=>match i with| .int _ x=> (zs.length - x).toNat|_=>0,⟨0,rfl,by omega,rfl⟩,?_⟩;rintro _ _ _ ⟨k,rfl,hk,rfl⟩;rw [aN];refine av (fun hc=>?_) (fun hc=>?_)
 ·have dV:k<zs.length:=by omega
  refine hs.at_ dI (by decide) (by omega) (by omega) fun p hp=>?_;refine hp.load hs (w:= .int .i64 zs[k]) (by rw [af_,agh,bM dV]) ?_;refine qn hm ?_;refine hg _ (agj dV) _ _ ?_;rw [aj,az,ba (by omega) (by omega)];exact⟨⟨k+1,rfl,by omega,rfl⟩,by show (_:Int).toNat< (_:Int).toNat;omega⟩
 ·show lB _ _ _
  rw [dP,decide_eq_false (by decide)];exact h
theorem LB {z:Int} (h0:0≤z) (h1:z≤15) (h:R (.bool false) H):ab 216 #[.int .i64 z] H R:=by
 refine AB.vc _ _ _ ?_;rw [aN,decide_eq_false (by omega)];refine aO ?_;rw [a8,decide_eq_false (by omega)];intro _;exact h
def i_ (E:List Ex):List Value:=E.flatMap D3
theorem lr: ∀E:List Ex,(i_ E).length=E.length*3
 | []=>rfl
 |e::E=>by unfold i_;rw [ahL,af9];show 3+ (i_ E).length=_;rw [lr E,agi];omega
theorem BJ (E:List Ex) (e:Ex):i_ (E++ [e])=i_ E++D3 e:=by unfold i_;rw [ajH];simp
theorem FD {z:Int} {m:Nat}: ∀k,m+k≤zs.length→(∀j,j<k→zs.getD (m+j) 0=z)→zs.take (m+k)=zs.take m++List.replicate k z
 |0,h,hj=>by simp
 |k+1,h,hj=>by
  have h1:=hj k (by omega);rw [agd,agb (by omega),ahi] at h1;rw [show m+ (k+1)= (m+k)+1 by omega,agz,agb (by omega),FD k (by omega) (fun j PN=>hj j (by omega)),h1,aiP,agc];rfl
theorem LC {i n r:Nat} {E:List Ex} (hz: ∀z∈zs,0≤z∧z≤15) (dz:i+n≤zs.length) (fY: ∀j,j<n→zs.getD (i+j) 0=zs.getD i 0) (h1:1≤r) (hr:r≤n) (Y5:zs.getD i 0≠0→r<n)
  (hT:Told [] E (zs.take (i+n - r))):
  (∀x k,jJ (zs.getD i 0) r= (x,k,true)→1≤k∧k≤r∧Told [] (E++ [x]) (zs.take (i+n - (r - k))))∧Told [] (E++ [((zs.getD i 0).toNat,0,0)]) (zs.take (i+n - (r - 1))):=by
 have hi:i<zs.length:=by omega
 have VW:=hz _ (agj hi);have gi:zs.getD i 0=zs[i]:=by rw [agd,agb hi];rfl
 rw [←gi] at VW;have me: ∀k,k≤r→zs.take (i+n - (r - k))=zs.take (i+n - r)++List.replicate k (zs.getD i 0):=fun k hk=>by
  rw [show i+n - (r - k)= (i+n - r)+k by omega];refine FD k (by omega) fun j hj=>?_;rw [show i+n - r+j=i+ (n - r+j) by omega];exact fY _ (by omega)
 constructor
 ·intro x k hx
  unfold jJ at hx
  split at hx
  ·rename_i hc
   cases hx
   refine⟨by omega,by omega,?_⟩;have hv:Fq (zs.take (i+n - r)) (18,7,min r 138 - 11):= .inr (.inr (.inr ⟨rfl,rfl,by show min r 138 - 11<128;omega⟩));have:=hT.snoc hv;rw [me _ (by omega),hc.1];have e:uQ (zs.take (i+n - r)) (18,7,min r 138 - 11)=zs.take (i+n - r)++List.replicate (11+ (min r 138 - 11)) 0:=rfl;rw [e,show 11+ (min r 138 - 11)=min r 138 by omega] at this;exact this
  split at hx
  ·rename_i XW hc
   cases hx
   refine⟨by omega,by omega,?_⟩;have hv:Fq (zs.take (i+n - r)) (17,3,r - 3):= .inr (.inr (.inl ⟨rfl,rfl,by show r - 3<8;omega⟩));have:=hT.snoc hv;rw [me _ (by omega),hc.1];have e:uQ (zs.take (i+n - r)) (17,3,r - 3)=zs.take (i+n - r)++List.replicate (3+ (r - 3)) 0:=rfl;rw [e,show 3+ (r - 3)=r by omega] at this;exact this
  split at hx
  ·rename_i XW vB hc
   cases hx
   refine⟨by omega,by omega,?_⟩;have hrn:=Y5 hc.1;have hlen: (zs.take (i+n - r)).length=i+n - r:=by rw [age];omega
   have hv:Fq (zs.take (i+n - r)) (16,2,min r 6 - 3):= .inr (.inl ⟨rfl,fun e=>by rw [e] at hlen;simp at hlen;omega,rfl,by show min r 6 - 3<4;omega⟩);have:=hT.snoc hv;rw [me _ (by omega)];have JY: (zs.take (i+n - r)).getD ((zs.take (i+n - r)).length - 1) 0=zs.getD i 0:=by
    rw [hlen,agd,ajD (by omega),←agd,show i+n - r - 1=i+ (n - r - 1) by omega];exact fY _ (by omega)
   have e:uQ (zs.take (i+n - r)) (16,2,min r 6 - 3)=zs.take (i+n - r)++List.replicate (3+ (min r 6 - 3)) ((zs.take (i+n - r)).getD ((zs.take (i+n - r)).length - 1) 0):=rfl;rw [e,JY,show 3+ (min r 6 - 3)=min r 6 by omega] at this;exact this
  ·cases hx
 ·have hv:Fq (zs.take (i+n - r)) ((zs.getD i 0).toNat,0,0):= .inl ⟨by show (zs.getD i 0).toNat<16;omega,rfl,rfl⟩
  have:=hT.snoc hv;rw [me 1 h1];have e:uQ (zs.take (i+n - r)) ((zs.getD i 0).toNat,0,0)=zs.take (i+n - r)++List.replicate 1 (zs.getD i 0):=by
   unfold uQ Fo
   dsimp only
   rw [if_neg (by omega),if_neg (by omega),if_neg (by omega),show (((zs.getD i 0).toNat:Nat):Int)=zs.getD i 0 by omega]
  rw [e] at this;exact this
theorem IK {i:Nat} {E:List Ex} (hz: ∀z∈zs,0≤z∧z≤15) (hi:i<zs.length) (hT:Told [] E (zs.take i)):Told [] (E++ [((zs.getD i 0).toNat,0,0)]) (zs.take (i+1)):=by
 have VW:=hz _ (agj hi);have gi:zs.getD i 0=zs[i]:=by rw [agd,agb hi];rfl
 have hv:Fq (zs.take i) ((zs.getD i 0).toNat,0,0):= .inl ⟨by show (zs.getD i 0).toNat<16;omega,rfl,rfl⟩;have:=hT.snoc hv;have e:uQ (zs.take i) ((zs.getD i 0).toNat,0,0)=zs.take (i+1):=by
  unfold uQ Fo
  dsimp only
  rw [if_neg (by omega),if_neg (by omega),if_neg (by omega),show (((zs.getD i 0).toNat:Nat):Int)=zs.getD i 0 by omega,agz,agb hi,gi];rfl
 rw [e] at this;exact this
inductive pJ {α:Type} (S:α→α→Prop) (a:α):α→Prop
 |refl:pJ S a a
 |step {b c:α}:pJ S a b→S b c→pJ S a c
theorem pJ.head {α:Type} {S:α→α→Prop} {a b:α} (h:pJ S a b):a=b∨∃c,S a c∧pJ S c b:=by
 induction h with
 |refl=>exact .inl rfl
 |step _ hs ih=>
  rcases ih with rfl| ⟨c,h1,h2⟩
  ·exact .inr ⟨_,hs,.refl⟩
  ·exact .inr ⟨c,h1,.step h2 hs⟩
theorem pJ.one {α:Type} {S:α→α→Prop} (Y6: ∀s a b,S s a→S s b→a=b) {s a b:α} (h:pJ S s a) (k:pJ S s b) (ha: ∀c,¬S a c) (hb: ∀c,¬S b c):a=b:=by
 have key: ∀ {x:α},pJ S s x→pJ S x b∨pJ S b x:=fun hx=>by
  induction hx with
  |refl=>exact .inl k
  |step _ hs ih=>
   rcases ih with ih|ih
   ·rcases ih.head with rfl| ⟨c,h1,h2⟩
    ·exact .inr (.step .refl hs)
    ·rw [Y6 _ _ _ hs h1];exact .inl h2
   ·exact .inr (.step ih hs)
 rcases key h with h1|h1
 ·rcases h1.head with e| ⟨c,h2,_⟩
  ·exact e
  ·exact absurd h2 (ha c)
 ·rcases h1.head with e| ⟨c,h2,_⟩
  ·exact e.symm
  ·exact absurd h2 (hb c)
def LD (zs:List Int) (i n:Nat):Prop:=1≤n∧i+n≤zs.length∧(∀j,j<n→zs.getD (i+j) 0=zs.getD i 0)∧(i+n<zs.length→zs.getD (i+n) 0≠zs.getD i 0)
theorem LD.one {i n m:Nat} (h:LD zs i n) (k:LD zs i m):n=m:=by
 rcases aiV n m with g|g|g
 ·exact absurd (k.2.2.1 n g) (h.2.2.2 (by have:=k.2.1;omega))
 ·exact g
 ·exact absurd (h.2.2.1 m g) (k.2.2.2 (by have:=h.2.1;omega))
inductive l5 (zs:List Int):Nat × Nat × Int × List Ex→Nat × Nat × Int × List Ex→Prop
 |some_ {i n:Nat} {v:Int} {E:List Ex}:LD zs i n→zs.getD i 0≠0→l5 zs (i,0,v,E) (i+n,n - 1,zs.getD i 0,E++ [((zs.getD i 0).toNat,0,0)])
 |none_ {i n:Nat} {v:Int} {E:List Ex}:LD zs i n→zs.getD i 0=0→l5 zs (i,0,v,E) (i+n,n,zs.getD i 0,E)
 |many {i r k:Nat} {v:Int} {E:List Ex} {x:Ex}:0<r→jJ v r= (x,k,true)→l5 zs (i,r,v,E) (i,r - k,v,E++ [x])
 |each {i r k:Nat} {v:Int} {E:List Ex} {x:Ex}:0<r→jJ v r= (x,k,false)→l5 zs (i,r,v,E) (i,r - 1,v,E++ [(v.toNat,0,0)])
theorem l5.Y6: ∀s a b,l5 zs s a→l5 zs s b→a=b:=by
 intro s a b h k
 cases h<;>cases k
 case some_.some_ n h1 h2 m k1 k2=>rw [h1.one k1]
 case some_.none_ n h1 h2 m k1 k2=>exact absurd k2 h2
 case none_.some_ n h1 h2 m k1 k2=>exact absurd h2 k2
 case none_.none_ n h1 h2 m k1 k2=>rw [h1.one k1]
 case many.many h1 h2 _ _ k1 k2=>rw [h2] at k2;cases k2;rfl
 case many.each h1 h2 _ _ k1 k2=>rw [h2] at k2;cases k2
 case each.many h1 h2 _ _ k1 k2=>rw [h2] at k2;cases k2
 case each.each h1 h2 _ _ k1 k2=>rfl
 all_goals (rename_i a1 _ _ _ _ _ _;omega)
def J2 (zs:List Int) (E:List Ex):Prop:= ∃v,pJ (l5 zs) (0,0,0,[]) (zs.length,0,v,E)
theorem LF {E F:List Ex} (h:J2 zs E) (k:J2 zs F):E=F:=by
 obtain⟨v,h⟩:=h;obtain⟨w,k⟩:=k;have mC: ∀v E,∀c,¬l5 zs (zs.length,0,v,E) c:=fun v E c hc=>by
  cases hc
  case some_ n h1 _=>have:=h1.1;have:=h1.2.1;omega
  case none_ n h1 _=>have:=h1.1;have:=h1.2.1;omega
  case many h1 _=>omega
  case each h1 _=>omega
 have:=pJ.one l5.Y6 h k (mC v E) (mC w F);simp only [ahr] at this;exact this.2.2.2
theorem LG (hs:Sl H v 1 (aH zs)) (hlen:zs.length≤400) (hz: ∀z∈zs,0≤z∧z≤15) (h: ∀y E H',Told [] E zs→J2 zs E→ar H H' [.sl y 3 (i_ E)]→R y H'):ab 170 #[v] H R:=by
 have dI: (aH zs).length=zs.length*1:=by rw [aL];omega
 refine HG.vc _ _ _ ?_;refine AQ (by kernel_rfl) hs (by omega) (fun z hzm H R hR=>LB (hz z hzm).1 (hz z hzm).2 hR) ?_;rw [aj];refine⟨fun y i H' => ∃ (k:Nat) (E:List Ex) (u:Int),i= .int .i64 k∧k≤zs.length∧Told [] E (zs.take k)∧pJ (l5 zs) (0,0,0,[]) (k,0,u,E)∧ar H H' [.sl y 3 (i_ E)],fun _ i _=>match i with| .int _ x=> (zs.length - x).toNat|_=>0,⟨0,[],0,rfl,by omega,rfl,.refl,?_⟩,?_⟩
 ·exact ar.start.add (Ext.refl _) ⟨by decide,.inl ⟨rfl,rfl⟩⟩ (by intro k hk;exact absurd hk (by simp [It.cN,aS]))
 rintro _ y _ H1 ⟨i,E,u,rfl,hk,hT,Q8,o⟩;refine hs.len dI (by decide) ?_;rw [aN];refine av (fun hc=>?_) (fun hc=>?_)
 ·have hi:i<zs.length:=by omega
  have gi:zs.getD i 0=zs[i]:=by rw [agd,agb hi];rfl
  have VW:=hz _ (agj hi);have gW:=hs.ext o.ext;refine gW.at_ dI (by decide) (by omega) (by omega) fun p hp=>?_;rw [af_,agh] at hp;refine hp.load gW (w:= .int .i64 zs[i]) (bM hi) ?_;refine Om gW (by omega) hi fun n xl dz fY w5=>?_;refine⟨hp.load gW (w:= .int .i64 zs[i]) (bM hi) rfl,?_⟩;rw [az,ba (by omega) (by omega)];have R_: ∀ {E:List Ex} {m:Nat},Told [] E (zs.take m)→E.length≤400:=fun hT=>by
   have:=hT.len;rw [age] at this
   simp at this;omega
  have hRN:LD zs i n:= ⟨xl,dz,fY,w5⟩;refine⟨fun y n' H' => ∃ (r:Nat) (E:List Ex),n' = .int .i64 r∧r≤n∧(zs.getD i 0≠0→r<n)∧Told [] E (zs.take (i+n - r))∧pJ (l5 zs) (0,0,0,[]) (i+n,r,zs.getD i 0,E)∧ar H H' [.sl y 3 (i_ E)],?_,?_⟩
  ·rintro _ y2 _ H2 ⟨r0,E0,rfl,PU,Y7,hT0,VX,o0⟩
   refine⟨fun y n' H' => ∃ (r:Nat) (E:List Ex),n' = .int .i64 r∧r≤n∧(zs.getD i 0≠0→r<n)∧Told [] E (zs.take (i+n - r))∧pJ (l5 zs) (0,0,0,[]) (i+n,r,zs.getD i 0,E)∧ar H H' [.sl y 3 (i_ E)],fun _ n' _=>match n' with| .int _ x=>x.toNat|_=>0,⟨r0,E0,rfl,PU,Y7,hT0,VX,o0⟩,?_⟩;rintro _ y3 _ H3 ⟨r,E,rfl,hr,Y5,hT,W0,o⟩;rw [a8];refine av (fun f_=>?_) (fun f_=>?_)
   ·have jM:=LC hz dz fY (by omega) hr Y5 hT
    refine IJ (by omega) fun H4 oQ=>?_;rw [gi] at jM;obtain⟨x,k,ok,VG⟩: ∃x k ok,jJ zs[i] r= (x,k,ok):= ⟨_,_,_,rfl⟩;rw [VG] at jM ⊢;refine ag (vs:= [VV x,.int .i64 (k:Nat),.bool ok]) rfl ?_;refine ag (vs:= [VV x,.int .i64 (k:Nat),.bool ok]) rfl ?_;refine ag (vs:= [VV x,.int .i64 (k:Nat),.bool ok]) rfl ?_;have o4:=o.more oQ;refine o4.box fun b H5 o5 _=>?_;refine o5.br (vs:=D3 x) (by repeat(first|exact af8|apply af7)) rfl rfl rfl (by repeat(first|exact aV.here|apply aV.there)) fun H6 o6 _=>?_;refine⟨fun k9 H' => ∃ (x' :Ex) (k' :Nat),k9= .int .i64 k' ∧1≤k' ∧k' ≤r∧Told [] (E++ [x']) (zs.take (i+n - (r - k')))∧l5 zs (i+n,r,zs.getD i 0,E) (i+n,r - k',zs.getD i 0,E++ [x'])∧ar H H' (.box b (D3 x') 237:: .sl y3 3 (i_ E):: []),?_,?_⟩
    ·rintro _ _ H7 ⟨x',k',rfl,lD,Qk,hT7,hp7,o7⟩
     refine o7.bf (by repeat(first|exact af8|apply af7)) rfl ?_;refine o7.dj (sz:=3) (x:=VV x') (by decide) rfl rfl fun z H8 o8=>?_;refine o8.append (sz:=3) (v:=y3) (x:=z) (n:=E.length) (m:=1) (by repeat(first|exact bw.here|apply bw.there)) rfl (o8.sl (by repeat(first|exact af8|apply af7))) (lr E) rfl rfl (by have:=R_ hT;omega) fun y4 H9 o9=>?_;rw [aZ,ba (by omega) (by omega)];refine⟨⟨r - k',E++ [x'],by rw [show ((r - k' :Nat):Int)= (r:Int) - k' by omega],by omega,fun _=>by omega,hT7,W0.step hp7,?_⟩,by show (_:Int).toNat< (_:Int).toNat;omega⟩;rw [BJ];exact o9.arr (by repeat(first|exact cC.nil|exact bw.here|apply cC.cons|apply bw.there))
    ·cases ok
     ·rw [db]
      show ao (.bool true) _ _;rw [aD];refine aM rfl (by decide) ?_;rw [bz];refine o6.br (vs:= [.int .i64 zs[i],.int .i64 0,.int .u64 0]) (by repeat(first|exact af8|apply af7)) rfl rfl rfl (by repeat(first|exact aV.here|apply aV.there)) fun H7 o7 _=>?_;have e:D3 ((zs[i]).toNat,0,0)= [.int .i64 zs[i],.int .i64 0,.int .u64 0]:=by
       unfold D3;rw [ahv VW.1];rfl
      exact⟨((zs[i]).toNat,0,0),1,rfl,aga _,by omega,jM.2,by rw [gi];exact .each (by omega) VG,by rw [e];exact o7⟩
     ·rw [db]
      show ao (.bool false) _ _;rw [aj];obtain⟨h1,h2,h3⟩:=jM.1 x k rfl;exact⟨x,k,rfl,h1,h2,h3,by rw [gi];exact .many (by omega) VG,o6⟩
   ·have PU:r=0:=by omega
    subst PU;exact⟨⟨i+n,E,zs.getD i 0,by rw [show ((i+n:Nat):Int)= (i:Int)+n by omega],by omega,hT,W0,o⟩,by show (_:Int).toNat< (_:Int).toNat;omega⟩
  ·rw [cA]
   refine cy (fun hb=>?_) (fun hb=>?_)
   ·refine aM rfl (by decide) ?_
    rw [bz];refine o.dj (sz:=3) (by decide) rfl rfl fun z H2 o2=>?_;refine o2.append (sz:=3) (v:=y) (x:=z) (n:=E.length) (m:=1) (by repeat(first|exact bw.here|apply bw.there)) rfl (o2.sl (by repeat(first|exact af8|apply af7))) (lr E) rfl rfl (by have:=R_ hT;omega) fun y4 H3 o3=>?_;rw [aZ,ba (by omega) (by omega)];refine⟨n - 1,E++ [((zs.getD i 0).toNat,0,0)],by rw [show ((n - 1:Nat):Int)= (n:Int) - 1 by omega],by omega,fun _=>by omega,?_,.step Q8 (.some_ hRN (by rw [gi];simpa using hb)),?_⟩
    ·rw [show i+n - (n - 1)=i+1 by omega];exact IK hz hi hT
    ·rw [BJ]
     have e:D3 ((zs.getD i 0).toNat,0,0)= [.int .i64 zs[i],.int .i64 0,.int .u64 0]:=by
      unfold D3;rw [gi,ahv VW.1];rfl
     rw [e];exact o3.arr (by repeat(first|exact cC.nil|exact bw.here|apply cC.cons|apply bw.there))
   ·have En:zs[i]=0:=by simpa using hb
    exact⟨n,E,rfl,aga _,fun h0=>absurd (gi.trans En) h0,by rw [show i+n - n=i by omega];exact hT,.step Q8 (.none_ hRN (gi.trans En)),o⟩
 ·have hkz:i=zs.length:=by omega
  rw [hkz,agr] at hT;rw [hkz] at Q8;exact h _ _ _ hT ⟨u,Q8⟩ o
end
section
variable {H H0 H' :ai} {R:Value→ai→Prop} {v:Value} {L:List It} {zs:List Int}
theorem BK {least:Nat} (hs:Sl H v 1 (aH zs)) (hlen:zs.length≤1000) (hl:least≤zs.length) (h1:1≤least)
  (h: ∀n:Nat,least≤n→n≤zs.length→(∀j,n≤j→zs.getD j 0=0)→(least<n→zs.getD (n - 1) 0≠0)→R (.int .i64 (n:Int)) H):ab 169 #[v,.int .i64 (least:Int)] H R:=by
 have dI: (aH zs).length=zs.length*1:=by rw [aL];omega
 refine HF.vc _ _ _ _ ?_;refine hs.len dI (by decide) ?_;refine⟨fun n H' => ∃k:Nat,n= .int .i64 k∧least≤k∧k≤zs.length∧(∀j,k≤j→zs.getD j 0=0)∧H=H',fun n _=>match n with| .int _ x=>x.toNat|_=>0,
  ⟨zs.length,rfl,hl,aga _,fun j hj=>by rw [agd,agq hj];rfl,rfl⟩,?_⟩
 rintro _ _ _ ⟨k,rfl,lD,Ap,hz,rfl⟩;rw [a8]
 by_cases hc:least<k
 ·rw [decide_eq_true (by omega)]
  refine bB ?_;rw [aZ,ba (by omega) (by omega)];have dV:k - 1<zs.length:=by omega
  refine hs.at_ dI (by decide) (by omega) (by omega) fun p hp=>?_;refine hp.load hs (w:= .int .i64 zs[k - 1]) (by rw [show ((k:Int) - 1).toNat=k - 1 by omega,agh,bM dV]) ?_;rw [bc];intro _;refine av (fun he=>?_) (fun he=>?_)
  ·rw [aZ,ba (by omega) (by omega)]
   refine⟨⟨k - 1,by rw [show ((k - 1:Nat):Int)= (k:Int) - 1 by omega],by omega,by omega,fun j hj=>?_,rfl⟩,by show (_:Int).toNat< (_:Int).toNat;omega⟩
   by_cases e:j=k - 1
   ·subst e;rw [agd,agb dV];exact he
   ·exact hz j (by omega)
  ·exact h k lD Ap hz fun _=>by rw [agd,agb dV];exact he
 ·rw [decide_eq_false (by omega),cW]
  intro _;rw [aj];exact h k lD Ap hz fun g=>absurd g hc
def BL (l:List Int) (least n:Nat):Prop:=least≤n∧n≤l.length∧(∀j,n≤j→l.getD j 0=0)∧(least<n→l.getD (n - 1) 0≠0)
theorem BM {l:List Int} {least n m:Nat} (h:BL l least n) (k:BL l least m):n=m:=by
 obtain⟨h1,h2,h3,h4⟩:=h;obtain⟨k1,k2,k3,k4⟩:=k;rcases aiV n m with g|g|g
 ·exact absurd (h3 (m - 1) (by omega)) (k4 (by omega))
 ·exact g
 ·exact absurd (k3 (n - 1) (by omega)) (h4 (by omega))
theorem y8: ∀ (l:List Nat) (f:Nat),f<l.length→l.getD f 0=0→shareL (l.set f 1) 15=shareL l 15+16384
 | [],f,h,_=>by simp at h
 |a::l,0,h,h0=>by
  simp at h0;subst h0
  unfold shareL;simp;omega
 |a::l,f+1,h,h0=>by
  have:=y8 l f (by simpa using h) (by simpa using h0);unfold shareL at this ⊢;simp only [ahp,aha,aid];omega
def qu (zs:List Int) (m:Nat) (ys:List Int):Prop:= ∃ls,pI zs m ls∧((sh (natL ls)≠1∧ys=ls)∨(sh (natL ls)=1∧∃f,f<ls.length∧ls.getD f 0=0∧(∀j,j<f→ls.getD j 0≠0)∧ys=ls.set f 1))
theorem wa {m:Nat} {a b:List Int} (h:qu zs m a) (k:qu zs m b):a=b:=by
 obtain⟨l,hl,h⟩:=h;obtain⟨l',Kn,k⟩:=k;obtain rfl:=y7 hl Kn;rcases h with ⟨h1,rfl⟩ | ⟨h1,f,f1,f2,f3,rfl⟩<;>rcases k with ⟨k1,rfl⟩ | ⟨k1,g,g1,g2,g3,rfl⟩
 ·rfl
 ·exact absurd k1 h1
 ·exact absurd h1 k1
 ·rcases aiV f g with e|rfl|e
  ·exact absurd f2 (g3 f e)
  ·rfl
  ·exact absurd g2 (f3 g e)
structure Sa (zs:List Int) (m:Nat) (ys:List Int):Prop where
 len:ys.length=zs.length
 P2: ∀s,0≤ys.getD s 0∧ys.getD s 0≤m
 has: ∀s,0<zs.getD s 0→1≤ys.getD s 0
 share:shareL (natL ys) 15=32768
 ex:qu zs m ys
theorem gA (ys:List Int) (s:Nat): (natL ys).getD s 0= (ys.getD s 0).toNat:=by
 unfold natL;rw [agd,agu,agd]
 cases ys[s]? <;>rfl
theorem On (ys:List Int) (f:Nat) (z:Int):natL (ys.set f z)= (natL ys).set f z.toNat:=by unfold natL;rw [List.map_set]
theorem Oo (l:List Nat) (k:Nat) (h:k<l.length):sh (l.take (k+1))=sh (l.take k)+if l.getD k 0=0 then 0 else 1:=by
 rw [agz,agb h,yB,agd,agb h]
 congr 1
 unfold sh
 by_cases e:l[k]=0<;>simp [e]
theorem wc {m:Nat} (hs:Sl H v 1 (aH zs)) (hlen:zs.length≤288) (Uz:2≤zs.length) (gl:v7 zs=true) (h1:1≤m) (h2:m≤15) (hn: (fI zs zs.length).length≤2 ^ m) (xl:1≤(fI zs zs.length).length)
  (h: ∀y ys H',Sa zs m ys→ar H H' [.sl y 1 (aH ys)]→R y H'):ab 167 #[v,.int .i64 (m:Int)] H R:=by
 refine CE.vc _ _ _ _ ?_;refine tu hs hlen gl h1 h2 hn fun y ls H1 UL o=>?_;obtain⟨f1,f2,f3,f4,f5⟩:=nU UL h1 h2 hn;refine ag (vs:= [y,.int .i64 0]) rfl ?_;refine ag (vs:= [y,.int .i64 0]) rfl ?_;have hy:=o.sl (v:=y) (by repeat(first|exact af8|apply af7));have DZ: (aH ls).length=ls.length*1:=by rw [aL];omega
 have Oq: ∀s,0≤ls.getD s 0∧ls.getD s 0≤m:=fun s=>by
  by_cases ik:s<zs.length
  ·have:=f2 s ik
   split at this<;>omega
  ·rw [agd,agq (by omega)];simp
 have VY: ∀s,0<zs.getD s 0→1≤ls.getD s 0:=fun s h0=>by
  by_cases ik:s<zs.length
  ·have:=f2 s ik
   rw [if_pos h0] at this;exact this.1
  ·rw [agd,agq (by omega)] at h0;simp at h0
 have PW: (natL ls).length=ls.length:=fF ls;refine hy.len DZ (by decide) ?_;refine⟨fun a f i H' => ∃ (k:Nat) (fi:Int),i= .int .i64 k∧a= .int .i64 ((sh ((natL ls).take k):Nat):Int)∧f= .int .i64 fi∧k≤ls.length∧((fi= -1∧sh ((natL ls).take k)=k∧∀j,j<k→ls.getD j 0≠0)∨(0≤fi∧fi<ls.length∧ls.getD fi.toNat 0=0∧∀j,j<fi.toNat→ls.getD j 0≠0))∧sh ((natL ls).take k)≤k∧H1=H',
  fun _ _ i _=>match i with| .int _ x=> (ls.length - x).toNat|_=>0,⟨0,-1,rfl,rfl,rfl,by omega,.inl ⟨rfl,rfl,fun j hj=>by omega⟩,aga _,rfl⟩,?_⟩
 rintro _ _ _ _ _ ⟨k,fi,rfl,rfl,rfl,hk,hf,hnk,rfl⟩;rw [aN];refine av (fun hc=>?_) (fun hc=>?_)
 ·have dV:k<ls.length:=by omega
  have gk:ls.getD k 0=ls[k]:=by rw [agd,agb dV];rfl
  have Es:=Oo (natL ls) k (by omega);rw [gA,gk] at Es;refine hy.at_ DZ (by decide) (by omega) (by omega) fun p hp=>?_;refine hp.load hy (w:= .int .i64 ls[k]) (by rw [af_,agh,bM dV]) ?_;have hrk:=Oq k;rw [gk] at hrk;rw [a8];refine av (fun VL=>?_) (fun VL=>?_)
  ·rw [if_neg (by omega)] at Es
   rw [az,ba (by omega) (by omega),az,ba (by omega) (by omega)];refine⟨⟨k+1,fi,rfl,by rw [Es];rfl,rfl,by omega,?_,by omega,rfl⟩,by show (_:Int).toNat< (_:Int).toNat;omega⟩;rcases hf with ⟨hf,hq,GX⟩ |hf
   ·refine .inl ⟨hf,by omega,fun j hj=>?_⟩
    by_cases e:j=k
    ·subst e;rw [gk];omega
    ·exact GX j (by omega)
   ·exact .inr hf
  ·have En:ls[k]=0:=by omega
   rw [if_pos (by omega)] at Es
   replace Es:sh ((natL ls).take (k+1))=sh ((natL ls).take k):=Es
   rw [aN];refine av (fun hf0=>?_) (fun hf0=>?_)
   ·rw [az,ba (by omega) (by omega)]
    have ij: ∀j,j<k→ls.getD j 0≠0:=by
     rcases hf with ⟨_,_,hq⟩ |hf
     ·exact hq
     ·omega
    exact⟨⟨k+1,(k:Int),rfl,by rw [Es],rfl,by omega,.inr ⟨by omega,by omega,by rw [af_,gk];exact En,by rw [af_];exact ij⟩,by omega,rfl⟩,by show (_:Int).toNat< (_:Int).toNat;omega⟩
   ·rw [az,ba (by omega) (by omega)]
    have MD:0≤fi∧fi<ls.length∧ls.getD fi.toNat 0=0∧∀j,j<fi.toNat→ls.getD j 0≠0:=by
     rcases hf with ⟨hf,_⟩ |hf
     ·omega
     ·exact hf
    exact⟨⟨k+1,fi,rfl,by rw [Es],rfl,by omega,.inr MD,by omega,rfl⟩,by show (_:Int).toNat< (_:Int).toNat;omega⟩
 ·have fG:k=ls.length:=by omega
  rw [fG,agx (by omega)] at hf ⊢;rw [f5] at hf ⊢;rw [bc];refine av (fun he=>?_) (fun he=>?_)
  ·have gW: (fI zs zs.length).length=1:=by omega
   rcases hf with ⟨_,hf,_⟩ | ⟨g1,g2,g3,g4⟩
   ·omega
   obtain⟨fn,rfl⟩: ∃n:Nat,fi=n:= ⟨fi.toNat,by omega⟩;rw [af_] at g3 g4;refine hy.at_ DZ (by decide) (by omega) (by omega) fun p hp=>?_;rw [af_,agh] at hp;refine o.store hp (by repeat(first|exact af8|apply af7)) (by rw [aL];omega) rfl (by repeat(first|exact aV.here|apply aV.there)) fun H2 o2 _=>?_;rw [iD] at o2;have pc: ∀s,(ls.set fn 1).getD s 0=if s=fn then 1 else ls.getD s 0:=fun s=>by
    rw [agd,ajF]
    by_cases e:fn=s
    ·subst e;rw [if_pos rfl,if_pos (by omega),if_pos rfl];rfl
    ·rw [if_neg e,if_neg (fun h=>e h.symm),agd]
   refine h y (ls.set fn 1) H2 ⟨by rw [ag8];exact f1,fun s=>?_,fun s h0=>?_,?_,ls,UL,.inr ⟨by omega,fn,by omega,g3,g4,rfl⟩⟩ o2
   ·rw [pc s];have:=Oq s;split<;>omega
   ·rw [pc s];have:=VY s h0;split<;>omega
   ·rw [On,show (1:Int).toNat=1 from rfl,y8 _ _ (by omega) (by rw [gA,g3];rfl),(f4 (by omega)).1,gW]
  ·have lV:2≤(fI zs zs.length).length:=by omega
   exact h y ls H1 ⟨f1,Oq,VY,f3 lV,ls,UL,.inl ⟨by omega,rfl⟩⟩ o
end
section
variable {H:ai} {R:Value→ai→Prop}
structure Wr (H:ai) (b o:Nat) (dv:Value) (B:List Bool):Prop where
 sub: ∃ (D:List UInt8) (acc n:Nat),kl H b o [dv,u64 acc,i64 n]∧kI H dv 1 (D.map bX)∧B=toBits D++aU acc n∧acc<2 ^ n∧n<8
 ne:aS dv≠some b
 Ti:B.length≤70368744177664
theorem C9 {H:ai} {v:Value} {sz:Nat} {l:List Value} (h:kI H v sz l):aK v=true:=by
 rcases h with ⟨rfl,_⟩ | ⟨_,_,_,_,rfl,_⟩<;>rfl
theorem Wr.ext {H' :ai} {b o:Nat} {dv:Value} {B:List Bool} (h:Wr H b o dv B) (hx:Ext H H'):Wr H' b o dv B:=by
 obtain⟨⟨D,acc,n,h1,h2,h3⟩,h4,h5⟩:=h;exact⟨⟨D,acc,n,h1.ext hx,h2.ext hx,h3⟩,h4,h5⟩
theorem Wr.lt {b o:Nat} {dv:Value} {B:List Bool} (h:Wr H b o dv B):b<H.size:=by
 obtain⟨⟨D,acc,n,h1,h2,h3⟩,h4⟩:=h;exact h1.lt
theorem Wr.new {b o:Nat} (h:kl H b o [.slice none 0 0,.int .u64 0,.int .i64 0]):Wr H b o (.slice none 0 0) []:= ⟨⟨[],0,0,h,.inl ⟨rfl,rfl⟩,rfl,by decide,by decide⟩,by simp [aS],by simp⟩
theorem Wr.sI {H' :ai} {b o:Nat} {dv:Value} {B:List Bool} {b' o' n' :Nat} {F F' :Nat→Prop} (h:Wr H b o dv B) (c:jB b' o' n' F F' H H') (h1:b≠b') (h2: ¬F b) (h3:aS dv≠some b') (h4: ∀k,aS dv=some k→¬F k):Wr H' b o dv B:=by
 obtain⟨⟨D,acc,n,g1,g2,g3⟩,g4,g5⟩:=h;exact⟨⟨D,acc,n,g1.same (c.ne b g1.lt h1 h2),c.own g2 h3 h4,g3⟩,g4,g5⟩
variable {b o:Nat} {dv:Value} {B:List Bool}
theorem LH (n:Nat):aU 0 n=List.replicate n false:=by
 apply agX;intro i
 by_cases h:i<n
 ·rw [KM h,aie,if_pos h];simp
 ·rw [agq (by rw [aR];omega),agq (by simp;omega)]
theorem J3 {b o n:Nat} {v v' :Value} {H H' :ai} (hb:b<H.size) (hv:aS v≠some b) (hi: ∀i,i<H.size→aS v≠some i→H'[i]? =H[i]?) (hs:H.size≤H'.size) (hk: ∀k,aS v' =some k→aS v=some k∨H.size≤k):jB b o n (lG v) (lG v') H H' :=
 ⟨hs,fun i h1 _ h3=>hi i h1 h3,fun cs t fr hc=> ⟨cs,(hi b hb hv).trans hc,rfl,fun _ _=>rfl⟩,fun k h=>hk k h⟩
theorem FE {D:List UInt8} {acc n:Nat} (hs:kl H b o [dv,u64 acc,i64 n]) (ho:kI H dv 1 (D.map bX)) (ha:acc<2 ^ n) (hn:n<64) (df:aS dv≠some b) (jh:8*D.length+n≤70368744177664)
  (h: ∀H' iK,Wr H' b o iK (toBits D++aU acc n)→jB b o 3 (lG dv) (lG iK) H H' →R (.tuple #[]) H'):ab 161 #[at_ b o] H R:=by
 have Xk:=hs.lt;refine sV.vc _ _ _ ?_;refine⟨fun H' => ∃ (D' :List UInt8) (eS n' :Nat) (iK :Value),kl H' b o [iK,u64 eS,i64 n']∧kI H' iK 1 (D'.map bX)∧eS <2 ^ n' ∧n' <64∧aS iK ≠some b∧toBits D' ++aU eS n' =toBits D++aU acc n∧jB b o 3 (lG dv) (lG iK) H H',
  fun H' =>match cellAt H' ⟨b,o+2,none⟩ with|some (.int _ q)=>q.toNat|_=>0,⟨D,acc,n,dv,hs,ho,ha,hn,df,rfl,jB.refl⟩,?_⟩
 rintro _ H1 ⟨D',eS,n',iK,gW,MH,qG,xl,Q9,GV,c1⟩;have hlen:=congrArg List.length GV;rw [af9,af9,aR,aR,bA,bA] at hlen;simp only [ne_eq,au,ae,al,agL,aW (gW.cell (k:=1) rfl),bR,aW (gW.cell0 rfl),aW (gW.cell (k:=2) rfl),dP];refine av (fun hc=>?_) (fun hc=>?_)
 ·rw [sR]
  refine HB rfl rfl fun y H2 sy e2 _=>?_;have lV:=gW.ext e2;simp only [aW (lV.cell0 rfl),true_and];have Hp:=MH.ext e2;refine Hp.append (n:=D'.length) (m:=1) (by decide) rfl (sy.iJ (n:=1) rfl (by decide)) sy.cellsOf (by simp) rfl rfl (by omega) fun v3 H3 o3 i3 s3 k3=>?_;have GW:kl H3 b o [iK,u64 eS,i64 n']:=lV.same (i3 b lV.lt Q9);have c3:jB b o 3 (lG iK) (lG v3) H1 H3:=by
   have:=e2.size;refine J3 gW.lt Q9 (fun i h1 h2=>by rw [i3 i (by omega) h2,e2.get i h1]) (by omega) (fun k hk=>?_);rcases k3 with h' |h'
   ·exact .inl (h' ▸ hk)
   ·right;rw [h',agf] at hk;omega
  have VO:aS v3≠some b:=fun e=>by
   rcases c3.new b e with h' |h'
   ·exact Q9 h'
   ·have:=gW.lt;omega
  refine iC (F:=none_) (n:=3) GW rfl (by simp) (C9 o3) fun H4 s4 La c4=>?_;simp only [aW (La.cell (k:=1) rfl),kj,Int.reduceLE,true_and];rw [iX (n:=eS) (m:=min (Int.toNat 8) IntKind.u64.bits) (j:=8) rfl];refine ft (F:=none_) (k:=1) (n:=3) La rfl (by simp) rfl fun H5 s5 hs5 c5=>?_;simp only [aW (hs5.cell (k:=2) rfl),aZ];rw [ba (n:= (n' :Int) - 8) (by omega) (by omega),show (n' :Int) - 8= ((n' - 8:Nat):Int) by omega];refine ft (F:=none_) (k:=2) (n:=3) hs5 rfl (by simp) rfl fun H6 s6 hs6 c6=>?_;have c36:= (c4.trans c5).trans c6;have o6:kI H6 v3 1 ((D' ++ [UInt8.ofNat (eS %256)]).map bX):=by
   rw [agU];exact c36.own o3 VO (fun _ _ h=>h)
  refine⟨⟨D' ++ [UInt8.ofNat (eS %256)],eS /2 ^ 8,n' - 8,v3,hs6,o6,CU qG (by omega),by omega,VO,?_,c1.trans (c3.trans c36.any)⟩,?_⟩
  ·rw [←GV,dG,agc,qX (n:=n') (by omega)]
  ·rw [hs6.cell (k:=2) rfl,gW.cell (k:=2) rfl]
   show ((n' - 8:Nat):Int).toNat< (n' :Int).toNat;omega
 ·exact h H1 iK ⟨⟨D',eS,n',gW,MH,GV.symm,qG,by omega⟩,Q9,by rw [af9,aR,bA];omega⟩ c1
theorem LI {v n:Int} (nt: ¬ (1≤n∧n≤32)) (h:R (.tuple #[]) H):ab 116 #[at_ b o,.int .u64 v,.int .i64 n] H R:=by
 refine lR.vc _ _ _ _ _ ?_;simp only [aN,a8,au,ae,al,eB,aZ,cd,cB,fC,aim,ki]
 intros
 rw [decide_eq_true (by omega),aD];exact h
theorem we {v k:Nat} (hv:v<18446744073709551616) (PS:1≤k) (hk:k≤32) (hw:Wr H b o dv B) (jh:B.length+32≤70368744177664)
  (h: ∀H' iK,Wr H' b o iK (B++aU v k)→jB b o 3 (lG dv) (lG iK) H H' →R (.tuple #[]) H'):ab 116 #[at_ b o,u64 v,i64 k] H R:=by
 obtain⟨⟨D,acc,n,hs,ho,rfl,ha,hn⟩,df,hb⟩:=hw;rw [af9,aR,bA] at jh;refine lR.vc _ _ _ _ _ ?_;simp only [aN,a8,au,ae,al,eB,aZ,cd,cB,fC,aim,ki]
 intros
 rw [decide_eq_false (by omega),aj];simp only [aW (hs.cell (k:=2) rfl),eB,aW (hs.cell (k:=1) rfl),cd];refine⟨by omega,?_⟩;rw [ym hv hk];refine⟨by omega,?_⟩;have GR: (2:Nat) ^ k≤2 ^ 32:=agA (by decide) hk;have hpn: (2:Nat) ^ n≤2 ^ 7:=agA (by decide) (by omega);have hm:=ag5 v (aib k);have aaW:v%2 ^ k*2 ^ n≤2 ^ 32*2 ^ 7:=ajx (by omega) hpn;rw [JK (by omega) (by omega),uq (by omega) (by omega),sQ ha];refine ft (F:=none_) (k:=1) (n:=3) hs rfl (by simp) rfl fun H1 s1 gW c1=>?_;simp only [aW (gW.cell (k:=2) rfl),az];rw [ba (n:= (n:Int)+ (k:Int)) (by omega) (by omega),show (n:Int)+ (k:Int)= ((n+k:Nat):Int) by omega];refine ft (F:=none_) (k:=2) (n:=3) gW rfl (by simp) rfl fun H2 s2 lV c2=>?_;have c12:=c1.trans c2;have Hp:=c12.own ho df (fun _ _ h=>h);have cF:acc+v%2 ^ k*2 ^ n<2 ^ (n+k):=by
  rw [aih];have h1:v%2 ^ k*2 ^ n≤(2 ^ k - 1)*2 ^ n:=aht _ (by omega);rw [Nat.sub_mul,Nat.one_mul,agT (2 ^ k)] at h1;have h2:2 ^ n≤2 ^ n*2 ^ k:=ajn _ (aib k);omega
 refine FE lV Hp cF (by omega) df (by omega) fun H3 iK hw3 c3=>?_;refine h H3 iK ?_ ((c12.any).trans c3);rw [yj ha,kK,←agc] at hw3;exact hw3
def iL (B:List Bool):List Bool:=B++List.replicate ((8 - B.length%8) %8) false
theorem pK (B:List Bool): (iL B).length%8=0∧(iL B).length≤B.length+7∧B.length≤(iL B).length:=by
 unfold iL;rw [af9,agF];omega
theorem l6 (hw:Wr H b o dv B) (jh:B.length+32≤70368744177664) (h: ∀H' iK,Wr H' b o iK (iL B)→jB b o 3 (lG dv) (lG iK) H H' →R (.tuple #[]) H'):ab 70 #[at_ b o] H R:=by
 have mn :=hw;obtain⟨⟨D,acc,n,hs,ho,he,ha,hn⟩,df,hb⟩:=hw;have hl:B.length=8*D.length+n:=by rw [he,af9,aR,bA]
 refine sT.vc _ _ _ ?_;simp only [au,ae,al,aW (hs.cell (k:=2) rfl),a8,rn,jy,ai1,aZ];refine fun _=>av (fun hc=>?_) (fun hc=>?_)
 ·rw [ba (n:=8 - (n:Int)) (by omega) (by omega),show 8 - (n:Int)= ((8 - n:Nat):Int) by omega]
  refine we (v:=0) (by decide) (by omega) (by omega) mn jh fun H1 J4 JZ c1=>?_;refine h H1 J4 ?_ c1;rw [LH] at JZ;unfold iL;rw [show (8 - B.length%8) %8=8 - n by omega];exact JZ
 ·refine h H dv ?_ jB.refl
  unfold iL;rw [show (8 - B.length%8) %8=0 by omega,List.replicate_zero,agy];exact mn
theorem LJ {s:List UInt8} (hw:Wr H b o dv B) (jh:B.length+8*s.length+32≤70368744177664) (h: ∀H' iK,Wr H' b o iK (iL B++toBits s)→jB b o 3 (lG dv) (lG iK) H H' →R (.tuple #[]) H'):ab 117 #[at_ b o,str s] H R:=by
 have Xk:=hw.lt;refine wL.vc _ _ _ _ ?_;simp only [au,ae,al,agL,rn,aD];refine l6 hw (by omega) fun H1 J4 JZ c1=>?_;have hp:=pK B;obtain⟨⟨D,acc,n,hs,ho,he,ha,hn⟩,df,hb⟩:=JZ;have hl: (iL B).length=8*D.length+n:=by rw [he,af9,aR,bA]
 have Bg:n=0:=by omega
 subst Bg;simp only [aW (hs.cell0 rfl)];refine ho.append (n:=D.length) (m:=s.length) (new:=s.map bX) (by decide) rfl rfl rfl (by simp) (by simp) (by
  rw [ahu];intro x hx;obtain⟨y,_,rfl⟩:=agP.1 hx;rfl) (by omega) fun v2 H2 o2 i2 s2 k2=>?_
 have lV:kl H2 b o [J4,u64 acc,i64 0]:=hs.same (i2 b hs.lt df);have c2:jB b o 3 (lG J4) (lG v2) H1 H2:=J3 hs.lt df i2 s2 (fun k hk=>by
  rcases k2 with h' |h'
  ·exact .inl (h' ▸ hk)
  ·right;rw [h',agf] at hk;omega)
 have EC:aS v2≠some b:=fun e=>by
  rcases c2.new b e with h' |h'
  ·exact df h'
  ·have:=hs.lt;omega
 refine iC (F:=none_) (n:=3) lV rfl (by simp) (C9 o2) fun H3 s3 GW c3=>?_;refine h H3 v2 ⟨⟨D++s,acc,0,GW,?_,?_,ha,by omega⟩,EC,?_⟩ (c1.trans (c2.trans c3.any))
 ·rw [agU];exact c3.own o2 EC (fun _ _ h=>h)
 ·rw [he,rz,agy,agy,dG]
 ·rw [af9,bA];omega
theorem LK (hw:Wr H b o dv B) (h:R (i64 B.length) H):ab 321 #[at_ b o] H R:=by
 obtain⟨⟨D,acc,n,hs,ho,he,ha,hn⟩,df,hb⟩:=hw;have hl:B.length=8*D.length+n:=by rw [he,af9,aR,bA]
 refine wM.vc _ _ _ ?_;simp only [au,ae,al,aW (hs.cell (k:=2) rfl),agL,aW (hs.cell0 rfl),cB,aj];refine(ho.sl (by decide)).len (n:=D.length) (by simp) (by decide) ?_;simp only [mc,az];rw [ba (n:=8* (D.length:Int)) (by omega) (by omega),ba (by omega) (by omega),show 8* (D.length:Int)+ (n:Int)= (B.length:Int) by omega];exact h
theorem pM (hw:Wr H b o dv B) (h: ∀H' iK,Wr H' b o iK (B.drop (8* (B.length/8)))→jB b o 3 (lG dv) (lG iK) H H' →R (str (bG B)) H'):ab 72 #[at_ b o] H R:=by
 obtain⟨⟨D,acc,n,hs,ho,he,ha,hn⟩,df,hb⟩:=hw;have hl:B.length=8*D.length+n:=by rw [he,af9,aR,bA]
 refine sU.vc _ _ _ ?_;simp only [au,ae,al,agL,aW (hs.cell0 rfl),cB,aj];refine Sl.str (ho.sl (by decide)) ?_;refine ho.Yi fun v1 o1 k1=>?_;have rp:aS v1≠some b:=by rw [k1];exact df
 refine iC (F:=none_) (n:=3) hs rfl (by simp) (C9 o1) fun H1 s1 gW c1=>?_;have h:=h H1 v1 ⟨⟨[],acc,n,gW,c1.own o1 rp (fun _ _ h=>h),?_,ha,hn⟩,rp,by rw [agl];omega⟩ (c1.any.SA (fun _ h=>h) (fun k hk=> .inl (by
  have gE :aS v1=some k:=hk;rw [k1] at gE;exact gE)))
 ·rw [he,lh D _ (by rw [aR];omega)] at h
  exact h
 ·rw [hl,show (8*D.length+n) /8=D.length by omega,he,←bA D,ahk (aga _),ahN (aga _)]
  rfl
end
section
variable {H:ai} {B:List Bool}
theorem BN (B:List Bool): ∃r,iL B=B++r∧r.length<8:= ⟨_,rfl,by simp;omega⟩
end
section
variable {H H0 H' :ai} {B:List Bool} {L:List It}
structure WP where
 b:Nat
 pre:List Value
 post:List Value
 t:TypeId
abbrev WP.at (w:WP):Value:=at_ w.b w.pre.length
abbrev wp (b:Nat) (t:TypeId):WP:= ⟨b,[],[],t⟩
abbrev WP.cells (w:WP) (dv:Value) (acc n:Nat):List Value:=w.pre++ [dv,u64 acc,i64 n]++w.post
def ka (w:WP) (dv:Value) (B:List Bool):jl where
 cN k:=k=w.b∨aS dv=some k
 holds H:= ∃ (D:List UInt8) (acc n:Nat),H[w.b]? =some (.cells (w.cells dv acc n).toArray w.t (0,0))∧kI H dv 1 (D.map bX)∧B=toBits D++aU acc n∧acc<2 ^ n∧n<8∧aS dv≠some w.b∧B.length≤70368744177664
 frame:=fun h hf=>by
  obtain⟨D,acc,n,g1,g2,g3⟩:=h;have hi:It.holds _ (.sl dv 1 (D.map bX)):= ⟨by decide,g2⟩;exact⟨D,acc,n,(hf _ (.inl rfl)).trans g1,(It.frame hi fun k hk=>hf k (.inr hk)).2,g3⟩
 lt:=fun h hf=>by
  obtain⟨D,acc,n,g1,g2,g3⟩:=h;rcases hf with rfl|hf
  ·exact bq g1
  ·exact g2.lt hf
theorem tw {w:WP} {dv:Value} (o:ar H0 H L) (h:It.aA (ka w dv B)∈L):Wr H w.b w.pre.length dv B:=by
 obtain⟨D,acc,n,g1,g2,g3,g4,g5,g6,g7⟩:=o.aA h;exact⟨⟨D,acc,n,⟨w.pre,w.post,w.t,rfl,g1⟩,g2,g3,g4,g5⟩,g6,g7⟩
theorem l7 {L' :List It} {w:WP} {dv iK :Value} {B' :List Bool} (o:ar H0 H L) (g:Wr H' w.b w.pre.length iK B') (c:jB w.b w.pre.length 3 (lG dv) (lG iK) H H') (hr:aV (.aA (ka w dv B)) (.aA (ka w iK B')) L L') (dz:It.aA (ka w dv B)∈L):ar H0 H' L' :=by
 refine o.eX hr c.size (fun k hk hf=>c.ne k hk (fun h=>hf (.inl h)) (fun h=>hf (.inr h))) ?_ (fun k hk=>by
  rcases hk with hk|hk
  ·exact .inl (.inl hk)
  ·rcases c.new k hk with h|h
   ·exact .inl (.inr h)
   ·exact .inr h)
 obtain⟨D,acc,n,g1,-⟩:=o.aA dz;obtain⟨⟨D',eS,n',s,k2,k3,k4,k5⟩,k6,k7⟩:=g;have e0: (0:Nat)+w.pre.length=w.pre.length:=ags _;have sw:= (kl.all g1).whole (y' := [iK,u64 eS,i64 n']) (F:=lG dv) (F' :=lG iK) (by rw [e0];exact c) (by rw [e0];exact s) rfl;exact⟨D',eS,n',kl.S_ (n:= (w.cells dv acc n).length) g1 (c.wide (agK _) (by simp)) sw (by simp),k2,k3,k4,k5,k6,k7⟩
theorem Ot {b:Nat} {t:TypeId} (o:ar H0 H (.box b [.slice none 0 0,.int .u64 0,.int .i64 0] t::L)):ar H0 H (.aA (ka (wp b t) (.slice none 0 0) [])::L):=by
 have hb:=o.fZ (b:=b) af8;refine o.eX aV.here (aga _) (fun _ _ _=>rfl) ⟨[],0,0,hb,.inl ⟨rfl,rfl⟩,rfl,by decide,by decide,by simp [aS],by simp⟩ (fun k hk=>by
  rcases hk with rfl|hk
  ·exact .inl rfl
  ·simp [aS] at hk)
theorem Q_ {b:Nat} {pre post:List Value} {t:TypeId} (o:ar H0 H (.box b (pre++ [.slice none 0 0,.int .u64 0,.int .i64 0]++post) t::L)):ar H0 H (.aA (ka ⟨b,pre,post,t⟩ (.slice none 0 0) [])::L):=by
 have hb:=o.fZ (b:=b) af8;refine o.eX aV.here (aga _) (fun _ _ _=>rfl) ⟨[],0,0,hb,.inl ⟨rfl,rfl⟩,rfl,by decide,by decide,by simp [aS],by simp⟩ (fun k hk=>by
  rcases hk with rfl|hk
  ·exact .inl rfl
  ·simp [aS] at hk)
variable {w:WP} {dv:Value}
theorem jR {j:Nat} {x:Value} {K:Value→Prop} (o:ar H0 H L) (dz:It.aA (ka w dv B)∈L) (hx:w.pre[j]? =some x) (hk:K x):ak H (at_ w.b j) K:=by
 obtain⟨D,acc,n,g1,-⟩:=o.aA dz;have hj:= (agD.1 hx).1;rw [aW (v:=x)]
 ·exact hk
 ·rw [da g1,agO]
  show (w.pre++ [dv,u64 acc,i64 n]++w.post)[j]? =some x;rw [agc,agM hj,hx]
theorem Ou {j k:Nat} {x:Value} {K:Value→Prop} (o:ar H0 H L) (dz:It.aA (ka w dv B)∈L) (e:k=w.pre.length+3+j) (hx:w.post[j]? =some x) (hk:K x):ak H (at_ w.b k) K:=by
 obtain⟨D,acc,n,g1,-⟩:=o.aA dz;rw [aW (v:=x)]
 ·exact hk
 ·rw [da g1,agO]
  show (w.pre++ [dv,u64 acc,i64 n]++w.post)[k]? =some x;rw [agQ (by simp;omega),e]
  simpa using hx
theorem y_ {j:Nat} {x:Value} {L' :List It} {K:Value→ai→Prop} (o:ar H0 H L) (dz:It.aA (ka w dv B)∈L) (hj:j<w.pre.length) (hx:aK x=true)
  (jC:aV (.aA (ka w dv B)) (.aA (ka ⟨w.b,w.pre.set j x,w.post,w.t⟩ dv B)) L L') (hk: ∀H',ar H0 H' L' →K undef H'):aF H (at_ w.b j) x K:=by
 obtain⟨D,acc,n,g1,g2,g3,g4,g5,g6,g7⟩:=o.aA dz;refine gn g1 (by simp;omega) hx fun H' hs u=>hk H' (o.eX jC u.size (fun k hk df=>u.ne k hk (fun e=>df (.inl e))) ⟨D,acc,n,?_,?_,g3,g4,g5,g6,g7⟩ (fun k hk=> .inl hk))
 ·rw [u.at_,aiu]
  congr 3
  show (w.pre++ [dv,u64 acc,i64 n]++w.post).set j x=w.pre.set j x++ [dv,u64 acc,i64 n]++w.post;rw [agc,ai5 _ _ hj,←agc]
 ·have hi:It.holds H (.sl dv 1 (D.map bX)):= ⟨by decide,g2⟩
  refine(It.frame hi fun k hk=>u.ne k (g2.lt hk) fun e=>?_).2;subst e;exact g6 hk
theorem LM {j k:Nat} {x:Value} {L' :List It} {K:Value→ai→Prop} (o:ar H0 H L) (dz:It.aA (ka w dv B)∈L) (e:k=w.pre.length+3+j) (hj:j<w.post.length) (hx:aK x=true)
  (jC:aV (.aA (ka w dv B)) (.aA (ka ⟨w.b,w.pre,w.post.set j x,w.t⟩ dv B)) L L') (hk: ∀H',ar H0 H' L' →K undef H'):aF H (at_ w.b k) x K:=by
 obtain⟨D,acc,n,g1,g2,g3,g4,g5,g6,g7⟩:=o.aA dz;refine gn g1 (by simp;omega) hx fun H' hs u=>hk H' (o.eX jC u.size (fun k hk df=>u.ne k hk (fun e=>df (.inl e))) ⟨D,acc,n,?_,?_,g3,g4,g5,g6,g7⟩ (fun k hk=> .inl hk))
 ·rw [u.at_,aiu]
  congr 3
  show (w.pre++ [dv,u64 acc,i64 n]++w.post).set k x=w.pre++ [dv,u64 acc,i64 n]++w.post.set j x;rw [ai6 _ _ (by simp;omega),e]
  congr 2
  simp
 ·have hi:It.holds H (.sl dv 1 (D.map bX)):= ⟨by decide,g2⟩
  refine(It.frame hi fun k hk=>u.ne k (g2.lt hk) fun e=>?_).2;subst e;exact g6 hk
end
section
variable {H H0 H' :ai} {R:Value→ai→Prop} {v:Value} {L:List It} {zs:List Int} {b:WP} {B:List Bool}
theorem nV {n:Nat} {k:Nat} {dv:Value} (hv:n<18446744073709551616) (hk:k≤32) (jh:B.length≤1000000000) (o:ar H0 H (.aA (ka b dv B)::L)) (h: ∀H' iK,ar H0 H' (.aA (ka b iK (B++aU n k))::L)→R (.tuple #[]) H'):ab 116 #[b.at,.int .u64 (n:Int),.int .i64 (k:Int)] H R:=by
 by_cases h0:1≤k
 ·exact we hv h0 hk (tw o (by repeat(first|exact af8|apply af7))) (by omega) fun H1 J4 w c=>h H1 J4 (l7 o w c aV.here (by repeat(first|exact af8|apply af7)))
 ·have:k=0:=by omega
  subst this;exact LI (by omega) (h H dv (by rw [rz,agy];exact o))
theorem kc {s:Nat} {p dv:Value} (hc:fe L zs p) (hw:nS zs s) (jh:B.length≤1000000000) (o:ar H0 H (.aA (ka b dv B)::L)) (h: ∀H' iK,ar H0 H' (.aA (ka b iK (B++dQ (natL zs) s))::L)→R (.tuple #[]) H'):
  ab 163 #[p,b.at,.int .i64 (s:Int)] H R:=by
 obtain⟨hz,cb,lv,wv,sv,rfl,hm⟩:=hc;have hle:=Br hz.1;refine uC.vc _ _ _ _ _ ?_;refine K6 o (lv:=lv) (wv:=wv) (sv:=sv) (af7 _ (hm (.box cb (bU lv wv (cj (natL zs)) sv) 285) af8)) (af7 _ (hm (.sl wv 2 (ll (natL zs))) (by simp [qo]))) hz.1.1 ?_;refine ag rfl ?_;refine ag rfl ?_;have hs:s< (natL zs).length:=by rw [fF];exact hw.1
 rw [NO hs];have Ux:=td hle s;have dX:=tc hz.2 hle hs hw.2;have hrv:dH (eG (natL zs) s) ((natL zs).getD s 0)<2 ^ 15:=ahj (lS _ _) (agA (by decide) Ux);refine nV (by omega) (by omega) jh o fun H1 J4 o1=>?_;exact h H1 J4 o1
theorem FF {sz:Nat} {k k' :IntKind} {i:Int} {K:Value→Prop}:aI sz v (.int k i) K=aI sz v (.int k' i) K:=by
 cases v<;>try rfl
 rename_i a n c
 cases a<;>rfl
def Ov (cs:List Int) (a:Nat):List Int:=cs.set a (cs.getD a 0+1)
theorem xo {cs:List Int} {a:Nat} (h:a<cs.length):cs.set a (cs[a]+1)=Ov cs a:=by
 unfold Ov;rw [agd,agb h];rfl
def IL (G:List Tok):List Int:=G.foldl (fun cs t=>Ov cs (if t.n=0 then t.b.toNat else (g_ t.n).toNat)) ((List.replicate 286 0).set 256 1)
def IM (G:List Tok):List Int:=G.foldl (fun ds t=>if t.n=0 then ds else Ov ds (iu t.d).toNat) (List.replicate 30 0)
structure Sb (G:List Tok) (cs ds:List Int):Prop where
 cl:cs.length=286
 dl:ds.length=30
 cr: ∀z∈cs,0≤z∧z≤(G.length:Int)+1
 dr: ∀z∈ds,0≤z∧z≤(G.length:Int)+1
 ce:1≤cs.getD 256 0
 ct: ∀t∈G,if t.n=0 then 1≤cs.getD t.b.toNat 0 else 1≤cs.getD (g_ t.n).toNat 0∧1≤ds.getD (iu t.d).toNat 0
 ex:cs=IL G∧ds=IM G
theorem tx {cs:List Int} {a:Nat} (ha:a<cs.length) (s:Nat): (cs.set a (cs[a]+1)).getD s 0=if s=a then cs[a]+1 else cs.getD s 0:=by
 rw [agd,ajF]
 by_cases e:a=s
 ·subst e;rw [if_pos rfl,if_pos ha,if_pos rfl];rfl
 ·rw [if_neg e,if_neg (fun h=>e h.symm),agd]
theorem inc_le {cs:List Int} {a:Nat} (ha:a<cs.length) (s:Nat):cs.getD s 0≤(cs.set a (cs[a]+1)).getD s 0:=by
 rw [tx ha]
 split
 ·rename_i e;subst e;rw [agd,agb ha];show cs[s]≤_;omega
 ·exact ait _
theorem xp {cs:List Int} {a:Nat} {N:Int} (ha:a<cs.length) (h: ∀z∈cs,0≤z∧z≤N): ∀z∈cs.set a (cs[a]+1),0≤z∧z≤N+1:=fun z hz=>by
 rcases ajU hz with hz|rfl
 ·have:=h z hz;omega
 ·have:=h _ (agj ha);omega
theorem Ty {cs:List Int} {N:Int} (h: ∀z∈cs,0≤z∧z≤N): ∀z∈cs,0≤z∧z≤N+1:=fun z hz=>by have:=h z hz;omega
theorem tz {y:Value} {cs:List Int} {a:Nat} {N:Int} {M:List It} {kd:IntKind} {K:Value→ai→Prop} (o:ar H0 H L) (dz:It.sl y 1 (aH cs)∈L) (ha:a<cs.length) (hr: ∀z∈cs,0≤z∧z≤N) (hN:N≤1000000)
  (jC:aV (.sl y 1 (aH cs)) (.sl y 1 (aH (cs.set a (cs[a]+1)))) L M) (hk: ∀H',ar H0 H' M→K undef H'):
  aI 1 y (.int kd (a:Int)) fun VB=>ak H VB fun UB=>aG UB (.int .i64 1) fun Yy=>aI 1 y (.int kd (a:Int)) fun PV=>aF H PV Yy K:=by
 have DZ: (aH cs).length=cs.length*1:=by rw [aL];omega
 have hy:=o.sl dz;have hra:=hr _ (agj ha);rw [FF (k' := .i64)];refine hy.at_ DZ (by decide) (by omega) (by omega) fun p hp=>?_;refine hp.load hy (w:= .int .i64 cs[a]) (by rw [af_,agh,bM ha]) ?_;rw [az,ba (by omega) (by omega),FF (k' := .i64)];refine hy.at_ DZ (by decide) (by omega) (by omega) fun p hp=>?_;rw [af_,agh] at hp;exact o.store hp dz (by rw [aL];exact ha) rfl (by rw [iD];exact jC) fun H' o' _=>hk H' o'
theorem za {vs:List Value} {x:Value} {i:Nat} {K:Value→Prop} (hv:vs[i]? =some x) (h:K x):ic i (.agg vs.toArray) K:=by rw [Be,hv];exact h
theorem Ow {n:Int} (h0:3≤n) (h1:n≤258): ∃s:Nat,g_ n=s∧257≤s∧s≤285:=by
 have:=nL h0 h1;exact⟨(g_ n).toNat,by omega,by omega,by omega⟩
theorem Ox {n:Int} (h0:1≤n) (h1:n≤32768): ∃s:Nat,iu n=s∧s≤29:=by
 have:=nM h0 h1;exact⟨(iu n).toNat,by omega,by omega⟩
theorem FG {G:List Tok} (hs:Sl H v 3 (cP G)) (hlen:G.length≤65535) (hg: ∀t∈G,eH t=true) (h: ∀y z cs ds H',Sb G cs ds→ar H H' [.sl y 1 (aH cs),.sl z 1 (aH ds)]→R (.tuple #[y,z]) H'):ab 166 #[v] H R:=by
 have dI:=gL G;refine CD.vc _ _ _ ?_;refine⟨fun y z H' =>ar H H' [.sl y 1 (aH (List.replicate 286 0)),.sl z 1 (aH (List.replicate 30 0))],?_,?_,?_⟩
 ·intro _ y z H1 o
  refine(o.sl (v:=y) (by repeat(first|exact af8|apply af7))).at_ (n:=286) (by rw [aL,agF]) (by decide) (by decide) (by decide) fun p hp=>?_;refine o.store (j:=256) hp (by repeat(first|exact af8|apply af7)) (by rw [aL,agF];decide) rfl (by repeat(first|exact aV.here|apply aV.there)) fun H2 o2 _=>?_;rw [iD] at o2;refine hs.len dI (by decide) ?_;refine⟨fun i H' => ∃ (k:Nat) (cs ds:List Int),i= .int .i64 k∧k≤G.length∧Sb (G.take k) cs ds∧ar H H' [.sl y 1 (aH cs),.sl z 1 (aH ds)],fun i _=>match i with| .int _ x=> (G.length - x).toNat|_=>0,
   ⟨0,(List.replicate 286 0).set 256 1,List.replicate 30 0,rfl,by omega,⟨by rw [ag8,agF],agF,?_,?_,?_,fun t ht=>by simp at ht,rfl,rfl⟩,o2⟩,?_⟩
  ·intro q hq
   rcases ajU hq with hq|rfl
   ·rw [ajG hq,ahW];decide
   ·rw [ahW];decide
  ·intro q hq;rw [ajG hq,ahW];decide
  ·rw [agd,ahC (by rw [agF];decide)];decide
  rintro _ _ H3 ⟨k,cs,ds,rfl,hk,c,o⟩;rw [aN];refine av (fun hc=>?_) (fun hc=>?_)
  ·have dV:k<G.length:=by omega
   have x6:=te G k _ (agb dV);have me:G.take (k+1)=G.take k++ [G[k]]:=by rw [agz,agb dV];rfl
   have Sc:=hg _ (agj dV);have fG: (G.take k).length=k:=by rw [age];omega
   generalize G[k]=t at x6 me Sc;have gW:=hs.ext o.ext;refine gW.at_ dI (by decide) (by omega) (by omega) fun p hp=>?_;rw [af_] at hp;refine hp.fE gW (ws:=t.cells) x6 rfl ?_;refine o.box fun tb H4 o4 _=>?_;refine o4.br (vs:=t.cells) (by repeat(first|exact af8|apply af7)) rfl rfl rfl (by repeat(first|exact aV.here|apply aV.there)) fun H5 o5 _=>?_;rw [ae,al];refine o5.aw (b:=tb) (f:=0+1) (w:= .int .i64 t.n) (by repeat(first|exact af8|apply af7)) rfl ?_;rw [bc];have dX:=c.cl;have Sd:=c.dl;have cr:=c.cr;have dr:=c.dr;rw [fG] at cr dr;refine av (fun h0=>?_) (fun h0=>?_)
   ·have hx:=t.b.toNat_lt
    rw [ae,al];refine o5.aw (b:=tb) (f:=0+0) (w:=bX t.b) (by repeat(first|exact af8|apply af7)) rfl ?_;refine tz (a:=t.b.toNat) (kd:= .u8) o5 (by repeat(first|exact af8|apply af7)) (by omega) cr (by omega) (by repeat(first|exact aV.here|apply aV.there)) fun H6 o6=>?_;rw [az,ba (by omega) (by omega)];refine⟨⟨k+1,cs.set t.b.toNat (cs[t.b.toNat]'(by omega)+1),ds,rfl,by omega,⟨by rw [ag8];exact dX,Sd,?_,?_,?_,?_,by rw [me,xo (by omega),IL,IM,aiW,aiW];simp only [ah3,List.foldl_nil,if_pos h0];rw [←IL,←IM,←c.ex.1,←c.ex.2];exact⟨rfl,rfl⟩⟩,o6.arr (by repeat(first|exact cC.nil|exact bw.here|apply cC.cons|apply bw.there))⟩,by show (_:Int).toNat< (_:Int).toNat;omega⟩
    ·rw [me,af9,fG];exact xp (by omega) cr
    ·rw [me,af9,fG];exact Ty dr
    ·have:=inc_le (cs:=cs) (a:=t.b.toNat) (by omega) 256;have:=c.ce;omega
    ·intro u hu
     rw [me] at hu;rcases agv.1 hu with hu|hu
     ·have:=c.ct u hu
      split at this
      ·rename_i e;rw [if_pos e];have:=inc_le (cs:=cs) (a:=t.b.toNat) (by omega) u.b.toNat;omega
      ·rename_i e;rw [if_neg e];have h5:=inc_le (cs:=cs) (a:=t.b.toNat) (by omega) (g_ u.n).toNat;exact⟨by omega,this.2⟩
     ·rw [agH.1 hu,if_pos h0,tx (by omega),if_pos rfl]
      have:=cr _ (agj (show t.b.toNat<cs.length by omega));omega
   ·rcases iE Sc with ⟨h,_⟩ | ⟨h1,h2,h3,h4⟩
    ·exact absurd h h0
    obtain⟨s,es,s1,s2⟩:=Ow h1 h2;obtain⟨d,ed,d1⟩:=Ox h3 h4;rw [ae,al];refine o5.aw (b:=tb) (f:=0+1) (w:= .int .i64 t.n) (by repeat(first|exact af8|apply af7)) rfl ?_;refine vO fun H6 vS=>?_;unfold Lc;rw [if_neg (by omega),es];unfold QK;refine za rfl ?_;refine tz (a:=s) (kd:= .i64) (o5.more vS) (by repeat(first|exact af8|apply af7)) (by omega) cr (by omega) (by repeat(first|exact aV.here|apply aV.there)) fun H7 o7=>?_;rw [ae,al];refine o7.aw (b:=tb) (f:=0+2) (w:= .int .i64 t.d) (by repeat(first|exact af8|apply af7)) rfl ?_;refine Bw fun H8 N3=>?_;unfold Bv;rw [if_neg (by omega),ed];unfold QK;refine za rfl ?_;refine tz (a:=d) (kd:= .i64) (o7.more N3) (by repeat(first|exact af8|apply af7)) (by omega) dr (by omega) (by repeat(first|exact aV.here|apply aV.there)) fun H9 o9=>?_;rw [az,ba (by omega) (by omega)];refine⟨⟨k+1,cs.set s (cs[s]'(by omega)+1),ds.set d (ds[d]'(by omega)+1),rfl,by omega,⟨by rw [ag8];exact dX,by rw [ag8];exact Sd,?_,?_,?_,?_,by rw [me,xo (by omega),xo (by omega),IL,IM,aiW,aiW];simp only [ah3,List.foldl_nil,if_neg h0,es,ed,af_];rw [←IL,←IM,←c.ex.1,←c.ex.2];exact⟨rfl,rfl⟩⟩,o9.arr (by repeat(first|exact cC.nil|exact bw.here|apply cC.cons|apply bw.there))⟩,by show (_:Int).toNat< (_:Int).toNat;omega⟩
    ·rw [me,af9,fG];exact xp (by omega) cr
    ·rw [me,af9,fG];exact xp (by omega) dr
    ·have:=inc_le (cs:=cs) (a:=s) (by omega) 256;have:=c.ce;omega
    ·intro u hu
     rw [me] at hu;rcases agv.1 hu with hu|hu
     ·have:=c.ct u hu
      split at this
      ·rename_i e;rw [if_pos e];have:=inc_le (cs:=cs) (a:=s) (by omega) u.b.toNat;omega
      ·rename_i e;rw [if_neg e];have h5:=inc_le (cs:=cs) (a:=s) (by omega) (g_ u.n).toNat;have h6:=inc_le (cs:=ds) (a:=d) (by omega) (iu u.d).toNat;exact⟨by omega,by omega⟩
     ·rw [agH.1 hu,if_neg h0,es,ed,af_,af_,tx (by omega),if_pos rfl,tx (by omega),if_pos rfl]
      have:=cr _ (agj (show s<cs.length by omega));have:=dr _ (agj (show d<ds.length by omega));omega
  ·have Y8:k=G.length:=by omega
   rw [Y8,agr] at c;exact h _ _ _ _ _ c o
 ·refine(ar.start (H:=H)).qV (by decide) (by decide) (by decide) fun y H1 o1=>?_
  refine o1.qV (by decide) (by decide) (by decide) fun z H2 o2=>?_;rw [jE,jE] at o2;exact o2.arr (by repeat(first|exact cC.nil|exact bw.here|apply cC.cons|apply bw.there))
 ·refine(ar.start (H:=H)).qV (by decide) (by decide) (by decide) fun z H1 o1=>?_
  refine o1.qV (by decide) (by decide) (by decide) fun y H2 o2=>?_;rw [jE,jE] at o2;exact o2.arr (by repeat(first|exact cC.nil|exact bw.here|apply cC.cons|apply bw.there))
end
section
variable {H H0 H' :ai} {R:Value→ai→Prop} {v:Value} {L:List It} {zs:List Int} {b:WP} {B:List Bool}
theorem FH (k:Nat): ((2 ^ k:Nat):Int)=2 ^ k:=by push_cast;rfl
theorem J5 {n:Int} (h0:3≤n) (h1:n≤258): ∃s e x:Nat,g_ n=s∧Lc n= .agg ([.int .i64 (s:Int),.int .i64 (e:Int),.int .u64 (x:Int)]:List Value).toArray∧JU n=aU x e∧e≤5∧x<2 ^ e:=by
 obtain⟨f1,f2,f3,f4,f5,f6⟩:=nL h0 h1;obtain⟨s,hs⟩: ∃s:Nat,g_ n=s:= ⟨(g_ n).toNat,by omega⟩;rw [hs] at f1 f2 f3 f4 f5 f6;rw [←FH] at f4;have l0:0≤(lenOf (s:Int)).1:=by
  have:=JW ⟨s - 257,by omega⟩
  dsimp only at this
  rwa [show (257:Int)+ ((s - 257:Nat):Int)= (s:Int) by omega] at this
 refine⟨s,(lenOf (s:Int)).2.toNat,(n - (lenOf (s:Int)).1).toNat,hs,?_,by unfold JU;rw [hs],by omega,by omega⟩;unfold Lc QK;rw [if_neg (by omega),hs,ba (by omega) (by omega),cR (by omega) (by omega),show (((lenOf (s:Int)).2.toNat:Nat):Int)= (lenOf (s:Int)).2 by omega,show (((n - (lenOf (s:Int)).1).toNat:Nat):Int)=n - (lenOf (s:Int)).1 by omega]
theorem J6 {n:Int} (h0:1≤n) (h1:n≤32768): ∃s e x:Nat,iu n=s∧Bv n= .agg ([.int .i64 (s:Int),.int .i64 (e:Int),.int .u64 (x:Int)]:List Value).toArray∧JV n=aU x e∧e≤13∧x<2 ^ e:=by
 obtain⟨f1,f2,f3,f4,f5,f6⟩:=nM h0 h1;obtain⟨s,hs⟩: ∃s:Nat,iu n=s:= ⟨(iu n).toNat,by omega⟩;rw [hs] at f1 f2 f3 f4 f5 f6;rw [←FH] at f4;have l0:0≤(bH (s:Int)).1:=Fm ⟨s,by omega⟩;refine⟨s,(bH (s:Int)).2.toNat,(n - (bH (s:Int)).1).toNat,hs,?_,by unfold JV;rw [hs],by omega,by omega⟩;unfold Bv QK;rw [if_neg (by omega),hs,ba (by omega) (by omega),cR (by omega) (by omega),show (((bH (s:Int)).2.toNat:Nat):Int)= (bH (s:Int)).2 by omega,show (((n - (bH (s:Int)).1).toNat:Nat):Int)=n - (bH (s:Int)).1 by omega]
theorem gB {zs:List Int} (hz:w6 zs) (s:Nat): (dQ (natL zs) s).length≤15:=by rw [uH];exact td (Br hz.1) s
theorem _root_.Go.Vc.ar.tl {i:It} (o:ar H0 H (i::L)):ar H0 H L:=o.pick (List.Sublist.cons _ (ahq _))
theorem wg {G:List Tok} {lv dv ps pd:Value} {rest:List Value} {cb:Nat} {ct:TypeId} {sy di:List Int} (hl:It.sl lv 3 (cP G)∈L) (w_:It.box cb (ps::pd::rest) ct∈L) (w7:fe L sy ps) (Bc:fe L di pd) (he:nS sy 256)
  (hG: ∀t∈G,eH t=true∧tp sy di t) (hlen:G.length≤65535) (jh:B.length≤500000000) (o:ar H0 H (.aA (ka b dv B)::L)) (h: ∀H' iK,ar H0 H' (.aA (ka b iK (B++eO sy di G))::L)→R (.tuple #[]) H'):
  ab 120 #[.pointer (some ⟨cb,0,none⟩),b.at,lv] H R:=by
 have dI:=gL G;refine rC.vc _ _ _ _ _ ?_;refine(o.sl (v:=lv) (af7 _ hl)).len dI (by decide) ?_;refine⟨fun i H' => ∃ (k:Nat) (iK :Value),i= .int .i64 k∧k≤G.length∧((G.take k).flatMap (oM sy di)).length≤50*k∧ar H0 H' (.aA (ka b iK (B++ (G.take k).flatMap (oM sy di)))::L),fun i _=>match i with| .int _ x=> (G.length - x).toNat|_=>0,⟨0,dv,rfl,by omega,by simp,by simpa using o⟩,?_⟩;rintro _ _ H1 ⟨k,J4,rfl,hk,Bb,o⟩;rw [aN];refine av (fun hc=>?_) (fun hc=>?_)
 ·have dV:k<G.length:=by omega
  have x6:=te G k _ (agb dV);have me: (G.take (k+1)).flatMap (oM sy di)= (G.take k).flatMap (oM sy di)++oM sy di G[k]:=by rw [agz,agb dV,ajH];simp
  obtain⟨Sc,Se⟩:=hG _ (agj dV);have ik:=o.sl (v:=lv) (af7 _ hl);generalize G[k]=t at x6 me Sc Se;generalize (G.take k).flatMap (oM sy di)=X at o Bb me;refine ik.at_ dI (by decide) (by omega) (by omega) fun p hp=>?_;rw [af_] at hp;refine hp.fE ik (ws:=t.cells) x6 rfl ?_;refine o.box fun tb H4 o _=>?_;refine o.br (vs:=t.cells) (by repeat(first|exact af8|apply af7)) rfl rfl rfl (by repeat(first|exact aV.here|apply aV.there)) fun H5 o _=>?_;rw [ae,al];refine o.aw (b:=tb) (f:=0+1) (w:= .int .i64 t.n) (by repeat(first|exact af8|apply af7)) rfl ?_;rw [bc];unfold tp at Se;refine av (fun h0=>?_) (fun h0=>?_)
  ·rw [if_pos h0] at Se
   have hx:=t.b.toNat_lt;have VZ:oM sy di t=dQ (natL sy) t.b.toNat:=by unfold oM;rw [if_pos h0]
   have hw:=gB w7.1 t.b.toNat;rw [au,ae,al];refine o.aw (b:=cb) (f:=0+0) (cs:=ps::pd::rest) (t:=ct) (w:=ps) (by simp [w_]) rfl ?_;rw [ae,al];refine o.aw (b:=tb) (f:=0+0) (w:=bX t.b) (by repeat(first|exact af8|apply af7)) rfl ?_;refine b7 ?_;rw [ba (by omega) (by omega)];have o2:=o.tl;refine kc (s:=t.b.toNat) w7 Se (by rw [af9];omega) o2 fun H6 Sf o6=>?_;rw [az,ba (by omega) (by omega)];exact⟨⟨k+1,Sf,rfl,by omega,by rw [me,af9,VZ];omega,by rw [me,VZ,←agc];exact o6⟩,by show (_:Int).toNat< (_:Int).toNat;omega⟩
  ·rw [if_neg h0] at Se
   rcases iE Sc with ⟨h,_⟩ | ⟨h1,h2,h3,h4⟩
   ·exact absurd h h0
   obtain⟨s,e,x,es,el,eb,he5,uP⟩:=J5 h1 h2;obtain⟨d,f,z,ed,edl,Y9,V0,Y_⟩:=J6 h3 h4;rw [es,ed,af_,af_] at Se;have VZ:oM sy di t=dQ (natL sy) s++ (aU x e++ (dQ (natL di) d++aU z f)):=by unfold oM;rw [if_neg h0,es,ed,af_,af_,eb,Y9]
   have JZ:=gB w7.1 s;have PM:=gB Bc.1 d;have Iy:2 ^ e≤2 ^ 5:=agA (by decide) he5;have Aq:2 ^ f≤2 ^ 13:=agA (by decide) V0;refine⟨fun x8 y9 H' => ∃b8 b9:Nat,x8= .pointer (some ⟨b8,0,none⟩)∧y9= .pointer (some ⟨b9,0,none⟩)∧ar H0 H' (.box b8 [.int .i64 (s:Int),.int .i64 (e:Int),.int .u64 (x:Int)] 237:: .box b9 [.int .i64 (d:Int),.int .i64 (f:Int),.int .u64 (z:Int)] 237:: .box tb t.cells 145:: .aA (ka b J4 (B++X))::L),?_,?_⟩
   ·rintro _ _ _ H8 ⟨b8,b9,rfl,rfl,o⟩
    rw [au,ae,al];refine o.aw (b:=cb) (f:=0+0) (cs:=ps::pd::rest) (t:=ct) (w:=ps) (by simp [w_]) rfl ?_;rw [ae,al];refine o.aw (b:=b8) (f:=0+0) (w:= .int .i64 (s:Int)) (by repeat(first|exact af8|apply af7)) rfl ?_;have o2:=o.eR (L' := .aA (ka b J4 (B++X)):: .box b8 [.int .i64 (s:Int),.int .i64 (e:Int),.int .u64 (x:Int)] 237:: .box b9 [.int .i64 (d:Int),.int .i64 (f:Int),.int .u64 (z:Int)] 237:: .box tb t.cells 145::L) (by repeat(first|exact bd.refl|exact bw.here|apply bd.cons|apply bw.there));refine kc (s:=s) w7.cons.cons.cons Se.1 (by rw [af9];omega) o2 fun H9 dv9 o=>?_;rw [ae,al];refine o.aw (b:=b8) (f:=0+2) (w:= .int .u64 (x:Int)) (by repeat(first|exact af8|apply af7)) rfl ?_;rw [ae,al];refine o.aw (b:=b8) (f:=0+1) (w:= .int .i64 (e:Int)) (by repeat(first|exact af8|apply af7)) rfl ?_;refine nV (n:=x) (k:=e) (by omega) (by omega) (by simp only [af9];omega) o fun Q7 adr o=>?_;rw [au,ae,al];refine o.aw (b:=cb) (f:=0+1) (cs:=ps::pd::rest) (t:=ct) (w:=pd) (by simp [w_]) rfl ?_;rw [ae,al];refine o.aw (b:=b9) (f:=0+0) (w:= .int .i64 (d:Int)) (by repeat(first|exact af8|apply af7)) rfl ?_;refine kc (s:=d) Bc.cons.cons.cons Se.2 (by simp only [af9,aR];omega) o fun R9 ads o=>?_;rw [ae,al];refine o.aw (b:=b9) (f:=0+2) (w:= .int .u64 (z:Int)) (by repeat(first|exact af8|apply af7)) rfl ?_;rw [ae,al];refine o.aw (b:=b9) (f:=0+1) (w:= .int .i64 (f:Int)) (by repeat(first|exact af8|apply af7)) rfl ?_;refine nV (n:=z) (k:=f) (by omega) (by omega) (by simp only [af9,aR];omega) o fun Sg Za o=>?_;rw [az,ba (by omega) (by omega)];refine⟨⟨k+1,Za,rfl,by omega,by rw [me,af9,VZ];simp only [af9,aR];omega,?_⟩,by show (_:Int).toNat< (_:Int).toNat;omega⟩;rw [me,VZ];simp only [agc] at o ⊢;exact o.pick (List.Sublist.cons_cons _ (List.Sublist.cons _ (List.Sublist.cons _ (List.Sublist.cons _ (ahq _)))))
   ·rw [ae,al]
    refine o.aw (b:=tb) (f:=0+1) (w:= .int .i64 t.n) (by repeat(first|exact af8|apply af7)) rfl ?_;rw [ae,al];refine o.aw (b:=tb) (f:=0+2) (w:= .int .i64 t.d) (by repeat(first|exact af8|apply af7)) rfl ?_
    repeat' (first
     |with_reducible refine And.intro ?_ ?_
     | (with_reducible refine vO fun Hx hx=>?_;rw [el];replace o:=o.more hx)
     | (with_reducible refine Bw fun Hx hx=>?_;rw [edl];replace o:=o.more hx)
     |with_reducible refine o.box fun bb Hx o _=>?_
     |exact o.aw (b:=tb) (by repeat(first|exact af8|apply af7)) rfl rfl
     |with_reducible refine o.br (vs:= [.int .i64 (s:Int),.int .i64 (e:Int),.int .u64 (x:Int)]) (by repeat(first|exact af8|apply af7)) rfl rfl rfl (by repeat(first|exact aV.here|apply aV.there)) fun Hx o _=>?_
     |with_reducible refine o.br (vs:= [.int .i64 (d:Int),.int .i64 (f:Int),.int .u64 (z:Int)]) (by repeat(first|exact af8|apply af7)) rfl rfl rfl (by repeat(first|exact aV.here|apply aV.there)) fun Hx o _=>?_
     |exact⟨_,_,rfl,rfl,o.eR (by repeat(first|exact bd.refl|exact bw.here|apply bd.cons|apply bw.there))⟩)
 ·have Y8:k=G.length:=by omega
  rw [Y8,agr] at o Bb;rw [au,ae,al];refine o.aw (b:=cb) (f:=0+0) (cs:=ps::pd::rest) (t:=ct) (w:=ps) (by simp [w_]) rfl ?_;refine kc (s:=256) w7 he (by rw [af9];omega) o fun H6 Sf o6=>?_;refine h H6 Sf ?_;unfold eO;rw [←agc];exact o6
end
section
variable {H H0 H' :ai} {R:Value→ai→Prop} {v:Value} {L:List It} {zs:List Int} {b:Nat} {B:List Bool}
def zb (v:Value) (sz:Nat) (l:List Value):jl where
 cN k:=aS v=some k
 holds H:=Sl H v sz l∧l≠ []
 frame h hf:= ⟨h.1.frame hf,h.2⟩
 lt h hk:=h.1.lt h.2 hk
theorem _root_.Go.Vc.ar.view {y:Value} {sz sz' :Nat} {l l0:List Value} (o:ar H0 H (.sl y sz' l0::L)) (hs:Sl H v sz l) (hl:l≠ []) (hb: ∀k,aS v=some k→aS y=some k):ar H0 H (.aA (zb v sz l)::L):=
 o.eX (i:= .sl y sz' l0) (i' := .aA (zb v sz l)) aV.here (aga _) (fun _ _ _=>rfl) ⟨hs,hl⟩ (fun k hk=> .inl (hb k hk))
theorem fe.Tz {p:Value} (h:fe L zs p):aK p=true:=by obtain⟨_,_,_,_,_,rfl,_⟩:=h;rfl
theorem aV.app {i j:It} {L L' :List It} (h:aV i j L L'): ∀M:List It,aV i j (M++L) (M++L')
 | []=>h
 |m::M=>aV.there (aV.app h M)
theorem ze: ∀ (l:List Nat),(∀j,l.getD j 0=0)→shareL l 15=0
 | [],h=>rfl
 |a::l,h=>by
  have h0:=h 0
  simp at h0;subst h0
  have:=ze l fun j=>by simpa using h (j+1)
  unfold shareL at this ⊢;rw [aha,aid,this];rfl
theorem zf {l:List Nat} {n:Nat} (h: ∀j,n≤j→l.getD j 0=0):shareL (l.take n) 15=shareL l 15:=by
 have e:shareL l 15=shareL (l.take n) 15+shareL (l.drop n) 15:=by
  conv=>lhs;rw [←agE n l]
  unfold shareL;rw [agU,List.sum_append]
 rw [e,ze (l.drop n) (fun j=>by
  rw [agd,ag7,←agd];exact h _ (by omega))]
 rfl
theorem uT (zs:List Int) (n:Nat):natL (zs.take n)= (natL zs).take n:=by unfold natL;rw [ai0]
theorem zg {xs:List Int} {loose:Bool} (hz:okZ xs) (h:shareL (natL xs) 15=32768):gJ xs loose=0:=by
 rw [uE hz,if_neg (by omega),if_neg (by omega)]
theorem LN {xs:List Int} (hz:okZ xs) (h:shareL (natL xs) 15≤32768) (hs:slackL (natL xs)=true):gJ xs true=0:=by
 rw [uE hz,if_neg (by omega),if_neg (by rw [hs];simp)]
theorem Oy {l:List Nat} (hn:sh l≤1) (h1: ∀k∈l,k≤1):slackL l=true:=by
 have e:dA l 1=sh l:=by
  unfold dA sh;refine List.countP_congr fun k hk=>?_;have:=h1 k hk
  simp;omega
 unfold slackL;rw [e];have:sh l=0∨sh l=1:=by omega
 rcases this with h|h<;>simp [h]
theorem Told.sym: ∀ {es:List Ex} {out l:List Int},Told out es l→∀e∈es,e.1≤18
 | [],out,l,h,e,he=>by simp at he
 |u::es,out,l,h,e,he=>by
  rcases ago.1 he with rfl|he
  ·rcases h.1 with h|h|h|h<;>omega
  ·exact h.2.sym e he
theorem jK {xs:List Int} {n s:Nat} (h:s<n): (xs.take n).getD s 0=xs.getD s 0:=by
 rw [agd,ajD h,←agd]
theorem IN {xs:List Int} (hl:xs.length≤288) (h: ∀s,0≤xs.getD s 0∧xs.getD s 0≤15):okZ xs:= ⟨hl,fun z hz=>by
 obtain⟨i,hi,rfl⟩:=ahZ hz;have:=h i
 rwa [agd,agb hi] at this⟩
theorem Oz {cs xs:List Int} {a:Nat} (hx:Sa cs 15 xs) (hl:cs.length=286) (hz: ∀j,a≤j→xs.getD j 0=0) (ha:a≤286):gJ (xs.take a) false=0:=by
 have JQ:=hx.len;refine zg (IN (by rw [age];omega) fun s=>?_) ?_
 ·by_cases h:s<a
  ·rw [jK h];exact hx.P2 s
  ·rw [agd,agq (by rw [age];omega)];simp
 ·rw [uT,zf (fun j hj=>by rw [gA,hz j hj];rfl),hx.share]
theorem LO {ds ys:List Int} {n:Nat} (hy:pI ds 15 ys) (hl:ds.length=30) (hz: ∀j,n≤j→ys.getD j 0=0) (hn:n≤30):gJ (ys.take n) true=0:=by
 have ik:=iG ds ds.length;obtain⟨f1,f2,f3,f4,f5⟩:=nU hy (by decide) (by decide) (by rw [hl] at ik;rw [hl];omega);have Oq: ∀s,0≤ys.getD s 0∧ys.getD s 0≤15:=fun s=>by
  by_cases hs:s<ds.length
  ·have:=f2 s hs
   split at this<;>omega
  ·rw [agd,agq (by omega)];simp
 have gl:okZ (ys.take n):=IN (by rw [age];omega) fun s=>by
  by_cases h:s<n
  ·rw [jK h];exact Oq s
  ·rw [agd,agq (by rw [age];omega)];simp
 have MC:shareL (natL (ys.take n)) 15=shareL (natL ys) 15:=by rw [uT,zf (fun j hj=>by rw [gA,hz j hj];rfl)]
 by_cases h2:2≤(fI ds ds.length).length
 ·exact zg gl (by rw [MC,f3 h2])
 ·obtain⟨g1,g2⟩:=f4 (by omega)
  refine LN gl (by rw [MC,g1];omega) (Oy ?_ fun k hk=>?_)
  ·have e:sh (natL ys)=sh ((natL ys).take n)+sh ((natL ys).drop n):=by rw [←yB,agE]
   rw [uT];omega
  ·unfold natL at hk
   rw [agP] at hk;obtain⟨z,hz,rfl⟩:=hk;obtain⟨i,hi,rfl⟩:=ahZ (ag3 hz);have:=g2 i (by omega);rw [agd,agb hi] at this;show (ys[i]).toNat≤1;have h3:ys[i]≤1:=this;omega
end
section
variable {H H0:ai} {R:Value→ai→Prop} {v:Value} {zs:List Int} {ls:List Nat} {B:List Bool} {L:List It} {b:Nat} {post:List Value} {t:TypeId}
def ff:List Value:=bI.map fun n:Nat=>i64 n
abbrev LP (i:Nat):Nat:=bI.getD i 0
theorem pN {i:Nat} (h:i<19):ff[i]? =some (i64 (bI.getD i 0)):=by
 unfold ff;rw [agu,agb (by exact h),agd,agb (by exact h)];rfl
theorem uU: ∀i:Fin 19,bI.getD i.val 0<19:=by decide
theorem FI {c:Nat} (hG:Reads H0 ⟨4,0,none⟩ ff) (hc:c≤19) (o:ar H0 H (lp b post t B::L))
  (gl: ∀l C H' M p,pE (bI.take c) (List.replicate 19 0) B= .ok l C→gJ l false=0→fe M l p→ar H0 H' (lp b post t C:: (M++L))→R (.tuple #[p,.int .i64 0]) H')
  (E2: ∀l C H',pE (bI.take c) (List.replicate 19 0) B= .ok l C→gJ l false≠0→ar H0 H' (lp b post t C::L)→R (.tuple #[.pointer none,.int .i64 (gJ l false)]) H')
  (lC: ∀e C H',pE (bI.take c) (List.replicate 19 0) B= .er e→e≠0→ar H0 H' (lp b post t C::L)→R (.tuple #[.pointer none,.int .i64 e]) H'):ab 275 #[at_ b 0,i64 c] H R:=by
 generalize hT:pE (bI.take c) (List.replicate 19 0) B=T at*;refine yo.vc _ _ _ _ ?_;refine o.qV (n:=19) (by decide) (by decide) (by decide) fun y H1 o=>?_;rw [show (19:Int).toNat=19 from rfl,jE] at o;rw [EB,dc];refine⟨by omega,by omega,?_⟩;rw [af_,ahb,if_neg (by decide),al,o_];refine⟨fun u H' => ∃ (i:Nat) (l:List Int) (C:List Bool),u=i64 i∧i≤c∧l.length=19∧pE ((bI.take c).drop i) l C=T∧ar H0 H' (lp b post t C:: .sl y 1 (aH l)::L),fun u _=>match u with| .int _ i=> (c - i).toNat|_=>0,⟨0,_,B,rfl,by omega,by simp,hT,o.swap⟩,?_⟩;rintro _ _ H2 ⟨i,l,C,rfl,hi,hl,hk,o⟩;rw [aN];refine av (fun vB=>?_) (fun vB=>?_)
 ·have V1:i<c:=by omega
  rw [oZ];refine⟨by omega,by omega,?_⟩;have eD:= (hG.ext o.ext) i _ (pN (by omega));rw [al,ags] at eD;rw [al,af_,show 0+0+i*1=i by omega,aW eD];have cF:=uU ⟨i,by omega⟩
  dsimp only at cF
  have Ky: (bI.take c).drop i=bI.getD i 0:: (bI.take c).drop (i+1):=by
   have h1:i< (bI.take c).length:=by rw [age];show i<min c 19;omega
   rw [ag4 h1,ai_,agd,agb (by show i<19;omega)];rfl
  rw [Ky] at hk;unfold pE at hk;refine kN (n:=3) (by decide) o (fun x C1 H3 hx N3 o=>?_) (fun hx=>?_)
  ·refine ag rfl ?_
   refine ag rfl ?_;refine fH ?_;rw [aj];have xn: (aH l).length=19*1:=by rw [aL,hl]
   refine(o.sl (v:=y) (by repeat(first|exact af8|apply af7))).at_ xn (by decide) (by omega) (by omega) fun p hp=>?_;refine o.store hp (by repeat(first|exact af8|apply af7)) (by rw [xn];omega) rfl (by repeat(first|exact aV.here|apply aV.there)) fun H4 o _=>?_;rw [af_,agh,iD] at o;rw [az,ba (by omega) (by omega)];rw [hx] at hk;exact⟨⟨i+1,_,C1,rfl,by omega,by rw [ag8,hl],hk,o⟩,by show (_:Int).toNat< (_:Int).toNat;omega⟩
  ·refine ag rfl ?_
   refine ag rfl ?_;refine j4 (by decide) ?_;rw [aD];rw [hx] at hk;exact lC 2 C H2 hk.symm (by decide) o.lW
 ·have V1:i=c:=by omega
  subst V1;rw [ahN (by rw [age];omega)] at hk;refine fM (zs:=l) o (o.sl (v:=y) (by repeat(first|exact af8|apply af7))) (by omega) (fun H3 hw o=>?_) fun H3 M p hw hp o=>?_
  ·refine ag rfl ?_
   refine ag rfl ?_;exact E2 l C H3 hk.symm hw o.lW
  ·refine ag rfl ?_
   refine ag rfl ?_;refine gl l C H3 M p hk.symm hw hp ?_;exact(o.mid).pick (List.Sublist.cons_cons _ (ahO (ahq M) (ag_ _ L)))
theorem C_ (hG:Reads H0 ⟨4,0,none⟩ ff) (o:ar H0 H (lp b post t B::L))
  (gl: ∀p C H' M x y,CW B= .ok p C→fe M p.1 x→fe M p.2 y→ar H0 H' (lp b post t C:: (M++L))→R (.tuple #[x,y,.int .i64 0]) H')
  (lC: ∀e C H' x y,CW B= .er e→e≠0→aK x=true→aK y=true→ar H0 H' (lp b post t C::L)→R (.tuple #[x,y,.int .i64 e]) H'):ab 252 #[at_ b 0] H R:=by
 generalize hT:CW B=T at*;unfold CW at hT;refine pA.vc _ _ _ ?_;refine kN (n:=14) (by decide) o (fun x C1 H1 hx V2 o=>?_) (fun hx=>?_)
 rotate_left
 ·rw [hx] at hT
  refine ag rfl ?_;refine ag rfl ?_;refine j4 (by decide) ?_;rw [aD];exact lC 2 B H _ _ hT.symm (by decide) rfl rfl o
 rw [hx] at hT
 dsimp only [Rs.bind] at hT
 refine ag rfl ?_;refine ag rfl ?_;refine fH ?_;rw [aj,cd,xm (k:=5) (m:=31) (by decide) rfl,show (2:Nat) ^ 5=32 from rfl,az,show ((x%32:Nat):Int)+257= ((x%32+257:Nat):Int) by omega,ba (by omega) (by omega),kj];refine⟨by decide,?_⟩;rw [iX (m:=min (Int.toNat 5) IntKind.i64.bits) (j:=5) rfl,show (2:Nat) ^ 5=32 from rfl,cd,xm (k:=5) (m:=31) (by decide) rfl,show (2:Nat) ^ 5=32 from rfl,az,show ((x/32%32:Nat):Int)+1= ((x/32%32+1:Nat):Int) by omega,ba (by omega) (by omega),kj];refine⟨by decide,?_⟩;rw [iX (m:=min (Int.toNat 10) IntKind.i64.bits) (j:=10) rfl,show (2:Nat) ^ 10=1024 from rfl,az,show ((x/1024:Nat):Int)+4= ((x/1024+4:Nat):Int) by omega,ba (by omega) (by omega),a8];have ha:257≤x%32+257:=by omega
 have HY:x/1024+4≤19:=by omega
 have Xb:x%32+257≤288:=by omega
 have hd3:x/32%32+1≤32:=by omega
 generalize x%32+257=a at*;generalize x/32%32+1=d at*;generalize x/1024+4=c at*;refine il (d:=decide ((30:Int)< (d:Int))) (fun _=>?_) ?_
 ·rw [a8];exact⟨rfl,rfl⟩
 intro _;refine cy (fun hb=>?_) (fun hb=>?_)
 ·rw [ahg,decide_eq_true_eq,decide_eq_true_eq] at hb
  rw [if_pos (by omega)] at hT;exact lC 20 C1 H1 _ _ hT.symm (by decide) rfl rfl o
 rw [ahA,decide_eq_false_iff_not,decide_eq_false_iff_not] at hb;rw [if_neg (by omega)] at hT;have S1:a≤286:=by omega
 have Ym:d≤30:=by omega
 refine FI hG HY o (fun tl C2 H2 M p ht hw hp o=>?_) (fun tl C2 H2 ht hw o=>?_) (fun e C2 H2 ht he o=>?_)
 rotate_left
 ·rw [ht] at hT
  dsimp only [Rs.bind] at hT
  rw [if_pos hw] at hT;refine ag rfl ?_;refine ag rfl ?_;refine j4 hw ?_;rw [aD];exact lC _ C2 H2 _ _ hT.symm hw rfl rfl o
 ·rw [ht] at hT
  refine ag rfl ?_;refine ag rfl ?_;refine j4 he ?_;rw [aD];exact lC e C2 H2 _ _ hT.symm he rfl rfl o
 rw [ht] at hT
 dsimp only [Rs.bind] at hT
 rw [if_neg (fun g=>g hw)] at hT;refine ag rfl ?_;refine ag rfl ?_;refine fH ?_;rw [aj,az,show (a:Int)+ (d:Int)= ((a+d:Nat):Int) by omega,ba (by omega) (by omega)];refine AN (n:=a+d) (by omega) hp.l_ o (fun l C3 lv H3 hl xn o=>?_) (fun e C3 H3 hl he o=>?_)
 rotate_left
 ·rw [hl] at hT
  refine ag rfl ?_;refine ag rfl ?_;refine j4 he ?_;rw [aD];exact lC e C3 H3 _ _ hT.symm he rfl rfl (o.pick (List.Sublist.cons_cons _ (ah1 M L)))
 rw [hl] at hT
 dsimp only [Rs.bind] at hT
 refine ag rfl ?_;refine ag rfl ?_;refine fH ?_;rw [aj];have hlen: (aH l).length= (a+d)*1:=by rw [aL,xn];omega
 have hS:=o.sl (v:=lv) (by repeat(first|exact af8|apply af7));have oL:ar H0 H3 (lp b post t C3::L):=o.pick (List.Sublist.cons_cons _ (List.Sublist.cons _ (ah1 M L)));refine hS.at_ (n:=a+d) hlen (by decide) (by decide) (by omega) fun p hp=>?_;refine hp.load hS (w:= .int .i64 (l.getD 256 0)) (yP (by rw [xn];show 256<a+d;omega)) ?_;rw [bc];refine av (fun VT=>?_) (fun VT=>?_)
 ·rw [if_pos VT] at hT
  exact lC 12 C3 H3 _ _ hT.symm (by decide) rfl rfl oL
 rw [if_neg VT] at hT;refine hS.cut (by decide) (n:=a+d) (lo:=0) (hi:=a) hlen (by omega) (by omega) (fun v1 h1=>?_) (.inr ⟨rfl,rfl⟩) (.inl rfl);rw [aiI,agS,ahb,agh,rG] at h1;refine fM (zs:=l.take a) o h1 (by rw [age];omega) (fun H4 JZ o=>?_) (fun H4 M1 p1 JZ Iy o=>?_)
 ·rw [if_pos JZ] at hT
  refine ag rfl ?_;refine ag rfl ?_;refine j4 JZ ?_;rw [aD];exact lC _ C3 H4 _ _ hT.symm JZ rfl rfl (o.pick (List.Sublist.cons_cons _ (List.Sublist.cons _ (ah1 M L))))
 rw [if_neg (fun g=>g JZ)] at hT;refine ag rfl ?_;refine ag rfl ?_;refine fH ?_;rw [aj];have UM:=o.sl (v:=lv) (ahY _ (by repeat(first|exact af8|apply af7)));refine UM.cut (by decide) (n:=a+d) (lo:=a) (hi:=a+d) hlen (by omega) (by omega) (fun v2 h2=>?_) (.inl rfl) (.inr ⟨rfl,rfl⟩);rw [agh,agh,HJ,agx (by rw [aL,agl];omega)] at h2;have o:= (o.mid).pick (List.Sublist.cons_cons (lp b post t C3) (ahO (ahq M1) (List.Sublist.cons _ (ah1 M L))));refine fM (zs:=l.drop a) o h2 (by rw [agl];omega) (fun H5 PM o=>?_) (fun H5 M2 p2 PM Aq o=>?_)
 ·rw [if_pos PM] at hT
  refine ag rfl ?_;refine ag rfl ?_;obtain⟨-,cb,_,_,_,rfl,-⟩:=Iy;exact lC _ C3 H5 _ _ hT.symm PM rfl rfl (o.pick (List.Sublist.cons_cons _ (ah1 M1 L)))
 ·rw [if_neg (fun g=>g PM)] at hT
  refine ag rfl ?_;refine ag rfl ?_;refine gl _ C3 H5 (M2++M1) p1 p2 hT.symm Iy.app Aq.l_ ?_;rw [agc];exact o.mid
end
section
variable {H:ai} {R:Value→ai→Prop}
structure Ring (ring all:List UInt8):Prop where
 len:ring.length=min all.length 32768
 at_: ∀i,i<all.length→all.length≤i+32768→ring[i%32768]? =all[i]?
structure Zb (H:ai) (b:Nat) (rv:Value) (all:List UInt8):Prop where
 fZ:H[b]? =some (.cells #[rv,.int .i64 all.length] 252 (0,0))
 ring: ∃ring,kI H rv 1 (ring.map bX)∧Ring ring all
 ne:aS rv≠some b
 size:all.length≤1099511627776
structure Step (b:Nat) (rv:Value) (H:ai) (MI :Value) (H' :ai):Prop where
 size:H.size≤H'.size
 same: ∀i,i<H.size→i≠b→aS rv≠some i→H'[i]? =H[i]?
 fZ: ∀k,aS MI =some k→aS rv=some k∨H.size≤k
theorem Step.refl {b:Nat} {rv:Value}:Step b rv H rv H:= ⟨aga _,fun _ _ _ _=>rfl,fun _ h=> .inl h⟩
theorem Step.trans {b:Nat} {rv MI V3 :Value} {H H' Km :ai} (h:Step b rv H MI H') (k:Step b MI H' V3 Km):Step b rv H V3 Km :=
 ⟨agJ h.size k.size,fun i hi hb hr=> (k.same i (ahj hi h.size) hb (fun e=>by
   rcases h.fZ i e with h' |h'
   ·exact hr h'
   ·omega)).trans (h.same i hi hb hr),fun j hj=>by
  rcases k.fZ j hj with h' |h'
  ·exact h.fZ j h'
  ·right;have:=h.size;omega⟩
theorem Step.ext {A H H' :ai} {b:Nat} {rv MI :Value} (h:Step b rv H MI H') (hx:Ext A H) (hb:A.size≤b) (hr: ∀k,aS rv=some k→A.size≤k):Ext A H' ∧∀k,aS MI =some k→A.size≤k:=
 ⟨⟨agJ hx.size h.size,fun i hi=> (h.same i (ahj hi hx.size) (by omega) (fun e=>by have:=hr i e;omega)).trans (hx.get i hi)⟩,fun k hk=>by
  rcases h.fZ k hk with h' |h'
  ·exact hr k h'
  ·have:=hx.size;omega⟩
theorem Zb.ext {H H' :ai} {b:Nat} {rv:Value} {all:List UInt8} (h:Zb H b rv all) (hx:Ext H H'):Zb H' b rv all:=by
 obtain⟨ring,ho,hr⟩:=h.ring;exact⟨hx.fZ h.fZ,⟨ring,ho.ext hx,hr⟩,h.ne,h.size⟩
variable {b:Nat} {rv:Value} {all:List UInt8}
end
section
variable {H H0:ai} {R:Value→ai→Prop} {v:Value} {zs:List Int} {ls:List Nat} {B:List Bool} {L:List It} {b:Nat} {q:List Value} {t:TypeId} {all:List UInt8}
def iM (H0 H:ai) (b:Nat) (q:List Value) (t:TypeId) (B:List Bool) (all:List UInt8) (L:List It):Prop:=
 ∃rv ring,Ring ring all∧all.length≤1099511627776∧ar H0 H (lp b (rv::i64 all.length::q) t B:: .sl rv 1 (ring.map bX)::L)
theorem FJ (ring:List UInt8): (ring.map bX).length=ring.length*1:=by simp
theorem OA (w:iM H0 H b q t B all L) (h:R (i64 (min all.length 32768)) H):ab 299 #[at_ b 3] H R:=by
 obtain⟨rv,ring,hr,hs,o⟩:=w;refine s8.vc _ _ _ ?_;rw [cB,aj,au,ae,al];refine o.pl (by repeat(first|exact af8|apply af7)) (by decide) rfl ?_;refine o.qL (v:=rv) (by repeat(first|exact af8|apply af7)) ?_;rw [agw,hr.len];exact h
theorem OB {x:UInt8} (w:iM H0 H b q t B all L) (kg:all.length<1099511627776) (h: ∀H',iM H0 H' b q t B (all++ [x]) L→R (.tuple #[]) H'):ab 257 #[at_ b 3,bX x] H R:=by
 obtain⟨rv,ring,hr,hs,o⟩:=w;have hlen:=hr.len;refine s7.vc _ _ _ _ ?_;rw [cB,aj];refine⟨fun H' => ∃MI J7,Ring J7 (all++ [x])∧ar H0 H' (lp b (MI ::i64 all.length::q) t B:: .sl MI 1 (J7.map bX)::L),?_,?_⟩
 ·rintro _ H1 ⟨MI,J7,wz,o⟩
  rw [au,ae,al];refine o.pl (by repeat(first|exact af8|apply af7)) (by decide) rfl ?_;rw [az,ba (by omega) (by omega),au,ae,al];refine o.ps (g:=3+1) aV.here (by decide) (by simp) rfl fun H2 o _=>?_;refine h H2 ⟨MI,J7,wz,by rw [af9,aii];omega,?_⟩;have e:i64 (all++ [x]).length= .int .i64 ((all.length:Int)+1):=by rw [af9,aii];rfl
  rw [e];exact o
 ·rw [au,ae,al]
  refine o.pl (by repeat(first|exact af8|apply af7)) (by decide) rfl ?_;refine o.qL (v:=rv) (by repeat(first|exact af8|apply af7)) ?_;rw [agw,aN];refine av (fun hc=>?_) (fun hc=>?_)
  ·rw [au,ae,al]
   refine o.pl (by repeat(first|exact af8|apply af7)) (by decide) rfl ?_;refine o.dj (by decide) rfl rfl fun y H1 o=>?_;refine o.app (v:=rv) (x:=y) (by repeat(first|exact bw.here|apply bw.there)) (o.sl (by repeat(first|exact af8|apply af7))) (by rfl) (by rw [agw];show 2* (ring.length+1)*1≤_;omega) fun y2 H2 o=>?_;rw [au,ae,al];have YA:= (o.sl (v:=y2) (by repeat(first|exact af8|apply af7))).one;refine o.ps (b:=b) (post:=rv::i64 all.length::q) (t:=t) (B:=B) (g:=3+0) (by repeat(first|exact aV.here|apply aV.there)) (by decide) (by simp) YA fun H3 o _=>?_;have V4:ring=all:=by
    apply agX;intro i
    by_cases hi:i<all.length
    ·rw [←hr.at_ i hi (by omega),agp (by omega)]
    ·rw [agq (by omega),agq (by omega)]
   subst V4;refine⟨y2,ring++ [x],⟨by simp;omega,fun i hi _=>by rw [agp (by simp at hi;omega)]⟩,?_⟩;rw [agU];exact o.lW.swap
  ·have ij:32768≤all.length:=by omega
   rw [au,ae,al];refine o.pl (by repeat(first|exact af8|apply af7)) (by decide) rfl ?_;rw [au,ae,al];refine o.pl (by repeat(first|exact af8|apply af7)) (by decide) rfl ?_;rw [jz];refine⟨by decide,?_⟩;rw [ahy (by omega)];have hm: ((all.length:Int) %32768).toNat*1=all.length%32768:=by omega
   refine(o.sl (v:=rv) (by repeat(first|exact af8|apply af7))).at_ (FJ ring) (by decide) (by omega) (by omega) fun p hp=>?_;refine o.store hp (by repeat(first|exact af8|apply af7)) (by rw [agw];omega) rfl (by repeat(first|exact aV.here|apply aV.there)) fun H1 o _=>?_;rw [hm] at o;refine⟨rv,ring.set (all.length%32768) x,⟨by simp;omega,fun i hi JG=>?_⟩,by rw [List.map_set];exact o⟩;rw [af9,aii] at hi JG
   by_cases he:i=all.length
   ·subst he
    rw [ahC (by omega),agQ (aga _),ahB]
    rfl
   ·rw [aiv (by omega),agM (by omega)]
    exact hr.at_ i (by omega) (by omega)
theorem TA {d:Int} (w:iM H0 H b q t B all L) (PR:1≤d) (Ym:d≤(min all.length 32768:Nat)) (h:R (.tuple #[bX (all.getD (all.length - d.toNat) 0),.bool true]) H):ab 300 #[at_ b 3,.int .i64 d] H R:=by
 have w0:=w;obtain⟨rv,ring,hr,hs,o⟩:=w;refine rJ.vc _ _ _ _ ?_;rw [aN,decide_eq_false (by omega)];refine aO ?_;refine OA w0 ?_;rw [a8,decide_eq_false (by omega)];intro _;rw [aj,au,ae,al];refine o.pl (by repeat(first|exact af8|apply af7)) (by decide) rfl ?_;rw [au,ae,al];refine o.pl (by repeat(first|exact af8|apply af7)) (by decide) rfl ?_;rw [aZ,ba (by omega) (by omega),jz];refine⟨by decide,?_⟩;rw [ahy (by omega)];have hlen:=hr.len;have hm: (((all.length:Int) - d) %32768).toNat*1= (all.length - d.toNat) %32768:=by omega
 have hS:=o.sl (v:=rv) (by repeat(first|exact af8|apply af7));refine hS.at_ (FJ ring) (by decide) (by omega) (by omega) fun p hp=>?_;refine hp.load hS (w:=bX (all.getD (all.length - d.toNat) 0)) ?_ h;rw [hm,agu,hr.at_ _ (by omega) (by omega),agb (by omega),agd,agb (by omega)]
 rfl
theorem V5 {s:List UInt8} (w:iM H0 H b q t B all L) (kg:all.length+s.length≤1099511627776) (h: ∀H',iM H0 H' b q t B (all++s) L→R (.tuple #[]) H'):ab 253 #[at_ b 3,str s] H R:=by
 refine s0.vc _ _ _ _ ?_;refine aJ ?_;refine⟨fun v H' => ∃ (i:Nat),v= .int .i64 i∧i≤s.length∧iM H0 H' b q t B (all++s.take i) L,fun v _=>match v with| .int _ i=> (s.length - i).toNat|_=>0,⟨0,rfl,by omega,by simpa using w⟩,?_⟩;rintro _ _ H1 ⟨i,rfl,hi,w⟩;rw [aN];refine av (fun hc=>?_) (fun hc=>?_)
 ·rw [cf,bu]
  refine⟨by omega,by omega,?_⟩;rw [af_];refine OB w (by rw [af9,age];omega) fun H2 w=>?_;rw [az,ba (by omega) (by omega)];refine⟨⟨i+1,rfl,by omega,?_⟩,by show (_:Int).toNat< (_:Int).toNat;omega⟩;rw [agz,agb (by omega),←agc];rw [agd,agb (by omega)] at w;exact w
 ·have:i=s.length:=by omega
  subst this;rw [agr] at w;exact h _ w
theorem LQ {n d:Nat} (w:iM H0 H b q t B all L) (hn:n≤258) (nt:d<1∨min all.length 32768<d) (h:R (.tuple #[str [],.bool false]) H):ab 281 #[at_ b 3,i64 n,i64 d] H R:=by
 refine lk.vc _ _ _ _ _ ?_;rw [aN,decide_eq_false (by omega)];refine aO ?_;rw [a8,decide_eq_false (by omega)];intro _;refine aO ?_;rw [aN];intro _;refine il (d:=decide (((min all.length 32768:Nat):Int)<d)) (fun _=>?_) ?_
 ·refine OA w ?_
  rw [a8];exact⟨rfl,rfl⟩
 intro _;refine cy (fun _=>h) (fun hc=>?_);simp only [ahA,decide_eq_false_iff_not] at hc;omega
theorem iM.OC {i:It} (w:iM H0 H b q t B all (i::L)): ∃rv ring,Ring ring all∧all.length≤1099511627776∧ar H0 H (i::lp b (rv::i64 all.length::q) t B:: .sl rv 1 (ring.map bX)::L):=by
 obtain⟨rv,ring,hr,hs,o⟩:=w;refine⟨rv,ring,hr,hs,o.perm ?_⟩;exact List.Perm.trans (List.Perm.swap ..) (List.Perm.cons _ (List.Perm.swap ..))
theorem iM.OD {i:It} {rv:Value} {ring:List UInt8} (hr:Ring ring all) (hs:all.length≤1099511627776) (o:ar H0 H (i::lp b (rv::i64 all.length::q) t B:: .sl rv 1 (ring.map bX)::L)):iM H0 H b q t B all (i::L):=by
 refine⟨rv,ring,hr,hs,o.perm ?_⟩;exact List.Perm.trans (List.Perm.cons _ (List.Perm.swap ..)) (List.Perm.swap ..)
theorem TB {n d:Nat} (w:iM H0 H b q t B all L) (xl:n≤258) (GU:1≤d) (PR:d≤min all.length 32768) (kg:all.length+258≤1099511627776)
  (h: ∀H',iM H0 H' b q t B (cU n all d) L→R (.tuple #[str ((cU n all d).drop all.length),.bool true]) H'):ab 281 #[at_ b 3,i64 n,i64 d] H R:=by
 refine lk.vc _ _ _ _ _ ?_;rw [aN,decide_eq_false (by omega)];refine aO ?_;rw [a8,decide_eq_false (by omega)];intro _;refine aO ?_;rw [aN,decide_eq_false (by omega)];intro _;refine aO ?_;refine OA w ?_;rw [a8,decide_eq_false (by omega)];intro _;rw [aj];obtain⟨rv,ring,hr,hs,o⟩:=w;refine o.qV (by omega) (by omega) (by omega) fun ov H1 o=>?_;rw [af_] at o;have w:=iM.OD hr hs o;refine o.qL (v:=ov) (by repeat(first|exact af8|apply af7)) ?_;rw [agF];refine⟨fun v H' => ∃ (i:Nat) (out:List Value),v= .int .i64 i∧i≤n∧iM H0 H' b q t B (cU i all d) (.sl ov 1 out::L)∧out.length=n∧out.take i= ((cU i all d).drop all.length).map bX,
  fun v _=>match v with| .int _ i=> (n - i).toNat|_=>0,⟨0,_,rfl,by omega,w,by simp,by simp [cU]⟩,?_⟩
 rintro _ _ H2 ⟨i,out,rfl,hi,w2,Hu,Zc⟩;have hl:=qq i all d;rw [aN];refine av (fun hc=>?_) (fun hc=>?_)
 ·refine TA (d:=d) w2 (by omega) (by rw [hl];omega) ?_
  refine ag rfl ?_;refine ag rfl ?_;rw [af_];generalize hx: (cU i all d).getD ((cU i all d).length - d) 0=x;obtain⟨rv,ring,hr,lV,o⟩:=w2.OC;refine(o.sl (v:=ov) (by repeat(first|exact af8|apply af7))).at_ (n:=n) (by omega) (by decide) (by omega) (by omega) fun p hp=>?_;refine o.store hp (by repeat(first|exact af8|apply af7)) (by omega) rfl (by repeat(first|exact aV.here|apply aV.there)) fun H3 o _=>?_;rw [af_,agh] at o;have hS:=o.sl (v:=ov) (by repeat(first|exact af8|apply af7));refine hS.at_ (n:=n) (by rw [ag8];omega) (by decide) (by omega) (by omega) fun p hp=>?_;refine hp.load hS (w:=bX x) (by rw [af_,agh,ahC (by omega)]) ?_;refine OB (iM.OD hr lV o) (by rw [hl];omega) fun H4 w=>?_;rw [az,ba (by omega) (by omega)];refine⟨⟨i+1,out.set i (bX x),rfl,by omega,?_,by simpa using Hu,?_⟩,by show (_:Int).toNat< (_:Int).toNat;omega⟩
  ·rw [uJ,hx];exact w
  ·rw [uJ,hx,ahk (by rw [hl];omega),agU,←Zc]
   rw [agz,ahC (by omega),ajv (by omega)]
   rfl
 ·have JG:i=n:=by omega
  subst JG;rw [agx (by omega)] at Zc;rw [Zc] at w2;obtain⟨rv,ring,hr,lV,o⟩:=w2.OC;refine Sl.str (o.sl (v:=ov) (by repeat(first|exact af8|apply af7))) ?_;exact h _ ⟨rv,ring,hr,lV,o.pick (ag_ _ _)⟩
theorem iM.pl {K:Value→Prop} {g:Nat} {x:Value} (w:iM H0 H b q t B all L) (h5:5≤g) (hx:q[g - 5]? =some x) (hk:K x):ak H (at_ b g) K:=by
 obtain⟨rv,ring,hr,hs,o⟩:=w;refine o.pl (w:=x) (by repeat(first|exact af8|apply af7)) (by omega) ?_ hk;obtain⟨j,rfl⟩: ∃j,g=j+5:= ⟨g - 5,by omega⟩;simp only [aif] at hx;rw [show j+5 - 3=j+1+1 by omega];exact hx
theorem iM.ps {K:Value→ai→Prop} {g:Nat} {x:Value} (w:iM H0 H b q t B all L) (h5:5≤g) (hg:g - 5<q.length) (hx:aK x=true) (hk: ∀H',iM H0 H' b (q.set (g - 5) x) t B all L→K undef H'):aF H (at_ b g) x K:=by
 obtain⟨rv,ring,hr,hs,o⟩:=w;refine o.ps (g:=g) aV.here (by omega) (by simp;omega) hx fun H' o _=>hk H' ⟨rv,ring,hr,hs,?_⟩;obtain⟨j,rfl⟩: ∃j,g=j+5:= ⟨g - 5,by omega⟩;rw [show j+5 - 3=j+1+1 by omega] at o;exact o
end
end Go.Proofs.YtpcgccdmmoggmaaGreatDoor
namespace Go.Proofs
open Go.Shelf Go.RowKit
section
set_option maxHeartbeats 1000000 in
theorem Tryz.pO (b f:Nat) (w:World) (h0:w.cell? ⟨b,f,none⟩=some (.pointer (some ⟨b,f,none⟩))):
  Calls Tryz.prog 128 #[.pointer (some ⟨b,f,none⟩)] w fun e w' =>e= .returned (.tuple #[])∧w' =w:=by
 obtain⟨j,hj,XB⟩:=ajI.1 (show (Tryz.prog.info? 153).map (·.size)=some 2 by kernel_rfl)
 go_enter Tryz.func128,Tryz.f128
 go_wp2
 rw [Lib.run_neq_ptr_same w _ Tryz.underlying151 hj]
 go_wp2
 go_end0
 exact⟨rfl,rfl⟩
set_option maxHeartbeats 1000000 in
theorem Tryz.xc (b:Nat) (w:World) (h0:w.cell? ⟨b,5,none⟩=some (.pointer none)) (MC:w.shape? b=some (255,14)) (No:w.frozen? ⟨b,5,none⟩=false):
  Calls Tryz.prog 128 #[.pointer (some ⟨b,5,none⟩)] w fun e w' =>e= .returned (.tuple #[])∧w' =w.setCell ⟨b,5,none⟩ (.pointer (some ⟨b,5,none⟩)):=by
 obtain⟨j,hj,XB⟩:=ajI.1 (show (Tryz.prog.info? 153).map (·.size)=some 2 by kernel_rfl);have OE:liesAt Tryz.prog Tryz.prog.depth 255 (14/Tryz.prog.cellsOf 255) 5 153 1=true:=by kernel_rfl
 go_enter Tryz.func128,Tryz.f128
 go_wp2
 rw [Lib.run_to_unsafe w ⟨b,5,none⟩ Tryz.underlying151 Tryz.underlying256 hj (by rw [XB];decide) MC (show 5<14 by decide)];simp only [Result.andThen];rw [Oper.upon_value]
 go_wp2
 rw [run_callFunc_extern Tryz.func178 (by kernel_rfl) (by kernel_rfl) (by kernel_rfl) (e:=Extern.AbiNoEscape.same) (by kernel_rfl)];rw [Lib.run_noEscape];simp only [Result.andThen];rw [Oper.upon_value]
 go_wp2
 rw [Lib.run_from_unsafe w ⟨b,5,none⟩ Tryz.underlying256 Tryz.underlying151 hj MC OE];simp only [Result.andThen];rw [Oper.upon_value]
 go_wp2
 go_end0
 exact⟨rfl,rfl⟩
set_option maxHeartbeats 1000000 in
theorem Tryz.FK (b g cap:Nat) (cur:Array Value) (fr:Nat × Nat) (l:List UInt8) (w:World) (h1:w.cell? ⟨b,6,none⟩=some (.slice (some ⟨g,0,none⟩) l.length cap)) (hg:w.heap[g]? =some (.cells cur 5 fr)) (h0:l≠ []) (hl:l.length≤cap) (hm:l.length≤9223372036854775807) (hn:l.length≤cur.size)
  (hc: ∀ (j:Nat) (x:UInt8),l[j]? =some x→cur[j]? =some (Value.int .u8 x.toNat)):
  Calls Tryz.prog 76 #[.pointer (some ⟨b,5,none⟩)] w fun e w' =>e= .returned (.string ⟨l.toArray⟩)∧w' =w.drew.freeze ⟨g,0,none⟩ l.length:=by
 have R2:l.length≠0:=by simpa using h0
 have c1:w.drew.cell? ⟨b,6,none⟩=some (.slice (some ⟨g,0,none⟩) l.length cap):=h1;have Zd: (Builtin.unsafeSliceData_ #[82] 200 #[.slice (some ⟨g,0,none⟩) l.length cap]).run Tryz.prog w.drew= .ok (.pointer (some ⟨g,0,none⟩)) w.drew:=
  Lib.run_unsafeSliceData_row _ _ _ _ _ _ (by omega)
 have Ze: (Builtin.unsafeString_ #[200,3] 9 #[.pointer (some ⟨g,0,none⟩),.int .i64 l.length]).run Tryz.prog w.drew= .ok (.string ⟨l.toArray⟩) (w.drew.freeze ⟨g,0,none⟩ l.length):=by
  refine Lib.run_unsafeString_row w.drew 200 3 9 5 Tryz.underlying200 (by kernel_rfl) g cur.size (by have TC :w.drew.heap[g]? =some (.cells cur 5 fr):=hg;simp [World.shape?,TC]) l h0 hn hm ?_;intro j x hx;have TC :w.drew.heap[g]? =some (.cells cur 5 fr):=hg;have:=hc j x hx;rw [show (⟨g,0,none⟩:Addr).add j= ⟨g,j,none⟩ from by cases j<;>simp [Addr.add],Lib.cell_of_heap TC];exact this
 go_enter Tryz.func76,Tryz.f76
 go_wp2
 go_region
 all_goals (go_wp2;go_ret;exact⟨rfl,rfl⟩)
set_option maxHeartbeats 1000000 in
theorem Tryz.IP (b:Nat) (w:World) (h1:w.cell? ⟨b,6,none⟩=some (.slice none 0 0)):
  Calls Tryz.prog 76 #[.pointer (some ⟨b,5,none⟩)] w fun e w' =>e= .returned (.string ⟨#[]⟩)∧w' =w.drew:=by
 have c1:w.drew.cell? ⟨b,6,none⟩=some (.slice none 0 0):=h1;have Zd: (Builtin.unsafeSliceData_ #[82] 200 #[.slice none 0 0]).run Tryz.prog w.drew= .ok (.pointer none) w.drew:=rfl;have Ze: ∀ (W:World) (q:Option Addr),(Builtin.unsafeString_ #[200,3] 9 #[.pointer q,.int .i64 0]).run Tryz.prog W= .ok (.string .empty) W:=fun W q=>Lib.run_unsafeString_none W _ _ _ q
 go_enter Tryz.func76,Tryz.f76
 go_wp2
 go_region
 all_goals (go_wp2;go_ret;exact⟨rfl,rfl⟩)
end
end Go.Proofs
namespace Go.Proofs.YtpcgccdmmoggmaaGreatDoor
open Go Go.Vc Go.Proofs
section
variable {H H0:ai} {R:Value→ai→Prop} {v:Value} {B:List Bool} {L M:List It} {b:Nat} {q:List Value} {W out:List UInt8}
def mW (v:Value) (out:List UInt8):jl where
 cN k:=aS v=some k
 holds H:= (v= .slice none 0 0∧out= [])∨(out≠ []∧∃ (g cap:Nat) (sp:List Value) (fr:Nat × Nat),v= .slice (some ⟨g,0,none⟩) out.length cap∧H[g]? =some (.cells (out.map bX++sp).toArray 5 fr)∧Cv fr cap∧out.length+sp.length=cap)
 frame:=fun h hf=>by
  rcases h with h| ⟨h0,g,cap,sp,fr,rfl,h1,h2⟩
  ·exact .inl h
  ·exact .inr ⟨h0,g,cap,sp,fr,rfl,(hf g rfl).trans h1,h2⟩
 lt:=fun h hf=>by
  rcases h with ⟨rfl,_⟩ | ⟨h0,g,cap,sp,fr,rfl,h1,h2⟩
  ·simp [aS] at hf
  ·simp only [aS,agf] at hf;subst hf;exact bq h1
theorem LR (l:List UInt8): (l.map bX).all aK=true:=by simp [aK]
theorem Da {K:Value→ai→Prop} {x:Value} {new:List UInt8} (o:ar H0 H L) (dz:bw (.aA (mW v out)) L M) (hlen:iJ x=some new.length) (jw:cellsOf H 1 x=some (new.map bX)) (lN:out.length+new.length≤140737488355328)
  (hk: ∀v' H',ar H0 H' (.aA (mW v' (out++new))::M)→K v' H'):bj H 5 1 1 [.int .u8 0] v x K:=by
 have o1:=o.front dz;have hh:=o1.aA (T:=mW v out) af8;have key: ∀v' H',H.size≤H'.size→(∀k,k<H.size→aS v≠some k→H'[k]? =H[k]?)→(mW v' (out++new)).holds H' →(∀k,aS v' =some k→aS v=some k∨H.size≤k)→K v' H' :=
  fun v' H' h1 h2 h3 h4=>hk v' H' (o1.eX aV.here h1 h2 h3 h4)
 rcases hh with ⟨rfl,rfl⟩ | ⟨h0,g,cap,sp,fr,rfl,hb,hf,hc⟩
 ·simp only [bj,hlen,jw]
  refine⟨fun hle=>?_,fun cF=>?_⟩
  ·have:new= []:=ajy.1 (by omega)
   subst this;exact key _ H (aga _) (fun _ _ _=>rfl) (.inl ⟨rfl,rfl⟩) (fun k hk=> .inl hk)
  ·refine⟨by simp at lN;omega,?_⟩
   simp only [cellsOf,agn];intro c hc;refine key _ _ (by simp) (fun i hi _=>jY hi) (.inr ⟨by intro e;rw [List.append_eq_nil_iff] at e;rw [e.2] at cF;simp at cF,H.size,c,eJ [.int .u8 0] (c - (0+new.length)),(0,0),by simp,?_,.inl rfl,?_⟩) (fun k hk=>?_)
   ·exact bW
   ·rw [gp];simp;omega
   ·simp only [aS,agf] at hk;right;omega
 ·simp only [bj,hlen,jw]
  refine⟨fun hle=>?_,fun cF=>?_⟩
  ·simp only [al,ags,agh]
   have Ky:new.length≤sp.length:=by omega
   rw [jZ hf (new.map bX) H out.length 0 (out.map bX++sp) hb (LR new) (by simp;omega) (by simp;omega)];simp only [agL];have hp:=mF (new.map bX) (out.map bX) sp (by simpa using Ky);rw [agw] at hp;rw [hp,agw];refine key _ _ (by simp) (fun i hi df=>cD (by intro e;subst e;exact df rfl)) (.inr ⟨by simp [h0],g,cap,sp.drop new.length,fr,by simp,?_,hf,?_⟩) (fun k hk=> .inl hk)
   ·rw [agU];exact bN (bq hb)
   ·rw [af9,agl];omega
  ·refine⟨by omega,?_⟩
   have hr:cellsOf H 1 (.slice (some ⟨g,0,none⟩) out.length cap)=some (out.map bX):=by
    have:= (kI.sl (by decide) (.inr ⟨g,out.length,cap,sp,rfl,⟨⟨_,fr,hb,by simpa using hf⟩,by simp,by simp;omega⟩⟩:kI H (.slice (some ⟨g,0,none⟩) out.length cap) 1 (out.map bX))).cellsOf;exact this
   rw [hr];intro c f_;refine key _ _ (by simp) (fun i hi _=>jY hi) (.inr ⟨by simp [h0],H.size,c,eJ [.int .u8 0] (c - (out.length+new.length)),(0,0),by simp,?_,.inl rfl,?_⟩) (fun k hk=>?_)
   ·rw [agU];exact bW
   ·rw [gp,af9];simp;omega
   ·simp only [aS,agf] at hk;right;omega
def Dc (H0 H:ai) (b:Nat) (q:List Value) (B:List Bool) (W out:List UInt8) (L:List It):Prop:=
 ∃bp bv,(bp= .pointer none∨bp=at_ b 5)∧aK bv=true∧iM H0 H b (bp::bv::q) 255 B W (.aA (mW bv out)::L)
def Idle (H0 H:ai) (b:Nat) (q:List Value) (B:List Bool) (W:List UInt8) (L:List It):Prop:=
 ∃bp bv,aK bp=true∧aK bv=true∧iM H0 H b (bp::bv::q) 255 B W L
theorem tA {K:Value→ai→Prop} {a:Addr} {x:Value} (h:aF H (.pointer (some a)) x K):K undef (setAt H (a.add 0) x):=by
 simp only [aF,eA] at h
 cases hc:cellAt H (a.add 0) with
 |none=>simp only [hc] at h
 |some y=>
  simp only [hc] at h
  cases hq:frozenAt H (a.add 0) with
  |true=>simp only [hq,cond_true] at h
  |false=>
   cases ho:aK x with
   |false=>simp only [hq,ho,cond_false] at h
   |true=>simpa only [hq,ho,cond_false,cond_true] using h
theorem pQ {bp bv:Value} (hq:q.length=7) (rX:bp= .pointer none∨bp=at_ b 5) (w:iM H0 H b (bp::bv::q) 255 B W L)
  (h: ∀H',iM H0 H' b (at_ b 5::bv::q) 255 B W L→R (.tuple #[]) H'):ab 128 #[at_ b 5] H R:=by
 obtain⟨rv,ring,hr,hs,o⟩:=id w;obtain⟨rest,acc,n,h1,-⟩:=o.aA (T:=Vz b (rv::i64 W.length::bp::bv::q) 255 B) (by repeat(first|exact af8|apply af7));intro wd hw;subst hw;have hc:=Lib.cell_of_heap h1 5;rcases rX with rfl|rfl
 ·have jM:=w.ps (K:=fun _ H' =>R (.tuple #[]) H') (g:=5) (x:=at_ b 5) (by decide) (by simp) rfl (fun H' w' =>h H' w')
  have:=tA jM;refine(Tryz.xc b wd hc ?_ (Lib.frozen_of_heap h1 5)).mono fun e w' ⟨he,mn⟩=> ⟨_,he,?_,?_⟩
  ·simp [World.shape?,h1,hq]
  ·subst mn;exact⟨rfl,rfl,rfl,fun _=>by first|exact aga _|exact agG _⟩
  ·subst mn;exact this
 ·exact(Tryz.pO b 5 wd hc).mono fun e w' ⟨he,mn⟩=> ⟨_,he,by subst mn;exact b0.refl _,by subst mn;exact h _ w⟩
theorem Db (o:ar H0 H L) (h:It.aA (mW v out)∈L):aK v=true:=by
 rcases o.aA h with ⟨rfl,_⟩ | ⟨_,_,_,_,_,rfl,_⟩<;>rfl
theorem FL {x:Value} {new:List UInt8} {bv:Value} (hq:q.length=7) (hn:out.length+new.length≤140737488355328) (w:iM H0 H b (at_ b 5::bv::q) 255 B W (.aA (mW bv out)::L))
  (hlen:iJ x=some new.length) (jw:cellsOf H 1 x=some (new.map bX)) (h: ∀H',Dc H0 H' b q B W (out++new) L→R undef H'):
  aB (at_ b 5) fun x10=>aa 1 x10 fun x11=>ak H x11 fun x12=>bj H 5 1 1 [(.int .u8 0)] x12 x fun x14 Yp=>aB (at_ b 5) fun x15=>aa 1 x15 fun x16=>aF Yp x16 x14 R:=by
 rw [au,ae,al];refine w.pl (g:=5+1) (x:=bv) (by decide) rfl ?_;obtain⟨rv,ring,hr,hs,o⟩:=w.OC;refine Da o (by repeat(first|exact bw.here|apply bw.there)) hlen jw hn fun v' H2 o=>?_;have h1:=Db o (by repeat(first|exact af8|apply af7));have w:=iM.OD hr hs o;rw [au,ae,al];refine w.ps (g:=5+1) (by decide) (by simp) h1 fun H3 w=>?_;exact h H3 ⟨_,v',.inr rfl,h1,w⟩
theorem FM {s:List UInt8} (hq:q.length=7) (hs:out.length+s.length≤140737488355328) (d:Dc H0 H b q B W out L) (h: ∀H',Dc H0 H' b q B W (out++s) L→R (.tuple #[i64 s.length,.nilIface]) H'):ab 75 #[at_ b 5,str s] H R:=by
 obtain⟨bp,bv,rX,zh,w⟩:=d;refine fU.vc _ _ _ _ ?_;refine pQ hq rX w fun H1 w=>?_;refine FL (x:=str s) (new:=s) hq hs w (by simp [iJ,bu]) (by simp [cellsOf,bu]) fun H2 d=>?_;refine aJ ?_;exact h H2 d
theorem OF {x:UInt8} (hq:q.length=7) (hs:out.length+1≤140737488355328) (d:Dc H0 H b q B W out L) (h: ∀H',Dc H0 H' b q B W (out++ [x]) L→R .nilIface H'):ab 258 #[at_ b 5,bX x] H R:=by
 obtain⟨bp,bv,rX,zh,w⟩:=d;refine lH.vc _ _ _ _ ?_;refine pQ hq rX w fun H1 w=>?_;rw [au,ae,al];refine w.pl (g:=5+1) (x:=bv) (by decide) rfl ?_;obtain⟨rv,ring,hr,lV,o⟩:=w.OC;refine o.dj (sz:=1) (by decide) rfl rfl fun y H2 o=>?_;have hS:=o.sl (v:=y) (by repeat(first|exact af8|apply af7));refine Da (new:= [x]) o (by repeat(first|exact bw.here|apply bw.there)) (hS.iJ (n:=1) rfl (by decide)) hS.cellsOf hs fun v' H2 o=>?_;have h1:=Db o (by repeat(first|exact af8|apply af7));have w:=iM.OD hr lV o.lW;rw [au,ae,al];refine w.ps (g:=5+1) (by decide) (by simp) h1 fun H3 w=>?_;exact h H3 ⟨_,v',.inr rfl,h1,w⟩
theorem Ra (hq:q.length=7) (d:Idle H0 H b q B W L) (h: ∀H',Dc H0 H' b q B W [] L→R (.tuple #[]) H'):ab 174 #[at_ b 5] H R:=by
 obtain⟨bp,bv,rX,zh,w⟩:=d;refine oD.vc _ _ _ ?_;rw [au,ae,al];refine w.ps (g:=5+0) (by decide) (by simp) rfl fun H1 w=>?_;rw [au,ae,al];refine w.ps (g:=5+1) (by decide) (by simp) rfl fun H2 w=>?_;refine h H2 ⟨.pointer none,.slice none 0 0,.inl rfl,rfl,?_⟩;obtain⟨rv,ring,hr,hs,o⟩:=w;refine iM.OD (rv:=rv) hr hs ?_;exact o.add (Ext.refl _) (i:= .aA (mW (.slice none 0 0) [])) (.inl ⟨rfl,rfl⟩) (by intro k hk;simp [It.cN,mW,aS] at hk)
def OG:jl where
 cN _:=False
 holds _:=True
 frame:=fun _ _=>trivial
 lt:=fun _ h=>h.elim
theorem FN (hq:q.length=7) (hs:out.length≤140737488355328) (d:Dc H0 H b q B W out L) (h: ∀H',Idle H0 H' b q B W L→R (str out) H'):ab 76 #[at_ b 5] H R:=by
 obtain⟨bp,bv,rX,zh,w⟩:=d;have V6:aK bp=true:=by rcases rX with rfl|rfl<;>rfl
 obtain⟨rv,ring,hr,lV,o⟩:=w.OC;obtain⟨rest,acc,n,h1,-⟩:=o.aA (T:=Vz b (rv::i64 W.length::bp::bv::q) 255 B) (by repeat(first|exact af8|apply af7));intro wd hw;subst hw;have hc:wd.cell? ⟨b,6,none⟩=some bv:=Lib.cell_of_heap h1 6;rcases o.aA (T:=mW bv out) (by repeat(first|exact af8|apply af7)) with ⟨rfl,rfl⟩ | ⟨h0,g,cap,sp,fr,rfl,hg,hf,x_⟩
 ·refine(Tryz.IP b wd hc).mono fun e w' ⟨he,mn⟩=> ⟨_,he,by subst mn;exact⟨rfl,rfl,rfl,fun _=>by first|exact aga _|exact agG _⟩,?_⟩
  subst mn;exact h _ ⟨bp,_,V6,rfl,rv,ring,hr,lV,o.pick (ag_ _ _)⟩
 ·have R2:out.length≠0:=by simpa using h0
  have No: (wd.drew.freeze ⟨g,0,none⟩ out.length).heap=wd.heap.modify g fun
    | .cells c elem (lo,hi)=> .cells c elem (if lo==hi then (0,0+out.length) else (min lo 0,max hi (0+out.length)))
    |o=>o:=by
   unfold World.freeze;rw [if_neg R2]
   rfl
  refine(Tryz.FK b g cap _ fr out wd hc hg h0 (by omega) (by omega) (by simp) ?_).mono fun e w' ⟨he,mn⟩=> ⟨_,he,?_,?_⟩
  ·intro j x hx
   have hj:= (agD.1 hx).1;rw [agO,agM (by simpa using hj),agu,hx];rfl
  ·subst mn
   unfold World.freeze;rw [if_neg R2];exact⟨rfl,rfl,rfl,fun _=>by first|exact aga _|exact agG _⟩
  ·subst mn
   have o2:ar H0 (wd.drew.freeze ⟨g,0,none⟩ out.length).heap (.aA OG::lp b (rv::i64 W.length::bp:: .slice (some ⟨g,0,none⟩) out.length cap::q) 255 B:: .sl rv 1 (ring.map bX)::L):=by
    rw [No];refine o.eX aV.here (by simp) (fun k hk df=>?_) trivial (fun k hk=>hk.elim);rw [ah6,if_neg];intro e;exact df (by simp [It.cN,mW,aS,e])
   exact h _ ⟨bp,_,V6,rfl,rv,ring,hr,lV,o2.pick (ag_ _ _)⟩
end
end Go.Proofs.YtpcgccdmmoggmaaGreatDoor
