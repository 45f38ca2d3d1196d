/- Part 5 of the proof of RowTopMended: what it is built on, in the order of its needs. -/
import Derived.Test.YtpcgccdmmoggmaaGreatDoorPkD
set_option linter.unusedSimpArgs false
set_option linter.unusedVariables false
namespace Go.Proofs.YtpcgccdmmoggmaaGreatDoor
open Go Go.Vc Go.Proofs
section
set_option maxRecDepth 100000
variable {H H0 H' :ak} {R:Value→ak→Prop} {v:Value} {L:List It}
theorem _root_.Go.Vc.aw.merge {i j k:It} (o:aw H0 H (i::j::L)) (hh:i.holds H→j.holds H→k.holds H) (hf: ∀b,k.eL b→i.eL b∨j.eL b):aw H0 H (k::L):=by
 have h1:=aki.1 o.G_;have h2:=aki.1 h1.2;refine⟨o.ext,fun x hx=>?_,fun x hx b hb=>?_,aki.2 ⟨fun x hx b hb=>?_,h2.2⟩⟩
 ·rcases aj5.1 hx with rfl|hx
  ·exact hh (o.ok _ (by simp)) (o.ok _ (by simp))
  ·exact o.ok x (by simp [hx])
 ·rcases aj5.1 hx with rfl|hx
  ·rcases hf b hb with h|h
   ·exact o.new i (by simp) b h
   ·exact o.new j (by simp) b h
  ·exact o.new x (by simp [hx]) b hb
 ·rcases hf b hb with h|h
  ·exact h1.1 x (by simp [hx]) b h
  ·exact h2.1 x hx b h
def lx (l:List Nat):List Value:=l.map fun i=> .int .i64 (i:Nat)
theorem fw (l:List Nat): (lx l).length=l.length:=by simp [lx]
theorem IT (a b:List Nat):lx (a++b)=lx a++lx b:=by simp [lx]
def tW (H:ak):List Pk→List Value→Prop
 | [],cs=>cs= []
 |p::l,cs=> ∃sv r,cs= .int .i64 (p.1:Int)::sv::r∧(aL sv=true∧Sl H sv 1 (lx p.2)∧p.2≠ [])∧tW H l r
def YF (cs:List Value) (k:Nat):Prop:= ∃sv∈cs,aV sv=some k
theorem tW.frame: ∀ {l:List Pk} {cs:List Value},tW H l cs→(∀k,YF cs k→H'[k]? =H[k]?)→tW H' l cs
 | [],cs,h,hf=>h
 |p::l,cs,⟨sv,r,h1,⟨h2,h3,h4⟩,h5⟩,hf=>by
  subst h1;exact⟨sv,r,rfl,⟨h2,h3.frame fun k hk=>hf k ⟨sv,by simp,hk⟩,h4⟩,h5.frame fun k ⟨s,hs,hk⟩=>hf k ⟨s,by simp [hs],hk⟩⟩
theorem tW.lt {k:Nat}: ∀ {l:List Pk} {cs:List Value},tW H l cs→YF cs k→k<H.size
 | [],cs,h,hk=>by subst h;obtain⟨_,hs,_⟩:=hk;simp at hs
 |p::l,cs,⟨sv,r,h1,⟨h2,h3,h4⟩,h5⟩,⟨s,hs,hk⟩=>by
  subst h1;rcases aj5.1 hs with rfl|hs
  ·simp [aV] at hk
  ·rcases aj5.1 hs with rfl|hs
   ·exact h3.lt (by intro h;exact h4 (by simpa [lx] using h)) hk
   ·exact h5.lt ⟨s,hs,hk⟩
theorem tW.ext {l:List Pk} {cs:List Value} (h:tW H l cs) (hx:Ext H H'):tW H' l cs:=h.frame fun k hk=>hx.get k (h.lt hk)
theorem tW.len: ∀ {l:List Pk} {cs:List Value},tW H l cs→cs.length=l.length*2
 | [],cs,h=>by subst h;rfl
 |p::l,cs,⟨sv,r,h1,_,h5⟩=>by subst h1;simp only [aj2,h5.len];omega
theorem tW.one: ∀ {l:List Pk} {cs:List Value},tW H l cs→cs.all aL=true
 | [],cs,h=>by subst h;rfl
 |p::l,cs,⟨sv,r,h1,⟨h2,_⟩,h5⟩=>by subst h1;exact all_cons rfl (all_cons h2 h5.one)
theorem tW.app: ∀ {l m:List Pk} {cs ds:List Value},tW H l cs→tW H m ds→tW H (l++m) (cs++ds)
 | [],m,cs,ds,h,k=>by subst h;exact k
 |p::l,m,cs,ds,⟨sv,r,h1,h2,h5⟩,k=>by subst h1;exact⟨sv,r++ds,rfl,h2,h5.app k⟩
theorem tW.at_: ∀ {l:List Pk} {cs:List Value} {i:Nat} {p:Pk},tW H l cs→l[i]? =some p→∃sv,cs[i*2]? =some (.int .i64 (p.1:Int))∧cs[i*2+1]? =some sv∧(cs.drop (i*2)).take 2= [.int .i64 (p.1:Int),sv]∧aL sv=true∧Sl H sv 1 (lx p.2)∧p.2≠ []
 | [],cs,i,p,h,hi=>by simp at hi
 |q::l,cs,0,p,⟨sv,r,h1,h2,h5⟩,hi=>by
  simp at hi;subst hi;subst h1
  exact⟨sv,rfl,rfl,rfl,h2⟩
 |q::l,cs,i+1,p,⟨sv,r,h1,h2,h5⟩,hi=>by
  subst h1;obtain⟨s,g1,g2,g3,g4⟩:=h5.at_ (by simpa using hi);refine⟨s,?_,?_,?_,g4⟩
  ·rw [show (i+1)*2=i*2+1+1 by omega];simpa using g1
  ·rw [show (i+1)*2+1= (i*2+1)+1+1 by omega];simpa using g2
  ·rw [show (i+1)*2=i*2+1+1 by omega];simpa using g3
theorem tW.take: ∀ {l:List Pk} {cs:List Value} (n:Nat),tW H l cs→tW H (l.take n) (cs.take (n*2))
 |l,cs,0,h=>by rw [al8];exact rfl
 | [],cs,n+1,h=>by subst h;exact rfl
 |p::l,cs,n+1,⟨sv,r,h1,h2,h5⟩=>by
  subst h1;rw [show (n+1)*2=n*2+1+1 by omega];exact⟨sv,r.take (n*2),rfl,h2,h5.take n⟩
theorem tW.drop: ∀ {l:List Pk} {cs:List Value} (n:Nat),tW H l cs→tW H (l.drop n) (cs.drop (n*2))
 |l,cs,0,h=>by rw [al8];exact h
 | [],cs,n+1,h=>by subst h;exact rfl
 |p::l,cs,n+1,⟨sv,r,h1,h2,h5⟩=>by
  subst h1;rw [show (n+1)*2=n*2+1+1 by omega];exact h5.drop n
def uS (l:List Pk) (cs:List Value):ir where
 eL:=YF cs
 holds H:=tW H l cs
 frame h hf:=h.frame hf
 lt h hk:=h.lt hk
theorem Fe: ∀ {l:List Pk} {k:Nat} {a b:Pk},l[2*k]? =some a→l[2*k+1]? =some b→(de l)[k]? =some (a.1+b.1,a.2++b.2)
 | [],k,a,b,h1,h2=>by simp at h1
 | [_],0,a,b,h1,h2=>by simp at h2
 | [_],k+1,a,b,h1,h2=>by simp at h2
 |c::d::l,0,a,b,h1,h2=>by simp at h1 h2;subst h1;subst h2;simp [de]
 |c::d::l,k+1,a,b,h1,h2=>by
  rw [de,akm];exact Fe (by rw [show 2* (k+1)=2*k+1+1 by omega] at h1;simpa using h1) (by rw [show 2* (k+1)+1= (2*k+1)+1+1 by omega] at h2;simpa using h2)
theorem Lu {l:List Pk} {cs:List Value} (hv:Sl H v 2 cs) (hp:tW H l cs) (hlen:l.length≤600) (hc: ∀p∈l,p.1≤1152921504606846976∧p.2.length≤32768)
  (h: ∀y HM H',aw H H' [.sl y 2 HM,.ay (uS (de l) HM)]→R y H'):ab Tryz.prog 215 #[v] H R:=by
 have iv:=hp.len;refine mX.vc _ _ _ ?_;unfold mX.res;refine⟨fun y i H' => ∃ (k:Nat) (co:List Value),i= .int .i64 ((2*k:Nat):Int)∧2*k≤l.length∧aw H H' [.sl y 2 co,.ay (uS ((de l).take k) co)],fun _ i _=>match i with| .int _ x=> (l.length - x).toNat|_=>0,⟨0,[],rfl,by omega,?_⟩,?_⟩
 ·exact(aw.start.add (Ext.refl _) (i:= .ay (uS [] [])) rfl (by rintro k ⟨_,hs,_⟩;simp at hs)).add (Ext.refl _) ⟨by decide,.inl ⟨rfl,rfl⟩⟩ (by intro k hk;exact absurd hk (by simp [It.eL,aV]))
 rintro _ out _ H1 ⟨k,co,rfl,hk,o⟩;rw [aC,bH (by omega) (by omega)];refine hv.len iv (by decide) ?_;rw [aQ];refine ax (fun y7=>?_) (fun y7=>?_)
 ·have rO:2*k+1<l.length:=by omega
  obtain⟨a,ha⟩: ∃a,l[2*k]? =some a:= ⟨l[2*k],ajV _⟩;obtain⟨b,hb⟩: ∃b,l[2*k+1]? =some b:= ⟨l[2*k+1],ajV _⟩;obtain⟨sa,a1,a2,_,a3,a4,a5⟩:=hp.at_ ha;obtain⟨sb,b1,b2,_,b3,b4,b5⟩:=hp.at_ hb;have hca:=hc a (akK ha);have Bh:=hc b (akK hb);have w5:=hv.ext o.ext;refine w5.at_ iv (by decide) (by omega) (by omega) fun p lu=>?_;rw [ajS] at lu;refine lu.field fun q1 hq1=>?_;refine hq1.load w5 a1 ?_;rw [aC,bH (by omega) (by omega)];refine w5.at_ iv (by decide) (by omega) (by omega) fun p2 D8=>?_;rw [show (((2*k:Nat):Int)+1).toNat=2*k+1 by omega] at D8;refine D8.field fun q2 Gw=>?_;refine Gw.load w5 b1 ?_;rw [aC,bH (by omega) (by omega)];refine w5.at_ iv (by decide) (by omega) (by omega) fun p3 Z6=>?_;rw [ajS] at Z6;refine Z6.field fun q3 hq3=>?_;refine hq3.load w5 a2 ?_;rw [aC,bH (by omega) (by omega)];refine w5.at_ iv (by decide) (by omega) (by omega) fun p4 hp4=>?_;rw [show (((2*k:Nat):Int)+1).toNat=2*k+1 by omega] at hp4;refine hp4.field fun q4 hq4=>?_;refine hq4.load w5 b2 ?_;refine o.build (sz:=1) (vs:= [sa,sb]) (by decide) (fun K' hK=>fJ a3 b3 hK) rfl fun y H2 o2=>?_;have HK:=hv.ext o2.ext;refine⟨hq1.load HK a1 rfl,Gw.load HK b1 rfl,?_⟩;refine AH (svs:= [sa,sb]) (ls:= [lx a.2,lx b.2]) (o2.sl (by repeat(first|exact ajP|apply ajO))) (by simp) rfl (fun j hj=>?_) ?_ ?_ fun z H3 c3=>?_
  ·match j,hj with
   |0,_=>exact⟨a4.ext o2.ext,_,(aj0 _).symm⟩
   |1,_=>exact⟨b4.ext o2.ext,_,(aj0 _).symm⟩
  ·simp [lx,aL]
  ·simp only [akP,amh,ajQ,fw,aj7];omega
  have o3:=o2.call c3;have Z7:=hv.ext o3.ext;refine⟨hq1.load Z7 a1 rfl,Gw.load Z7 b1 rfl,?_⟩;have PO:= (o3.sl (v:=z) (by repeat(first|exact ajP|apply ajO))).one;have To:=o3.sl (v:=z) (by repeat(first|exact ajP|apply ajO));refine fJ rfl PO ?_;have e1: ([lx a.2,lx b.2]:List (List Value)).flatten=lx (a.2++b.2):=by rw [IT];simp
  rw [e1] at o3 To;have o4:=o3.arr (L' := [.ay (uS ((de l).take k) co),.sl z 1 (lx (a.2++b.2)),.sl out 2 co]) (by repeat(first|exact dV.nil|exact bu.here|apply dV.cons|apply bu.there));have hlk: ((de l).take k).length=k:=by rw [ajW,mM];omega
  have BZ:co.length=k*2:=by
   have:= (o4.ay (T:=uS ((de l).take k) co) (by repeat(first|exact ajP|apply ajO)):tW _ _ _).len
   rwa [hlk] at this
  have o5:aw H H3 [.ay (uS ((de l).take (k+1)) (co++ [.int .i64 ((a.1+b.1:Nat):Int),z])),.sl out 2 co]:=o4.merge (fun hT hS=>by
    have hT:tW H3 ((de l).take k) co:=hT;show tW H3 _ _;rw [akq,Fe ha hb];exact hT.app ⟨z,[],rfl,⟨PO,To,by simp [a5]⟩,rfl⟩) (fun b' ⟨s,hs,mw⟩=>by
    rcases akg.1 hs with hs|hs
    ·exact .inl ⟨s,hs,mw⟩
    ·simp at hs
     rcases hs with rfl|rfl
     ·simp [aV] at mw
     ·exact .inr mw)
  refine o5.ej (sz:=2) (by decide) rfl rfl fun y2 H4 o6=>?_;refine o6.append (sz:=2) (v:=out) (x:=y2) (n:=k) (m:=1) (by repeat(first|exact bu.here|apply bu.there)) rfl (o6.sl (by repeat(first|exact ajP|apply ajO))) BZ rfl (all_cons rfl (all_cons PO rfl)) (by omega) fun v2 H5 o7=>?_;rw [aC,bH (by omega) (by omega)];refine⟨⟨k+1,co++ [.int .i64 ((a.1+b.1:Nat):Int),z],by rw [show ((2*k:Nat):Int)+2= ((2* (k+1):Nat):Int) by omega],by omega,?_⟩,by show (_:Int).toNat< (_:Int).toNat;omega⟩;have o8:=o7.arr (L' := [.sl v2 2 (co++ [.int .i64 ((a.1:Int)+ (b.1:Int)),z]),.ay (uS ((de l).take (k+1)) (co++ [.int .i64 ((a.1+b.1:Nat):Int),z]))]) (by repeat(first|exact dV.nil|exact bu.here|apply dV.cons|apply bu.there));exact o8
 ·rw [aj9 (by rw [mM];omega)] at o
  exact h _ _ _ o
theorem IU {va vb:Value} {A B:List Pk} {ca cb:List Value} (ha:Sl H va 2 ca) (hb:Sl H vb 2 cb) (pa:tW H A ca) (pb:tW H B cb) (Xp:A.length≤300) (Tp:B.length≤300) (hc: ∀p,p∈A∨p∈B→p.1≤2305843009213693952)
  (h: ∀y HM H',aw H H' [.sl y 2 HM]→tW H (nQ A B) HM →(∀s∈HM,s∈ca∨s∈cb)→R y H'):ab Tryz.prog 214 #[va,vb] H R:=by
 refine lX.vc _ _ _ _ ?_;unfold lX.res;refine⟨fun xa xb y H' => ∃ (i j:Nat) (O:List Pk) (co:List Value),i≤A.length∧j≤B.length∧Sl H xa 2 (ca.drop (i*2))∧Sl H xb 2 (cb.drop (j*2))∧aw H H' [.sl y 2 co]∧tW H O co∧O.length=i+j∧(∀s∈co,s∈ca∨s∈cb)∧O++nQ (A.drop i) (B.drop j)=nQ A B,
  fun xa xb _ _=> (mu xa).getD 0+ (mu xb).getD 0,
  ⟨0,0,[],[],by omega,by omega,ha,hb,aw.start.add (Ext.refl _) ⟨by decide,.inl ⟨rfl,rfl⟩⟩ (by intro k hk;exact absurd hk (by simp [It.eL,aV])),rfl,rfl,by simp,rfl⟩,?_⟩
 rintro _ xa xb out H1 ⟨i,j,O,co,hi,hj,sa,sb,o,po,YG,lf,hj0⟩;have pa' :=pa.drop i;have pb' :=pb.drop j;have Lv : (ca.drop (i*2)).length= (A.length - i)*2:=by rw [pa'.len,aj1]
 have Lw : (cb.drop (j*2)).length= (B.length - j)*2:=by rw [pb'.len,aj1]
 have A7: ∀ (S:List Value) (n:Nat) (s:Value),s∈S.drop n→s∈S:=fun S n s h=>anl h;refine sa.len Lv (by decide) ?_;rw [bU];have BZ:co.length= (i+j)*2:=by rw [po.len,YG]
 have M6: ∀H2,Ext H1 H2→H1=H2→(i=A.length∨j=B.length)→aX H1 291 3 [(.slice none 0 0),(.slice none 0 0),(.slice none 0 0)] [(0,1,out),(1,1,xa),(2,1,xb)] fun iV bI=>ab Tryz.prog 248 #[iV] bI fun ln dD=>R ln dD:=by
  intro H2 _ _ hor;have mH:= (o.sl (v:=out) (by repeat(first|exact ajP|apply ajO))).one;refine o.build (sz:=1) (vs:= [out,xa,xb]) (by decide) (fun K' hK=>eY mH sa.one sb.one hK) rfl fun y H3 o2=>?_;refine Gv (svs:= [out,xa,xb]) (ls:= [co,ca.drop (i*2),cb.drop (j*2)]) (o2.sl (by repeat(first|exact ajP|apply ajO))) (by simp) rfl (fun k hk=>?_) ?_ ?_ fun z H4 c4=>?_
  ·match k,hk with
   |0,_=>exact⟨o2.sl (by repeat(first|exact ajP|apply ajO)),_,BZ⟩
   |1,_=>exact⟨sa.ext o2.ext,_,Lv⟩
   |2,_=>exact⟨sb.ext o2.ext,_,Lw⟩
  ·simp only [akP,amh,List.all_append,po.one,pa'.one,pb'.one,List.all_nil,Bool.and_self]
  ·simp only [akP,amh,ajQ,BZ,Lv,Lw,aj7];omega
  have o4:= (o2.call c4).arr (L' := [.sl z 2 ([co,ca.drop (i*2),cb.drop (j*2)]:List (List Value)).flatten]) (by repeat(first|exact dV.nil|exact bu.here|apply dV.cons|apply bu.there));refine h _ _ _ o4 ?_ ?_
  ·rw [←hj0]
   simp only [akP,amh,akb];refine po.app ?_;rcases hor with e|e
   ·subst e
    rw [akW,tF];have:ca.drop (A.length*2)= []:=ak3 (by rw [pa.len];omega);rw [this,aj4];exact pb'
   ·subst e
    rw [akW,oW];have:cb.drop (B.length*2)= []:=ak3 (by rw [pb.len];omega);rw [this,akb];exact pa'
  ·intro s hs
   simp only [akP,amh,akb,akg] at hs;rcases hs with hs|hs|hs
   ·exact lf s hs
   ·exact .inl (A7 _ _ _ hs)
   ·exact .inr (A7 _ _ _ hs)
 by_cases hia:i<A.length
 ·rw [decide_eq_true (by omega)]
  refine bX ?_;refine sb.len Lw (by decide) ?_;rw [bU];intro _;refine ax (fun y7=>?_) (fun y7=>M6 H1 (Ext.refl _) rfl (.inr (by omega)));have hjb:j<B.length:=by omega
  obtain⟨p,hp⟩: ∃p,(A.drop i)[0]? =some p:= ⟨A[i],by rw [ak7];exact ajV hia⟩;obtain⟨q,hq⟩: ∃q,(B.drop j)[0]? =some q:= ⟨B[j],by rw [ak7];exact ajV hjb⟩;obtain⟨s1,a1,a2,a3,a4,a5,a6⟩:=pa'.at_ hp;obtain⟨s2,b1,b2,b3,b4,b5,b6⟩:=pb'.at_ hq;have hAd:A.drop i=p::A.drop (i+1):=by
   rw [akN hia];rw [ak7,ajV (by omega),ajY] at hp;rw [←hp];simp
  have hBd:B.drop j=q::B.drop (j+1):=by
   rw [akN hjb];rw [ak7,ajV (by omega),ajY] at hq;rw [←hq];simp
  have hpc:=hc p (.inl (anl (akK hp)));have hqc:=hc q (.inr (anl (akK hq)));have sa1:=sa.ext o.ext;have sb1:=sb.ext o.ext;refine sa1.at_ Lv (by decide) (by decide) (by omega) fun u1 V1=>?_;refine V1.field fun u2 V2=>?_;refine V2.load sa1 a1 ?_;refine sb1.at_ Lw (by decide) (by decide) (by omega) fun w1 M7=>?_;refine M7.field fun w2 Tc=>?_;refine Tc.load sb1 b1 ?_;rw [qw];have adD: ∀ {K:Value→Prop},(∀v',Sl H v' 2 (ca.drop ((i+1)*2))→K v')→lj 2 xa (some (.int .i64 1)) none K:=fun hK=>by
   refine sa.cut (by decide) (lo:=1) (hi:=A.length - i) Lv (by omega) (by omega) (fun v' qN =>?_) (.inl rfl) (.inr ⟨rfl,rfl⟩);rw [akR,aj9 (by rw [aj1,pa.len];omega),show i*2+1*2= (i+1)*2 by omega] at qN;exact hK v' qN
  have adE: ∀ {K:Value→Prop},(∀v',Sl H v' 2 (cb.drop ((j+1)*2))→K v')→lj 2 xb (some (.int .i64 1)) none K:=fun hK=>by
   refine sb.cut (by decide) (lo:=1) (hi:=B.length - j) Lw (by omega) (by omega) (fun v' qN =>?_) (.inl rfl) (.inr ⟨rfl,rfl⟩);rw [akR,aj9 (by rw [aj1,pb.len];omega),show j*2+1*2= (j+1)*2 by omega] at qN;exact hK v' qN
  have hxa:=sa.mu Lv (by decide);have hxb:=sb.mu Lw (by decide);refine ax (fun hle=>?_) (fun hle=>?_)
  ·refine sa1.at_ Lv (by decide) (by decide) (by omega) fun u3 hu3=>?_
   refine hu3.kf sa1 (ws:= [.int .i64 (p.1:Int),s1]) a3 rfl ?_;refine adD fun v' qN =>?_;have HK:=qN.mu (n:=A.length - (i+1)) (by rw [aj1,pa.len];omega) (by decide);refine o.ej (sz:=2) (by decide) rfl rfl fun y H2 o2=>?_;refine o2.append (sz:=2) (v:=out) (x:=y) (n:=i+j) (m:=1) (by repeat(first|exact bu.here|apply bu.there)) rfl (o2.sl (by repeat(first|exact ajP|apply ajO))) BZ rfl (all_cons rfl (all_cons a4 rfl)) (by omega) fun v2 H3 o3=>?_;refine⟨⟨i+1,j,O++ [p],co++ [.int .i64 (p.1:Int),s1],by omega,by omega,qN,sb,o3.arr (by repeat(first|exact dV.nil|exact bu.here|apply dV.cons|apply bu.there)),po.app ⟨s1,[],rfl,⟨a4,a5,a6⟩,rfl⟩,by rw [ajQ,YG,alf];omega,?_,?_⟩,?_⟩
   ·intro s hs
    rcases akg.1 hs with hs|hs
    ·exact lf s hs
    ·simp at hs
     rcases hs with rfl|rfl
     ·exact .inl (A7 _ _ _ (akK a1))
     ·exact .inl (A7 _ _ _ (akK a2))
   ·rw [←hj0,hAd,hBd,oX,if_pos (by omega)];simp
   ·dsimp only;rw [hxa,hxb,HK];show A.length - (i+1)+ (B.length - j)<A.length - i+ (B.length - j);omega
  ·refine sb1.at_ Lw (by decide) (by decide) (by omega) fun u3 hu3=>?_
   refine hu3.kf sb1 (ws:= [.int .i64 (q.1:Int),s2]) b3 rfl ?_;refine adE fun v' qN =>?_;have HK:=qN.mu (n:=B.length - (j+1)) (by rw [aj1,pb.len];omega) (by decide);refine o.ej (sz:=2) (by decide) rfl rfl fun y H2 o2=>?_;refine o2.append (sz:=2) (v:=out) (x:=y) (n:=i+j) (m:=1) (by repeat(first|exact bu.here|apply bu.there)) rfl (o2.sl (by repeat(first|exact ajP|apply ajO))) BZ rfl (all_cons rfl (all_cons b4 rfl)) (by omega) fun v2 H3 o3=>?_;refine⟨⟨i,j+1,O++ [q],co++ [.int .i64 (q.1:Int),s2],by omega,by omega,sa,qN,o3.arr (by repeat(first|exact dV.nil|exact bu.here|apply dV.cons|apply bu.there)),po.app ⟨s2,[],rfl,⟨b4,b5,b6⟩,rfl⟩,by rw [ajQ,YG,alf];omega,?_,?_⟩,?_⟩
   ·intro s hs
    rcases akg.1 hs with hs|hs
    ·exact lf s hs
    ·simp at hs
     rcases hs with rfl|rfl
     ·exact .inr (A7 _ _ _ (akK b1))
     ·exact .inr (A7 _ _ _ (akK b2))
   ·rw [←hj0,hAd,hBd,oX,if_neg (by omega)];simp
   ·dsimp only;rw [hxa,hxb,HK];show A.length - i+ (B.length - (j+1))<A.length - i+ (B.length - j);omega
 ·rw [decide_eq_false (by omega)]
  rw [fH];intro _;rw [ao];exact M6 H1 (Ext.refl _) rfl (.inl (by omega))
end
section
set_option maxHeartbeats 4000000
set_option maxRecDepth 100000
variable [Go.Vc.Mode] (H0:ak) (R:Value→ak→Prop)
def mZ.an:cF:= (.seq (.aq (ae 0 2 .nil)) (.seq (.aq (ae 0 7 .nil)) (.seq (.seq (.aq (ae 0 2 .nil)) (.cond (.seq (.aq (ae 0 3 .nil)) .leaf) .leaf)) (.seq (.aq (ae 0 8 .nil)) (.seq (.aq (ae 0 7 .nil)) (.seq (.aq (ae 0 5 .nil)) .leaf))))))
def mZ.res (s0 gL:Value):Prop:=
 ab Tryz.prog 267 #[gL] H0 fun cx a_=>
 av 0 cx fun cj=>
 av 1 cx fun cS=>
 ld 0 cS (.int .i64 0) fun c_=>
 ar c_
 (R (.tuple #[(str []),cS]) a_)
 (ab Tryz.prog 268 #[cj,s0] a_ fun db bf=>
 av 0 db fun cX=>
 av 1 db fun dq=>
 ab Tryz.prog 269 #[cj] bf fun dK aO=>
 av 0 dK fun dt=>
 av 1 dK fun cU=>
 aK cX dt fun dY=>
 R (.tuple #[dY,(.int .i64 0)]) aO)
theorem mZ.vc (s0 gL:Value) (h:mZ.res H0 R s0 gL):ab Tryz.prog 239 #[s0,gL] H0 R:=Tryz.vc mZ.an Tryz.func239 (by kernel_rfl) (by kernel_rfl) h
def nb.an:cF:= (.seq (.aq (ae 0 2 .nil)) (.seq (.seq (.aq (ae 0 3 (.dQ 2 (ae 3 2 .nil) 5 .nil))) (.cond (.seq (.aq (ae 0 2 .nil)) .leaf) .leaf)) (.seq (.aq (ae 0 5 .nil)) .leaf)))
def nb.res (zK:Value):Prop:=
 ec zK (.int .i64 0) fun x5=>
 lk x5 (fun jd=>
 ka zK (.int .i64 9) fun x8=>
 jd x8 H0) H0 fun x9 bf=> ∀_:Env,
 ar x9
 (R (.tuple #[(.pointer none),(.int .i64 1)]) bf)
 (aZ [(.int .i64 0),(str []),(str []),(.slice none 0 0),(.int .u64 0),(.int .i64 0),(.bool false)] [(0,1,zK)] fun cf=>
 cd bf 367 cf fun cJ aO=>
 R (.tuple #[cJ,(.int .i64 0)]) aO)
theorem nb.vc (zK:Value) (h:nb.res H0 R zK):ab Tryz.prog 267 #[zK] H0 R:=Tryz.vc nb.an Tryz.func267 (by kernel_rfl) (by kernel_rfl) h
def eS.an:cF:= (.seq (.aq (ae 0 2 .nil)) (.seq (.block (.seq (.aq (ae 0 3 .nil)) (.cond (.seq (.aq (ae 0 2 .nil)) .leaf) (.seq (.aq (ae 0 5 .nil)) (.cond (.seq (.aq (ae 0 2 .nil)) .leaf) .leaf))))) (.seq (.aq (ae 0 9 .nil)) (.seq (.block (.loop [] (ef 22 8 []) (.seq (.seq (.aq (ae 0 6 .nil)) (.cond .leaf .leaf)) (.block (.aq (ae 0 2 .nil)))))) (.seq (.aq (ae 0 6 .nil)) .leaf)))))
def eS.res (x0 s1:Value):Prop:=
 eA 3 x0 (.pointer none) fun x8=>
 ar x8
 (R (.tuple #[(str []),(.int .i64 1)]) H0)
 (aB x0 fun cf=>
 aa 6 cf fun cJ=>
 al H0 cJ fun cQ=>
 ar cQ
 (R (.tuple #[(str []),(.int .i64 16)]) H0)
 (aB x0 fun cj=>
 aa 2 cj fun cS=>
 al H0 cS fun cN=>
 aK cN s1 fun dj=>
 aB x0 fun cT=>
 aa 2 cT fun dG=>
 aE H0 dG dj fun _ a_=>
 ∃ (rA:ak→Prop) (tU:ak→Nat),rA a_∧
 ∀_:Env,∀bn:ak,rA bn→
 aB x0 fun db=>
 aa 2 db fun cX=>
 al bn cX fun dq=>
 bc dq fun cZ=>
 ka cZ (.int .i64 16384) fun c8=>
 ar c8
 (ab Tryz.prog 284 #[x0,(.int .i64 16384),(.bool false)] bn fun dt br=>
 rA br∧tU br<tU bn)
 (aB x0 fun dX=>
 aa 3 dX fun eo=>
 ab Tryz.prog 72 #[eo] bn fun dY cm=>
 R (.tuple #[dY,(.int .i64 0)]) cm)))
theorem eS.vc (x0 s1:Value) (h:eS.res H0 R x0 s1):ab Tryz.prog 268 #[x0,s1] H0 R:=Tryz.vc eS.an Tryz.func268 (by kernel_rfl) (by kernel_rfl) h
def eT.an:cF:= (.seq (.aq (ae 0 2 .nil)) (.seq (.block (.seq (.aq (ae 0 3 .nil)) (.cond (.seq (.aq (ae 0 2 .nil)) .leaf) (.seq (.aq (ae 0 5 .nil)) (.cond (.seq (.aq (ae 0 2 .nil)) .leaf) .leaf))))) (.seq (.aq (ae 0 4 .nil)) (.seq (.aq (ae 0 7 .nil)) (.seq (.aq (ae 0 4 .nil)) (.seq (.aq (ae 0 6 .nil)) .leaf))))))
def eT.res (x0:Value):Prop:=
 eA 3 x0 (.pointer none) fun x6=>
 ar x6
 (R (.tuple #[(str []),(.int .i64 1)]) H0)
 (aB x0 fun x9=>
 aa 6 x9 fun cI=>
 al H0 cI fun cf=>
 ar cf
 (R (.tuple #[(str []),(.int .i64 16)]) H0)
 (aB x0 fun cQ=>
 aa 6 cQ fun cx=>
 aE H0 cx (.bool true) fun _ a_=>
 aB x0 fun cN=>
 aa 2 cN fun c_=>
 al a_ c_ fun dj=>
 bc dj fun cT=>
 ab Tryz.prog 284 #[x0,cT,(.bool true)] a_ fun dG bf=>
 aB x0 fun db=>
 aa 3 db fun cX=>
 ab Tryz.prog 70 #[cX] bf fun dq aO=>
 aB x0 fun c8=>
 aa 3 c8 fun dK=>
 ab Tryz.prog 72 #[dK] aO fun dt bn=>
 R (.tuple #[dt,(.int .i64 0)]) bn))
theorem eT.vc (x0:Value) (h:eT.res H0 R x0):ab Tryz.prog 269 #[x0] H0 R:=Tryz.vc eT.an Tryz.func269 (by kernel_rfl) (by kernel_rfl) h
def eU.an:cF:= (.seq (.aq (ae 0 7 .nil)) (.seq (.aq (ae 0 10 .nil)) (.seq (.iG [0,1,3,7,0,0,32,96,224,511,1023,2047,2047,4095,16383] (ae 0 15 .nil)) (.seq (.aq (.op 0 [] .nil)) (.cut [9] (9:: (ef 38 8 [])) (.seq (.aq (ae 0 5 .nil)) (.cond (.aq (ae 0 4 .nil)) .leaf)) (.seq (.aq (ae 0 8 .nil)) (.seq (.aq (ae 0 9 .nil)) (.iG [0,0,2,6,14,0,32,96,224,480,992,2016,4094,8191,16383,32767] (ae 0 16 .nil)))))))))
def eU.res (x0 n1 qy:Value):Prop:=
 aB x0 fun cf=>
 aa 2 cf fun cJ=>
 al H0 cJ fun cQ=>
 bt cQ none (some n1) fun cj=>
 aB x0 fun c_=>
 aa 2 c_ fun dj=>
 al H0 dj fun cT=>
 bt cT (some n1) none fun da=>
 aB x0 fun db=>
 aa 2 db fun cX=>
 aE H0 cX da fun _ a_=>
 aB x0 fun c8=>
 aa 1 c8 fun dK=>
 al a_ dK fun dt=>
 aB x0 fun eo=>
 aa 0 eo fun dY=>
 al a_ dY fun fF=>
 ab Tryz.prog 305 #[dt,cj,fF] a_ fun fD bf=>
 av 0 fD fun gJ=>
 av 1 fD fun im=>
 ∃tT:Value→ak→Prop,(∀_:Env,∀VB:Value,∀bn:ak,tT VB bn→
 aB x0 fun lp=>
 aa 3 lp fun pM=>
 ab Tryz.prog 69 #[pM,VB,qy,cj,gJ] bn fun om br=>
 aB x0 fun nY=>
 aa 1 nY fun tS=>
 al br tS fun lC=>
 aK lC cj fun pN=>
 aB x0 fun rZ=>
 aa 1 rZ fun oo=>
 aE br oo pN fun _ cm=>
 aB x0 fun pO=>
 aa 1 pO fun te=>
 al cm te fun qx=>
 aB x0 fun vk=>
 aa 1 vk fun ub=>
 al cm ub fun uW=>
 bc uW fun uc=>
 dJ uc (.int .i64 32768) fun xX=>
 J7 xX (.int .i64 0) fun wL=>
 bt qx (some wL) none fun zg=>
 aB x0 fun Bc=>
 aa 1 Bc fun DX=>
 aE cm DX zg fun _ cq=>
 R (.tuple #[]) cq)∧
 aB x0 fun jJ=>
 aa 0 jJ fun jK=>
 al bf jK fun jj=>
 ka jj (.int .i64 0) fun iV=>
 ar iV
 (ab Tryz.prog 306 #[cj,gJ] bf fun kc cG=>
 tT kc cG)
 (tT (.int .i64 0) bf)
theorem eU.vc (x0 n1 qy:Value) (h:eU.res H0 R x0 n1 qy):ab Tryz.prog 284 #[x0,n1,qy] H0 R:=Tryz.vc eU.an Tryz.func284 (by kernel_rfl) (by kernel_rfl) h
def oZ.an:cF:= (.seq (.aq (.op 0 [] .nil)) (.seq (.aq (.op 0 [] .nil)) (.seq (.seq (.aq (ae 0 3 .nil)) (.block (.loop [8] (2:: (5:: (ef 8 9 []))) (.seq (.aq (.op 0 [] .nil)) (.seq (.cond .leaf .leaf) (.seq (.block (.seq (.aq (ae 0 3 .nil)) (.seq (.aq (ae 0 3 .nil)) (.cond (.seq (.aq (ae 0 2 .nil)) .leaf) .leaf)))) (.aq (ae 0 2 .nil)))))))) (.seq (.aq (ae 0 2 .nil)) .leaf))))
def oZ.res (IV:Value):Prop:=
 dh IV fun x7=>
 ∃ (ep:Value→ak→Prop) (fE:Value→ak→Nat),ep (.int .i64 0) H0∧
 ∀_:Env,∀x8:Value,∀aO:ak,ep x8 aO→
 ec x8 x7 fun x9=>
 ar x9
 (aN 1 IV x8 fun cI=>
 al aO cI fun cf=>
 ld 0 cf (.int .i64 0) fun cx=>
 ar cx
 (R cf aO)
 (aK x8 (.int .i64 1) fun cS=>
 ep cS aO∧fE cS aO<fE x8 aO))
 (R (.int .i64 0) aO)
theorem oZ.vc (IV:Value) (h:oZ.res H0 R IV):ab Tryz.prog 246 #[IV] H0 R:=Tryz.vc oZ.an Tryz.func246 (by kernel_rfl) (by kernel_rfl) h
def jx.an:cF:= (.seq (.aq (.op 0 [] .nil)) (.seq (.aq (ae 0 3 .nil)) (.seq (.aq (ae 0 3 .nil)) (.seq (.seq (.aq (.op 0 [] .nil)) (.cond (.seq (.seq (.aq (.op 0 [] .nil)) (.cond (.seq (.aq (.op 0 [] .nil)) .leaf) .leaf)) (.seq (.aq (.op 0 [] .nil)) .leaf)) .leaf)) (.seq (.seq (.aq (.op 0 [] .nil)) (.cond (.seq (.aq (.op 0 [] .nil)) .leaf) .leaf)) (.seq (.seq (.aq (ae 0 3 .nil)) (.cond (.seq (.aq (.op 0 [] .nil)) .leaf) .leaf)) (.seq (.seq (.aq (ae 0 3 .nil)) (.cond (.seq (.aq (.op 0 [] .nil)) .leaf) .leaf)) (.seq (.aq (.op 0 [] .nil)) .leaf))))))))
def jx.res (x0 y1:Value):Prop:=
 ab Tryz.prog 272 #[x0] H0 fun x8 a_=>
 ab Tryz.prog 272 #[y1] a_ fun cI bf=>
 ar x8
 (ar cI
 (R (.int .i64 0) bf)
 (R (.int .i64 (-1)) bf))
 (ar cI
 (R (.int .i64 1) bf)
 (ec x0 y1 fun cS=>
 ar cS
 (R (.int .i64 (-1)) bf)
 (ka x0 y1 fun dj=>
 ar dj
 (R (.int .i64 1) bf)
 (R (.int .i64 0) bf))))
theorem jx.vc (x0 y1:Value) (h:jx.res H0 R x0 y1):ab Tryz.prog 247 #[x0,y1] H0 R:=Tryz.vc jx.an Tryz.func247 (by kernel_rfl) (by kernel_rfl) h
def cmp_isNaN_int.an:cF:= (.seq (.aq (.op 0 [] .nil)) (.seq (.aq (ae 0 4 .nil)) .leaf))
def cmp_isNaN_int.res (x0:Value):Prop:=
 ld 0 x0 x0 fun x5=>
 R x5 H0
theorem cmp_isNaN_int.vc (x0:Value) (h:cmp_isNaN_int.res H0 R x0):ab Tryz.prog 272 #[x0] H0 R:=Tryz.vc cmp_isNaN_int.an Tryz.func272 (by kernel_rfl) (by kernel_rfl) h
def g_.an:cF:= (.seq (.aq (ae 0 3 .nil)) (.block (.loop [7] (4:: (ef 7 9 [])) (.seq (.aq (.op 0 [] .nil)) (.seq (.cond .leaf .leaf) (.seq (.block (.seq (.aq (ae 0 2 .nil)) (.aq (ae 0 5 .nil)))) (.aq (ae 0 2 .nil))))))))
def g_.res (w0 s1:Value):Prop:=
 bc s1 fun x6=>
 ∃ (ep:Value→ak→Prop) (fE:Value→ak→Nat),ep (.int .i64 0) H0∧
 ∀_:Env,∀x7:Value,∀aO:ak,ep x7 aO→
 ec x7 x6 fun x8=>
 ar x8
 (dc s1 x7 fun cQ=>
 ab Tryz.prog 257 #[w0,cQ] aO fun cx bn=>
 aK x7 (.int .i64 1) fun cj=>
 ep cj bn∧fE cj bn<fE x7 aO)
 (R (.tuple #[]) aO)
theorem g_.vc (w0 s1:Value) (h:g_.res H0 R w0 s1):ab Tryz.prog 253 #[w0,s1] H0 R:=Tryz.vc g_.an Tryz.func253 (by kernel_rfl) (by kernel_rfl) h
def h_.an:cF:= (.seq (.seq (.aq (ae 0 2 .nil)) (.cond .leaf .leaf)) (.cut [] (ef 6 27 []) (.seq (.aq (ae 0 6 .nil)) (.cond (.aq (ae 0 11 .nil)) (.iG [0,1,3,7,0,16,48,112,240,0,1023,2047] (ae 0 12 .nil)))) (.aq (ae 0 8 .nil))))
def h_.res (w0 b1:Value):Prop:=
 eA 3 w0 (.pointer none) fun x5=>
 ar x5
 (R (.tuple #[]) H0)
 (∃jd:ak→Prop,(∀_:Env,∀bf:ak,jd bf→
 aB w0 fun fF=>
 aa 1 fF fun fD=>
 al bf fD fun gJ=>
 aK gJ (.int .i64 1) fun im=>
 aB w0 fun iu=>
 aa 1 iu fun jJ=>
 aE bf jJ im fun _ aO=>
 R (.tuple #[]) aO)∧
 aB w0 fun x7=>
 aa 0 x7 fun x8=>
 al H0 x8 fun x9=>
 dh x9 fun cI=>
 ec cI (.int .i64 32768) fun cf=>
 ar cf
 (aB w0 fun cx=>
 aa 0 cx fun cj=>
 al H0 cj fun cS=>
 aX H0 5 1 [(.int .u8 0)] [(0,1,b1)] fun c_ bn=>
 bg bn 5 1 1 [(.int .u8 0)] cS c_ fun dj br=>
 aB w0 fun cT=>
 aa 0 cT fun dG=>
 aE br dG dj fun _ cm=>
 jd cm)
 (aB w0 fun db=>
 aa 0 db fun cX=>
 al H0 cX fun dq=>
 aB w0 fun c8=>
 aa 1 c8 fun dK=>
 al H0 dK fun dt=>
 uN dt (.int .i64 32768) fun cU=>
 aN 1 dq cU fun eo=>
 aE H0 eo b1 fun _ cq=>
 jd cq))
theorem h_.vc (w0 b1:Value) (h:h_.res H0 R w0 b1):ab Tryz.prog 257 #[w0,b1] H0 R:=Tryz.vc h_.an Tryz.func257 (by kernel_rfl) (by kernel_rfl) h
def ew.an:cF:= (.seq (.aq (ae 0 2 .nil)) (.seq (.seq (.aq (ae 0 3 (.dQ 2 (ae 3 2 .nil) 5 (.op 6 [] (.dQ 6 (ae 7 2 .nil) 9 (.op 10 [] (.dQ 10 (ae 11 4 .nil) 15 .nil))))))) (.cond (.seq (.aq (ae 0 2 .nil)) .leaf) .leaf)) (.seq (.aq (ae 0 3 .nil)) (.seq (.seq (.aq (ae 0 3 .nil)) (.block (.loop [30] (9:: (ef 30 19 [])) (.seq (.aq (.op 0 [] .nil)) (.seq (.cond .leaf .leaf) (.seq (.block (.seq (.aq (ae 0 2 .nil)) (.seq (.aq (ae 0 10 .nil)) (.aq (ae 0 6 .nil))))) (.aq (ae 0 2 .nil)))))))) (.seq (.aq (ae 0 4 .nil)) .leaf)))))
def ew.res (w0 n1 Ff:Value):Prop:=
 ec n1 (.int .i64 0) fun cf=>
 lk cf (fun jd=>
 ka n1 (.int .i64 258) fun cx=>
 jd cx H0) H0 fun cj bf=> ∀_:Env,
 lk cj (fun tT=>
 ec Ff (.int .i64 1) fun c_=>
 tT c_ bf) bf fun dj bn=> ∀_:Env,
 lk dj (fun zn=>
 ab Tryz.prog 299 #[w0] bn fun db cq=>
 ka Ff db fun cX=>
 zn cX cq) bn fun dq cm=> ∀_:Env,
 ar dq
 (R (.tuple #[(str []),(.bool false)]) cm)
 (gP cm 5 1 [(.int .u8 0)] n1 n1 fun c8 cG=>
 dh c8 fun dt=>
 ∃ (I_9:Value→ak→Prop) (Z8:Value→ak→Nat),I_9 (.int .i64 0) cG∧
 ∀_:Env,∀cU:Value,∀dD:ak,I_9 cU dD→
 ec cU dt fun dX=>
 ar dX
 (ab Tryz.prog 300 #[w0,Ff] dD fun iu bZ=>
 av 0 iu fun jJ=>
 av 1 iu fun jK=>
 aN 1 c8 cU fun jj=>
 aE bZ jj jJ fun _ cK=>
 aN 1 c8 cU fun kc=>
 al cK kc fun jQ=>
 ab Tryz.prog 257 #[w0,jQ] cK fun lp dT=>
 aK cU (.int .i64 1) fun pM=>
 I_9 pM dT∧Z8 pM dT<Z8 cU dD)
 (qi dD c8 fun qh=>
 R (.tuple #[qh,(.bool true)]) dD))
theorem ew.vc (w0 n1 Ff:Value) (h:ew.res H0 R w0 n1 Ff):ab Tryz.prog 281 #[w0,n1,Ff] H0 R:=Tryz.vc ew.an Tryz.func281 (by kernel_rfl) (by kernel_rfl) h
def ia.an:cF:= (.seq (.aq (.op 0 [] .nil)) (.seq (.seq (.aq (ae 0 2 .nil)) (.cond (.seq (.aq (.op 0 [] .nil)) .leaf) .leaf)) (.seq (.aq (ae 0 6 .nil)) .leaf)))
def ia.res (w0:Value):Prop:=
 eA 3 w0 (.pointer none) fun x4=>
 ar x4
 (R (.int .i64 0) H0)
 (aB w0 fun x6=>
 aa 0 x6 fun x7=>
 al H0 x7 fun x8=>
 dh x8 fun x9=>
 R x9 H0)
theorem ia.vc (w0:Value) (h:ia.res H0 R w0):ab Tryz.prog 299 #[w0] H0 R:=Tryz.vc ia.an Tryz.func299 (by kernel_rfl) (by kernel_rfl) h
def gz.an:cF:= (.seq (.aq (ae 0 2 .nil)) (.seq (.seq (.aq (ae 0 3 (.dQ 2 (ae 3 4 .nil) 7 .nil))) (.cond (.seq (.aq (ae 0 2 .nil)) .leaf) .leaf)) (.seq (.iG [0,1,3,7,0,16,48,112,0,496,1008,2047,4095,8191,16383] (ae 0 15 .nil)) .leaf)))
def gz.res (w0 Fg:Value):Prop:=
 ec Fg (.int .i64 1) fun x7=>
 lk x7 (fun jd=>
 ab Tryz.prog 299 #[w0] H0 fun cf aO=>
 ka Fg cf fun cJ=>
 jd cJ aO) H0 fun cQ bf=> ∀_:Env,
 ar cQ
 (R (.tuple #[(.int .u8 0),(.bool false)]) bf)
 (aB w0 fun cj=>
 aa 0 cj fun cS=>
 al bf cS fun cN=>
 aB w0 fun dj=>
 aa 1 dj fun cT=>
 al bf cT fun dG=>
 dJ dG Fg fun db=>
 uN db (.int .i64 32768) fun cX=>
 aN 1 cN cX fun dq=>
 al bf dq fun cZ=>
 R (.tuple #[cZ,(.bool true)]) bf)
theorem gz.vc (w0 Fg:Value) (h:gz.res H0 R w0 Fg):ab Tryz.prog 300 #[w0,Fg] H0 R:=Tryz.vc gz.an Tryz.func300 (by kernel_rfl) (by kernel_rfl) h
def l9.an:cF:= (.seq (.aq (ae 0 2 .nil)) (.seq (.block (.seq (.aq (ae 0 3 (.dQ 2 (ae 3 2 .nil) 5 (.op 6 [] .nil)))) (.cond (.seq (.aq (ae 0 2 .nil)) .leaf) (.seq (.aq (ae 0 3 .nil)) (.cond (.seq (.aq (ae 0 4 .nil)) (.seq (.seq (.aq (ae 0 3 .nil)) (.block (.loop [25] (9:: (ef 25 11 [])) (.seq (.aq (.op 0 [] .nil)) (.seq (.cond .leaf .leaf) (.seq (.block (.seq (.aq (ae 0 2 .nil)) (.aq (ae 0 8 .nil)))) (.aq (ae 0 2 .nil)))))))) (.seq (.aq (ae 0 3 .nil)) .leaf))) .leaf))))) (.seq (.aq (ae 0 11 .nil)) .leaf)))
def l9.res (sK s1 nR:Value):Prop:=
 ec nR (.int .i64 0) fun cJ=>
 lk cJ (fun jd=>
 ka nR (.int .i64 9) fun cj=>
 jd cj H0) H0 fun cS bf=> ∀_:Env,
 ar cS
 (R (.tuple #[(.slice none 0 0),(.int .i64 1)]) bf)
 (eA 0 nR (.int .i64 0) fun dj=>
 ar dj
 (bc s1 fun dG=>
 gP bf 145 24 [(.int .u8 0),(.int .i64 0),(.int .i64 0)] dG dG fun da aO=>
 dh da fun cX=>
 ∃ (yU:Value→ak→Prop) (DV:Value→ak→Nat),yU (.int .i64 0) aO∧
 ∀_:Env,∀dq:Value,∀cm:ak,yU dq cm→
 ec dq cX fun cZ=>
 ar cZ
 (dc s1 dq fun eo=>
 aN 3 da dq fun dY=>
 aa 0 dY fun fF=>
 aE cm fF eo fun _ cq=>
 aK dq (.int .i64 1) fun fD=>
 yU fD cq∧DV fD cq<DV dq cm)
 (R (.tuple #[da,(.int .i64 0)]) cm))
 (gO 10 1 (.pointer (some ⟨5,0,none⟩)) nR fun jK=>
 al bf jK fun jj=>
 ab Tryz.prog 315 #[sK,s1,jj] bf fun iV cG=>
 rS nR (.int .i64 4) fun jk=>
 ab Tryz.prog 316 #[iV,jk] cG fun kc eI=>
 R (.tuple #[kc,(.int .i64 0)]) eI))
theorem l9.vc (sK s1 nR:Value) (h:l9.res H0 R sK s1 nR):ab Tryz.prog 305 #[sK,s1,nR] H0 R:=Tryz.vc l9.an Tryz.func305 (by kernel_rfl) (by kernel_rfl) h
def jy.an:cF:= (.seq (.aq (.op 0 [] .nil)) (.seq (.aq (ae 0 7 .nil)) (.seq (.aq (ae 0 10 .nil)) (.seq (.aq (ae 0 10 .nil)) (.seq (.seq (.aq (ae 0 3 .nil)) (.block (.loop [35] (8:: (ef 35 7 [])) (.seq (.aq (.op 0 [] .nil)) (.seq (.cond .leaf .leaf) (.seq (.block (.seq (.aq (ae 0 2 .nil)) (.aq (ae 0 3 .nil)))) (.aq (ae 0 2 .nil)))))))) (.seq (.aq (ae 0 2 .nil)) .leaf))))))
def jy.res (sK s1 Gx:Value):Prop:=
 bc sK fun cf=>
 dJ cf (.int .i64 32768) fun cJ=>
 J7 cJ (.int .i64 0) fun cQ=>
 bt sK (some cQ) none fun cx=>
 aK cx s1 fun cN=>
 bc cx fun dj=>
 uY H0 fun cT a_=>
 aZ [(str []),(.int .i64 0),(.map none),(.slice none 0 0),(.int .i64 0)] [(0,1,cN),(1,1,dj),(2,1,cT),(4,1,Gx)] fun da=>
 cd a_ 406 da fun db bf=>
 aB db fun cZ=>
 aa 0 cZ fun c8=>
 al bf c8 fun dK=>
 bc dK fun dt=>
 gP bf 3 8 [(.int .i64 0)] dt dt fun cU aO=>
 aB db fun dX=>
 aa 3 dX fun eo=>
 aE aO eo cU fun _ bn=>
 bc cx fun fF=>
 ∃ (PN:Value→ak→Prop) (Th:Value→ak→Nat),PN (.int .i64 0) bn∧
 ∀_:Env,∀fD:Value,∀cq:ak,PN fD cq→
 ec fD fF fun gJ=>
 ar gJ
 (ab Tryz.prog 319 #[db,fD] cq fun jK cG=>
 aK fD (.int .i64 1) fun jj=>
 PN jj cG∧Th jj cG<Th fD cq)
 (R db cq)
theorem jy.vc (sK s1 Gx:Value) (h:jy.res H0 R sK s1 Gx):ab Tryz.prog 315 #[sK,s1,Gx] H0 R:=Tryz.vc jy.an Tryz.func315 (by kernel_rfl) (by kernel_rfl) h
def fP.an:cF:= (.seq (.aq (.op 0 [] .nil)) (.seq (.aq (.op 0 [] .nil)) (.seq .leaf (.seq (.seq (.aq (ae 0 5 .nil)) (.block (.loop [5,6] (ef 5 6 (ef 15 67 [])) (.seq (.seq (.aq (ae 0 7 .nil)) (.cond .leaf .leaf)) (.block (.seq (.aq (ae 0 8 .nil)) (.seq (.aq (ae 0 3 .nil)) (.cut [7] (7:: (9:: (10:: (ef 31 19 [])))) (.seq (.aq (ae 0 3 (.dQ 2 (.op 3 [] .nil) 4 (.op 5 [] (.dQ 5 (ae 6 2 .nil) 8 .nil))))) (.cond (.seq (.aq (ae 0 9 .nil)) (.seq (.aq (ae 0 3 .nil)) (.cond (.aq (.op 0 [] .nil)) .leaf))) .leaf)) (.seq (.seq (.aq (ae 0 2 .nil)) (.cond (.seq (.aq (ae 0 11 .nil)) (.seq (.aq (ae 0 3 .nil)) .leaf)) .leaf)) (.seq (.aq (ae 0 7 .nil)) (.seq (.seq (.aq (ae 0 3 .nil)) (.block (.loop [6,72] (6:: (ef 72 8 [])) (.seq (.aq (.op 0 [] .nil)) (.seq (.cond .leaf .leaf) (.seq (.block (.seq (.aq (ae 0 3 .nil)) (.aq (ae 0 3 .nil)))) (.aq (ae 0 2 .nil)))))))) (.aq (ae 0 3 .nil))))))))))))) (.seq (.aq (ae 0 2 .nil)) .leaf)))))
def fP.res (f0 M8:Value):Prop:=
 aB f0 fun cJ=>
 aa 1 cJ fun cQ=>
 al H0 cQ fun cx=>
 ∃ (ep:Value→Value→ak→Prop) (fE:Value→Value→ak→Nat),ep (.slice none 0 0) cx H0∧
 ∀_:Env,∀uP:Value,∀i6:Value,∀aO:ak,ep uP i6 aO→
 aB f0 fun cN=>
 aa 0 cN fun c_=>
 al aO c_ fun dj=>
 bc dj fun cT=>
 ec i6 cT fun dG=>
 ar dG
 (ab Tryz.prog 320 #[f0,i6] aO fun dq bn=>
 av 0 dq fun cZ=>
 av 1 dq fun c8=>
 ab Tryz.prog 319 #[f0,i6] bn fun cU br=>
 ∃qH:Value→ak→Prop,(∀_:Env,∀n7:Value,∀cq:ak,qH n7 cq→
 eA 0 n7 (.int .i64 0) fun oh=>
 ar oh
 (aB f0 fun nt=>
 aa 0 nt fun nY=>
 al cq nY fun tS=>
 dc tS i6 fun qp=>
 aZ [(.int .u8 0),(.int .i64 0),(.int .i64 0)] [(0,1,qp)] fun pN=>
 aX cq 145 1 [(.int .u8 0),(.int .i64 0),(.int .i64 0)] [(0,3,pN)] fun rZ cG=>
 bg cG 145 3 24 [(.int .u8 0),(.int .i64 0),(.int .i64 0)] uP rZ fun oo eI=>
 aK i6 (.int .i64 1) fun td=>
 ep oo td eI∧fE oo td eI<fE uP i6 aO)
 (aZ [(.int .u8 0),(.int .i64 0),(.int .i64 0)] [(1,1,n7),(2,1,c8)] fun sE=>
 aX cq 145 1 [(.int .u8 0),(.int .i64 0),(.int .i64 0)] [(0,3,sE)] fun vk bI=>
 bg bI 145 3 24 [(.int .u8 0),(.int .i64 0),(.int .i64 0)] uP vk fun ub dD=>
 dJ n7 (.int .i64 1) fun uc=>
 ∃ (KO:Value→Value→ak→Prop) (QV:Value→Value→ak→Nat),KO i6 (.int .i64 0) dD∧
 ∀_:Env,∀i6' :Value,∀xX:Value,∀dT:ak,KO i6' xX dT→
 ec xX uc fun wL=>
 ar wL
 (aK i6' (.int .i64 1) fun Bc=>
 ab Tryz.prog 319 #[f0,Bc] dT fun A8 dw=>
 aK xX (.int .i64 1) fun uV=>
 KO Bc uV dw∧QV Bc uV dw<QV i6' xX dT)
 (aK i6' (.int .i64 1) fun A9=>
 ep ub A9 dT∧fE ub A9 dT<fE uP i6 aO)))∧
 ka cZ (.int .i64 0) fun eo=>
 dC eo (fun Xq=>
 Xq M8 br) br fun fD gN=> ∀_:Env,
 dC fD (fun TZ=>
 ec cZ (.int .i64 258) fun iu=>
 TZ iu gN) gN fun jJ fX=> ∀_:Env,
 ar jJ
 (aK i6 (.int .i64 1) fun ln=>
 ab Tryz.prog 320 #[f0,ln] fX fun jk iB=>
 av 0 jk fun kc=>
 av 1 jk fun jQ=>
 ka kc cZ fun nr=>
 ar nr
 (qH (.int .i64 0) iB)
 (qH cZ iB))
 (qH cZ fX))
 (R uP aO)
theorem fP.vc (f0 M8:Value) (h:fP.res H0 R f0 M8):ab Tryz.prog 316 #[f0,M8] H0 R:=Tryz.vc fP.an Tryz.func316 (by kernel_rfl) (by kernel_rfl) h
def gA.an:cF:= (.seq (.seq (.aq (ae 0 8 .nil)) (.cond .leaf .leaf)) (.seq (.aq (ae 0 4 .nil)) (.seq (.iG [0,1,3,7,0,0,32,96,224,0,992,2047,4095] (ae 0 13 .nil)) (.aq (ae 0 8 .nil)))))
def gA.res (f0 i1:Value):Prop:=
 aK i1 (.int .i64 3) fun x6=>
 aB f0 fun x8=>
 aa 0 x8 fun x9=>
 al H0 x9 fun cI=>
 bc cI fun cf=>
 ka x6 cf fun cJ=>
 ar cJ
 (R (.tuple #[]) H0)
 (ab Tryz.prog 322 #[f0,i1] H0 fun cj a_=>
 aB f0 fun cN=>
 aa 3 cN fun c_=>
 al a_ c_ fun dj=>
 aB f0 fun da=>
 aa 2 da fun db=>
 al a_ db fun cX=>
 mE a_ 0 (.int .i64 0) false cX cj fun cZ=>
 aN 1 dj i1 fun c8=>
 aE a_ c8 cZ fun _ bf=>
 aB f0 fun dt=>
 aa 2 dt fun cU=>
 al bf cU fun dX=>
 aK i1 (.int .i64 1) fun fF=>
 nA bf 0 dX cj fF fun _ aO=>
 R (.tuple #[]) aO)
theorem gA.vc (f0 i1:Value) (h:gA.res H0 R f0 i1):ab Tryz.prog 319 #[f0,i1] H0 R:=Tryz.vc gA.an Tryz.func319 (by kernel_rfl) (by kernel_rfl) h
def fx.an:cF:= (.seq (.aq (ae 0 2 .nil)) (.seq (.seq (.aq (ae 0 8 .nil)) (.cond (.seq (.aq (ae 0 2 .nil)) .leaf) .leaf)) (.seq (.aq (ae 0 2 .nil)) (.seq (.iG [0,1,3,7,0,0,48,127,255] (ae 0 6 (.op 6 [3] (ae 7 2 .nil)))) (.cut [6,7] (ef 6 5 (ef 27 42 [])) (.seq (.aq (.op 0 [] .nil)) (.block (.loop (ef 6 4 []) (ef 6 5 (ef 27 42 [])) (.seq (.seq (.aq (ae 0 3 (.dQ 2 (ae 3 6 .nil) 9 (.op 10 [] (.dQ 10 (ae 11 5 .nil) 16 .nil))))) (.cond .leaf .leaf)) (.seq (.block (.cut [6,7] (6:: (7:: (10:: (ef 46 13 [])))) (.seq (.aq (ae 0 6 .nil)) (.seq (.aq (ae 0 3 .nil)) (.cond (.aq (ae 0 7 .nil)) .leaf))) (.seq (.seq (.aq (ae 0 2 .nil)) (.cond .leaf .leaf)) (.aq (ae 0 9 .nil))))) (.aq (ae 0 3 .nil))))))) (.seq (.seq (.aq (ae 0 2 .nil)) (.cond (.seq (.aq (ae 0 2 .nil)) .leaf) .leaf)) (.seq (.aq (ae 0 4 .nil)) .leaf)))))))
def fx.res (f0 i1:Value):Prop:=
 aK i1 (.int .i64 3) fun cJ=>
 aB f0 fun cx=>
 aa 0 cx fun cj=>
 al H0 cj fun cS=>
 bc cS fun cN=>
 ka cJ cN fun c_=>
 ar c_
 (R (.tuple #[(.int .i64 0),(.int .i64 0)]) H0)
 (aB f0 fun cT=>
 aa 2 cT fun dG=>
 al H0 dG fun da=>
 ab Tryz.prog 322 #[f0,i1] H0 fun dq a_=>
 (al a_ dG fun r_=>
 r_=da)∧
 mE a_ 0 (.int .i64 0) false da dq fun cZ=>
 ∃uG:Value→Value→ak→Prop,(∀_:Env,∀RO:Value,∀VC:Value,∀aO:ak,uG RO VC aO→
 ec RO (.int .i64 3) fun uW=>
 ar uW
 (R (.tuple #[(.int .i64 0),(.int .i64 0)]) aO)
 (R (.tuple #[RO,VC]) aO))∧
 ∃ (yU:Value→Value→Value→Value→ak→Prop) (DV:Value→Value→Value→Value→ak→Nat),yU (.int .i64 0) (.int .i64 0) cZ (.int .i64 0) a_∧
 ∀_:Env,∀C5 :Value,∀Gy :Value,∀k8:Value,∀n9:Value,∀cm:ak,yU C5 Gy k8 n9 cm→
 ka k8 (.int .i64 0) fun dK=>
 dC dK (fun wE=>
 aB f0 fun eo=>
 aa 4 eo fun dY=>
 al cm dY fun fF=>
 ec n9 fF fun fD=>
 wE fD cm) cm fun gJ cG=> ∀_:Env,
 dC gJ (fun F3=>
 dJ k8 (.int .i64 1) fun jK=>
 dJ i1 jK fun jj=>
 z_ jj (.int .i64 32768) fun iV=>
 F3 iV cG) cG fun ln bI=> ∀_:Env,
 ar ln
 (∃rq:Value→Value→ak→Prop,(∀_:Env,∀yA :Value,∀Bz :Value,∀bZ:ak,rq yA Bz bZ→
 eA 0 yA (.int .i64 258) fun rZ=>
 ar rZ
 (uG yA Bz bZ)
 (aB f0 fun qG=>
 aa 3 qG fun td=>
 al bZ td fun pO=>
 dJ k8 (.int .i64 1) fun qx=>
 aN 1 pO qx fun sE=>
 al bZ sE fun vk=>
 aK n9 (.int .i64 1) fun kc=>
 yU yA Bz vk kc bZ∧DV yA Bz vk kc bZ<DV C5 Gy k8 n9 cm))∧
 dJ k8 (.int .i64 1) fun pM=>
 ab Tryz.prog 323 #[f0,pM,i1] bI fun qh cK=>
 ka qh C5 fun om=>
 ar om
 (dJ k8 (.int .i64 1) fun lC=>
 dJ i1 lC fun qp=>
 rq qh qp cK)
 (rq C5 Gy cK))
 (uG C5 Gy bI))
theorem fx.vc (f0 i1:Value) (h:fx.res H0 R f0 i1):ab Tryz.prog 320 #[f0,i1] H0 R:=Tryz.vc fx.an Tryz.func320 (by kernel_rfl) (by kernel_rfl) h
def ib.an:cF:= (.seq (.aq (.op 0 [] .nil)) (.seq (.aq (ae 0 5 .nil)) (.seq (.iG [0,0,3,7,15,0,0,64,224,480,992,2047,0,0,8192,28672,61440,131071,262143,524287] (ae 0 20 .nil)) .leaf)))
def ib.res (f0 i1:Value):Prop:=
 aB f0 fun x7=>
 aa 0 x7 fun x8=>
 al H0 x8 fun x9=>
 dc x9 i1 fun cJ=>
 cA .i64 cJ fun cQ=>
 ou cQ (.int .u64 10) fun cx=>
 aK i1 (.int .i64 1) fun cN=>
 dc x9 cN fun c_=>
 cA .i64 c_ fun dj=>
 ou dj (.int .u64 5) fun cT=>
 dR .xor cx cT fun dG=>
 aK i1 (.int .i64 2) fun cX=>
 dc x9 cX fun dq=>
 cA .i64 dq fun cZ=>
 dR .xor dG cZ fun c8=>
 dR .and c8 (.int .i64 32767) fun dK=>
 R dK H0
theorem ib.vc (f0 i1:Value) (h:ib.res H0 R f0 i1):ab Tryz.prog 322 #[f0,i1] H0 R:=Tryz.vc ib.an Tryz.func322 (by kernel_rfl) (by kernel_rfl) h
def fQ.an:cF:= (.seq (.aq (.op 0 [] .nil)) (.seq (.aq (ae 0 9 .nil)) (.seq (.aq (.op 0 [] .nil)) (.seq (.block (.loop [8] (8:: (ef 17 24 [])) (.seq (.seq (.iG [0,0,3,7,15,31,63,127,15,15,783,2047,15,4111,12303,28687,15,15,196623,520207,1048575,2097151] (ae 0 4 (.dQ 3 (ae 4 17 .nil) 21 .nil))) (.cond .leaf .leaf)) (.block (.aq (ae 0 3 .nil)))))) (.seq (.aq (ae 0 2 .nil)) .leaf)))))
def fQ.res (f0 k1 i2:Value):Prop:=
 aB f0 fun cI=>
 aa 0 cI fun cf=>
 al H0 cf fun cJ=>
 bc cJ fun cQ=>
 dJ cQ i2 fun cj=>
 np (.int .i64 258) cj fun cS=>
 ∃ (ep:Value→ak→Prop) (fE:Value→ak→Nat),ep (.int .i64 0) H0∧
 ∀_:Env,∀n8:Value,∀aO:ak,ep n8 aO→
 ec n8 cS fun dj=>
 dC dj (fun qg=>
 aB f0 fun da=>
 aa 0 da fun db=>
 al aO db fun cX=>
 aK k1 n8 fun c8=>
 dc cX c8 fun dK=>
 aB f0 fun cU=>
 aa 0 cU fun dX=>
 al aO dX fun eo=>
 aK i2 n8 fun fD=>
 dc eo fD fun gJ=>
 eA 0 dK gJ fun im=>
 qg im aO) aO fun iu br=> ∀_:Env,
 ar iu
 (aK n8 (.int .i64 1) fun jK=>
 ep jK br∧fE jK br<fE n8 aO)
 (R n8 br)
theorem fQ.vc (f0 k1 i2:Value) (h:fQ.res H0 R f0 k1 i2):ab Tryz.prog 323 #[f0,k1,i2] H0 R:=Tryz.vc fQ.an Tryz.func323 (by kernel_rfl) (by kernel_rfl) h
end
section
set_option maxRecDepth 100000
variable {H H0 H' :ak} {R:Value→ak→Prop} {v:Value} {L:List It} {zs:List Int}
def wG (a b:Int):Int:=if a<b then -1 else if b<a then 1 else 0
def Xr:List Int→Int
 | []=>0
 |z::l=>if z≠0 then z else Xr l
def Gz (zs:List Int) (a b:Nat):Int:=Xr [wG (zs.getD a 0) (zs.getD b 0),wG (b:Nat) (a:Nat)]
theorem C6 [Go.Vc.Mode] {a:Int} (h:R (.bool false) H):ab Tryz.prog 272 #[.int .i64 a] H R:=by
 refine cmp_isNaN_int.vc _ _ _ ?_;unfold cmp_isNaN_int.res;rw [mP,decide_eq_false (by simp)];exact h
theorem yB [Go.Vc.Mode] {a b:Int} (h:R (.int .i64 (wG a b)) H):ab Tryz.prog 247 #[.int .i64 a,.int .i64 b] H R:=by
 refine jx.vc _ _ _ _ ?_;unfold jx.res;refine C6 ?_;refine C6 ?_;rw [ao,ao,aQ];unfold wG at h;refine ax (fun h1=>?_) (fun h1=>?_)
 ·rw [if_pos h1] at h;exact h
 ·rw [if_neg h1] at h
  rw [bU];refine ax (fun h2=>?_) (fun h2=>?_)
  ·rw [if_pos h2] at h;exact h
  ·rw [if_neg h2] at h;exact h
theorem UC [Go.Vc.Mode] {l:List Int} (hs:Sl H v 1 (aM l)) (hl:l.length≤1000) (h:R (.int .i64 (Xr l)) H):ab Tryz.prog 246 #[v] H R:=by
 have iv: (aM l).length=l.length*1:=by rw [aS];omega
 refine oZ.vc _ _ _ ?_;unfold oZ.res;refine hs.len iv (by decide) ?_;refine⟨fun i H' => ∃k:Nat,i= .int .i64 k∧k≤l.length∧Xr l=Xr (l.drop k)∧H=H',fun i _=>match i with| .int _ x=> (l.length - x).toNat|_=>0,⟨0,rfl,by omega,rfl,rfl⟩,?_⟩;rintro _ _ _ ⟨k,rfl,hk,ho,rfl⟩;rw [aQ];refine ax (fun hc=>?_) (fun hc=>?_)
 ·have jR:k<l.length:=by omega
  refine hs.at_ iv (by decide) (by omega) (by omega) fun p hp=>?_;refine hp.load hs (w:= .int .i64 l[k]) (by rw [ajS,aj0,dE jR]) ?_;rw [akN jR,Xr] at ho;rw [mP];refine fI (fun hb=>?_) (fun hb=>?_)
  ·rw [if_pos (by simpa using hb)] at ho
   rw [ho] at h;exact h
  ·rw [if_neg (by simpa using hb)] at ho
   rw [aC,bH (by omega) (by omega)];exact⟨⟨k+1,rfl,by omega,ho,rfl⟩,by show (_:Int).toNat< (_:Int).toNat;omega⟩
 ·rw [ak3 (by omega)] at ho
  rw [ho] at h;exact h
theorem RP [Go.Vc.Mode] {cb:Nat} {cv:Value} {t:TypeId} {fr:Nat × Nat} {a b:Nat} (UD:H[cb]? =some (.cells #[cv] t fr)) (hs:Sl H cv 1 (aM zs)) (ha:a<zs.length) (hb:b<zs.length) (h: ∀H',Ext H H' →R (.int .i64 (Gz zs a b)) H'):
  ab Tryz.prog 245 #[.int .i64 (a:Int),.int .i64 (b:Int),.pointer (some ⟨cb,0,none⟩)] H R:=by
 have iv: (aM zs).length=zs.length*1:=by rw [aS];omega
 have ga:zs.getD a 0=zs[a]:=by rw [ajX,ajV ha];rfl
 have gb:zs.getD b 0=zs[b]:=by rw [ajX,ajV hb];rfl
 have kz:cellAt H ⟨cb,0,none⟩=some cv:=by rw [e_ UD];rfl
 refine kS.vc _ _ _ _ _ ?_;unfold kS.res;rw [ba kz];refine hs.at_ iv (by decide) (by omega) (by omega) fun p hp=>?_;refine hp.load hs (w:= .int .i64 zs[a]) (by rw [ajS,aj0,dE ha]) ?_;rw [ba kz];refine hs.at_ iv (by decide) (by omega) (by omega) fun p hp=>?_;refine hp.load hs (w:= .int .i64 zs[b]) (by rw [ajS,aj0,dE hb]) ?_;refine yB ?_;refine yB ?_;refine(aw.start (H:=H)).build (sz:=1) (vs:=aM [wG zs[a] zs[b],wG b a]) (by decide) (fun K' hK=>fJ rfl rfl hK) rfl fun y H1 o=>?_;refine UC (o.sl (by repeat(first|exact ajP|apply ajO))) (by simp) ?_;have:=h H1 o.ext;unfold Gz at this
 rwa [ga,gb] at this
theorem IW {a b:Nat}:Gz zs a b<0↔zs.getD a 0<zs.getD b 0∨(zs.getD a 0=zs.getD b 0∧b<a):=by
 unfold Gz;generalize zs.getD a 0=x;generalize zs.getD b 0=y;have e: ∀u w:Int,Xr [u,w]=if u≠0 then u else if w≠0 then w else 0:=fun u w=>rfl
 rw [e];rcases Int.lt_trichotomy x y with h|h|h
 ·rw [show wG x y= -1 from if_pos h,if_pos (by decide)]
  exact⟨fun _=> .inl h,fun _=>by decide⟩
 ·subst h
  rw [show wG x x=0 by unfold wG;rw [if_neg (by omega),if_neg (by omega)],if_neg (by decide)];rcases Int.lt_trichotomy (b:Int) (a:Int) with h|h|h
  ·rw [show wG (b:Int) a= -1 from if_pos h,if_pos (by decide)]
   exact⟨fun _=> .inr ⟨rfl,by omega⟩,fun _=>by decide⟩
  ·rw [show wG (b:Int) a=0 by unfold wG;rw [if_neg (by omega),if_neg (by omega)],if_neg (by decide)]
   exact⟨fun h=>absurd h (by decide),fun h=>by omega⟩
  ·rw [show wG (b:Int) a=1 by unfold wG;rw [if_neg (by omega),if_pos h],if_pos (by decide)]
   exact⟨fun h=>absurd h (by decide),fun h=>by omega⟩
 ·rw [show wG x y=1 by unfold wG;rw [if_neg (by omega),if_pos h],if_pos (by decide)]
  exact⟨fun h=>absurd h (by decide),fun h=>by omega⟩
end
section
set_option maxRecDepth 100000
variable {H H0 H' :ak} {R:Value→ak→Prop} {v:Value} {L:List It} {zs:List Int}
def Lx (zs:List Int) (U:List Nat):Prop:=U.Pairwise fun a b=>zs.getD a 0<zs.getD b 0∨(zs.getD a 0=zs.getD b 0∧b≤a)
theorem RQ {g:Nat} (hg:Tryz.zj.f 15=g) (h:R (.int .i64 0) H):ab Tryz.prog g #[.int .u64 0] H R:=by
 subst hg;intro w hw;have h1:=Any.bits_Len (SlLaysF0.n15.bits (P:=Tryz.prog) (ρ:=Tryz.zj) {Tryz.Vo with}) 0 w (by decide) (by decide);exact h1.mono fun e w' ⟨he,sO⟩=> ⟨_,he,by subst sO;exact dI.refl _,by subst sO;rw [hw];exact h⟩
theorem OJ {f:Value} (hv:Sl H v 1 []) (h:R (.tuple #[]) H):ab Tryz.prog 244 #[v,f] H R:=by
 refine dN.vc _ _ _ _ ?_;unfold dN.res;refine hv.len (n:=0) rfl (by decide) ?_;rw [eH];refine RQ rfl ?_;refine dO.vc _ _ _ _ _ _ _ ?_;unfold dO.res;refine⟨fun a b _ _ _ H' =>a= .int .i64 0∧b= .int .i64 0∧H=H',fun _ _ _ _ _ _=>0,⟨rfl,rfl,rfl⟩,?_⟩;rintro _ _ _ _ _ _ _ ⟨rfl,rfl,rfl⟩;rw [bE,bH (by decide) (by decide),qw,decide_eq_true (by decide),aH];refine cP.vc _ _ _ _ _ _ ?_;unfold cP.res;rw [aC,bH (by decide) (by decide)];refine⟨fun i H' =>i= .int .i64 1∧H=H',fun _ _=>0,⟨rfl,rfl⟩,?_⟩;rintro _ _ _ ⟨rfl,rfl⟩;rw [aQ,decide_eq_false (by decide),ao];exact h
theorem UE (n:Nat):Go.Sort.SWO (ltOf fun a b:Fin n=>Gz zs a.val b.val):=by
 have e: ∀a b:Fin n,ltOf (fun a b:Fin n=>Gz zs a.val b.val) a b=decide (zs.getD a.val 0<zs.getD b.val 0∨(zs.getD a.val 0=zs.getD b.val 0∧b.val<a.val)):=fun a b=>by
  unfold ltOf;rw [decide_eq_decide];exact IW
 constructor
 ·intro x;rw [e];simp
 ·intro x y z h1 h2;rw [e] at*;simp only [decide_eq_true_eq] at*;omega
 ·intro x y z h1 h2;rw [e] at*;simp only [decide_eq_false_iff_not] at*;omega
theorem xp {α:Type} [Inhabited α] {enc:α→Value} {w:World} {b m:Nat} {dk:Array α} {os:Array Obj} {k:Nat} (hk:k<w.heap.size) (hb:k≠b): (sortWorld enc w b 0 m dk os).heap[k]? =w.heap[k]? :=by
 unfold sortWorld;rw [Go.Sort.heap_grow_old _ _ (by rw [Go.Sort.size_putRow];exact hk)];show ((w.heap).modify b _)[k]? =_;rw [alK,if_neg (ak6 hb)]
theorem OK {cb:Nat} {cv:Value} {t:TypeId} {U:List Nat} (o:aw H0 H (.sl v 1 (lx U):: .box cb [cv] t:: [])) (hs:Sl H0 cv 1 (aM zs)) (hU: ∀u∈U,u<zs.length) (hlen:zs.length≤288) (hul:U.length≤288)
  (h: ∀U' H',U'.Perm U→Lx zs U' →aw H0 H' (.sl v 1 (lx U'):: .box cb [cv] t:: [])→R (.tuple #[]) H'):
  ab Tryz.prog 244 #[v,.func (.func 245) #[] #[.pointer (some ⟨cb,0,none⟩)]] H R:=by
 by_cases hU0:U= []
 ·subst hU0
  exact OJ (o.sl (v:=v) (by repeat(first|exact ajP|apply ajO))) (h [] H (amo _) List.Pairwise.nil o)
 have hn:0<zs.length:=by
  obtain⟨u,hu⟩:=List.exists_mem_of_ne_nil U hU0;have:=hU u hu;omega
 haveI:Inhabited (Fin zs.length):= ⟨⟨0,hn⟩⟩
 obtain⟨V,hV⟩: ∃V:List (Fin zs.length),V.map (·.val)=U:= ⟨U.pmap (fun u h=> ⟨u,h⟩) hU,by rw [List.map_pmap];simp⟩;have hVl:V.length=U.length:=by rw [←hV,aka]
 intro w hw;subst hw;rcases o.own (v:=v) (sz:=1) (l:=lx U) (by repeat(first|exact ajP|apply ajO)) with ⟨_,h0⟩ | ⟨b,n,cap,sp,rfl,⟨t2,fr,hb,hf⟩,hl,hc⟩
 ·exact absurd (by simpa [lx] using h0) hU0
 have G7:b<w.heap.size:=bw hb;have hnU:n=U.length:=by rw [fw] at hl;omega
 subst hnU;have Bh:=o.ll (b:=cb) (cs:= [cv]) (t:=t) (by repeat(first|exact ajP|apply ajO));have adJ:cb<w.heap.size:=bw Bh;have d_:cb≠b:=by
  have:= (aki.1 o.G_).1 (.box cb [cv] t) (by simp) b rfl;exact this
 have hbn:H0.size≤b:=o.new (.sl (.slice (some ⟨b,0,none⟩) U.length cap) 1 (lx U)) (by simp) b rfl;have hsw:=hs.ext o.ext;have Xs:zs≠ []:=by intro e;rw [e] at hn;simp at hn
 have YH: ∀k,aV cv=some k→k<w.heap.size∧k≠b:=fun k hk=>by
  have:=hs.lt (by simpa [aM] using Xs) hk;have:=o.ext.size;omega
 have eg: ∀args w,(callFunc 245 args).run Tryz.prog w= .ok (.enter 245 args) w:=enters_of Tryz.func245 (by kernel_rfl) rfl;have Cg: (lx U).length≤cap:=by rw [ajQ] at hc;omega
 have hH:Go.Sort.Holds (fun i:Fin zs.length=>Value.int .i64 ((i.val:Nat):Int)) w b 0 V.toArray:=by
  intro j hj;have hj1:j<V.length:=by simpa using hj
  have hjU:j<U.length:=by omega
  rw [aj6];have kz: (lx U++sp)[j]? =some (.int .i64 ((V[j].val:Nat):Int)):=by
   rw [akx (by rw [fw];exact hjU),←hV]
   simp [lx,hj1]
  constructor
  ·unfold World.cell?
   rw [hb];simp only [Option.isSome_none,akS,if_false,akr];rw [kz,getElem!_pos V.toArray j hj]
   simp
  ·unfold World.frozen?
   rw [hb];obtain⟨lo,hi⟩:=fr;rcases hf with hf|hf
   ·cases hf;simp
   ·simp only [fw] at Cg
    have: ¬lo≤j:=by simp only at hf;omega
    simp [this]
 have adK:CmpLays1 Tryz.prog 245 #[.pointer (some ⟨cb,0,none⟩)] (fun i:Fin zs.length=>Value.int .i64 ((i.val:Nat):Int)) (fun a b=>Gz zs a.val b.val) b 0 V.toArray.size w:=by
  intro m os dk hdk x y;have UD: (sortWorld (fun i:Fin zs.length=>Value.int .i64 ((i.val:Nat):Int)) w b 0 m dk os).heap[cb]? =some (.cells #[cv] t (0,0)):=by rw [xp adJ d_];exact Bh
  have hsc:Sl (sortWorld (fun i:Fin zs.length=>Value.int .i64 ((i.val:Nat):Int)) w b 0 m dk os).heap cv 1 (aM zs):=hsw.frame fun k hk=>xp (YH k hk).1 (YH k hk).2;generalize sortWorld (fun i:Fin zs.length=>Value.int .i64 ((i.val:Nat):Int)) w b 0 m dk os=W at UD hsc ⊢
  letI:Go.Vc.Mode:= ⟨True⟩
  have:=RP (R:=fun v H' =>v= .int .i64 (Gz zs x.val y.val)∧Ext W.heap H') UD hsc x.isLt y.isLt (fun H' hx=> ⟨rfl,hx⟩) W rfl;refine this.mono fun e w' ⟨v',he,hr,qN,hx⟩=> ⟨by rw [he,qN],w'.drawn - W.drawn,w'.heap.extract W.heap.size w'.heap.size,?_⟩;have VD:w'.heap=W.heap++w'.heap.extract W.heap.size w'.heap.size:=by
   refine alz fun k=>?_;rw [Array.getElem?_append]
   split
   ·rename_i hk;exact hx.get k hk
   ·rename_i hk
    rw [Array.getElem?_extract];have:=hx.size
    split
    ·congr 1;omega
    ·rename_i h2;rw [aln (by omega)]
  have hdr:=hr.drawn trivial;obtain⟨a1,a2,a3,a4,a5⟩:=w';obtain⟨b1,b2,b3,b4,b5⟩:=W;have h1:=hr.os;have h2:=hr.output;have h3:=hr.tape;simp only at h1 h2 h3 VD hdr;subst h1 h2 h3;unfold Go.Sort.grow World.drewN;simp only [World.mk.injEq,and_true,true_and];exact⟨VD,by omega⟩
 have main:=Any.slices_SortFunc Tryz.Vo (fun i:Fin zs.length=>Value.int .i64 ((i.val:Nat):Int)) (fun _=>rfl) (fun a b=>Gz zs a.val b.val) (UE _) 245 #[.pointer (some ⟨cb,0,none⟩)] b 0 cap V.toArray w eg adK hH G7 (by simp;omega);have u0:V.toArray.size=U.length:=by simpa using hVl
 rw [u0] at main;refine main.mono fun e w' ⟨he,d',m,os,hp,OL,sO⟩=> ⟨_,he,?_,?_⟩
 ·subst sO;exact⟨rfl,rfl,rfl,fun _=>al3 _ _⟩
 obtain⟨lu,_,D8⟩:=hp;have Zm :d'.size=U.length:=by rw [lu];simpa using hVl
 have Z9:d'.toList.Perm V:=by
  have e1:d'.extract 0 U.length=d' :=by rw [←Zm];simp
  have e2:V.toArray.extract 0 U.length=V.toArray:=by rw [←u0];simp
  rw [e1,e2] at D8
  simpa using D8
 have RR: (d'.toList.map (·.val)).length=U.length:=by simp [Zm]
 refine h (d'.toList.map (·.val)) _ (by rw [←hV];exact Z9.map _) ?_ ?_
 ·unfold Lx
  rw [anh];intro i j hi hj MD;have MC:i<d'.size:=by simpa using hi
  have Vz:j<d'.size:=by simpa using hj
  have:=OL i j (akj _) MD (by omega);rw [getElem!_pos d' i MC,getElem!_pos d' j Vz] at this;unfold ltOf at this;rw [decide_eq_false_iff_not,IW] at this;simp only [alG,Array.getElem_toList];omega
 ·subst sO
  refine o.nq bd.here ?_ (fun k hk adL=>xp hk (fun e=>adL (by rw [e];rfl))) ⟨by decide,.inr ⟨b,U.length,cap,sp,rfl,⟨⟨t2,fr,?_,hf⟩,by rw [fw,RR];omega,by rw [ajQ,fw,RR,←fw U,←ajQ];exact hc⟩⟩⟩ (fun k hk=> .inl hk)
  ·unfold sortWorld Go.Sort.grow
   rw [Array.size_append,Go.Sort.size_putRow];exact al3 _ _
  ·unfold sortWorld
   rw [Go.Sort.heap_grow_old _ _ (by rw [Go.Sort.size_putRow];exact G7)];show ((w.heap).modify b _)[b]? =_;rw [alK,if_pos rfl,hb];show some (Obj.cells (Go.Sort.putCells _ 0 d' (lx U++sp).toArray) t2 fr)=_
   congr 2
   refine alz fun k=>?_;unfold Go.Sort.putCells;rw [Array.getElem?_mapIdx,akr,akr]
   by_cases hk:k<U.length
   ·rw [akx (by rw [fw];exact hk),akx (by rw [fw,RR];exact hk)]
    have D4:k<d'.size:=by omega
    rw [ajV (by rw [fw];exact hk)];simp only [alI,akj,true_and,aj6,akG];rw [if_pos D4,getElem!_pos d' k D4]
    simp [lx,D4]
   ·rw [akB (by rw [fw];omega),akB (by rw [fw,RR];omega),fw,fw,RR]
    cases sp[k - U.length]? with
    |none=>rfl
    |some x=>
     simp only [alI];rw [if_neg (by omega)]
end
section
set_option maxRecDepth 100000
variable {H H0 H' :ak} {R:Value→ak→Prop} {v:Value} {L:List It} {zs:List Int}
def kF (zs:List Int) (n:Nat):List Nat:= (List.range n).filter fun i=>decide (0<zs.getD i 0)
theorem xq (zs:List Int) (n:Nat):kF zs (n+1)=kF zs n++ (if 0<zs.getD n 0 then [n] else []):=by
 unfold kF;rw [ame,amO]
 congr 1
 by_cases h:0<zs.getD n 0
 ·rw [if_pos h,List.filter_cons_of_pos (by simpa using h)];rfl
 ·rw [if_neg h,List.filter_cons_of_neg (by simpa using h)];rfl
theorem nc (zs:List Int): ∀n,(kF zs n).length≤n
 |0=>by simp [kF]
 |n+1=>by rw [xq,ajQ];have:=nc zs n;split<;>simp<;>omega
theorem o_ {zs:List Int} {n i:Nat}:i∈kF zs n↔i<n∧0<zs.getD i 0:=by simp [kF]
theorem Fh (hs:Sl H v 1 (aM zs)) (hlen:zs.length≤288) (h: ∀y U H',U.Perm (kF zs zs.length)→Lx zs U→aw H H' [.sl y 1 (lx U)]→R y H'):ab Tryz.prog 213 #[v] H R:=by
 have iv: (aM zs).length=zs.length*1:=by rw [aS];omega
 refine oT.vc _ _ _ ?_;unfold oT.res;refine(aw.start (H:=H)).box fun cb H1 o Bh=>?_;have h1v:=hs.one;rw [cells_one h1v] at o;refine o.az (b:=cb) (f:=0) (by repeat(first|exact ajP|apply ajO)) rfl ?_;refine hs.len iv (by decide) ?_;refine⟨fun y i H' => ∃k:Nat,i= .int .i64 k∧k≤zs.length∧aw H H' (.sl y 1 (lx (kF zs k)):: .box cb [v] 59:: []),fun _ i _=>match i with| .int _ x=> (zs.length - x).toNat|_=>0,⟨0,rfl,by omega,?_⟩,?_⟩
 ·exact o.add (Ext.refl _) ⟨by decide,.inl ⟨rfl,rfl⟩⟩ (by intro k hk;exact absurd hk (by simp [It.eL,aV]))
 rintro _ y _ H2 ⟨k,rfl,hk,o⟩;rw [aQ];refine ax (fun hc=>?_) (fun hc=>?_)
 ·have jR:k<zs.length:=by omega
  have gk:zs.getD k 0=zs[k]:=by rw [ajX,ajV jR];rfl
  have hul:=nc zs k;refine hs.at_ iv (by decide) (by omega) (by omega) fun p hp=>?_;refine hp.load (hs.ext o.ext) (w:= .int .i64 zs[k]) (by rw [ajS,aj0,dE jR]) ?_;rw [bU];have hm: (9223372036854775807:Int) - 0=9223372036854775807:=rfl;refine ax (fun hz=>?_) (fun hz=>?_)
  ·refine o.ej (sz:=1) (by decide) rfl rfl fun z H3 o2=>?_
   refine o2.app (v:=y) (x:=z) (by repeat(first|exact bu.here|apply bu.there)) (o2.sl (by repeat(first|exact ajP|apply ajO))) rfl (by rw [fw];show 2* (_+1)*8≤_;omega) fun y2 H4 o3=>?_;rw [aC,bH (by omega) (by omega)];refine⟨⟨k+1,by rfl,by omega,?_⟩,by show (_:Int).toNat< (_:Int).toNat;omega⟩;rw [xq,if_pos (by rw [gk];exact hz),IT];exact o3.arr (by repeat(first|exact dV.nil|exact bu.here|apply dV.cons|apply bu.there))
  ·rw [aC,bH (by omega) (by omega)]
   refine⟨⟨k+1,by rfl,by omega,?_⟩,by show (_:Int).toNat< (_:Int).toNat;omega⟩;rw [xq,if_neg (by rw [gk];exact hz),akb];exact o
 ·have jR:k=zs.length:=by omega
  subst jR;have hul:=nc zs zs.length;refine OK o hs (fun u hu=> (o_.1 hu).1) hlen (by omega) fun U H3 hp OL o2=>?_;exact h _ _ _ hp OL (o2.arr (by repeat(first|exact dV.nil|exact bu.here|apply dV.cons|apply bu.there)))
def AL (zs:List Int):Bool:=zs.all fun z=>decide (0≤z∧z≤1099511627776)
theorem tH:AL zs=true↔∀z∈zs,0≤z∧z≤1099511627776:=by simp [AL]
theorem OM {z:Int} (h:R (.bool (!decide (0≤z∧z≤1099511627776))) H):ab Tryz.prog 243 #[.int .i64 z] H R:=by
 refine j3.vc _ _ _ ?_;unfold j3.res;rw [aQ]
 by_cases h0:z<0
 ·rw [decide_eq_true h0,HG]
  intro _;rw [decide_eq_false (by omega)] at h;exact h
 ·rw [decide_eq_false h0]
  refine bh ?_;rw [bU];intro _;have e:decide (1099511627776<z)= !decide (0≤z∧z≤1099511627776):=by
   rw [ala,decide_eq_true_eq,alO,decide_eq_false_iff_not];omega
  rw [e];exact h
theorem GA (hs:Sl H v 1 (aM zs)) (hlen:zs.length≤288) (pJ:AL zs=true) (h:R (.bool false) H):ab Tryz.prog 203 #[v,.func (.func 243) #[] #[]] H R:=by
 have iv: (aM zs).length=zs.length*1:=by rw [aS];omega
 refine bm.vc _ _ _ _ ?_;unfold bm.res;refine bD.vc _ _ _ _ ?_;unfold bD.res;refine hs.len iv (by decide) ?_;refine⟨fun i H' => ∃k:Nat,i= .int .i64 k∧k≤zs.length∧H=H',fun i _=>match i with| .int _ x=> (zs.length - x).toNat|_=>0,⟨0,rfl,by omega,rfl⟩,?_⟩;rintro _ _ _ ⟨k,rfl,hk,rfl⟩;rw [aQ];refine ax (fun hc=>?_) (fun hc=>?_)
 ·have jR:k<zs.length:=by omega
  refine hs.at_ iv (by decide) (by omega) (by omega) fun p hp=>?_;refine hp.load hs (w:= .int .i64 zs[k]) (by rw [ajS,aj0,dE jR]) ?_;refine wj (by kernel_rfl) ?_;refine OM ?_;rw [decide_eq_true (tH.1 pJ _ (ajZ jR))];show ar (.bool false) _ _;rw [ao,aC,bH (by omega) (by omega)];exact⟨⟨k+1,rfl,by omega,rfl⟩,by show (_:Int).toNat< (_:Int).toNat;omega⟩
 ·show rS _ _ _
  rw [iU,decide_eq_false (by decide)];exact h
theorem Ly {m:Nat} (hs:Sl H v 1 (aM zs)) (hlen:zs.length≤288) (pJ:AL zs=true) (h1:1≤m) (h2:m≤15) (hn: (kF zs zs.length).length≤2 ^ m) (h: ∀H',Ext H H' →R (.int .i64 0) H'):ab Tryz.prog 212 #[v,.int .i64 (m:Int)] H R:=by
 have iv: (aM zs).length=zs.length*1:=by rw [aS];omega
 refine mW.vc _ _ _ _ ?_;unfold mW.res;refine hs.len iv (by decide) ?_;rw [bU,decide_eq_false (by omega)];refine bh ?_;refine GA hs hlen pJ ?_;intro _;refine bh ?_;rw [aQ,decide_eq_false (by omega)];intro _;refine bh ?_;rw [bU,decide_eq_false (by omega)];intro _;rw [ao];have hp: (2:Nat) ^ m≤2 ^ 15:=akd (by omega) h2;have adM: ∀ {K:Value→Prop},K (.int .i64 ((2 ^ m:Nat):Int))→ou (.int .i64 1) (.int .i64 (m:Int)) K:=fun hK=>by
  rw [jg];refine⟨by omega,?_⟩;rw [show min (m:Int).toNat IntKind.i64.bits=m by show min (m:Int).toNat 64=_;omega];rw [show (1:Int)*2 ^ m= ((2 ^ m:Nat):Int) by rw [Int.one_mul,alP];rfl];generalize 2 ^ m=P at*;rw [bH (by omega) (by omega)];exact hK
 refine adM ?_;refine Fh hs hlen fun y U H1 hU _ o=>?_;refine(o.sl (by repeat(first|exact ajP|apply ajO))).len (n:=U.length) (by rw [fw];omega) (by decide) ?_;have Z_:=hU.length_eq;rw [bU,decide_eq_false (by omega),ao];exact h _ o.ext
end
section
set_option maxRecDepth 100000
variable {H H0 H' :ak} {R:Value→ak→Prop} {v:Value} {L:List It} {zs:List Int}
def IX (B:Nat) (Hc:ak):ir where
 eL k:=B≤k∧k<Hc.size
 holds H:= ∀k,B≤k→k<Hc.size→H[k]? =Hc[k]?
 frame h hf k h1 h2:= (hf k ⟨h1,h2⟩).trans (h k h1 h2)
 lt {H k} h hk:=by
  have:=h k hk.1 hk.2;rw [am3 hk.2] at this;exact(alL.1 this).1
theorem Lz {B:Nat} {Hc H' :ak} {sz:Nat} {l:List Value} (h: (IX B Hc).holds H') (hs:Sl Hc v sz l) (hb: ∀k,aV v=some k→B≤k):Sl H' v sz l:=by
 by_cases hl:l= []
 ·subst hl
  rcases hs with hs| ⟨a,n,cap,h1,h2,h3,h4⟩
  ·exact .inl hs
  ·exact .inr ⟨a,n,cap,h1,h2,h3,fun i v hv=>by simp at hv⟩
 ·exact hs.frame fun k hk=>h k (hb k hk) (hs.lt hl hk)
theorem LA {sz n m:Nat} {l:List Value} {K:Value→Prop} (h:Sl H v sz l) (hz:0<sz) (hn:l.length=n*sz) (hm:m≤n) (hk: ∀v',Sl H v' sz (l.take (m*sz))→(∀k,aV v' =some k→aV v=some k)→K v'):lj sz v none (some (.int .i64 (m:Int))) K:=by
 rcases h with ⟨rfl,rfl⟩ | ⟨a,n',cap,rfl,hl,Cg,hr⟩
 ·have EK:n=0:=by
   rcases alR n with h|h
   ·exact h
   ·have:=alN h hz;simp only [aj7] at hn;omega
  have JZ:m=0:=by omega
  subst JZ;rw [pA,f_];exact⟨by decide,by decide,hk _ (.inl ⟨by simp,by simp⟩) (fun k hk=>by simp [aV] at hk)⟩
 ·have Wo:n' =n:=alS hz (hl.symm.trans hn)
  subst Wo;rw [pA,f_];refine⟨by omega,by omega,?_⟩;have e: (if cap=0 then (some a:Option Addr) else Option.map (fun x:Addr=>x.add (0*sz)) (some a))=some a:=by
   split
   ·rfl
   ·simp [Addr.add]
  rw [e,ajS];refine hk _ (.inr ⟨a,m,cap,by simp,?_,by omega,fun i w hw=>?_⟩) (fun k hk=>hk)
  ·rw [ajW,hl,aks (akZ sz hm)]
  ·rw [alQ] at hw
   split at hw
   ·exact hr i w hw
   ·cases hw
def mn (n:Nat) (U:List Nat) (c:Nat→Nat):List Int:= (List.range n).map fun s=>if s∈U then ((c (U.idxOf s):Nat):Int) else 0
theorem mA {n:Nat} {U:List Nat} {c:Nat→Nat}: (mn n U c).length=n:=by simp [mn]
theorem sq {n:Nat} {U:List Nat} {c:Nat→Nat} {s:Nat} (h:s<n): (mn n U c)[s]'(by rw [mA];exact h)=if s∈U then ((c (U.idxOf s):Nat):Int) else 0:=by simp [mn]
theorem ON {n:Nat} {U:List Nat}:mn n U (fun _=>0)=List.replicate n 0:=by
 refine alm (by simp [mn]) fun i h1 h2=>?_;rw [sq (by simpa [mn] using h1)]
 simp
theorem RS {n:Nat} {U:List Nat} {c c' :Nat→Nat} {a:Nat} (hU:U.Nodup) (ha:a<U.length) (hn:U[a]<n) (h: ∀i,c' i=c i+if i=a then 1 else 0):
  mn n U c' = (mn n U c).set U[a] (((c a:Nat):Int)+1):=by
 refine alm (by simp [mn]) fun i h1 h2=>?_;have hi:i<n:=by simpa [mn] using h1
 rw [sq hi,anc]
 by_cases e:U[a]=i
 ·rw [if_pos e,if_pos (by rw [←e];exact ajZ ha),←e,hU.idxOf_getElem a ha,h a,if_pos rfl];omega
 ·rw [if_neg e,sq hi]
  by_cases hm:i∈U
  ·rw [if_pos hm,if_pos hm,h,if_neg (fun h3=>e (by
    have h4:=List.getElem_idxOf (anA hm);rw [←h4];congr 1;exact h3.symm)),akp]
  ·rw [if_neg hm,if_neg hm]
def jf (zs:List Int) (U:List Nat):List Nat:=U.map fun u=> (zs.getD u 0).toNat
theorem IY {cs:List Nat} {k:Nat} (h:k<cs.length): (b_ cs).take (k+1)= (b_ cs).take k++ [(cs[k],[k])]:=by
 rw [akq,lK h];rfl
theorem yC {cs:List Nat} (h: ∀c∈cs,c≤1099511627776): ∀k,∀p∈eV (b_ cs) k,p.1≤1099511627776*2 ^ k∧p.2.length≤2 ^ k
 |0,p,hp=>by
  obtain⟨i,hi⟩:=al_ (show p∈b_ cs from hp);have eF:i<cs.length:=by have:= (aku.1 hi).1;rwa [df] at this
  rw [lK eF,ajY] at hi;subst hi;have:=h _ (ajZ eF)
  simp;exact this
 |k+1,p,hp=>by
  rw [eV,oY] at hp;have ih:=yC h k;rcases hp with hp|hp
  ·have:=yC h 0 p hp
   have e:1≤2 ^ (k+1):=am5
   simp at this
   exact⟨akk this.1 (am2 _ e),by omega⟩
  ·have: ∀ (l:List Pk),(∀p∈l,p.1≤1099511627776*2 ^ k∧p.2.length≤2 ^ k)→∀p∈de l,p.1≤1099511627776*2 ^ (k+1)∧p.2.length≤2 ^ (k+1):=by
    intro l
    induction l using de.induct with
    |case1 c d l ih2=>
     intro hl q hq;rw [de] at hq;rcases aj5.1 hq with rfl|hq
     ·have h1:=hl c (by simp)
      have h2:=hl d (by simp);rw [akF];refine⟨?_,?_⟩
      ·show c.1+d.1≤_;omega
      ·show (c.2++d.2).length≤_;rw [ajQ];omega
     ·exact ih2 (fun x hx=>hl x (by simp [hx])) q hq
    |case2 l d_=>intro hl q hq;rw [de] at hq;simp at hq;all_goals exact d_
   exact this _ ih p hp
theorem OO {U:List Nat} {y leaves:Value} {K:Value→ak→Prop} (hs:Sl H v 1 (aM zs)) (hy:Sl H y 1 (lx U)) (hU: ∀u∈U,u<zs.length) (hul:U.length≤288) (hz: ∀z∈zs,0≤z∧z≤1099511627776) {k:Nat} {cl:List Value} (hk:k<U.length)
  (o:aw H H' [.sl leaves 2 cl,.ay (uS ((b_ (jf zs U)).take k) cl)])
  (h: ∀y2 cl2 H2,aw H H2 [.sl y2 2 cl2,.ay (uS ((b_ (jf zs U)).take (k+1)) cl2)]→K y2 H2):
  aN 1 y (.int .i64 (k:Int)) fun nr=>al H' nr fun qh=>aN 1 v qh fun nt=>al H' nt fun nY=>aX H' 3 1 [(.int .i64 0)] [(0,1,.int .i64 (k:Int))] fun lC dD=>
  aZ [(.int .i64 0),(.slice none 0 0)] [(0,1,nY),(1,1,lC)] fun qp=>aX dD 293 1 [(.int .i64 0),(.slice none 0 0)] [(0,2,qp)] fun pN bZ=>bg bZ 293 2 32 [(.int .i64 0),(.slice none 0 0)] leaves pN K:=by
 have iv: (aM zs).length=zs.length*1:=by rw [aS];omega
 have huk:=hU _ (ajZ hk);have iz: (jf zs U).length=U.length:=by simp [jf]
 have gk:zs.getD U[k] 0=zs[U[k]]:=by rw [ajX,ajV huk];rfl
 have hzk:=hz _ (ajZ huk);have hck: (jf zs U)[k]'(by omega)=zs[U[k]].toNat:=by simp only [jf,alG,gk]
 refine hy.at_ (n:=U.length) (by rw [fw];omega) (by decide) (by omega) (by omega) fun p hp=>?_;refine hp.load (hy.ext o.ext) (w:= .int .i64 (U[k]:Nat)) (by rw [ajS,aj0];simp [lx,hk]) ?_;refine hs.at_ iv (by decide) (by omega) (by omega) fun p hp=>?_;refine hp.load (hs.ext o.ext) (w:= .int .i64 zs[U[k]]) (by rw [ajS,aj0,dE huk]) ?_;refine o.ej (sz:=1) (by decide) rfl rfl fun z H3 o3=>?_;have PO:= (o3.sl (v:=z) (by repeat(first|exact ajP|apply ajO))).one;have To:=o3.sl (v:=z) (by repeat(first|exact ajP|apply ajO));refine fJ rfl PO ?_;have o4:=o3.arr (L' := [.ay (uS ((b_ (jf zs U)).take k) cl),.sl z 1 (lx [k]),.sl leaves 2 cl]) (by repeat(first|exact dV.nil|exact bu.here|apply dV.cons|apply bu.there));have BZ:cl.length=k*2:=by
  have:= (o4.ay (T:=uS ((b_ (jf zs U)).take k) cl) (by repeat(first|exact ajP|apply ajO)):tW _ _ _).len
  rwa [ajW,df,iz,aks (by omega)] at this
 have o5:aw H H3 [.ay (uS ((b_ (jf zs U)).take (k+1)) (cl++ [.int .i64 zs[U[k]],z])),.sl leaves 2 cl]:=o4.merge (fun hT hS=>by
   have hT:tW H3 ((b_ (jf zs U)).take k) cl:=hT;show tW H3 _ _;rw [IY (by omega)];refine hT.app ⟨z,[],?_,⟨PO,To,by simp⟩,rfl⟩;rw [hck];show _= [Value.int .i64 ((zs[U[k]].toNat:Nat):Int),z];rw [alc hzk.1]) (fun b' ⟨s,hs,mw⟩=>by
   rcases akg.1 hs with hs|hs
   ·exact .inl ⟨s,hs,mw⟩
   ·simp at hs
    rcases hs with rfl|rfl
    ·simp [aV] at mw
    ·exact .inr mw)
 refine o5.ej (sz:=2) (by decide) rfl rfl fun y2 H4 o6=>?_;refine o6.append (sz:=2) (v:=leaves) (x:=y2) (n:=k) (m:=1) (by repeat(first|exact bu.here|apply bu.there)) rfl (o6.sl (by repeat(first|exact ajP|apply ajO))) BZ rfl (all_cons rfl (all_cons PO rfl)) (by omega) fun v2 H5 o7=>?_;exact h _ _ _ (o7.arr (by repeat(first|exact dV.nil|exact bu.here|apply dV.cons|apply bu.there)))
end
section
set_option maxRecDepth 100000
variable {H H0 H' :ak} {R:Value→ak→Prop} {v:Value} {L:List It} {zs:List Int}
def vw (zs:List Int) (m:Nat) (ls:List Int):Prop:= ∃U:List Nat,U.Perm (kF zs zs.length)∧Lx zs U∧
 ((U.length<2∧ls=mn zs.length U fun _=>1)∨(2≤U.length∧ls=mn zs.length U (Bg (jf zs U) (m - 1))))
theorem RT (P:List Pk) (p:Pk) (q:Nat) (hq:q<p.2.length): ∀i,ky P i+ (p.2.take (q+1)).count i=ky P i+ (p.2.take q).count i+if i=p.2[q] then 1 else 0:=by
 intro i;rw [akq,ajV hq,List.count_append];show _+ (_+List.count i [p.2[q]])=_
 by_cases e:i=p.2[q]
 ·rw [if_pos e,e];simp;omega
 ·rw [if_neg e,anj (l:= [p.2[q]]) (by simpa using e)];omega
theorem LB {cs:List Nat}: ∀k,∀p∈eV (b_ cs) k,∀i∈p.2,i<cs.length
 |0,p,hp,i,hi=>by
  obtain⟨j,hj⟩:=al_ (show p∈b_ cs from hp);have eF:j<cs.length:=by have:= (aku.1 hj).1;rwa [df] at this
  rw [lK eF,ajY] at hj;subst hj
  simp at hi;omega
 |k+1,p,hp,i,hi=>by
  rw [eV,oY] at hp;rcases hp with hp|hp
  ·exact LB 0 p hp i hi
  ·have: ∀ (l:List Pk),(∀p∈l,∀i∈p.2,i<cs.length)→∀p∈de l,∀i∈p.2,i<cs.length:=by
    intro l
    induction l using de.induct with
    |case1 c d l ih2=>
     intro hl q hq;rw [de] at hq;rcases aj5.1 hq with rfl|hq
     ·intro i hi
      rcases akg.1 hi with hi|hi
      ·exact hl c (by simp) i hi
      ·exact hl d (by simp) i hi
     ·exact ih2 (fun x hx=>hl x (by simp [hx])) q hq
    |case2 l d_=>intro hl q hq;rw [de] at hq;simp at hq;all_goals exact d_
   exact this _ (LB k) p hp i hi
theorem M9 {N i:Nat}: ∀ {l:List Pk},(∀p∈l,p.2.length≤N)→ky l i≤l.length*N
 | [],h=>by simp [p8]
 |p::l,h=>by
  rw [kV,aj2,alJ];have h1:=M9 (l:=l) (i:=i) fun q hq=>h q (by simp [hq]);have h2:=h p (by simp);have h3:p.2.count i≤p.2.length:=List.count_le_length;omega
theorem xt {n:Nat} {U:List Nat} {c c' :Nat→Nat} (h: ∀i,c i=c' i):mn n U c=mn n U c' :=by rw [show c=c' from funext h]
theorem yD {m:Nat} (hs:Sl H v 1 (aM zs)) (hlen:zs.length≤288) (pJ:AL zs=true) (h1:1≤m) (h2:m≤15) (hn: (kF zs zs.length).length≤2 ^ m)
  (h: ∀y ls H',vw zs m ls→aw H H' [.sl y 1 (aM ls)]→R (.tuple #[y,.int .i64 0]) H'):ab Tryz.prog 168 #[v,.int .i64 (m:Int)] H R:=by
 have hz:=tH.1 pJ;have iv: (aM zs).length=zs.length*1:=by rw [aS];omega
 refine kR.vc _ _ _ _ ?_;unfold kR.res;refine Ly hs hlen pJ h1 h2 hn fun H1 nP=>?_;rw [mP,decide_eq_false (by simp),ao];refine hs.len iv (by decide) ?_;refine((aw.start (H:=H)).more nP).xV (by omega) (by omega) (by omega) fun out H2 o2=>?_;rw [ajS,oQ] at o2;refine Fh (hs.ext o2.ext) hlen fun y U H3 hU OL oU=>?_;have o3:=o2.call oU;have Z_:=hU.length_eq;have n_:=nc zs zs.length;have hUm: ∀u∈U,u<zs.length:=fun u hu=> (o_.1 (hU.mem_iff.1 hu)).1;have YI:U.Nodup:=hU.nodup_iff.2 (List.Nodup.sublist List.filter_sublist List.nodup_range);have hy:=oU.sl (v:=y) (by repeat(first|exact ajP|apply ajO));have G9: (lx U).length=U.length*1:=by rw [fw];omega
 refine hy.len G9 (by decide) ?_;rw [aQ];refine ax (fun hc=>?_) (fun hc=>?_)
 ·refine hy.len G9 (by decide) ?_
  refine⟨fun i H' => ∃k:Nat,i= .int .i64 k∧k≤U.length∧aw H H' (.sl y 1 (lx U):: .sl out 1 (aM (mn zs.length (U.take k) fun _=>1)):: []),fun i _=>match i with| .int _ x=> (U.length - x).toNat|_=>0,⟨0,rfl,by omega,?_⟩,?_⟩
  ·have e:mn zs.length (U.take 0) (fun _=>1)=List.replicate zs.length 0:=by
    refine alm (by simp [mn]) fun i g1 g2=>?_;rw [sq (by simpa [mn] using g1)];simp
   rw [e];exact o3.arr (by repeat(first|exact dV.nil|exact bu.here|apply dV.cons|apply bu.there))
  rintro _ _ H4 ⟨k,rfl,hk,o⟩;rw [aQ];refine ax (fun lz=>?_) (fun lz=>?_)
  ·have Yu:k=0:=by omega
   have jR:0<U.length:=by omega
   subst Yu;refine(o.sl (v:=y) (by repeat(first|exact ajP|apply ajO))).at_ G9 (by decide) (by omega) (by omega) fun p hp=>?_;refine hp.load (o.sl (v:=y) (by repeat(first|exact ajP|apply ajO))) (w:= .int .i64 (U[0]:Nat)) (by simp [lx,jR]) ?_;have hu0:=hUm _ (ajZ jR);refine(o.sl (v:=out) (by repeat(first|exact ajP|apply ajO))).at_ (n:=zs.length) (by rw [aS,mA];omega) (by decide) (by omega) (by omega) fun p hp=>?_;rw [ajS,aj0] at hp;refine o.store hp (by repeat(first|exact ajP|apply ajO)) (by rw [aS,mA];exact hu0) rfl (by repeat(first|exact bd.here|apply bd.there)) fun H5 o5 _=>?_;rw [aC,bH (by omega) (by omega)];refine⟨⟨1,rfl,by omega,?_⟩,by show (_:Int).toNat< (_:Int).toNat;omega⟩;rw [oP] at o5;have e: (mn zs.length (U.take 0) fun _=>1).set U[0] 1=mn zs.length (U.take 1) fun _=>1:=by
    have hU1:U.take 1= [U[0]]:=by rw [akq,ajV jR];rfl
    refine alm (by simp [mn]) fun i g1 g2=>?_;have hi:i<zs.length:=by simpa [mn] using g2
    rw [anc,sq hi,sq hi,hU1]
    by_cases e:U[0]=i
    ·rw [if_pos e,if_pos (by simp [e])];rfl
    ·rw [if_neg e,if_neg (by simp),if_neg (by simpa using fun h=>e h.symm)]
   rw [e] at o5;exact o5
  ·have hkU:k=U.length:=by omega
   rw [hkU,aj8] at o;exact h _ _ _ ⟨U,hU,OL,.inl ⟨by omega,rfl⟩⟩ (o.arr (by repeat(first|exact dV.nil|exact bu.here|apply dV.cons|apply bu.there)))
 ·have hU2:2≤U.length:=by omega
  have iz: (jf zs U).length=U.length:=by simp [jf]
  have hcz: ∀c∈jf zs U,c≤1099511627776:=by
   intro c hc;simp only [jf,akn] at hc;obtain⟨u,hu,rfl⟩:=hc;have Ks:=hUm u hu;rw [ajX,ajV Ks];have:=hz _ (ajZ Ks);show (zs[u]).toNat≤_;omega
  refine hy.len G9 (by decide) ?_;have J3:=hs.ext o3.ext;refine⟨fun lv i H' => ∃ (k:Nat) (cl:List Value),i= .int .i64 k∧k≤U.length∧aw H3 H' [.sl lv 2 cl,.ay (uS ((b_ (jf zs U)).take k) cl)],fun _ i _=>match i with| .int _ x=> (U.length - x).toNat|_=>0,⟨0,[],rfl,by omega,?_⟩,?_⟩
  ·exact(aw.start.add (Ext.refl _) (i:= .ay (uS [] [])) rfl (by rintro k ⟨_,hs,_⟩;simp at hs)).add (Ext.refl _) ⟨by decide,.inl ⟨rfl,rfl⟩⟩ (by intro k hk;exact absurd hk (by simp [It.eL,aV]))
  rintro _ lv _ RU ⟨k,cl,rfl,hk,oL⟩;rw [aQ];refine ax (fun lz=>?_) (fun lz=>?_)
  ·refine OO J3 hy hUm (by omega) hz (by omega) oL fun y2 cl2 UF o5=>?_
   rw [aC,bH (by omega) (by omega)];exact⟨⟨k+1,cl2,rfl,by omega,o5⟩,by show (_:Int).toNat< (_:Int).toNat;omega⟩
  have hkU:k=U.length:=by omega
  rw [hkU,aj9 (by rw [df,iz];omega)] at oL;have sL:=oL.sl (v:=lv) (by repeat(first|exact ajP|apply ajO));have pL:tW RU (b_ (jf zs U)) cl:=oL.ay (T:=uS _ _) (by repeat(first|exact ajP|apply ajO));have bL: ∀k,aV lv=some k→H3.size≤k:=fun k hk=>oL.Ww (by repeat(first|exact ajP|apply ajO)) hk;have bP: ∀k,YF cl k→H3.size≤k:=fun k hk=>oL.new (.ay (uS (b_ (jf zs U)) cl)) (by simp) k hk;rw [bE,bH (by omega) (by omega)];refine⟨fun lst i H' => ∃ (j:Nat) (cs:List Value),i= .int .i64 j∧j≤m - 1∧Ext RU H' ∧Sl H' lst 2 cs∧tW H' (eV (b_ (jf zs U)) j) cs∧(∀k,aV lst=some k→H3.size≤k)∧(∀k,YF cs k→H3.size≤k),
   fun _ i _=>match i with| .int _ x=> ((m:Int) - x).toNat|_=>0,⟨0,cl,rfl,by omega,Ext.refl _,sL,pL,bL,bP⟩,?_⟩
  rintro _ lst _ PV ⟨j,cs,rfl,hj,hx,sS,pS,bS,bQ⟩;have xE:=wy (b_ (jf zs U)) (by rw [df];omega) j;rw [df,iz] at xE;have TL:=yC hcz j;have hpj:2 ^ j≤2 ^ 14:=akd (by decide) (by omega);rw [aQ];refine ax (fun DU=>?_) (fun DU=>?_)
  ·refine Lu sS pS (by omega) (fun p hp=>by have:=TL p hp;generalize 2 ^ j=P at*;omega) fun y2 cs2 YJ o5=>?_
   have pP:tW YJ (de (eV (b_ (jf zs U)) j)) cs2:=o5.ay (T:=uS _ _) (by repeat(first|exact ajP|apply ajO));have adS:=yC hcz (j+1);have ahp:2 ^ (j+1)≤2 ^ 14:=akd (by decide) (by omega);refine IU (sL.ext (hx.trans o5.ext)) (o5.sl (v:=y2) (by repeat(first|exact ajP|apply ajO))) (pL.ext (hx.trans o5.ext)) pP (by rw [df];omega) (by rw [mM];omega) (fun p hp=>by have:=adS p (by rw [eV,oY];exact hp);generalize 2 ^ (j+1)=P at*;omega) fun y3 cs3 H18 o6 p6 hm6=>?_;rw [aC,bH (by omega) (by omega)];have u0:=o5.ext.size;have ahs:=hx.size;have aht:=oL.ext.size;refine⟨⟨j+1,cs3,rfl,by omega,(hx.trans o5.ext).trans o6.ext,o6.sl (v:=y3) (by repeat(first|exact ajP|apply ajO)),p6.ext o6.ext,fun k hk=>?_,fun k hk=>?_⟩,by show (_:Int).toNat< (_:Int).toNat;omega⟩
   ·have:=o6.Ww (v:=y3) (by repeat(first|exact ajP|apply ajO)) hk;omega
   ·obtain⟨s,hs,hk⟩:=hk
    rcases hm6 s hs with hs|hs
    ·exact bP k ⟨s,hs,hk⟩
    ·have:=o5.new (.ay (uS (de (eV (b_ (jf zs U)) j)) cs2)) (by simp) k ⟨s,hs,hk⟩;omega
  have hjm:j=m - 1:=by omega
  have nz:=yz (b_ (jf zs U)) j (by rw [df];omega) (by rw [df,iz,Z_,hjm,show m - 1+1=m by omega];exact hn);rw [df,iz] at nz;refine(hy.ext (oL.ext.trans hx)).len G9 (by decide) ?_;rw [vf,bH (by omega) (by omega),bE,bH (by omega) (by omega),show 2* ((U.length:Nat):Int) - 2= ((2*U.length - 2:Nat):Int) by omega];refine LA sS (by decide) pS.len (by omega) fun cv YH bcv=>?_;have pT:=pS.take (2*U.length - 2);have hlT: ((eV (b_ (jf zs U)) j).take (2*U.length - 2)).length=2*U.length - 2:=by rw [ajW];omega
  generalize hT: (eV (b_ (jf zs U)) j).take (2*U.length - 2)=T at pT hlT;generalize hct:cs.take ((2*U.length - 2)*2)=ct at YH pT;have hcT:ct.length= (2*U.length - 2)*2:=by rw [pT.len,hlT]
  have bT: ∀k,YF ct k→H3.size≤k:=fun k ⟨s,hs,hk⟩=>bQ k ⟨s,by rw [←hct] at hs;exact akL hs,hk⟩;have hTm: ∀p∈T,∀i∈p.2,i<U.length:=fun p hp i hi=>by
   rw [←hT] at hp;have:=LB j p (akL hp) i hi
   rwa [iz] at this
  have VE: ∀p∈T,p.2.length≤2 ^ j:=fun p hp=> (TL p (by rw [←hT] at hp;exact akL hp)).2;have adU:H2.size≤H3.size:=oU.ext.size;have Xt:Ext H2 PV:= (oU.ext.trans oL.ext).trans hx;have oF:aw H PV (.ay (IX H2.size PV):: .sl out 1 (aM (List.replicate zs.length 0)):: []):=o2.add Xt (i:= .ay (IX H2.size PV)) (fun k _ _=>rfl) (fun k hk=>hk.1);have adV:=hy.ext (oL.ext.trans hx);have adW: ∀k,aV y=some k→H2.size≤k:=fun k hk=>oU.Ww (v:=y) (by repeat(first|exact ajP|apply ajO)) hk;refine YH.len (n:=2*U.length - 2) hcT (by decide) ?_;refine⟨fun i H' => ∃t:Nat,i= .int .i64 t∧t≤2*U.length - 2∧aw H H' (.ay (IX H2.size PV):: .sl out 1 (aM (mn zs.length U (ky (T.take t)))):: []),fun i _=>match i with| .int _ x=> (2*U.length - x).toNat|_=>0,⟨0,rfl,by omega,?_⟩,?_⟩
  ·have e:mn zs.length U (ky (T.take 0))=List.replicate zs.length 0:=ON (U:=U)
   rw [e];exact oF
  rintro _ _ Xu ⟨t,rfl,ht,o⟩;rw [aQ];refine ax (fun hc4=>?_) (fun hc4=>?_)
  ·have htn:t<T.length:=by omega
   obtain⟨sv,a1,a2,a3,a4,a5,a6⟩:=pT.at_ (ajV htn);have DY:=VE _ (ajZ htn);have hpm:=hTm _ (ajZ htn);have bsv: ∀k,aV sv=some k→H2.size≤k:=fun k hk=>by have:=bT k ⟨sv,akK a2,hk⟩;omega
   have adY: ∀k,aV cv=some k→H2.size≤k:=fun k hk=>by have:=bS k (bcv k hk);omega
   have aaa:Sl Xu cv 2 ct:=Lz (o.ay (T:=IX H2.size PV) (by repeat(first|exact ajP|apply ajO))) YH adY;have sd:T.take (t+1)=T.take t++ [T[t]]:=by rw [akq,ajV htn];rfl
   generalize T[t]=P at a1 a3 a5 a6 DY hpm sd;refine aaa.at_ hcT (by decide) (by omega) (by omega) fun p hp=>?_;rw [ajS] at hp;refine hp.kf aaa (ws:= [.int .i64 (P.1:Int),sv]) a3 rfl ?_;refine o.box fun pb H22 o22 _=>?_;refine o22.bW (vs:= [.int .i64 (P.1:Int),sv]) (by repeat(first|exact ajP|apply ajO)) rfl rfl (all_cons rfl (all_cons a4 rfl)) (by repeat(first|exact bd.here|apply bd.there)) fun H23 o23 _=>?_;rw [ag,au];refine o23.az (b:=pb) (f:=0+1) (by repeat(first|exact ajP|apply ajO)) rfl ?_;refine a5.len (n:=P.2.length) (by rw [fw];omega) (by decide) ?_;have o24:aw H H23 (.ay (IX H2.size PV):: .sl out 1 (aM (mn zs.length U fun i=>ky (T.take t) i+ (P.2.take 0).count i)):: []):=by
    rw [xt (c' :=ky (T.take t)) (fun i=>by simp)];exact o23.arr (by repeat(first|exact dV.nil|exact bu.here|apply dV.cons|apply bu.there))
   have ahB:2 ^ j≤2 ^ 14:=hpj;refine⟨fun i H' => ∃q:Nat,i= .int .i64 q∧q≤P.2.length∧aw H H' (.ay (IX H2.size PV):: .sl out 1 (aM (mn zs.length U fun i=>ky (T.take t) i+ (P.2.take q).count i)):: []),fun i _=>match i with| .int _ x=> (P.2.length - x).toNat|_=>0,⟨0,rfl,by omega,o24⟩,?_⟩;rintro _ _ H26 ⟨q,rfl,hq,o⟩;rw [aQ];refine ax (fun hc5=>?_) (fun hc5=>?_)
   ·have hqn:q<P.2.length:=by omega
    have lf:=hpm _ (ajZ hqn);have QB:=o.ay (T:=IX H2.size PV) (by repeat(first|exact ajP|apply ajO));have ssv:=Lz QB a5 bsv;have syv:=Lz QB adV adW;have Ks:=hUm _ (ajZ lf);refine ssv.at_ (n:=P.2.length) (by rw [fw];omega) (by decide) (by omega) (by omega) fun p hp=>?_;refine hp.load ssv (w:= .int .i64 (P.2[q]:Nat)) (by rw [ajS,aj0];simp [lx,hqn]) ?_;refine syv.at_ G9 (by decide) (by omega) (by omega) fun p hp=>?_;refine hp.load syv (w:= .int .i64 (U[P.2[q]]:Nat)) (by rw [ajS,aj0];simp [lx,lf]) ?_;have so:=o.sl (v:=out) (by repeat(first|exact ajP|apply ajO));refine so.at_ (n:=zs.length) (by rw [aS,mA];omega) (by decide) (by omega) (by omega) fun p hp=>?_;rw [ajS,aj0] at hp;have sY: (mn zs.length U fun i=>ky (T.take t) i+ (P.2.take q).count i)[U[P.2[q]]]'(by rw [mA];exact Ks)= ((ky (T.take t) P.2[q]+ (P.2.take q).count P.2[q]:Nat):Int):=by
     rw [sq Ks,if_pos (ajZ lf),YI.idxOf_getElem _ lf]
    refine hp.load so (w:= .int .i64 ((ky (T.take t) P.2[q]+ (P.2.take q).count P.2[q]:Nat):Int)) (by rw [dE (by rw [mA];exact Ks),sY]) ?_;have Bh:ky (T.take t) P.2[q]+ (P.2.take q).count P.2[q]≤10000000000:=by
     have c1:=M9 (l:=T.take t) (N:=16384) (i:=P.2[q]) fun p hp=>akk (VE p (akL hp)) hpj;have c2: (P.2.take q).count P.2[q]≤(P.2.take q).length:=List.count_le_length;rw [ajW] at c1 c2;have c3:min t T.length*16384≤576*16384:=akZ _ (by omega);have c4:=akk DY hpj;omega
    rw [aC,bH (by omega) (by omega)];refine so.at_ (n:=zs.length) (by rw [aS,mA];omega) (by decide) (by omega) (by omega) fun p hp=>?_;rw [ajS,aj0] at hp;refine o.store hp (by repeat(first|exact ajP|apply ajO)) (by rw [aS,mA];exact Ks) rfl (by repeat(first|exact bd.here|apply bd.there)) fun H27 o27 _=>?_;rw [aC,bH (by omega) (by omega)];refine⟨⟨q+1,rfl,by omega,?_⟩,by show (_:Int).toNat< (_:Int).toNat;omega⟩;rw [oP,←RS (c' :=fun i=>ky (T.take t) i+ (P.2.take (q+1)).count i) YI lf Ks (RT _ P q hqn)] at o27;exact o27
   ·have hqP:q=P.2.length:=by omega
    subst hqP;rw [aC,bH (by omega) (by omega)];refine⟨⟨t+1,rfl,by omega,?_⟩,by show (_:Int).toNat< (_:Int).toNat;omega⟩;rw [xt (c' :=ky (T.take (t+1))) (fun i=>by rw [sd,AK,aj8];show _=_+ky [P] i;rw [kV,p8,akp])] at o;exact o
  ·have htT:t=T.length:=by omega
   subst htT;rw [aj8] at o;refine h _ _ _ ⟨U,hU,OL,.inr ⟨hU2,?_⟩⟩ (o.arr (by repeat(first|exact dV.nil|exact bu.here|apply dV.cons|apply bu.there)));refine xt fun i=>?_;unfold Bg;rw [←hT,hjm,iz]
end
section
set_option maxRecDepth 100000
variable {zs:List Int}
theorem AM (p:Nat→Bool) (h:Nat→Nat): ∀l:List Nat,((l.filter p).map h).sum= (l.map fun s=>if p s=true then h s else 0).sum
 | []=>rfl
 |a::l=>by
  rw [aml,akU,alW,←AM p h l]
  by_cases e:p a=true
  ·rw [if_pos e,if_pos e,akU,alW]
  ·rw [if_neg e,if_neg e,aj6]
theorem AN (f:Nat→Nat): ∀n,((List.range n).map f).sum=gZ f n
 |0=>rfl
 |n+1=>by rw [ame,aky,List.sum_append,AN f n];simp [gZ]
theorem Fi (a:Nat) (f:Nat→Nat): ∀n,gZ (fun i=>a*f i) n=a*gZ f n
 |0=>rfl
 |n+1=>by rw [gZ,gZ,Fi a f n,Nat.mul_add]
theorem OP {n:Nat} {U:List Nat} {c:Nat→Nat}:natL (mn n U c)= (List.range n).map fun s=>if s∈U then c (U.idxOf s) else 0:=by
 unfold natL mn;rw [al1];refine alg fun s _=>?_;show (if s∈U then ((c (U.idxOf s):Nat):Int) else 0).toNat=_
 by_cases h:s∈U
 ·rw [if_pos h,if_pos h,ajS]
 ·rw [if_neg h,if_neg h];rfl
theorem C7 {U:List Nat} {c f:Nat→Nat} (hU:U.Perm (kF zs zs.length)) (hd:U.Nodup) (h0:f 0=0):
  ((natL (mn zs.length U c)).map f).sum=gZ (fun i=>f (c i)) U.length:=by
 rw [OP,al1];have e1: (List.range zs.length).map (f ∘ fun s=>if s∈U then c (U.idxOf s) else 0)= (List.range zs.length).map fun s=>if decide (0<zs.getD s 0)=true then f (c (U.idxOf s)) else 0:=by
  refine alg fun s hs=>?_;have n_:=amq.1 hs;show f (if s∈U then c (U.idxOf s) else 0)=_
  by_cases h:0<zs.getD s 0
  ·rw [if_pos (hU.mem_iff.2 (o_.2 ⟨n_,h⟩)),if_pos (by simpa using h)]
  ·rw [if_neg (fun hm=>h (o_.1 (hU.mem_iff.1 hm)).2),if_neg (by simpa using h),h0]
 rw [e1,←AM];have e2:= (hU.map fun s=>f (c (U.idxOf s))).sum_nat;rw [show List.filter (fun s=>decide (0<zs.getD s 0)) (List.range zs.length)=kF zs zs.length from rfl,←e2,←AN]
 congr 1
 refine alm (by simp) fun i h1 h2=>?_;have hi:i<U.length:=by simpa using h1
 rw [alG,alG,List.getElem_range,hd.idxOf_getElem i hi]
theorem OQ {U:List Nat} (h:Lx zs U): (jf zs U).Pairwise (· ≤ ·):=by
 unfold jf;rw [List.pairwise_map];exact List.Pairwise.imp (fun h=>by omega) h
theorem M_: ∀ {U V:List Nat},U.Perm V→Lx zs U→Lx zs V→U=V
 | [],V,hp,_,_=>by rw [List.nil_perm.1 hp]
 |a::U,[],hp,_,_=>by have:=hp.length_eq;simp at this
 |a::U,b::V,hp,hu,hv=>by
  have e:a=b:=by
   have h1:a∈b::V:=hp.mem_iff.1 (by simp);have h2:b∈a::U:=hp.mem_iff.2 (by simp);rcases aj5.1 h1 with e|h1
   ·exact e
   rcases aj5.1 h2 with e|h2
   ·exact e.symm
   have r1:= (aki.1 hu).1 b h2;have r2:= (aki.1 hv).1 a h1;omega
  subst e;rw [M_ (List.perm_cons a|>.1 hp) (aki.1 hu).2 (aki.1 hv).2]
theorem C8 {m:Nat} {a b:List Int} (h:vw zs m a) (k:vw zs m b):a=b:=by
 obtain⟨U,hU,hs,hc⟩:=h;obtain⟨V,hV,ht,hd⟩:=k;have e:U=V:=M_ (hU.trans hV.symm) hs ht;subst e;rcases hc with ⟨h1,rfl⟩ | ⟨h1,rfl⟩<;>rcases hd with ⟨h2,rfl⟩ | ⟨h2,rfl⟩
 ·rfl
 ·omega
 ·omega
 ·rfl
theorem uy {m:Nat} {ls:List Int} (h:vw zs m ls) (h1:1≤m) (h2:m≤15) (hn: (kF zs zs.length).length≤2 ^ m):
  ls.length=zs.length∧(∀s,s<zs.length→if 0<zs.getD s 0 then 1≤ls.getD s 0∧ls.getD s 0≤m else ls.getD s 0=0)∧
  (2≤(kF zs zs.length).length→shareL (natL ls) 15=32768)∧((kF zs zs.length).length<2→shareL (natL ls) 15= (kF zs zs.length).length*16384∧∀s,s<zs.length→ls.getD s 0≤1)∧xD (natL ls)= (kF zs zs.length).length:=by
 obtain⟨U,hU,hs,Au⟩:=h;have YI:U.Nodup:=hU.nodup_iff.2 (List.Nodup.sublist List.filter_sublist List.nodup_range);have Z_:=hU.length_eq;have key: ∃c:Nat→Nat,ls=mn zs.length U c∧(∀i,i<U.length→1≤c i∧c i≤m)∧(U.length<2→∀i,c i=1)∧(2≤U.length→gZ (fun i=>2 ^ (m - c i)) U.length=2 ^ m):=by
  rcases Au with ⟨eF,e⟩ | ⟨Vu,e⟩
  ·exact⟨fun _=>1,e,fun i _=> ⟨ajR _,h1⟩,fun _ _=>rfl,fun h=>by omega⟩
  ·have iz: (jf zs U).length=U.length:=by simp [jf]
   have hk:=Lt (cs:=jf zs U) (k:=m - 1) (OQ hs) (by omega) (by rw [iz,Z_,show m - 1+1=m by omega];exact hn);rw [iz,show m - 1+1=m by omega] at hk;exact⟨_,e,hk.2,fun h=>by omega,fun _=>hk.1⟩
 obtain⟨c,rfl,y7,lz,DU⟩:=key;have KG: ∀s,s<zs.length→(mn zs.length U c).getD s 0=if s∈U then ((c (U.idxOf s):Nat):Int) else 0:=fun s hs=>by
  rw [ajX,ajV (by rw [mA];exact hs),alo,sq hs]
 refine⟨mA,fun s n_=>?_,fun Vu=>?_,fun eF=> ⟨?_,fun s n_=>?_⟩,?_⟩
 ·rw [KG s n_]
  by_cases h:0<zs.getD s 0
  ·have hm:s∈U:=hU.mem_iff.2 (o_.2 ⟨n_,h⟩)
   have:=y7 _ (anA hm);rw [if_pos h,if_pos hm];omega
  ·rw [if_neg h,if_neg (fun hm=>h (o_.1 (hU.mem_iff.1 hm)).2)]
 ·unfold shareL
  rw [C7 hU YI (f:=fun k=>if 1≤k∧k≤15 then 2 ^ (15 - k) else 0) rfl];rw [jE (g:=fun i=>2 ^ (15 - m)*2 ^ (m - c i)) (fun i hi=>by
   have:=y7 i hi;show (if 1≤c i∧c i≤15 then 2 ^ (15 - c i) else 0)=_;rw [if_pos (by omega),←alZ,show 15 - m+ (m - c i)=15 - c i by omega]),Fi,DU (by omega),←alZ,show 15 - m+m=15 by omega]
 ·unfold shareL
  rw [C7 hU YI (f:=fun k=>if 1≤k∧k≤15 then 2 ^ (15 - k) else 0) rfl,jE (g:=fun i=>if i<U.length then 16384 else 0) (fun i hi=>by
   show (if 1≤c i∧c i≤15 then 2 ^ (15 - c i) else 0)=_;rw [lz (by omega) i,if_pos hi];rfl),ki _ _ (ajR _),Z_]
 ·rw [KG s n_]
  split
  ·rw [lz (by omega)];decide
  ·decide
 ·have e: ∀l:List Nat,xD l= (l.map fun k=>if k=0 then 0 else 1).sum:=fun l=>by
   induction l with
   |nil=>rfl
   |cons a l ih=>
    unfold xD at ih ⊢;rw [alV,akU,alW,ih]
    by_cases h:a=0<;>simp [h];omega
  rw [e,C7 hU YI (f:=fun k=>if k=0 then 0 else 1) rfl,jE (g:=fun i=>if i<U.length then 1 else 0) (fun i hi=>by
   have:=y7 i hi;show (if c i=0 then 0 else 1)=_;rw [if_neg (by omega),if_pos hi]),ki _ _ (ajR _)]
  omega
end
section
set_option maxRecDepth 100000
variable {H H0 H' :ak} {R:Value→ak→Prop} {v:Value} {L:List It} {zs:List Int}
theorem RV {i:Nat} (hs:Sl H v 1 (aM zs)) (hlen:zs.length≤1000) (hi:i<zs.length) (h: ∀n:Nat,1≤n→i+n≤zs.length→(∀j,j<n→zs.getD (i+j) 0=zs.getD i 0)→(i+n<zs.length→zs.getD (i+n) 0≠zs.getD i 0)→R (.int .i64 (n:Int)) H):
  ab Tryz.prog 217 #[v,.int .i64 (i:Int)] H R:=by
 have iv: (aM zs).length=zs.length*1:=by rw [aS];omega
 have gd: ∀ {k:Nat} (hk:k<zs.length),zs.getD k 0=zs[k]:=fun hk=>by rw [ajX,ajV hk];rfl
 refine qQ.vc _ _ _ _ ?_;unfold qQ.res;refine⟨fun n H' => ∃k:Nat,n= .int .i64 k∧1≤k∧i+k≤zs.length∧(∀j,j<k→zs.getD (i+j) 0=zs.getD i 0)∧H=H',fun n _=>match n with| .int _ x=> (zs.length - x).toNat|_=>0,
  ⟨1,rfl,by omega,by omega,fun j hj=>by rw [show j=0 by omega,akp],rfl⟩,?_⟩
 rintro _ _ _ ⟨k,rfl,h1,hk,hj,rfl⟩;rw [aC,bH (by omega) (by omega)];refine hs.len iv (by decide) ?_;rw [aQ]
 by_cases hc:i+k<zs.length
 ·rw [decide_eq_true (by omega)]
  refine bX ?_;rw [aC,bH (by omega) (by omega)];refine hs.at_ iv (by decide) (by omega) (by omega) fun p hp=>?_;refine hp.load hs (w:= .int .i64 zs[i+k]) (by rw [show ((i:Int)+ (k:Int)).toNat=i+k by omega,aj0,dE hc]) ?_;refine hs.at_ iv (by decide) (by omega) (by omega) fun p hp=>?_;refine hp.load hs (w:= .int .i64 zs[i]) (by rw [ajS,aj0,dE hi]) ?_;rw [bj];intro _;refine ax (fun he=>?_) (fun he=>?_)
  ·rw [aC,bH (by omega) (by omega)]
   refine⟨⟨k+1,rfl,by omega,by omega,fun j Vz=>?_,rfl⟩,by show (_:Int).toNat< (_:Int).toNat;omega⟩
   by_cases e:j=k
   ·subst e;rw [gd hc,gd hi];exact he
   ·exact hj j (by omega)
  ·exact h k h1 hk hj fun _=>by rw [gd hc,gd hi];exact he
 ·rw [decide_eq_false (by omega),fH]
  intro _;rw [ao];exact h k h1 hk hj fun h2=>absurd h2 hc
def exV (e:Ex):Value:= .agg #[.int .i64 (e.1:Nat),.int .i64 (e.2.1:Nat),.int .u64 (e.2.2:Nat)]
def He (e:Ex):List Value:= [.int .i64 (e.1:Nat),.int .i64 (e.2.1:Nat),.int .u64 (e.2.2:Nat)]
def pc (z:Int) (n:Nat):Ex × Nat × Bool:=
 if z=0∧11≤n then ((18,7,min n 138 - 11),min n 138,true) else if z=0∧3≤n then ((17,3,n - 3),n,true) else if z≠0∧3≤n then ((16,2,min n 6 - 3),min n 6,true) else ((0,0,0),0,false)
theorem LC {z:Int} {n:Nat} (hn:n≤1000) (h: ∀H',Ext H H' →R (.tuple #[exV (pc z n).1,.int .i64 ((pc z n).2.1:Nat),.bool (pc z n).2.2]) H'):ab Tryz.prog 218 #[.int .i64 z,.int .i64 (n:Int)] H R:=by
 refine mS.vc _ _ _ _ ?_;unfold mS.res;refine(aw.start (H:=H)).box fun b H1 o _=>?_;have fin: ∀ {a c:Int} {x:Int} {K:Value→ak→Prop},(∀H',Ext H H' →K (.agg #[.int .i64 a,.int .i64 c,.int .u64 x]) H')→aG H1 3 (.pointer (some ⟨b,0,none⟩)) (.agg #[.int .i64 a,.int .i64 c,.int .u64 x]) fun _ bn=>aF bn 3 (.pointer (some ⟨b,0,none⟩)) fun QT=>K QT bn:=fun {a c x K} hK=>by
  refine o.bW (vs:= [.int .i64 a,.int .i64 c,.int .u64 x]) (by repeat(first|exact ajP|apply ajO)) rfl rfl rfl (by repeat(first|exact bd.here|apply bd.there)) fun H2 o2 _=>?_;refine o2.bC (by repeat(first|exact ajP|apply ajO)) rfl ?_;exact hK H2 o2.ext
 rw [bj]
 by_cases hz:z=0
 ·rw [decide_eq_true hz]
  refine bX ?_;rw [iU]
  by_cases PW:11≤n
  ·rw [decide_eq_true (by omega)]
   intro _;rw [aH,qm,bE,show min (n:Int) 138= ((min n 138:Nat):Int) by omega,bH (by omega) (by omega),eH,show ((min n 138:Nat):Int) - 11= ((min n 138 - 11:Nat):Int) by omega,eX (by omega) (by omega)];refine eY rfl rfl rfl ?_;refine fin fun H2 hx=>?_;have:=h H2 hx;unfold pc at this;rw [if_pos ⟨hz,PW⟩] at this;exact this
  rw [decide_eq_false (by omega)];intro _;rw [ao,bj,decide_eq_true hz];refine bX ?_;rw [iU]
  by_cases h3:3≤n
  ·rw [decide_eq_true (by omega)]
   intro _;rw [aH,bE,bH (by omega) (by omega),eH,show (n:Int) - 3= ((n - 3:Nat):Int) by omega,eX (by omega) (by omega)];refine eY rfl rfl rfl ?_;refine fin fun H2 hx=>?_;have:=h H2 hx;unfold pc at this;rw [if_neg (by omega),if_pos ⟨hz,h3⟩] at this;exact this
  rw [decide_eq_false (by omega)];intro _;rw [ao,mP,decide_eq_false (by simpa using hz),fH];intro _;rw [ao];rw [bG];refine fin fun H2 hx=>?_;have:=h H2 hx;unfold pc at this;rw [if_neg (by omega),if_neg (by omega),if_neg (by omega)] at this;exact this
 ·rw [decide_eq_false hz,fH]
  intro _;rw [ao,bj,decide_eq_false hz,fH];intro _;rw [ao,mP,decide_eq_true hz];refine bX ?_;rw [iU]
  by_cases h3:3≤n
  ·rw [decide_eq_true (by omega)]
   intro _;rw [aH,qm,bE,show min (n:Int) 6= ((min n 6:Nat):Int) by omega,bH (by omega) (by omega),eH,show ((min n 6:Nat):Int) - 3= ((min n 6 - 3:Nat):Int) by omega,eX (by omega) (by omega)];refine eY rfl rfl rfl ?_;refine fin fun H2 hx=>?_;have:=h H2 hx;unfold pc at this;rw [if_neg (by omega),if_neg (by omega),if_pos ⟨hz,h3⟩] at this;exact this
  rw [decide_eq_false (by omega)];intro _;rw [ao];rw [bG];refine fin fun H2 hx=>?_;have:=h H2 hx;unfold pc at this;rw [if_neg (by omega),if_neg (by omega),if_neg (by omega)] at this;exact this
end
section
set_option maxRecDepth 100000
variable {H H0 H' :ak} {R:Value→ak→Prop} {v:Value} {L:List It} {zs:List Int}
theorem Ej {g:Nat} (hm:re g Tryz.C=true) (hs:Sl H v 1 (aM zs)) (hlen:zs.length≤1000) (hg: ∀z∈zs,∀ (H:ak) (R:Value→ak→Prop),R (.bool false) H→ab Tryz.prog g #[.int .i64 z] H R) (h:R (.bool false) H):
  ab Tryz.prog 203 #[v,.func (.func g) #[] #[]] H R:=by
 have iv: (aM zs).length=zs.length*1:=by rw [aS];omega
 refine bm.vc _ _ _ _ ?_;unfold bm.res;refine bD.vc _ _ _ _ ?_;unfold bD.res;refine hs.len iv (by decide) ?_;refine⟨fun i H' => ∃k:Nat,i= .int .i64 k∧k≤zs.length∧H=H',fun i _=>match i with| .int _ x=> (zs.length - x).toNat|_=>0,⟨0,rfl,by omega,rfl⟩,?_⟩;rintro _ _ _ ⟨k,rfl,hk,rfl⟩;rw [aQ];refine ax (fun hc=>?_) (fun hc=>?_)
 ·have jR:k<zs.length:=by omega
  refine hs.at_ iv (by decide) (by omega) (by omega) fun p hp=>?_;refine hp.load hs (w:= .int .i64 zs[k]) (by rw [ajS,aj0,dE jR]) ?_;refine wj hm ?_;refine hg _ (ajZ jR) _ _ ?_;rw [ao,aC,bH (by omega) (by omega)];exact⟨⟨k+1,rfl,by omega,rfl⟩,by show (_:Int).toNat< (_:Int).toNat;omega⟩
 ·show rS _ _ _
  rw [iU,decide_eq_false (by decide)];exact h
theorem OR {z:Int} (h0:0≤z) (h1:z≤15) (h:R (.bool false) H):ab Tryz.prog 216 #[.int .i64 z] H R:=by
 refine kM.vc _ _ _ ?_;unfold kM.res;rw [aQ,decide_eq_false (by omega)];refine bh ?_;rw [bU,decide_eq_false (by omega)];intro _;exact h
def nS (E:List Ex):List Value:=E.flatMap He
theorem rH: ∀E:List Ex,(nS E).length=E.length*3
 | []=>rfl
 |e::E=>by unfold nS;rw [alp,ajQ];show 3+ (nS E).length=_;rw [rH E,aj2];omega
theorem Fj (E:List Ex) (e:Ex):nS (E++ [e])=nS E++He e:=by unfold nS;rw [ano];simp
theorem IZ {z:Int} {m:Nat}: ∀k,m+k≤zs.length→(∀j,j<k→zs.getD (m+j) 0=z)→zs.take (m+k)=zs.take m++List.replicate k z
 |0,h,hj=>by simp
 |k+1,h,hj=>by
  have h1:=hj k (by omega);rw [ajX,ajV (by omega),alo] at h1;rw [show m+ (k+1)= (m+k)+1 by omega,akq,ajV (by omega),IZ k (by omega) (fun j Vz=>hj j (by omega)),h1,amu,ajT];rfl
theorem OS {i n r:Nat} {E:List Ex} (hz: ∀z∈zs,0≤z∧z≤15) (lf:i+n≤zs.length) (jc: ∀j,j<n→zs.getD (i+j) 0=zs.getD i 0) (h1:1≤r) (hr:r≤n) (hnz:zs.getD i 0≠0→r<n)
  (hT:Told [] E (zs.take (i+n - r))):
  (∀x k,pc (zs.getD i 0) r= (x,k,true)→1≤k∧k≤r∧Told [] (E++ [x]) (zs.take (i+n - (r - k))))∧Told [] (E++ [((zs.getD i 0).toNat,0,0)]) (zs.take (i+n - (r - 1))):=by
 have hi:i<zs.length:=by omega
 have hzi:=hz _ (ajZ hi);have gi:zs.getD i 0=zs[i]:=by rw [ajX,ajV hi];rfl
 rw [←gi] at hzi;have sd: ∀k,k≤r→zs.take (i+n - (r - k))=zs.take (i+n - r)++List.replicate k (zs.getD i 0):=fun k hk=>by
  rw [show i+n - (r - k)= (i+n - r)+k by omega];refine IZ k (by omega) fun j hj=>?_;rw [show i+n - r+j=i+ (n - r+j) by omega];exact jc _ (by omega)
 constructor
 ·intro x k hx
  unfold pc at hx
  split at hx
  ·rename_i hc
   cases hx
   refine⟨by omega,by omega,?_⟩;have hv:IK (zs.take (i+n - r)) (18,7,min r 138 - 11):= .inr (.inr (.inr ⟨rfl,rfl,by show min r 138 - 11<128;omega⟩));have:=hT.snoc hv;rw [sd _ (by omega),hc.1];have e:zH (zs.take (i+n - r)) (18,7,min r 138 - 11)=zs.take (i+n - r)++List.replicate (11+ (min r 138 - 11)) 0:=rfl;rw [e,show 11+ (min r 138 - 11)=min r 138 by omega] at this;exact this
  split at hx
  ·rename_i hc0 hc
   cases hx
   refine⟨by omega,by omega,?_⟩;have hv:IK (zs.take (i+n - r)) (17,3,r - 3):= .inr (.inr (.inl ⟨rfl,rfl,by show r - 3<8;omega⟩));have:=hT.snoc hv;rw [sd _ (by omega),hc.1];have e:zH (zs.take (i+n - r)) (17,3,r - 3)=zs.take (i+n - r)++List.replicate (3+ (r - 3)) 0:=rfl;rw [e,show 3+ (r - 3)=r by omega] at this;exact this
  split at hx
  ·rename_i hc0 y7 hc
   cases hx
   refine⟨by omega,by omega,?_⟩;have hrn:=hnz hc.1;have hlen: (zs.take (i+n - r)).length=i+n - r:=by rw [ajW];omega
   have hv:IK (zs.take (i+n - r)) (16,2,min r 6 - 3):= .inr (.inl ⟨rfl,fun e=>by rw [e] at hlen;simp at hlen;omega,rfl,by show min r 6 - 3<4;omega⟩);have:=hT.snoc hv;rw [sd _ (by omega)];have M6: (zs.take (i+n - r)).getD ((zs.take (i+n - r)).length - 1) 0=zs.getD i 0:=by
    rw [hlen,ajX,ank (by omega),←ajX,show i+n - r - 1=i+ (n - r - 1) by omega];exact jc _ (by omega)
   have e:zH (zs.take (i+n - r)) (16,2,min r 6 - 3)=zs.take (i+n - r)++List.replicate (3+ (min r 6 - 3)) ((zs.take (i+n - r)).getD ((zs.take (i+n - r)).length - 1) 0):=rfl;rw [e,M6,show 3+ (min r 6 - 3)=min r 6 by omega] at this;exact this
  ·cases hx
 ·have hv:IK (zs.take (i+n - r)) ((zs.getD i 0).toNat,0,0):= .inl ⟨by show (zs.getD i 0).toNat<16;omega,rfl,rfl⟩
  have:=hT.snoc hv;rw [sd 1 h1];have e:zH (zs.take (i+n - r)) ((zs.getD i 0).toNat,0,0)=zs.take (i+n - r)++List.replicate 1 (zs.getD i 0):=by
   unfold zH IJ
   dsimp only
   rw [if_neg (by omega),if_neg (by omega),if_neg (by omega),show (((zs.getD i 0).toNat:Nat):Int)=zs.getD i 0 by omega]
  rw [e] at this;exact this
theorem LD {i:Nat} {E:List Ex} (hz: ∀z∈zs,0≤z∧z≤15) (hi:i<zs.length) (hT:Told [] E (zs.take i)):Told [] (E++ [((zs.getD i 0).toNat,0,0)]) (zs.take (i+1)):=by
 have hzi:=hz _ (ajZ hi);have gi:zs.getD i 0=zs[i]:=by rw [ajX,ajV hi];rfl
 have hv:IK (zs.take i) ((zs.getD i 0).toNat,0,0):= .inl ⟨by show (zs.getD i 0).toNat<16;omega,rfl,rfl⟩;have:=hT.snoc hv;have e:zH (zs.take i) ((zs.getD i 0).toNat,0,0)=zs.take (i+1):=by
  unfold zH IJ
  dsimp only
  rw [if_neg (by omega),if_neg (by omega),if_neg (by omega),show (((zs.getD i 0).toNat:Nat):Int)=zs.getD i 0 by omega,akq,ajV hi,gi];rfl
 rw [e] at this;exact this
inductive vA {α:Type} (S:α→α→Prop) (a:α):α→Prop
 |refl:vA S a a
 |step {b c:α}:vA S a b→S b c→vA S a c
theorem vA.head {α:Type} {S:α→α→Prop} {a b:α} (h:vA S a b):a=b∨∃c,S a c∧vA S c b:=by
 induction h with
 |refl=>exact .inl rfl
 |step _ hs ih=>
  rcases ih with rfl| ⟨c,h1,h2⟩
  ·exact .inr ⟨_,hs,.refl⟩
  ·exact .inr ⟨c,h1,.step h2 hs⟩
theorem vA.one {α:Type} {S:α→α→Prop} (det: ∀s a b,S s a→S s b→a=b) {s a b:α} (h:vA S s a) (k:vA S s b) (ha: ∀c,¬S a c) (hb: ∀c,¬S b c):a=b:=by
 have key: ∀ {x:α},vA S s x→vA S x b∨vA S b x:=fun hx=>by
  induction hx with
  |refl=>exact .inl k
  |step _ hs ih=>
   rcases ih with ih|ih
   ·rcases ih.head with rfl| ⟨c,h1,h2⟩
    ·exact .inr (.step .refl hs)
    ·rw [det _ _ _ hs h1];exact .inl h2
   ·exact .inr (.step ih hs)
 rcases key h with h1|h1
 ·rcases h1.head with e| ⟨c,h2,_⟩
  ·exact e
  ·exact absurd h2 (ha c)
 ·rcases h1.head with e| ⟨c,h2,_⟩
  ·exact e.symm
  ·exact absurd h2 (hb c)
def OT (zs:List Int) (i n:Nat):Prop:=1≤n∧i+n≤zs.length∧(∀j,j<n→zs.getD (i+j) 0=zs.getD i 0)∧(i+n<zs.length→zs.getD (i+n) 0≠zs.getD i 0)
theorem OT.one {i n m:Nat} (h:OT zs i n) (k:OT zs i m):n=m:=by
 rcases amB n m with g|g|g
 ·exact absurd (k.2.2.1 n g) (h.2.2.2 (by have:=k.2.1;omega))
 ·exact g
 ·exact absurd (h.2.2.1 m g) (k.2.2.2 (by have:=h.2.1;omega))
inductive sr (zs:List Int):Nat × Nat × Int × List Ex→Nat × Nat × Int × List Ex→Prop
 |some_ {i n:Nat} {v:Int} {E:List Ex}:OT zs i n→zs.getD i 0≠0→sr zs (i,0,v,E) (i+n,n - 1,zs.getD i 0,E++ [((zs.getD i 0).toNat,0,0)])
 |none_ {i n:Nat} {v:Int} {E:List Ex}:OT zs i n→zs.getD i 0=0→sr zs (i,0,v,E) (i+n,n,zs.getD i 0,E)
 |many {i r k:Nat} {v:Int} {E:List Ex} {x:Ex}:0<r→pc v r= (x,k,true)→sr zs (i,r,v,E) (i,r - k,v,E++ [x])
 |each {i r k:Nat} {v:Int} {E:List Ex} {x:Ex}:0<r→pc v r= (x,k,false)→sr zs (i,r,v,E) (i,r - 1,v,E++ [(v.toNat,0,0)])
theorem sr.det: ∀s a b,sr zs s a→sr zs s b→a=b:=by
 intro s a b h k
 cases h<;>cases k
 case some_.some_ n h1 h2 m k1 k2=>rw [h1.one k1]
 case some_.none_ n h1 h2 m k1 k2=>exact absurd k2 h2
 case none_.some_ n h1 h2 m k1 k2=>exact absurd h2 k2
 case none_.none_ n h1 h2 m k1 k2=>rw [h1.one k1]
 case many.many h1 h2 _ _ k1 k2=>rw [h2] at k2;cases k2;rfl
 case many.each h1 h2 _ _ k1 k2=>rw [h2] at k2;cases k2
 case each.many h1 h2 _ _ k1 k2=>rw [h2] at k2;cases k2
 case each.each h1 h2 _ _ k1 k2=>rfl
 all_goals (rename_i a1 _ _ _ _ _ _;omega)
def Na (zs:List Int) (E:List Ex):Prop:= ∃v,vA (sr zs) (0,0,0,[]) (zs.length,0,v,E)
theorem OU {E F:List Ex} (h:Na zs E) (k:Na zs F):E=F:=by
 obtain⟨v,h⟩:=h;obtain⟨w,k⟩:=k;have Bd: ∀v E,∀c,¬sr zs (zs.length,0,v,E) c:=fun v E c hc=>by
  cases hc
  case some_ n h1 _=>have:=h1.1;have:=h1.2.1;omega
  case none_ n h1 _=>have:=h1.1;have:=h1.2.1;omega
  case many h1 _=>omega
  case each h1 _=>omega
 have:=vA.one sr.det h k (Bd v E) (Bd w F);simp only [ak4] at this;exact this.2.2.2
theorem OV (hs:Sl H v 1 (aM zs)) (hlen:zs.length≤400) (hz: ∀z∈zs,0≤z∧z≤15) (h: ∀y E H',Told [] E zs→Na zs E→aw H H' [.sl y 3 (nS E)]→R y H'):ab Tryz.prog 170 #[v] H R:=by
 have iv: (aM zs).length=zs.length*1:=by rw [aS];omega
 refine oM.vc _ _ _ ?_;unfold oM.res;refine Ej (by kernel_rfl) hs (by omega) (fun z hzm H R hR=>OR (hz z hzm).1 (hz z hzm).2 hR) ?_;rw [ao];refine⟨fun y i H' => ∃ (k:Nat) (E:List Ex) (u:Int),i= .int .i64 k∧k≤zs.length∧Told [] E (zs.take k)∧vA (sr zs) (0,0,0,[]) (k,0,u,E)∧aw H H' [.sl y 3 (nS E)],fun _ i _=>match i with| .int _ x=> (zs.length - x).toNat|_=>0,⟨0,[],0,rfl,by omega,rfl,.refl,?_⟩,?_⟩
 ·exact aw.start.add (Ext.refl _) ⟨by decide,.inl ⟨rfl,rfl⟩⟩ (by intro k hk;exact absurd hk (by simp [It.eL,aV]))
 rintro _ y _ H1 ⟨i,E,u,rfl,hk,hT,UG,o⟩;refine hs.len iv (by decide) ?_;rw [aQ];refine ax (fun hc=>?_) (fun hc=>?_)
 ·have hi:i<zs.length:=by omega
  have gi:zs.getD i 0=zs[i]:=by rw [ajX,ajV hi];rfl
  have hzi:=hz _ (ajZ hi);have mH:=hs.ext o.ext;refine mH.at_ iv (by decide) (by omega) (by omega) fun p hp=>?_;rw [ajS,aj0] at hp;refine hp.load mH (w:= .int .i64 zs[i]) (dE hi) ?_;refine RV mH (by omega) hi fun n Hb lf jc Rm=>?_;refine⟨hp.load mH (w:= .int .i64 zs[i]) (dE hi) rfl,?_⟩;rw [aC,bH (by omega) (by omega)];have VE: ∀ {E:List Ex} {m:Nat},Told [] E (zs.take m)→E.length≤400:=fun hT=>by
   have:=hT.len;rw [ajW] at this
   simp at this;omega
  have hRN:OT zs i n:= ⟨Hb,lf,jc,Rm⟩;refine⟨fun y n' H' => ∃ (r:Nat) (E:List Ex),n' = .int .i64 r∧r≤n∧(zs.getD i 0≠0→r<n)∧Told [] E (zs.take (i+n - r))∧vA (sr zs) (0,0,0,[]) (i+n,r,zs.getD i 0,E)∧aw H H' [.sl y 3 (nS E)],?_,?_⟩
  ·rintro _ y2 _ H2 ⟨r0,E0,rfl,PR,ad3,hT0,hs0,o0⟩
   refine⟨fun y n' H' => ∃ (r:Nat) (E:List Ex),n' = .int .i64 r∧r≤n∧(zs.getD i 0≠0→r<n)∧Told [] E (zs.take (i+n - r))∧vA (sr zs) (0,0,0,[]) (i+n,r,zs.getD i 0,E)∧aw H H' [.sl y 3 (nS E)],fun _ n' _=>match n' with| .int _ x=>x.toNat|_=>0,⟨r0,E0,rfl,PR,ad3,hT0,hs0,o0⟩,?_⟩;rintro _ y3 _ H3 ⟨r,E,rfl,hr,hnz,hT,hsr,o⟩;rw [bU];refine ax (fun lz=>?_) (fun lz=>?_)
   ·have ff:=OS hz lf jc (by omega) hr hnz hT
    refine LC (by omega) fun H4 tV=>?_;rw [gi] at ff;obtain⟨x,k,ok,ZZ⟩: ∃x k ok,pc zs[i] r= (x,k,ok):= ⟨_,_,_,rfl⟩;rw [ZZ] at ff ⊢;refine ai (vs:= [exV x,.int .i64 (k:Nat),.bool ok]) rfl ?_;refine ai (vs:= [exV x,.int .i64 (k:Nat),.bool ok]) rfl ?_;refine ai (vs:= [exV x,.int .i64 (k:Nat),.bool ok]) rfl ?_;have o4:=o.more tV;refine o4.box fun b H5 o5 _=>?_;refine o5.bW (vs:=He x) (by repeat(first|exact ajP|apply ajO)) rfl rfl rfl (by repeat(first|exact bd.here|apply bd.there)) fun H6 o6 _=>?_;refine⟨fun k9 H' => ∃ (x' :Ex) (k' :Nat),k9= .int .i64 k' ∧1≤k' ∧k' ≤r∧Told [] (E++ [x']) (zs.take (i+n - (r - k')))∧sr zs (i+n,r,zs.getD i 0,E) (i+n,r - k',zs.getD i 0,E++ [x'])∧aw H H' (.box b (He x') 237:: .sl y3 3 (nS E):: []),?_,?_⟩
    ·rintro _ _ H7 ⟨x',k',rfl,rO,TM,hT7,hp7,o7⟩
     refine o7.bC (by repeat(first|exact ajP|apply ajO)) rfl ?_;refine o7.ej (sz:=3) (x:=exV x') (by decide) rfl rfl fun z H8 o8=>?_;refine o8.append (sz:=3) (v:=y3) (x:=z) (n:=E.length) (m:=1) (by repeat(first|exact bu.here|apply bu.there)) rfl (o8.sl (by repeat(first|exact ajP|apply ajO))) (rH E) rfl rfl (by have:=VE hT;omega) fun y4 H9 o9=>?_;rw [bE,bH (by omega) (by omega)];refine⟨⟨r - k',E++ [x'],by rw [show ((r - k' :Nat):Int)= (r:Int) - k' by omega],by omega,fun _=>by omega,hT7,hsr.step hp7,?_⟩,by show (_:Int).toNat< (_:Int).toNat;omega⟩;rw [Fj];exact o9.arr (by repeat(first|exact dV.nil|exact bu.here|apply dV.cons|apply bu.there))
    ·cases ok
     ·rw [fc]
      show ar (.bool true) _ _;rw [aH];refine aU rfl (by decide) ?_;rw [bG];refine o6.bW (vs:= [.int .i64 zs[i],.int .i64 0,.int .u64 0]) (by repeat(first|exact ajP|apply ajO)) rfl rfl rfl (by repeat(first|exact bd.here|apply bd.there)) fun H7 o7 _=>?_;have e:He ((zs[i]).toNat,0,0)= [.int .i64 zs[i],.int .i64 0,.int .u64 0]:=by
       unfold He;rw [alc hzi.1];rfl
      exact⟨((zs[i]).toNat,0,0),1,rfl,ajR _,by omega,ff.2,by rw [gi];exact .each (by omega) ZZ,by rw [e];exact o7⟩
     ·rw [fc]
      show ar (.bool false) _ _;rw [ao];obtain⟨h1,h2,h3⟩:=ff.1 x k rfl;exact⟨x,k,rfl,h1,h2,h3,by rw [gi];exact .many (by omega) ZZ,o6⟩
   ·have PR:r=0:=by omega
    subst PR;exact⟨⟨i+n,E,zs.getD i 0,by rw [show ((i+n:Nat):Int)= (i:Int)+n by omega],by omega,hT,hsr,o⟩,by show (_:Int).toNat< (_:Int).toNat;omega⟩
  ·rw [mP]
   refine fI (fun hb=>?_) (fun hb=>?_)
   ·refine aU rfl (by decide) ?_
    rw [bG];refine o.ej (sz:=3) (by decide) rfl rfl fun z H2 o2=>?_;refine o2.append (sz:=3) (v:=y) (x:=z) (n:=E.length) (m:=1) (by repeat(first|exact bu.here|apply bu.there)) rfl (o2.sl (by repeat(first|exact ajP|apply ajO))) (rH E) rfl rfl (by have:=VE hT;omega) fun y4 H3 o3=>?_;rw [bE,bH (by omega) (by omega)];refine⟨n - 1,E++ [((zs.getD i 0).toNat,0,0)],by rw [show ((n - 1:Nat):Int)= (n:Int) - 1 by omega],by omega,fun _=>by omega,?_,.step UG (.some_ hRN (by rw [gi];simpa using hb)),?_⟩
    ·rw [show i+n - (n - 1)=i+1 by omega];exact LD hz hi hT
    ·rw [Fj]
     have e:He ((zs.getD i 0).toNat,0,0)= [.int .i64 zs[i],.int .i64 0,.int .u64 0]:=by
      unfold He;rw [gi,alc hzi.1];rfl
     rw [e];exact o3.arr (by repeat(first|exact dV.nil|exact bu.here|apply dV.cons|apply bu.there))
   ·have HA:zs[i]=0:=by simpa using hb
    exact⟨n,E,rfl,ajR _,fun h0=>absurd (gi.trans HA) h0,by rw [show i+n - n=i by omega];exact hT,.step UG (.none_ hRN (gi.trans HA)),o⟩
 ·have hkz:i=zs.length:=by omega
  rw [hkz,aj8] at hT;rw [hkz] at UG;exact h _ _ _ hT ⟨u,UG⟩ o
end
section
set_option maxRecDepth 100000
variable {H H0 H' :ak} {R:Value→ak→Prop} {v:Value} {L:List It} {zs:List Int}
theorem Fk {least:Nat} (hs:Sl H v 1 (aM zs)) (hlen:zs.length≤1000) (hl:least≤zs.length) (h1:1≤least)
  (h: ∀n:Nat,least≤n→n≤zs.length→(∀j,n≤j→zs.getD j 0=0)→(least<n→zs.getD (n - 1) 0≠0)→R (.int .i64 (n:Int)) H):ab Tryz.prog 169 #[v,.int .i64 (least:Int)] H R:=by
 have iv: (aM zs).length=zs.length*1:=by rw [aS];omega
 refine oV.vc _ _ _ _ ?_;unfold oV.res;refine hs.len iv (by decide) ?_;refine⟨fun n H' => ∃k:Nat,n= .int .i64 k∧least≤k∧k≤zs.length∧(∀j,k≤j→zs.getD j 0=0)∧H=H',fun n _=>match n with| .int _ x=>x.toNat|_=>0,
  ⟨zs.length,rfl,hl,ajR _,fun j hj=>by rw [ajX,akc hj];rfl,rfl⟩,?_⟩
 rintro _ _ _ ⟨k,rfl,rO,D4,hz,rfl⟩;rw [bU]
 by_cases hc:least<k
 ·rw [decide_eq_true (by omega)]
  refine bX ?_;rw [bE,bH (by omega) (by omega)];have jR:k - 1<zs.length:=by omega
  refine hs.at_ iv (by decide) (by omega) (by omega) fun p hp=>?_;refine hp.load hs (w:= .int .i64 zs[k - 1]) (by rw [show ((k:Int) - 1).toNat=k - 1 by omega,aj0,dE jR]) ?_;rw [bj];intro _;refine ax (fun he=>?_) (fun he=>?_)
  ·rw [bE,bH (by omega) (by omega)]
   refine⟨⟨k - 1,by rw [show ((k - 1:Nat):Int)= (k:Int) - 1 by omega],by omega,by omega,fun j hj=>?_,rfl⟩,by show (_:Int).toNat< (_:Int).toNat;omega⟩
   by_cases e:j=k - 1
   ·subst e;rw [ajX,ajV jR];exact he
   ·exact hz j (by omega)
  ·exact h k rO D4 hz fun _=>by rw [ajX,ajV jR];exact he
 ·rw [decide_eq_false (by omega),fH]
  intro _;rw [ao];exact h k rO D4 hz fun g=>absurd g hc
def Fm (l:List Int) (least n:Nat):Prop:=least≤n∧n≤l.length∧(∀j,n≤j→l.getD j 0=0)∧(least<n→l.getD (n - 1) 0≠0)
theorem Fo {l:List Int} {least n m:Nat} (h:Fm l least n) (k:Fm l least m):n=m:=by
 obtain⟨h1,h2,h3,h4⟩:=h;obtain⟨k1,k2,k3,k4⟩:=k;rcases amB n m with g|g|g
 ·exact absurd (h3 (m - 1) (by omega)) (k4 (by omega))
 ·exact g
 ·exact absurd (k3 (n - 1) (by omega)) (h4 (by omega))
theorem C9: ∀ (l:List Nat) (f:Nat),f<l.length→l.getD f 0=0→shareL (l.set f 1) 15=shareL l 15+16384
 | [],f,h,_=>by simp at h
 |a::l,0,h,h0=>by
  simp at h0;subst h0
  unfold shareL;simp;omega
 |a::l,f+1,h,h0=>by
  have:=C9 l f (by simpa using h) (by simpa using h0);unfold shareL at this ⊢;simp only [ak1,akU,alW];omega
def wz (zs:List Int) (m:Nat) (ys:List Int):Prop:= ∃ls,vw zs m ls∧((xD (natL ls)≠1∧ys=ls)∨(xD (natL ls)=1∧∃f,f<ls.length∧ls.getD f 0=0∧(∀j,j<f→ls.getD j 0≠0)∧ys=ls.set f 1))
theorem AO {m:Nat} {a b:List Int} (h:wz zs m a) (k:wz zs m b):a=b:=by
 obtain⟨l,hl,h⟩:=h;obtain⟨l',FN,k⟩:=k;obtain rfl:=C8 hl FN;rcases h with ⟨h1,rfl⟩ | ⟨h1,f,f1,f2,f3,rfl⟩<;>rcases k with ⟨k1,rfl⟩ | ⟨k1,g,g1,g2,g3,rfl⟩
 ·rfl
 ·exact absurd k1 h1
 ·exact absurd h1 k1
 ·rcases amB f g with e|rfl|e
  ·exact absurd f2 (g3 f e)
  ·rfl
  ·exact absurd g2 (f3 g e)
structure VF (zs:List Int) (m:Nat) (ys:List Int):Prop where
 len:ys.length=zs.length
 rng: ∀s,0≤ys.getD s 0∧ys.getD s 0≤m
 has: ∀s,0<zs.getD s 0→1≤ys.getD s 0
 share:shareL (natL ys) 15=32768
 ex:wz zs m ys
theorem lL (ys:List Int) (s:Nat): (natL ys).getD s 0= (ys.getD s 0).toNat:=by
 unfold natL;rw [ajX,ake,ajX]
 cases ys[s]? <;>rfl
theorem RW (ys:List Int) (f:Nat) (z:Int):natL (ys.set f z)= (natL ys).set f z.toNat:=by unfold natL;rw [List.map_set]
theorem RX (l:List Nat) (k:Nat) (h:k<l.length):xD (l.take (k+1))=xD (l.take k)+if l.getD k 0=0 then 0 else 1:=by
 rw [akq,ajV h,Cy,ajX,ajV h]
 congr 1
 unfold xD
 by_cases e:l[k]=0<;>simp [e]
theorem AP {m:Nat} (hs:Sl H v 1 (aM zs)) (hlen:zs.length≤288) (Uj:2≤zs.length) (pJ:AL zs=true) (h1:1≤m) (h2:m≤15) (hn: (kF zs zs.length).length≤2 ^ m) (Hb:1≤(kF zs zs.length).length)
  (h: ∀y ys H',VF zs m ys→aw H H' [.sl y 1 (aM ys)]→R y H'):ab Tryz.prog 167 #[v,.int .i64 (m:Int)] H R:=by
 refine l6.vc _ _ _ _ ?_;unfold l6.res;refine yD hs hlen pJ h1 h2 hn fun y ls H1 YK o=>?_;obtain⟨f1,f2,f3,f4,f5⟩:=uy YK h1 h2 hn;refine ai (vs:= [y,.int .i64 0]) rfl ?_;refine ai (vs:= [y,.int .i64 0]) rfl ?_;have hy:=o.sl (v:=y) (by repeat(first|exact ajP|apply ajO));have G9: (aM ls).length=ls.length*1:=by rw [aS];omega
 have RY: ∀s,0≤ls.getD s 0∧ls.getD s 0≤m:=fun s=>by
  by_cases n_:s<zs.length
  ·have:=f2 s n_
   split at this<;>omega
  ·rw [ajX,akc (by omega)];simp
 have aae: ∀s,0<zs.getD s 0→1≤ls.getD s 0:=fun s h0=>by
  by_cases n_:s<zs.length
  ·have:=f2 s n_
   rw [if_pos h0] at this;exact this.1
  ·rw [ajX,akc (by omega)] at h0;simp at h0
 have PU: (natL ls).length=ls.length:=kD ls;refine hy.len G9 (by decide) ?_;refine⟨fun a f i H' => ∃ (k:Nat) (fi:Int),i= .int .i64 k∧a= .int .i64 ((xD ((natL ls).take k):Nat):Int)∧f= .int .i64 fi∧k≤ls.length∧((fi= -1∧xD ((natL ls).take k)=k∧∀j,j<k→ls.getD j 0≠0)∨(0≤fi∧fi<ls.length∧ls.getD fi.toNat 0=0∧∀j,j<fi.toNat→ls.getD j 0≠0))∧xD ((natL ls).take k)≤k∧H1=H',
  fun _ _ i _=>match i with| .int _ x=> (ls.length - x).toNat|_=>0,⟨0,-1,rfl,rfl,rfl,by omega,.inl ⟨rfl,rfl,fun j hj=>by omega⟩,ajR _,rfl⟩,?_⟩
 rintro _ _ _ _ _ ⟨k,fi,rfl,rfl,rfl,hk,hf,hnk,rfl⟩;rw [aQ];refine ax (fun hc=>?_) (fun hc=>?_)
 ·have jR:k<ls.length:=by omega
  have gk:ls.getD k 0=ls[k]:=by rw [ajX,ajV jR];rfl
  have Kv:=RX (natL ls) k (by omega);rw [lL,gk] at Kv;refine hy.at_ G9 (by decide) (by omega) (by omega) fun p hp=>?_;refine hp.load hy (w:= .int .i64 ls[k]) (by rw [ajS,aj0,dE jR]) ?_;have hrk:=RY k;rw [gk] at hrk;rw [bU];refine ax (fun Z4=>?_) (fun Z4=>?_)
  ·rw [if_neg (by omega)] at Kv
   rw [aC,bH (by omega) (by omega),aC,bH (by omega) (by omega)];refine⟨⟨k+1,fi,rfl,by rw [Kv];rfl,rfl,by omega,?_,by omega,rfl⟩,by show (_:Int).toNat< (_:Int).toNat;omega⟩;rcases hf with ⟨hf,hq,Gw⟩ |hf
   ·refine .inl ⟨hf,by omega,fun j hj=>?_⟩
    by_cases e:j=k
    ·subst e;rw [gk];omega
    ·exact Gw j (by omega)
   ·exact .inr hf
  ·have HA:ls[k]=0:=by omega
   rw [if_pos (by omega)] at Kv
   replace Kv:xD ((natL ls).take (k+1))=xD ((natL ls).take k):=Kv
   rw [aQ];refine ax (fun hf0=>?_) (fun hf0=>?_)
   ·rw [aC,bH (by omega) (by omega)]
    have qC: ∀j,j<k→ls.getD j 0≠0:=by
     rcases hf with ⟨_,_,hq⟩ |hf
     ·exact hq
     ·omega
    exact⟨⟨k+1,(k:Int),rfl,by rw [Kv],rfl,by omega,.inr ⟨by omega,by omega,by rw [ajS,gk];exact HA,by rw [ajS];exact qC⟩,by omega,rfl⟩,by show (_:Int).toNat< (_:Int).toNat;omega⟩
   ·rw [aC,bH (by omega) (by omega)]
    have hf2:0≤fi∧fi<ls.length∧ls.getD fi.toNat 0=0∧∀j,j<fi.toNat→ls.getD j 0≠0:=by
     rcases hf with ⟨hf,_⟩ |hf
     ·omega
     ·exact hf
    exact⟨⟨k+1,fi,rfl,by rw [Kv],rfl,by omega,.inr hf2,by omega,rfl⟩,by show (_:Int).toNat< (_:Int).toNat;omega⟩
 ·have j5:k=ls.length:=by omega
  rw [j5,aj9 (by omega)] at hf ⊢;rw [f5] at hf ⊢;rw [bj];refine ax (fun he=>?_) (fun he=>?_)
  ·have mH: (kF zs zs.length).length=1:=by omega
   rcases hf with ⟨_,hf,_⟩ | ⟨g1,g2,g3,g4⟩
   ·omega
   obtain⟨fn,rfl⟩: ∃n:Nat,fi=n:= ⟨fi.toNat,by omega⟩;rw [ajS] at g3 g4;refine hy.at_ G9 (by decide) (by omega) (by omega) fun p hp=>?_;rw [ajS,aj0] at hp;refine o.store hp (by repeat(first|exact ajP|apply ajO)) (by rw [aS];omega) rfl (by repeat(first|exact bd.here|apply bd.there)) fun H2 o2 _=>?_;rw [oP] at o2;have KG: ∀s,(ls.set fn 1).getD s 0=if s=fn then 1 else ls.getD s 0:=fun s=>by
    rw [ajX,anm]
    by_cases e:fn=s
    ·subst e;rw [if_pos rfl,if_pos (by omega),if_pos rfl];rfl
    ·rw [if_neg e,if_neg (fun h=>e h.symm),ajX]
   refine h y (ls.set fn 1) H2 ⟨by rw [akT];exact f1,fun s=>?_,fun s h0=>?_,?_,ls,YK,.inr ⟨by omega,fn,by omega,g3,g4,rfl⟩⟩ o2
   ·rw [KG s];have:=RY s;split<;>omega
   ·rw [KG s];have:=aae s h0;split<;>omega
   ·rw [RW,show (1:Int).toNat=1 from rfl,C9 _ _ (by omega) (by rw [lL,g3];rfl),(f4 (by omega)).1,mH]
  ·have sP:2≤(kF zs zs.length).length:=by omega
   exact h y ls H1 ⟨f1,RY,aae,f3 sP,ls,YK,.inl ⟨by omega,rfl⟩⟩ o
end
section
set_option maxRecDepth 100000
variable {H:ak} {R:Value→ak→Prop}
structure Wr (H:ak) (b o:Nat) (dv:Value) (B:List Bool):Prop where
 sub: ∃ (D:List UInt8) (acc n:Nat),qo H b o [dv,u64 acc,i64 n]∧pB H dv 1 (D.map cY)∧B=toBits D++aW acc n∧acc<2 ^ n∧n<8
 ne:aV dv≠some b
 Aw:B.length≤70368744177664
theorem GB {H:ak} {v:Value} {sz:Nat} {l:List Value} (h:pB H v sz l):aL v=true:=by
 rcases h with ⟨rfl,_⟩ | ⟨_,_,_,_,rfl,_⟩<;>rfl
theorem Wr.ext {H' :ak} {b o:Nat} {dv:Value} {B:List Bool} (h:Wr H b o dv B) (hx:Ext H H'):Wr H' b o dv B:=by
 obtain⟨⟨D,acc,n,h1,h2,h3⟩,h4,h5⟩:=h;exact⟨⟨D,acc,n,h1.ext hx,h2.ext hx,h3⟩,h4,h5⟩
theorem Wr.lt {b o:Nat} {dv:Value} {B:List Bool} (h:Wr H b o dv B):b<H.size:=by
 obtain⟨⟨D,acc,n,h1,h2,h3⟩,h4⟩:=h;exact h1.lt
theorem Wr.new {b o:Nat} (h:qo H b o [.slice none 0 0,.int .u64 0,.int .i64 0]):Wr H b o (.slice none 0 0) []:= ⟨⟨[],0,0,h,.inl ⟨rfl,rfl⟩,rfl,by decide,by decide⟩,by simp [aV],by simp⟩
theorem Wr.A5 {H' :ak} {b o:Nat} {dv:Value} {B:List Bool} {b' o' n' :Nat} {F F' :Nat→Prop} (h:Wr H b o dv B) (c:oG b' o' n' F F' H H') (h1:b≠b') (h2: ¬F b) (h3:aV dv≠some b') (h4: ∀k,aV dv=some k→¬F k):Wr H' b o dv B:=by
 obtain⟨⟨D,acc,n,g1,g2,g3⟩,g4,g5⟩:=h;exact⟨⟨D,acc,n,g1.same (c.ne b g1.lt h1 h2),c.own g2 h3 h4,g3⟩,g4,g5⟩
variable {b o:Nat} {dv:Value} {B:List Bool}
theorem OW (n:Nat):aW 0 n=List.replicate n false:=by
 apply akV;intro i
 by_cases h:i<n
 ·rw [N2 h,amg,if_pos h];simp
 ·rw [akc (by rw [aR];omega),akc (by simp;omega)]
theorem Nb {b o n:Nat} {v v' :Value} {H H' :ak} (hb:b<H.size) (hv:aV v≠some b) (hi: ∀i,i<H.size→aV v≠some i→H'[i]? =H[i]?) (hs:H.size≤H'.size) (hk: ∀k,aV v' =some k→aV v=some k∨H.size≤k):oG b o n (rP v) (rP v') H H' :=
 ⟨hs,fun i h1 _ h3=>hi i h1 h3,fun cs t fr hc=> ⟨cs,(hi b hb hv).trans hc,rfl,fun _ _=>rfl⟩,fun k h=>hk k h⟩
theorem I0 {D:List UInt8} {acc n:Nat} (hs:qo H b o [dv,u64 acc,i64 n]) (ho:pB H dv 1 (D.map cY)) (ha:acc<2 ^ n) (hn:n<64) (d_:aV dv≠some b) (il:8*D.length+n≤70368744177664)
  (h: ∀H' nu,Wr H' b o nu (toBits D++aW acc n)→oG b o 3 (rP dv) (rP nu) H H' →R (.tuple #[]) H'):ab Tryz.prog 161 #[at_ b o] H R:=by
 have hbH:=hs.lt;refine gU.vc _ _ _ ?_;unfold gU.res;refine⟨fun H' => ∃ (D' :List UInt8) (jS n' :Nat) (nu :Value),qo H' b o [nu,u64 jS,i64 n']∧pB H' nu 1 (D'.map cY)∧jS <2 ^ n' ∧n' <64∧aV nu ≠some b∧toBits D' ++aW jS n' =toBits D++aW acc n∧oG b o 3 (rP dv) (rP nu) H H',
  fun H' =>match cellAt H' ⟨b,o+2,none⟩ with|some (.int _ q)=>q.toNat|_=>0,⟨D,acc,n,dv,hs,ho,ha,hn,d_,rfl,oG.refl⟩,?_⟩
 rintro _ H1 ⟨D',jS,n',nu,mH,ho1,tQ,Hb,UH,J1,c1⟩;have hlen:=congrArg List.length J1;rw [ajQ,ajQ,aR,aR,bs,bs] at hlen;simp only [ne_eq,aA,ag,au,akp,ba (mH.cell (k:=1) rfl),eH,ba (mH.cell0 rfl),ba (mH.cell (k:=2) rfl),iU];refine ax (fun hc=>?_) (fun hc=>?_)
 ·rw [yc]
  refine KD rfl rfl fun y H2 sy e2 _=>?_;have sP:=mH.ext e2;simp only [ba (sP.cell0 rfl),true_and];have U_:=ho1.ext e2;refine U_.append (n:=D'.length) (m:=1) (by decide) rfl (sy.mu (n:=1) rfl (by decide)) sy.cellsOf (by simp) rfl rfl (by omega) fun v3 H3 o3 i3 s3 k3=>?_;have J3:qo H3 b o [nu,u64 jS,i64 n']:=sP.same (i3 b sP.lt UH);have c3:oG b o 3 (rP nu) (rP v3) H1 H3:=by
   have:=e2.size;refine Nb mH.lt UH (fun i h1 h2=>by rw [i3 i (by omega) h2,e2.get i h1]) (by omega) (fun k hk=>?_);rcases k3 with h' |h'
   ·exact .inl (h' ▸ hk)
   ·right;rw [h',ajY] at hk;omega
  have Z7:aV v3≠some b:=fun e=>by
   rcases c3.new b e with h' |h'
   ·exact UH h'
   ·have:=mH.lt;omega
  refine mR (F:=none_) (n:=3) J3 rfl (by simp) (GB o3) fun H4 s4 Ol c4=>?_;simp only [ba (Ol.cell (k:=1) rfl),ql,Int.reduceLE,true_and];rw [nM (n:=jS) (m:=min (Int.toNat 8) IntKind.u64.bits) (j:=8) rfl];refine ko (F:=none_) (k:=1) (n:=3) Ol rfl (by simp) rfl fun H5 s5 hs5 c5=>?_;simp only [ba (hs5.cell (k:=2) rfl),bE];rw [bH (n:= (n' :Int) - 8) (by omega) (by omega),show (n' :Int) - 8= ((n' - 8:Nat):Int) by omega];refine ko (F:=none_) (k:=2) (n:=3) hs5 rfl (by simp) rfl fun H6 s6 hs6 c6=>?_;have c36:= (c4.trans c5).trans c6;have o6:pB H6 v3 1 ((D' ++ [UInt8.ofNat (jS %256)]).map cY):=by
   rw [aky];exact c36.own o3 Z7 (fun _ _ h=>h)
  refine⟨⟨D' ++ [UInt8.ofNat (jS %256)],jS /2 ^ 8,n' - 8,v3,hs6,o6,Gm tQ (by omega),by omega,Z7,?_,c1.trans (c3.trans c36.any)⟩,?_⟩
  ·rw [←J1,ey,ajT,wN (n:=n') (by omega)]
  ·rw [hs6.cell (k:=2) rfl,mH.cell (k:=2) rfl]
   show ((n' - 8:Nat):Int).toNat< (n' :Int).toNat;omega
 ·exact h H1 nu ⟨⟨D',jS,n',mH,ho1,J1.symm,tQ,by omega⟩,UH,by rw [ajQ,aR,bs];omega⟩ c1
theorem OX {v n:Int} (Ah: ¬ (1≤n∧n≤32)) (h:R (.tuple #[]) H):ab Tryz.prog 116 #[at_ b o,.int .u64 v,.int .i64 n] H R:=by
 refine eJ.vc _ _ _ _ _ ?_;unfold eJ.res;simp only [aQ,bU,aA,ag,au,jg,bE,dF,iA,kA,al4,qk]
 intros
 rw [decide_eq_true (by omega),aH];exact h
theorem AQ {v k:Nat} (hv:v<18446744073709551616) (Yu:1≤k) (hk:k≤32) (hw:Wr H b o dv B) (il:B.length+32≤70368744177664)
  (h: ∀H' nu,Wr H' b o nu (B++aW v k)→oG b o 3 (rP dv) (rP nu) H H' →R (.tuple #[]) H'):ab Tryz.prog 116 #[at_ b o,u64 v,i64 k] H R:=by
 obtain⟨⟨D,acc,n,hs,ho,rfl,ha,hn⟩,d_,hb⟩:=hw;rw [ajQ,aR,bs] at il;refine eJ.vc _ _ _ _ _ ?_;unfold eJ.res;simp only [aQ,bU,aA,ag,au,jg,bE,dF,iA,kA,al4,qk]
 intros
 rw [decide_eq_false (by omega),ao];simp only [ba (hs.cell (k:=2) rfl),jg,ba (hs.cell (k:=1) rfl),dF];refine⟨by omega,?_⟩;rw [Cp hv hk];refine⟨by omega,?_⟩;have FU: (2:Nat) ^ k≤2 ^ 32:=akd (by decide) hk;have hpn: (2:Nat) ^ n≤2 ^ 7:=akd (by decide) (by omega);have hm:=alb v (alU k);have afI:v%2 ^ k*2 ^ n≤2 ^ 32*2 ^ 7:=ane (by omega) hpn;rw [MH (by omega) (by omega),zk (by omega) (by omega),yb ha];refine ko (F:=none_) (k:=1) (n:=3) hs rfl (by simp) rfl fun H1 s1 mH c1=>?_;simp only [ba (mH.cell (k:=2) rfl),aC];rw [bH (n:= (n:Int)+ (k:Int)) (by omega) (by omega),show (n:Int)+ (k:Int)= ((n+k:Nat):Int) by omega];refine ko (F:=none_) (k:=2) (n:=3) mH rfl (by simp) rfl fun H2 s2 sP c2=>?_;have c12:=c1.trans c2;have U_:=c12.own ho d_ (fun _ _ h=>h);have eF:acc+v%2 ^ k*2 ^ n<2 ^ (n+k):=by
  rw [alZ];have h1:v%2 ^ k*2 ^ n≤(2 ^ k - 1)*2 ^ n:=akZ _ (by omega);rw [Nat.sub_mul,Nat.one_mul,akE (2 ^ k)] at h1;have h2:2 ^ n≤2 ^ n*2 ^ k:=am2 _ (alU k);omega
 refine I0 sP U_ eF (by omega) d_ (by omega) fun H3 nu hw3 c3=>?_;refine h H3 nu ?_ ((c12.any).trans c3);rw [Cn ha,qP,←ajT] at hw3;exact hw3
def od (B:List Bool):List Bool:=B++List.replicate ((8 - B.length%8) %8) false
theorem yE (B:List Bool): (od B).length%8=0∧(od B).length≤B.length+7∧B.length≤(od B).length:=by
 unfold od;rw [ajQ,akw];omega
theorem ss (hw:Wr H b o dv B) (il:B.length+32≤70368744177664) (h: ∀H' nu,Wr H' b o nu (od B)→oG b o 3 (rP dv) (rP nu) H H' →R (.tuple #[]) H'):ab Tryz.prog 70 #[at_ b o] H R:=by
 have sO :=hw;obtain⟨⟨D,acc,n,hs,ho,he,ha,hn⟩,d_,hb⟩:=hw;have hl:B.length=8*D.length+n:=by rw [he,ajQ,aR,bs]
 refine gS.vc _ _ _ ?_;unfold gS.res;simp only [aA,ag,au,ba (hs.cell (k:=2) rfl),bU,Cc,ox,Bool.true_and,bE];refine fun _=>ax (fun hc=>?_) (fun hc=>?_)
 ·rw [bH (n:=8 - (n:Int)) (by omega) (by omega),show 8 - (n:Int)= ((8 - n:Nat):Int) by omega]
  refine AQ (v:=0) (by decide) (by omega) (by omega) sO il fun H1 Nc M7 c1=>?_;refine h H1 Nc ?_ c1;rw [OW] at M7;unfold od;rw [show (8 - B.length%8) %8=8 - n by omega];exact M7
 ·refine h H dv ?_ oG.refl
  unfold od;rw [show (8 - B.length%8) %8=0 by omega,List.replicate_zero,akb];exact sO
theorem OY {s:List UInt8} (hw:Wr H b o dv B) (il:B.length+8*s.length+32≤70368744177664) (h: ∀H' nu,Wr H' b o nu (od B++toBits s)→oG b o 3 (rP dv) (rP nu) H H' →R (.tuple #[]) H'):ab Tryz.prog 117 #[at_ b o,str s] H R:=by
 have hbH:=hw.lt;refine jl.vc _ _ _ _ ?_;unfold jl.res;simp only [aA,ag,au,akp,Cc,aH];refine ss hw (by omega) fun H1 Nc M7 c1=>?_;have hp:=yE B;obtain⟨⟨D,acc,n,hs,ho,he,ha,hn⟩,d_,hb⟩:=M7;have hl: (od B).length=8*D.length+n:=by rw [he,ajQ,aR,bs]
 have EK:n=0:=by omega
 subst EK;simp only [ba (hs.cell0 rfl)];refine ho.append (n:=D.length) (m:=s.length) (new:=s.map cY) (by decide) rfl rfl rfl (by simp) (by simp) (by
  rw [alA];intro x hx;obtain⟨y,_,rfl⟩:=akn.1 hx;rfl) (by omega) fun v2 H2 o2 i2 s2 k2=>?_
 have sP:qo H2 b o [Nc,u64 acc,i64 0]:=hs.same (i2 b hs.lt d_);have c2:oG b o 3 (rP Nc) (rP v2) H1 H2:=Nb hs.lt d_ i2 s2 (fun k hk=>by
  rcases k2 with h' |h'
  ·exact .inl (h' ▸ hk)
  ·right;rw [h',ajY] at hk;omega)
 have HK:aV v2≠some b:=fun e=>by
  rcases c2.new b e with h' |h'
  ·exact d_ h'
  ·have:=hs.lt;omega
 refine mR (F:=none_) (n:=3) sP rfl (by simp) (GB o2) fun H3 s3 J3 c3=>?_;refine h H3 v2 ⟨⟨D++s,acc,0,J3,?_,?_,ha,by omega⟩,HK,?_⟩ (c1.trans (c2.trans c3.any))
 ·rw [aky];exact c3.own o2 HK (fun _ _ h=>h)
 ·rw [he,w9,akb,akb,ey]
 ·rw [ajQ,bs];omega
theorem OZ (hw:Wr H b o dv B) (h:R (i64 B.length) H):ab Tryz.prog 321 #[at_ b o] H R:=by
 obtain⟨⟨D,acc,n,hs,ho,he,ha,hn⟩,d_,hb⟩:=hw;have hl:B.length=8*D.length+n:=by rw [he,ajQ,aR,bs]
 refine jm.vc _ _ _ ?_;unfold jm.res;simp only [aA,ag,au,ba (hs.cell (k:=2) rfl),akp,ba (hs.cell0 rfl),iA,ao];refine(ho.sl (by decide)).len (n:=D.length) (by simp) (by decide) ?_;simp only [vf,aC];rw [bH (n:=8* (D.length:Int)) (by omega) (by omega),bH (by omega) (by omega),show 8* (D.length:Int)+ (n:Int)= (B.length:Int) by omega];exact h
theorem vB (hw:Wr H b o dv B) (h: ∀H' nu,Wr H' b o nu (B.drop (8* (B.length/8)))→oG b o 3 (rP dv) (rP nu) H H' →R (str (a7 B)) H'):ab Tryz.prog 72 #[at_ b o] H R:=by
 obtain⟨⟨D,acc,n,hs,ho,he,ha,hn⟩,d_,hb⟩:=hw;have hl:B.length=8*D.length+n:=by rw [he,ajQ,aR,bs]
 refine gT.vc _ _ _ ?_;unfold gT.res;simp only [aA,ag,au,akp,ba (hs.cell0 rfl),iA,ao];refine Sl.str (ho.sl (by decide)) ?_;refine ho.acf fun v1 o1 k1=>?_;have w5:aV v1≠some b:=by rw [k1];exact d_
 refine mR (F:=none_) (n:=3) hs rfl (by simp) (GB o1) fun H1 s1 mH c1=>?_;have h:=h H1 v1 ⟨⟨[],acc,n,mH,c1.own o1 w5 (fun _ _ h=>h),?_,ha,hn⟩,w5,by rw [aj1];omega⟩ (c1.any.VX (fun _ h=>h) (fun k hk=> .inl (by
  have mw :aV v1=some k:=hk;rw [k1] at mw;exact mw)))
 ·rw [he,ry D _ (by rw [aR];omega)] at h
  exact h
 ·rw [hl,show (8*D.length+n) /8=D.length by omega,he,←bs D,akH (ajR _),alj (ajR _)]
  rfl
end
section
set_option maxRecDepth 100000
variable {H:ak} {B:List Bool}
theorem Fq (B:List Bool): ∃r,od B=B++r∧r.length<8:= ⟨_,rfl,by simp;omega⟩
end
section
set_option maxRecDepth 100000
variable {H H0 H' :ak} {B:List Bool} {L:List It}
structure WP where
 b:Nat
 pre:List Value
 post:List Value
 t:TypeId
abbrev WP.at (w:WP):Value:=at_ w.b w.pre.length
abbrev wp (b:Nat) (t:TypeId):WP:= ⟨b,[],[],t⟩
abbrev WP.cells (w:WP) (dv:Value) (acc n:Nat):List Value:=w.pre++ [dv,u64 acc,i64 n]++w.post
def p_ (w:WP) (dv:Value) (B:List Bool):ir where
 eL k:=k=w.b∨aV dv=some k
 holds H:= ∃ (D:List UInt8) (acc n:Nat),H[w.b]? =some (.cells (w.cells dv acc n).toArray w.t (0,0))∧pB H dv 1 (D.map cY)∧B=toBits D++aW acc n∧acc<2 ^ n∧n<8∧aV dv≠some w.b∧B.length≤70368744177664
 frame:=fun h hf=>by
  obtain⟨D,acc,n,g1,g2,g3⟩:=h;have hi:It.holds _ (.sl dv 1 (D.map cY)):= ⟨by decide,g2⟩;exact⟨D,acc,n,(hf _ (.inl rfl)).trans g1,(It.frame hi fun k hk=>hf k (.inr hk)).2,g3⟩
 lt:=fun h hf=>by
  obtain⟨D,acc,n,g1,g2,g3⟩:=h;rcases hf with rfl|hf
  ·exact bw g1
  ·exact g2.lt hf
theorem yF {w:WP} {dv:Value} (o:aw H0 H L) (h:It.ay (p_ w dv B)∈L):Wr H w.b w.pre.length dv B:=by
 obtain⟨D,acc,n,g1,g2,g3,g4,g5,g6,g7⟩:=o.ay h;exact⟨⟨D,acc,n,⟨w.pre,w.post,w.t,rfl,g1⟩,g2,g3,g4,g5⟩,g6,g7⟩
theorem su {L' :List It} {w:WP} {dv nu :Value} {B' :List Bool} (o:aw H0 H L) (g:Wr H' w.b w.pre.length nu B') (c:oG w.b w.pre.length 3 (rP dv) (rP nu) H H') (hr:bd (.ay (p_ w dv B)) (.ay (p_ w nu B')) L L') (lf:It.ay (p_ w dv B)∈L):aw H0 H' L' :=by
 refine o.nq hr c.size (fun k hk hf=>c.ne k hk (fun h=>hf (.inl h)) (fun h=>hf (.inr h))) ?_ (fun k hk=>by
  rcases hk with hk|hk
  ·exact .inl (.inl hk)
  ·rcases c.new k hk with h|h
   ·exact .inl (.inr h)
   ·exact .inr h)
 obtain⟨D,acc,n,g1,-⟩:=o.ay lf;obtain⟨⟨D',jS,n',s,k2,k3,k4,k5⟩,k6,k7⟩:=g;have e0: (0:Nat)+w.pre.length=w.pre.length:=aj6 _;have sw:= (qo.all g1).whole (y' := [nu,u64 jS,i64 n']) (F:=rP dv) (F' :=rP nu) (by rw [e0];exact c) (by rw [e0];exact s) rfl;exact⟨D',jS,n',qo.Wu (n:= (w.cells dv acc n).length) g1 (c.wide (akj _) (by simp)) sw (by simp),k2,k3,k4,k5,k6,k7⟩
theorem RZ {b:Nat} {t:TypeId} (o:aw H0 H (.box b [.slice none 0 0,.int .u64 0,.int .i64 0] t::L)):aw H0 H (.ay (p_ (wp b t) (.slice none 0 0) [])::L):=by
 have hb:=o.ll (b:=b) ajP;refine o.nq bd.here (ajR _) (fun _ _ _=>rfl) ⟨[],0,0,hb,.inl ⟨rfl,rfl⟩,rfl,by decide,by decide,by simp [aV],by simp⟩ (fun k hk=>by
  rcases hk with rfl|hk
  ·exact .inl rfl
  ·simp [aV] at hk)
theorem UI {b:Nat} {pre post:List Value} {t:TypeId} (o:aw H0 H (.box b (pre++ [.slice none 0 0,.int .u64 0,.int .i64 0]++post) t::L)):aw H0 H (.ay (p_ ⟨b,pre,post,t⟩ (.slice none 0 0) [])::L):=by
 have hb:=o.ll (b:=b) ajP;refine o.nq bd.here (ajR _) (fun _ _ _=>rfl) ⟨[],0,0,hb,.inl ⟨rfl,rfl⟩,rfl,by decide,by decide,by simp [aV],by simp⟩ (fun k hk=>by
  rcases hk with rfl|hk
  ·exact .inl rfl
  ·simp [aV] at hk)
variable {w:WP} {dv:Value}
theorem pE {j:Nat} {x:Value} {K:Value→Prop} (o:aw H0 H L) (lf:It.ay (p_ w dv B)∈L) (hx:w.pre[j]? =some x) (hk:K x):al H (at_ w.b j) K:=by
 obtain⟨D,acc,n,g1,-⟩:=o.ay lf;have hj:= (aku.1 hx).1;rw [ba (v:=x)]
 ·exact hk
 ·rw [e_ g1,akr]
  show (w.pre++ [dv,u64 acc,i64 n]++w.post)[j]? =some x;rw [ajT,akx hj,hx]
theorem R0 {j k:Nat} {x:Value} {K:Value→Prop} (o:aw H0 H L) (lf:It.ay (p_ w dv B)∈L) (e:k=w.pre.length+3+j) (hx:w.post[j]? =some x) (hk:K x):al H (at_ w.b k) K:=by
 obtain⟨D,acc,n,g1,-⟩:=o.ay lf;rw [ba (v:=x)]
 ·exact hk
 ·rw [e_ g1,akr]
  show (w.pre++ [dv,u64 acc,i64 n]++w.post)[k]? =some x;rw [akB (by simp;omega),e]
  simpa using hx
theorem C_ {j:Nat} {x:Value} {L' :List It} {K:Value→ak→Prop} (o:aw H0 H L) (lf:It.ay (p_ w dv B)∈L) (hj:j<w.pre.length) (hx:aL x=true)
  (vj:bd (.ay (p_ w dv B)) (.ay (p_ ⟨w.b,w.pre.set j x,w.post,w.t⟩ dv B)) L L') (hk: ∀H',aw H0 H' L' →K undef H'):aE H (at_ w.b j) x K:=by
 obtain⟨D,acc,n,g1,g2,g3,g4,g5,g6,g7⟩:=o.ay lf;refine lB g1 (by simp;omega) hx fun H' hs u=>hk H' (o.nq vj u.size (fun k hk d_=>u.ne k hk (fun e=>d_ (.inl e))) ⟨D,acc,n,?_,?_,g3,g4,g5,g6,g7⟩ (fun k hk=> .inl hk))
 ·rw [u.at_,ama]
  congr 3
  show (w.pre++ [dv,u64 acc,i64 n]++w.post).set j x=w.pre.set j x++ [dv,u64 acc,i64 n]++w.post;rw [ajT,amI _ _ hj,←ajT]
 ·have hi:It.holds H (.sl dv 1 (D.map cY)):= ⟨by decide,g2⟩
  refine(It.frame hi fun k hk=>u.ne k (g2.lt hk) fun e=>?_).2;subst e;exact g6 hk
theorem O0 {j k:Nat} {x:Value} {L' :List It} {K:Value→ak→Prop} (o:aw H0 H L) (lf:It.ay (p_ w dv B)∈L) (e:k=w.pre.length+3+j) (hj:j<w.post.length) (hx:aL x=true)
  (vj:bd (.ay (p_ w dv B)) (.ay (p_ ⟨w.b,w.pre,w.post.set j x,w.t⟩ dv B)) L L') (hk: ∀H',aw H0 H' L' →K undef H'):aE H (at_ w.b k) x K:=by
 obtain⟨D,acc,n,g1,g2,g3,g4,g5,g6,g7⟩:=o.ay lf;refine lB g1 (by simp;omega) hx fun H' hs u=>hk H' (o.nq vj u.size (fun k hk d_=>u.ne k hk (fun e=>d_ (.inl e))) ⟨D,acc,n,?_,?_,g3,g4,g5,g6,g7⟩ (fun k hk=> .inl hk))
 ·rw [u.at_,ama]
  congr 3
  show (w.pre++ [dv,u64 acc,i64 n]++w.post).set k x=w.pre++ [dv,u64 acc,i64 n]++w.post.set j x;rw [amK _ _ (by simp;omega),e]
  congr 2
  simp
 ·have hi:It.holds H (.sl dv 1 (D.map cY)):= ⟨by decide,g2⟩
  refine(It.frame hi fun k hk=>u.ne k (g2.lt hk) fun e=>?_).2;subst e;exact g6 hk
end
section
set_option maxRecDepth 100000
variable {H H0 H' :ak} {R:Value→ak→Prop} {v:Value} {L:List It} {zs:List Int} {b:WP} {B:List Bool}
theorem uz {n:Nat} {k:Nat} {dv:Value} (hv:n<18446744073709551616) (hk:k≤32) (il:B.length≤1000000000) (o:aw H0 H (.ay (p_ b dv B)::L)) (h: ∀H' nu,aw H0 H' (.ay (p_ b nu (B++aW n k))::L)→R (.tuple #[]) H'):ab Tryz.prog 116 #[b.at,.int .u64 (n:Int),.int .i64 (k:Int)] H R:=by
 by_cases h0:1≤k
 ·exact AQ hv h0 hk (yF o (by repeat(first|exact ajP|apply ajO))) (by omega) fun H1 Nc w c=>h H1 Nc (su o w c bd.here (by repeat(first|exact ajP|apply ajO)))
 ·have:k=0:=by omega
  subst this;exact OX (by omega) (h H dv (by rw [w9,akb];exact o))
theorem qa {s:Nat} {p dv:Value} (hc:jM L zs p) (hw:uw zs s) (il:B.length≤1000000000) (o:aw H0 H (.ay (p_ b dv B)::L)) (h: ∀H' nu,aw H0 H' (.ay (p_ b nu (B++gY (natL zs) s))::L)→R (.tuple #[]) H'):
  ab Tryz.prog 163 #[p,b.at,.int .i64 (s:Int)] H R:=by
 obtain⟨hz,cb,lv,wv,sv,rfl,hm⟩:=hc;have hle:=CF hz.1;refine iP.vc _ _ _ _ _ ?_;unfold iP.res;refine Of o (lv:=lv) (wv:=wv) (sv:=sv) (ajO _ (hm (.box cb (cW lv wv (dB (natL zs)) sv) 285) ajP)) (ajO _ (hm (.sl wv 2 (rB (natL zs))) (by simp [uj]))) hz.1.1 ?_;refine ai rfl ?_;refine ai rfl ?_;have hs:s< (natL zs).length:=by rw [kD];exact hw.1
 rw [Ro hs];have Yy:=wo hle s;have iz:=yk hz.2 hle hs hw.2;have hrv:gI (jB (natL zs) s) ((natL zs).getD s 0)<2 ^ 15:=akO (r9 _ _) (akd (by decide) Yy);refine uz (by omega) (by omega) il o fun H1 Nc o1=>?_;exact h H1 Nc o1
theorem I1 {sz:Nat} {k k' :IntKind} {i:Int} {K:Value→Prop}:aN sz v (.int k i) K=aN sz v (.int k' i) K:=by
 cases v<;>try rfl
 rename_i a n c
 cases a<;>rfl
def R1 (cs:List Int) (a:Nat):List Int:=cs.set a (cs.getD a 0+1)
theorem BA {cs:List Int} {a:Nat} (h:a<cs.length):cs.set a (cs[a]+1)=R1 cs a:=by
 unfold R1;rw [ajX,ajV h];rfl
def LF (G:List Tok):List Int:=G.foldl (fun cs t=>R1 cs (if t.n=0 then t.b.toNat else (my t.n).toNat)) ((List.replicate 286 0).set 256 1)
def LG (G:List Tok):List Int:=G.foldl (fun ds t=>if t.n=0 then ds else R1 ds (mK t.d).toNat) (List.replicate 30 0)
structure VG (G:List Tok) (cs ds:List Int):Prop where
 cl:cs.length=286
 dl:ds.length=30
 cr: ∀z∈cs,0≤z∧z≤(G.length:Int)+1
 dr: ∀z∈ds,0≤z∧z≤(G.length:Int)+1
 ce:1≤cs.getD 256 0
 ct: ∀t∈G,if t.n=0 then 1≤cs.getD t.b.toNat 0 else 1≤cs.getD (my t.n).toNat 0∧1≤ds.getD (mK t.d).toNat 0
 ex:cs=LF G∧ds=LG G
theorem yG {cs:List Int} {a:Nat} (ha:a<cs.length) (s:Nat): (cs.set a (cs[a]+1)).getD s 0=if s=a then cs[a]+1 else cs.getD s 0:=by
 rw [ajX,anm]
 by_cases e:a=s
 ·subst e;rw [if_pos rfl,if_pos ha,if_pos rfl];rfl
 ·rw [if_neg e,if_neg (fun h=>e h.symm),ajX]
theorem inc_le {cs:List Int} {a:Nat} (ha:a<cs.length) (s:Nat):cs.getD s 0≤(cs.set a (cs[a]+1)).getD s 0:=by
 rw [yG ha]
 split
 ·rename_i e;subst e;rw [ajX,ajV ha];show cs[s]≤_;omega
 ·exact al9 _
theorem BC {cs:List Int} {a:Nat} {N:Int} (ha:a<cs.length) (h: ∀z∈cs,0≤z∧z≤N): ∀z∈cs.set a (cs[a]+1),0≤z∧z≤N+1:=fun z hz=>by
 rcases anB hz with hz|rfl
 ·have:=h z hz;omega
 ·have:=h _ (ajZ ha);omega
theorem Xv {cs:List Int} {N:Int} (h: ∀z∈cs,0≤z∧z≤N): ∀z∈cs,0≤z∧z≤N+1:=fun z hz=>by have:=h z hz;omega
theorem yH {y:Value} {cs:List Int} {a:Nat} {N:Int} {M:List It} {kd:IntKind} {K:Value→ak→Prop} (o:aw H0 H L) (lf:It.sl y 1 (aM cs)∈L) (ha:a<cs.length) (hr: ∀z∈cs,0≤z∧z≤N) (hN:N≤1000000)
  (vj:bd (.sl y 1 (aM cs)) (.sl y 1 (aM (cs.set a (cs[a]+1)))) L M) (hk: ∀H',aw H0 H' M→K undef H'):
  aN 1 y (.int kd (a:Int)) fun cX=>al H cX fun dq=>aK dq (.int .i64 1) fun cZ=>aN 1 y (.int kd (a:Int)) fun c8=>aE H c8 cZ K:=by
 have G9: (aM cs).length=cs.length*1:=by rw [aS];omega
 have hy:=o.sl lf;have hra:=hr _ (ajZ ha);rw [I1 (k' := .i64)];refine hy.at_ G9 (by decide) (by omega) (by omega) fun p hp=>?_;refine hp.load hy (w:= .int .i64 cs[a]) (by rw [ajS,aj0,dE ha]) ?_;rw [aC,bH (by omega) (by omega),I1 (k' := .i64)];refine hy.at_ G9 (by decide) (by omega) (by omega) fun p hp=>?_;rw [ajS,aj0] at hp;exact o.store hp lf (by rw [aS];exact ha) rfl (by rw [oP];exact vj) fun H' o' _=>hk H' o'
theorem Da {vs:List Value} {x:Value} {i:Nat} {K:Value→Prop} (hv:vs[i]? =some x) (h:K x):tX i (.agg vs.toArray) K:=by rw [NT,hv];exact h
theorem R2 {n:Int} (h0:3≤n) (h1:n≤258): ∃s:Nat,my n=s∧257≤s∧s≤285:=by
 have:=uo h0 h1;exact⟨(my n).toNat,by omega,by omega,by omega⟩
theorem R3 {n:Int} (h0:1≤n) (h1:n≤32768): ∃s:Nat,mK n=s∧s≤29:=by
 have:=uq h0 h1;exact⟨(mK n).toNat,by omega,by omega⟩
theorem I2 {G:List Tok} (hs:Sl H v 3 (eu G)) (hlen:G.length≤65535) (hg: ∀t∈G,jC t=true) (h: ∀y z cs ds H',VG G cs ds→aw H H' [.sl y 1 (aM cs),.sl z 1 (aM ds)]→R (.tuple #[y,z]) H'):ab Tryz.prog 166 #[v] H R:=by
 have iv:=l7 G;refine l5.vc _ _ _ ?_;unfold l5.res;refine⟨fun y z H' =>aw H H' [.sl y 1 (aM (List.replicate 286 0)),.sl z 1 (aM (List.replicate 30 0))],?_,?_,?_⟩
 ·intro _ y z H1 o
  refine(o.sl (v:=y) (by repeat(first|exact ajP|apply ajO))).at_ (n:=286) (by rw [aS,akw]) (by decide) (by decide) (by decide) fun p hp=>?_;refine o.store (j:=256) hp (by repeat(first|exact ajP|apply ajO)) (by rw [aS,akw];decide) rfl (by repeat(first|exact bd.here|apply bd.there)) fun H2 o2 _=>?_;rw [oP] at o2;refine hs.len iv (by decide) ?_;refine⟨fun i H' => ∃ (k:Nat) (cs ds:List Int),i= .int .i64 k∧k≤G.length∧VG (G.take k) cs ds∧aw H H' [.sl y 1 (aM cs),.sl z 1 (aM ds)],fun i _=>match i with| .int _ x=> (G.length - x).toNat|_=>0,
   ⟨0,(List.replicate 286 0).set 256 1,List.replicate 30 0,rfl,by omega,⟨by rw [akT,akw],akw,?_,?_,?_,fun t ht=>by simp at ht,rfl,rfl⟩,o2⟩,?_⟩
  ·intro q hq
   rcases anB hq with hq|rfl
   ·rw [ann hq,alT];decide
   ·rw [alT];decide
  ·intro q hq;rw [ann hq,alT];decide
  ·rw [ajX,alE (by rw [akw];decide)];decide
  rintro _ _ H3 ⟨k,cs,ds,rfl,hk,c,o⟩;rw [aQ];refine ax (fun hc=>?_) (fun hc=>?_)
  ·have jR:k<G.length:=by omega
   have ji:=yn G k _ (ajV jR);have sd:G.take (k+1)=G.take k++ [G[k]]:=by rw [akq,ajV jR];rfl
   have VH:=hg _ (ajZ jR);have j5: (G.take k).length=k:=by rw [ajW];omega
   generalize G[k]=t at ji sd VH;have mH:=hs.ext o.ext;refine mH.at_ iv (by decide) (by omega) (by omega) fun p hp=>?_;rw [ajS] at hp;refine hp.kf mH (ws:=t.cells) ji rfl ?_;refine o.box fun tb H4 o4 _=>?_;refine o4.bW (vs:=t.cells) (by repeat(first|exact ajP|apply ajO)) rfl rfl rfl (by repeat(first|exact bd.here|apply bd.there)) fun H5 o5 _=>?_;rw [ag,au];refine o5.az (b:=tb) (f:=0+1) (w:= .int .i64 t.n) (by repeat(first|exact ajP|apply ajO)) rfl ?_;rw [bj];have iz:=c.cl;have PX:=c.dl;have cr:=c.cr;have dr:=c.dr;rw [j5] at cr dr;refine ax (fun h0=>?_) (fun h0=>?_)
   ·have hx:=t.b.toNat_lt
    rw [ag,au];refine o5.az (b:=tb) (f:=0+0) (w:=cY t.b) (by repeat(first|exact ajP|apply ajO)) rfl ?_;refine yH (a:=t.b.toNat) (kd:= .u8) o5 (by repeat(first|exact ajP|apply ajO)) (by omega) cr (by omega) (by repeat(first|exact bd.here|apply bd.there)) fun H6 o6=>?_;rw [aC,bH (by omega) (by omega)];refine⟨⟨k+1,cs.set t.b.toNat (cs[t.b.toNat]'(by omega)+1),ds,rfl,by omega,⟨by rw [akT];exact iz,PX,?_,?_,?_,?_,by rw [sd,BA (by omega),LF,LG,amC,amC];simp only [alx,List.foldl_nil,if_pos h0];rw [←LF,←LG,←c.ex.1,←c.ex.2];exact⟨rfl,rfl⟩⟩,o6.arr (by repeat(first|exact dV.nil|exact bu.here|apply dV.cons|apply bu.there))⟩,by show (_:Int).toNat< (_:Int).toNat;omega⟩
    ·rw [sd,ajQ,j5];exact BC (by omega) cr
    ·rw [sd,ajQ,j5];exact Xv dr
    ·have:=inc_le (cs:=cs) (a:=t.b.toNat) (by omega) 256;have:=c.ce;omega
    ·intro u hu
     rw [sd] at hu;rcases akg.1 hu with hu|hu
     ·have:=c.ct u hu
      split at this
      ·rename_i e;rw [if_pos e];have:=inc_le (cs:=cs) (a:=t.b.toNat) (by omega) u.b.toNat;omega
      ·rename_i e;rw [if_neg e];have h5:=inc_le (cs:=cs) (a:=t.b.toNat) (by omega) (my u.n).toNat;exact⟨by omega,this.2⟩
     ·rw [akt.1 hu,if_pos h0,yG (by omega),if_pos rfl]
      have:=cr _ (ajZ (show t.b.toNat<cs.length by omega));omega
   ·rcases mY VH with ⟨h,_⟩ | ⟨h1,h2,h3,h4⟩
    ·exact absurd h h0
    obtain⟨s,es,s1,s2⟩:=R2 h1 h2;obtain⟨d,ed,d1⟩:=R3 h3 h4;rw [ag,au];refine o5.az (b:=tb) (f:=0+1) (w:= .int .i64 t.n) (by repeat(first|exact ajP|apply ajO)) rfl ?_;refine AA fun H6 xn=>?_;unfold Om;rw [if_neg (by omega),es];unfold Uk;refine Da rfl ?_;refine yH (a:=s) (kd:= .i64) (o5.more xn) (by repeat(first|exact ajP|apply ajO)) (by omega) cr (by omega) (by repeat(first|exact bd.here|apply bd.there)) fun H7 o7=>?_;rw [ag,au];refine o7.az (b:=tb) (f:=0+2) (w:= .int .i64 t.d) (by repeat(first|exact ajP|apply ajO)) rfl ?_;refine E7 fun H8 Oy=>?_;unfold E6;rw [if_neg (by omega),ed];unfold Uk;refine Da rfl ?_;refine yH (a:=d) (kd:= .i64) (o7.more Oy) (by repeat(first|exact ajP|apply ajO)) (by omega) dr (by omega) (by repeat(first|exact bd.here|apply bd.there)) fun H9 o9=>?_;rw [aC,bH (by omega) (by omega)];refine⟨⟨k+1,cs.set s (cs[s]'(by omega)+1),ds.set d (ds[d]'(by omega)+1),rfl,by omega,⟨by rw [akT];exact iz,by rw [akT];exact PX,?_,?_,?_,?_,by rw [sd,BA (by omega),BA (by omega),LF,LG,amC,amC];simp only [alx,List.foldl_nil,if_neg h0,es,ed,ajS];rw [←LF,←LG,←c.ex.1,←c.ex.2];exact⟨rfl,rfl⟩⟩,o9.arr (by repeat(first|exact dV.nil|exact bu.here|apply dV.cons|apply bu.there))⟩,by show (_:Int).toNat< (_:Int).toNat;omega⟩
    ·rw [sd,ajQ,j5];exact BC (by omega) cr
    ·rw [sd,ajQ,j5];exact BC (by omega) dr
    ·have:=inc_le (cs:=cs) (a:=s) (by omega) 256;have:=c.ce;omega
    ·intro u hu
     rw [sd] at hu;rcases akg.1 hu with hu|hu
     ·have:=c.ct u hu
      split at this
      ·rename_i e;rw [if_pos e];have:=inc_le (cs:=cs) (a:=s) (by omega) u.b.toNat;omega
      ·rename_i e;rw [if_neg e];have h5:=inc_le (cs:=cs) (a:=s) (by omega) (my u.n).toNat;have h6:=inc_le (cs:=ds) (a:=d) (by omega) (mK u.d).toNat;exact⟨by omega,by omega⟩
     ·rw [akt.1 hu,if_neg h0,es,ed,ajS,ajS,yG (by omega),if_pos rfl,yG (by omega),if_pos rfl]
      have:=cr _ (ajZ (show s<cs.length by omega));have:=dr _ (ajZ (show d<ds.length by omega));omega
  ·have hkG:k=G.length:=by omega
   rw [hkG,aj8] at c;exact h _ _ _ _ _ c o
 ·refine(aw.start (H:=H)).xV (by decide) (by decide) (by decide) fun y H1 o1=>?_
  refine o1.xV (by decide) (by decide) (by decide) fun z H2 o2=>?_;rw [oQ,oQ] at o2;exact o2.arr (by repeat(first|exact dV.nil|exact bu.here|apply dV.cons|apply bu.there))
 ·refine(aw.start (H:=H)).xV (by decide) (by decide) (by decide) fun z H1 o1=>?_
  refine o1.xV (by decide) (by decide) (by decide) fun y H2 o2=>?_;rw [oQ,oQ] at o2;exact o2.arr (by repeat(first|exact dV.nil|exact bu.here|apply dV.cons|apply bu.there))
end
section
set_option maxRecDepth 100000
variable {H H0 H' :ak} {R:Value→ak→Prop} {v:Value} {L:List It} {zs:List Int} {b:WP} {B:List Bool}
theorem I3 (k:Nat): ((2 ^ k:Nat):Int)=2 ^ k:=by push_cast;rfl
theorem Nd {n:Int} (h0:3≤n) (h1:n≤258): ∃s e x:Nat,my n=s∧Om n= .agg ([.int .i64 (s:Int),.int .i64 (e:Int),.int .u64 (x:Int)]:List Value).toArray∧MZ n=aW x e∧e≤5∧x<2 ^ e:=by
 obtain⟨f1,f2,f3,f4,f5,f6⟩:=uo h0 h1;obtain⟨s,hs⟩: ∃s:Nat,my n=s:= ⟨(my n).toNat,by omega⟩;rw [hs] at f1 f2 f3 f4 f5 f6;rw [←I3] at f4;have l0:0≤(lenOf (s:Int)).1:=by
  have:=M4 ⟨s - 257,by omega⟩
  dsimp only at this
  rwa [show (257:Int)+ ((s - 257:Nat):Int)= (s:Int) by omega] at this
 refine⟨s,(lenOf (s:Int)).2.toNat,(n - (lenOf (s:Int)).1).toNat,hs,?_,by unfold MZ;rw [hs],by omega,by omega⟩;unfold Om Uk;rw [if_neg (by omega),hs,bH (by omega) (by omega),eX (by omega) (by omega),show (((lenOf (s:Int)).2.toNat:Nat):Int)= (lenOf (s:Int)).2 by omega,show (((n - (lenOf (s:Int)).1).toNat:Nat):Int)=n - (lenOf (s:Int)).1 by omega]
theorem Nf {n:Int} (h0:1≤n) (h1:n≤32768): ∃s e x:Nat,mK n=s∧E6 n= .agg ([.int .i64 (s:Int),.int .i64 (e:Int),.int .u64 (x:Int)]:List Value).toArray∧M0 n=aW x e∧e≤13∧x<2 ^ e:=by
 obtain⟨f1,f2,f3,f4,f5,f6⟩:=uq h0 h1;obtain⟨s,hs⟩: ∃s:Nat,mK n=s:= ⟨(mK n).toNat,by omega⟩;rw [hs] at f1 f2 f3 f4 f5 f6;rw [←I3] at f4;have l0:0≤(cu (s:Int)).1:=II ⟨s,by omega⟩;refine⟨s,(cu (s:Int)).2.toNat,(n - (cu (s:Int)).1).toNat,hs,?_,by unfold M0;rw [hs],by omega,by omega⟩;unfold E6 Uk;rw [if_neg (by omega),hs,bH (by omega) (by omega),eX (by omega) (by omega),show (((cu (s:Int)).2.toNat:Nat):Int)= (cu (s:Int)).2 by omega,show (((n - (cu (s:Int)).1).toNat:Nat):Int)=n - (cu (s:Int)).1 by omega]
theorem lM {zs:List Int} (hz:wP zs) (s:Nat): (gY (natL zs) s).length≤15:=by rw [zA];exact wo (CF hz.1) s
theorem _root_.Go.Vc.aw.tl {i:It} (o:aw H0 H (i::L)):aw H0 H L:=o.pick (List.Sublist.cons _ (ak_ _))
theorem AR {G:List Tok} {lv dv ps pd:Value} {rest:List Value} {cb:Nat} {ct:TypeId} {sy di:List Int} (hl:It.sl lv 3 (eu G)∈L) (Bh:It.box cb (ps::pd::rest) ct∈L) (Be:jM L sy ps) (EG:jM L di pd) (he:uw sy 256)
  (hG: ∀t∈G,jC t=true∧yx sy di t) (hlen:G.length≤65535) (il:B.length≤500000000) (o:aw H0 H (.ay (p_ b dv B)::L)) (h: ∀H' nu,aw H0 H' (.ay (p_ b nu (B++jO sy di G))::L)→R (.tuple #[]) H'):
  ab Tryz.prog 120 #[.pointer (some ⟨cb,0,none⟩),b.at,lv] H R:=by
 have iv:=l7 G;refine gu.vc _ _ _ _ _ ?_;unfold gu.res;refine(o.sl (v:=lv) (ajO _ hl)).len iv (by decide) ?_;refine⟨fun i H' => ∃ (k:Nat) (nu :Value),i= .int .i64 k∧k≤G.length∧((G.take k).flatMap (uR sy di)).length≤50*k∧aw H0 H' (.ay (p_ b nu (B++ (G.take k).flatMap (uR sy di)))::L),fun i _=>match i with| .int _ x=> (G.length - x).toNat|_=>0,⟨0,dv,rfl,by omega,by simp,by simpa using o⟩,?_⟩;rintro _ _ H1 ⟨k,Nc,rfl,hk,G7,o⟩;rw [aQ];refine ax (fun hc=>?_) (fun hc=>?_)
 ·have jR:k<G.length:=by omega
  have ji:=yn G k _ (ajV jR);have sd: (G.take (k+1)).flatMap (uR sy di)= (G.take k).flatMap (uR sy di)++uR sy di G[k]:=by rw [akq,ajV jR,ano];simp
  obtain⟨VH,VI⟩:=hG _ (ajZ jR);have n_:=o.sl (v:=lv) (ajO _ hl);generalize G[k]=t at ji sd VH VI;generalize (G.take k).flatMap (uR sy di)=X at o G7 sd;refine n_.at_ iv (by decide) (by omega) (by omega) fun p hp=>?_;rw [ajS] at hp;refine hp.kf n_ (ws:=t.cells) ji rfl ?_;refine o.box fun tb H4 o _=>?_;refine o.bW (vs:=t.cells) (by repeat(first|exact ajP|apply ajO)) rfl rfl rfl (by repeat(first|exact bd.here|apply bd.there)) fun H5 o _=>?_;rw [ag,au];refine o.az (b:=tb) (f:=0+1) (w:= .int .i64 t.n) (by repeat(first|exact ajP|apply ajO)) rfl ?_;rw [bj];unfold yx at VI;refine ax (fun h0=>?_) (fun h0=>?_)
  ·rw [if_pos h0] at VI
   have hx:=t.b.toNat_lt;have etk:uR sy di t=gY (natL sy) t.b.toNat:=by unfold uR;rw [if_pos h0]
   have hw:=lM Be.1 t.b.toNat;rw [aA,ag,au];refine o.az (b:=cb) (f:=0+0) (cs:=ps::pd::rest) (t:=ct) (w:=ps) (by simp [Bh]) rfl ?_;rw [ag,au];refine o.az (b:=tb) (f:=0+0) (w:=cY t.b) (by repeat(first|exact ajP|apply ajO)) rfl ?_;refine cC ?_;rw [bH (by omega) (by omega)];have o2:=o.tl;refine qa (s:=t.b.toNat) Be VI (by rw [ajQ];omega) o2 fun H6 VJ o6=>?_;rw [aC,bH (by omega) (by omega)];exact⟨⟨k+1,VJ,rfl,by omega,by rw [sd,ajQ,etk];omega,by rw [sd,etk,←ajT];exact o6⟩,by show (_:Int).toNat< (_:Int).toNat;omega⟩
  ·rw [if_neg h0] at VI
   rcases mY VH with ⟨h,_⟩ | ⟨h1,h2,h3,h4⟩
   ·exact absurd h h0
   obtain⟨s,e,x,es,el,eb,he5,wQ⟩:=Nd h1 h2;obtain⟨d,f,z,ed,edl,edb,aah,ad8⟩:=Nf h3 h4;rw [es,ed,ajS,ajS] at VI;have etk:uR sy di t=gY (natL sy) s++ (aW x e++ (gY (natL di) d++aW z f)):=by unfold uR;rw [if_neg h0,es,ed,ajS,ajS,eb,edb]
   have M7:=lM Be.1 s;have Tc:=lM EG.1 d;have lu:2 ^ e≤2 ^ 5:=akd (by decide) he5;have D8:2 ^ f≤2 ^ 13:=akd (by decide) aah;refine⟨fun x8 y9 H' => ∃b8 b9:Nat,x8= .pointer (some ⟨b8,0,none⟩)∧y9= .pointer (some ⟨b9,0,none⟩)∧aw H0 H' (.box b8 [.int .i64 (s:Int),.int .i64 (e:Int),.int .u64 (x:Int)] 237:: .box b9 [.int .i64 (d:Int),.int .i64 (f:Int),.int .u64 (z:Int)] 237:: .box tb t.cells 145:: .ay (p_ b Nc (B++X))::L),?_,?_⟩
   ·rintro _ _ _ H8 ⟨b8,b9,rfl,rfl,o⟩
    rw [aA,ag,au];refine o.az (b:=cb) (f:=0+0) (cs:=ps::pd::rest) (t:=ct) (w:=ps) (by simp [Bh]) rfl ?_;rw [ag,au];refine o.az (b:=b8) (f:=0+0) (w:= .int .i64 (s:Int)) (by repeat(first|exact ajP|apply ajO)) rfl ?_;have o2:=o.fW (L' := .ay (p_ b Nc (B++X)):: .box b8 [.int .i64 (s:Int),.int .i64 (e:Int),.int .u64 (x:Int)] 237:: .box b9 [.int .i64 (d:Int),.int .i64 (f:Int),.int .u64 (z:Int)] 237:: .box tb t.cells 145::L) (by repeat(first|exact aY.refl|exact bu.here|apply aY.cons|apply bu.there));refine qa (s:=s) Be.cons.cons.cons VI.1 (by rw [ajQ];omega) o2 fun H9 dv9 o=>?_;rw [ag,au];refine o.az (b:=b8) (f:=0+2) (w:= .int .u64 (x:Int)) (by repeat(first|exact ajP|apply ajO)) rfl ?_;rw [ag,au];refine o.az (b:=b8) (f:=0+1) (w:= .int .i64 (e:Int)) (by repeat(first|exact ajP|apply ajO)) rfl ?_;refine uz (n:=x) (k:=e) (by omega) (by omega) (by simp only [ajQ];omega) o fun RU ahJ o=>?_;rw [aA,ag,au];refine o.az (b:=cb) (f:=0+1) (cs:=ps::pd::rest) (t:=ct) (w:=pd) (by simp [Bh]) rfl ?_;rw [ag,au];refine o.az (b:=b9) (f:=0+0) (w:= .int .i64 (d:Int)) (by repeat(first|exact ajP|apply ajO)) rfl ?_;refine qa (s:=d) EG.cons.cons.cons VI.2 (by simp only [ajQ,aR];omega) o fun UF ahK o=>?_;rw [ag,au];refine o.az (b:=b9) (f:=0+2) (w:= .int .u64 (z:Int)) (by repeat(first|exact ajP|apply ajO)) rfl ?_;rw [ag,au];refine o.az (b:=b9) (f:=0+1) (w:= .int .i64 (f:Int)) (by repeat(first|exact ajP|apply ajO)) rfl ?_;refine uz (n:=z) (k:=f) (by omega) (by omega) (by simp only [ajQ,aR];omega) o fun H12 ad9 o=>?_;rw [aC,bH (by omega) (by omega)];refine⟨⟨k+1,ad9,rfl,by omega,by rw [sd,ajQ,etk];simp only [ajQ,aR];omega,?_⟩,by show (_:Int).toNat< (_:Int).toNat;omega⟩;rw [sd,etk];simp only [ajT] at o ⊢;exact o.pick (List.Sublist.cons_cons _ (List.Sublist.cons _ (List.Sublist.cons _ (List.Sublist.cons _ (ak_ _)))))
   ·rw [ag,au]
    refine o.az (b:=tb) (f:=0+1) (w:= .int .i64 t.n) (by repeat(first|exact ajP|apply ajO)) rfl ?_;rw [ag,au];refine o.az (b:=tb) (f:=0+2) (w:= .int .i64 t.d) (by repeat(first|exact ajP|apply ajO)) rfl ?_
    repeat' (first
     |with_reducible refine And.intro ?_ ?_
     | (with_reducible refine AA fun Hx hx=>?_;rw [el];replace o:=o.more hx)
     | (with_reducible refine E7 fun Hx hx=>?_;rw [edl];replace o:=o.more hx)
     |with_reducible refine o.box fun bb Hx o _=>?_
     |exact o.az (b:=tb) (by repeat(first|exact ajP|apply ajO)) rfl rfl
     |with_reducible refine o.bW (vs:= [.int .i64 (s:Int),.int .i64 (e:Int),.int .u64 (x:Int)]) (by repeat(first|exact ajP|apply ajO)) rfl rfl rfl (by repeat(first|exact bd.here|apply bd.there)) fun Hx o _=>?_
     |with_reducible refine o.bW (vs:= [.int .i64 (d:Int),.int .i64 (f:Int),.int .u64 (z:Int)]) (by repeat(first|exact ajP|apply ajO)) rfl rfl rfl (by repeat(first|exact bd.here|apply bd.there)) fun Hx o _=>?_
     |exact⟨_,_,rfl,rfl,o.fW (by repeat(first|exact aY.refl|exact bu.here|apply aY.cons|apply bu.there))⟩)
 ·have hkG:k=G.length:=by omega
  rw [hkG,aj8] at o G7;rw [aA,ag,au];refine o.az (b:=cb) (f:=0+0) (cs:=ps::pd::rest) (t:=ct) (w:=ps) (by simp [Bh]) rfl ?_;refine qa (s:=256) Be he (by rw [ajQ];omega) o fun H6 VJ o6=>?_;refine h H6 VJ ?_;unfold jO;rw [←ajT];exact o6
end
section
set_option maxRecDepth 100000
variable {H H0 H' :ak} {R:Value→ak→Prop} {v:Value} {L:List It} {zs:List Int} {b:Nat} {B:List Bool}
def Db (v:Value) (sz:Nat) (l:List Value):ir where
 eL k:=aV v=some k
 holds H:=Sl H v sz l∧l≠ []
 frame h hf:= ⟨h.1.frame hf,h.2⟩
 lt h hk:=h.1.lt h.2 hk
theorem _root_.Go.Vc.aw.view {y:Value} {sz sz' :Nat} {l l0:List Value} (o:aw H0 H (.sl y sz' l0::L)) (hs:Sl H v sz l) (hl:l≠ []) (hb: ∀k,aV v=some k→aV y=some k):aw H0 H (.ay (Db v sz l)::L):=
 o.nq (i:= .sl y sz' l0) (i' := .ay (Db v sz l)) bd.here (ajR _) (fun _ _ _=>rfl) ⟨hs,hl⟩ (fun k hk=> .inl (hb k hk))
theorem jM.Xw {p:Value} (h:jM L zs p):aL p=true:=by obtain⟨_,_,_,_,_,rfl,_⟩:=h;rfl
theorem bd.app {i j:It} {L L' :List It} (h:bd i j L L'): ∀M:List It,bd i j (M++L) (M++L')
 | []=>h
 |m::M=>bd.there (bd.app h M)
theorem Dd: ∀ (l:List Nat),(∀j,l.getD j 0=0)→shareL l 15=0
 | [],h=>rfl
 |a::l,h=>by
  have h0:=h 0
  simp at h0;subst h0
  have:=Dd l fun j=>by simpa using h (j+1)
  unfold shareL at this ⊢;rw [akU,alW,this];rfl
theorem De {l:List Nat} {n:Nat} (h: ∀j,n≤j→l.getD j 0=0):shareL (l.take n) 15=shareL l 15:=by
 have e:shareL l 15=shareL (l.take n) 15+shareL (l.drop n) 15:=by
  conv=>lhs;rw [←akf n l]
  unfold shareL;rw [aky,List.sum_append]
 rw [e,Dd (l.drop n) (fun j=>by
  rw [ajX,ak7,←ajX];exact h _ (by omega))]
 rfl
theorem zL (zs:List Int) (n:Nat):natL (zs.take n)= (natL zs).take n:=by unfold natL;rw [amk]
theorem Df {xs:List Int} {loose:Bool} (hz:okZ xs) (h:shareL (natL xs) 15=32768):lY xs loose=0:=by
 rw [zu hz,if_neg (by omega),if_neg (by omega)]
theorem O1 {xs:List Int} (hz:okZ xs) (h:shareL (natL xs) 15≤32768) (hs:slackL (natL xs)=true):lY xs true=0:=by
 rw [zu hz,if_neg (by omega),if_neg (by rw [hs];simp)]
theorem R4 {l:List Nat} (hn:xD l≤1) (h1: ∀k∈l,k≤1):slackL l=true:=by
 have e:fY l 1=xD l:=by
  unfold fY xD;refine List.countP_congr fun k hk=>?_;have:=h1 k hk
  simp;omega
 unfold slackL;rw [e];have:xD l=0∨xD l=1:=by omega
 rcases this with h|h<;>simp [h]
theorem Told.sym: ∀ {es:List Ex} {out l:List Int},Told out es l→∀e∈es,e.1≤18
 | [],out,l,h,e,he=>by simp at he
 |u::es,out,l,h,e,he=>by
  rcases aj5.1 he with rfl|he
  ·rcases h.1 with h|h|h|h<;>omega
  ·exact h.2.sym e he
theorem pf {xs:List Int} {n s:Nat} (h:s<n): (xs.take n).getD s 0=xs.getD s 0:=by
 rw [ajX,ank h,←ajX]
theorem LH {xs:List Int} (hl:xs.length≤288) (h: ∀s,0≤xs.getD s 0∧xs.getD s 0≤15):okZ xs:= ⟨hl,fun z hz=>by
 obtain⟨i,hi,rfl⟩:=alF hz;have:=h i
 rwa [ajX,ajV hi] at this⟩
theorem R5 {cs xs:List Int} {a:Nat} (hx:VF cs 15 xs) (hl:cs.length=286) (hz: ∀j,a≤j→xs.getD j 0=0) (ha:a≤286):lY (xs.take a) false=0:=by
 have Vt:=hx.len;refine Df (LH (by rw [ajW];omega) fun s=>?_) ?_
 ·by_cases h:s<a
  ·rw [pf h];exact hx.rng s
  ·rw [ajX,akc (by rw [ajW];omega)];simp
 ·rw [zL,De (fun j hj=>by rw [lL,hz j hj];rfl),hx.share]
theorem O2 {ds ys:List Int} {n:Nat} (hy:vw ds 15 ys) (hl:ds.length=30) (hz: ∀j,n≤j→ys.getD j 0=0) (hn:n≤30):lY (ys.take n) true=0:=by
 have n_:=nc ds ds.length;obtain⟨f1,f2,f3,f4,f5⟩:=uy hy (by decide) (by decide) (by rw [hl] at n_;rw [hl];omega);have RY: ∀s,0≤ys.getD s 0∧ys.getD s 0≤15:=fun s=>by
  by_cases hs:s<ds.length
  ·have:=f2 s hs
   split at this<;>omega
  ·rw [ajX,akc (by omega)];simp
 have pJ:okZ (ys.take n):=LH (by rw [ajW];omega) fun s=>by
  by_cases h:s<n
  ·rw [pf h];exact RY s
  ·rw [ajX,akc (by rw [ajW];omega)];simp
 have PQ:shareL (natL (ys.take n)) 15=shareL (natL ys) 15:=by rw [zL,De (fun j hj=>by rw [lL,hz j hj];rfl)]
 by_cases h2:2≤(kF ds ds.length).length
 ·exact Df pJ (by rw [PQ,f3 h2])
 ·obtain⟨g1,g2⟩:=f4 (by omega)
  refine O1 pJ (by rw [PQ,g1];omega) (R4 ?_ fun k hk=>?_)
  ·have e:xD (natL ys)=xD ((natL ys).take n)+xD ((natL ys).drop n):=by rw [←Cy,akf]
   rw [zL];omega
  ·unfold natL at hk
   rw [akn] at hk;obtain⟨z,hz,rfl⟩:=hk;obtain⟨i,hi,rfl⟩:=alF (akL hz);have:=g2 i (by omega);rw [ajX,ajV hi] at this;show (ys[i]).toNat≤1;have h3:ys[i]≤1:=this;omega
end
section
set_option maxRecDepth 100000
variable {H H0:ak} {R:Value→ak→Prop} {v:Value} {zs:List Int} {ls:List Nat} {B:List Bool} {L:List It} {b:Nat} {post:List Value} {t:TypeId}
def je:List Value:=cz.map fun n:Nat=>i64 n
abbrev O3 (i:Nat):Nat:=cz.getD i 0
theorem vC {i:Nat} (h:i<19):je[i]? =some (i64 (cz.getD i 0)):=by
 unfold je;rw [ake,ajV (by exact h),ajX,ajV (by exact h)];rfl
theorem zM: ∀i:Fin 19,cz.getD i.val 0<19:=by decide
theorem I4 {c:Nat} (hG:Reads H0 ⟨4,0,none⟩ je) (hc:c≤19) (o:aw H0 H (rE b post t B::L))
  (pJ: ∀l C H' M p,se (cz.take c) (List.replicate 19 0) B= .ok l C→lY l false=0→jM M l p→aw H0 H' (rE b post t C:: (M++L))→R (.tuple #[p,.int .i64 0]) H')
  (Ij: ∀l C H',se (cz.take c) (List.replicate 19 0) B= .ok l C→lY l false≠0→aw H0 H' (rE b post t C::L)→R (.tuple #[.pointer none,.int .i64 (lY l false)]) H')
  (qI: ∀e C H',se (cz.take c) (List.replicate 19 0) B= .er e→e≠0→aw H0 H' (rE b post t C::L)→R (.tuple #[.pointer none,.int .i64 e]) H'):ab Tryz.prog 275 #[at_ b 0,i64 c] H R:=by
 generalize hT:se (cz.take c) (List.replicate 19 0) B=T at*;refine jZ.vc _ _ _ _ ?_;unfold jZ.res;refine o.xV (n:=19) (by decide) (by decide) (by decide) fun y H1 o=>?_;rw [show (19:Int).toNat=19 from rfl,oQ] at o;rw [HI,f_];refine⟨by omega,by omega,?_⟩;rw [ajS,akG,if_neg (by decide),au,vh];refine⟨fun u H' => ∃ (i:Nat) (l:List Int) (C:List Bool),u=i64 i∧i≤c∧l.length=19∧se ((cz.take c).drop i) l C=T∧aw H0 H' (rE b post t C:: .sl y 1 (aM l)::L),fun u _=>match u with| .int _ i=> (c - i).toNat|_=>0,⟨0,_,B,rfl,by omega,by simp,hT,o.swap⟩,?_⟩;rintro _ _ H2 ⟨i,l,C,rfl,hi,hl,hk,o⟩;rw [aQ];refine ax (fun y7=>?_) (fun y7=>?_)
 ·have hic:i<c:=by omega
  rw [vg];refine⟨by omega,by omega,?_⟩;have kz:= (hG.ext o.ext) i _ (vC (by omega));rw [au,aj6] at kz;rw [au,ajS,show 0+0+i*1=i by omega,ba kz];have eF:=zM ⟨i,by omega⟩
  dsimp only at eF
  have D7: (cz.take c).drop i=cz.getD i 0:: (cz.take c).drop (i+1):=by
   have h1:i< (cz.take c).length:=by rw [ajW];show i<min c 19;omega
   rw [akN h1,ana,ajX,ajV (by show i<19;omega)];rfl
  rw [D7] at hk;unfold se at hk;refine qY (n:=3) (by decide) o (fun x C1 H3 hx Oy o=>?_) (fun hx=>?_)
  ·refine ai rfl ?_
   refine ai rfl ?_;refine jD ?_;rw [ao];have xE: (aM l).length=19*1:=by rw [aS,hl]
   refine(o.sl (v:=y) (by repeat(first|exact ajP|apply ajO))).at_ xE (by decide) (by omega) (by omega) fun p hp=>?_;refine o.store hp (by repeat(first|exact ajP|apply ajO)) (by rw [xE];omega) rfl (by repeat(first|exact bd.here|apply bd.there)) fun H4 o _=>?_;rw [ajS,aj0,oP] at o;rw [aC,bH (by omega) (by omega)];rw [hx] at hk;exact⟨⟨i+1,_,C1,rfl,by omega,by rw [akT,hl],hk,o⟩,by show (_:Int).toNat< (_:Int).toNat;omega⟩
  ·refine ai rfl ?_
   refine ai rfl ?_;refine pY (by decide) ?_;rw [aH];rw [hx] at hk;exact qI 2 C H2 hk.symm (by decide) o.sf
 ·have hic:i=c:=by omega
  subst hic;rw [alj (by rw [ajW];omega)] at hk;refine kU (zs:=l) o (o.sl (v:=y) (by repeat(first|exact ajP|apply ajO))) (by omega) (fun H3 hw o=>?_) fun H3 M p hw hp o=>?_
  ·refine ai rfl ?_
   refine ai rfl ?_;exact Ij l C H3 hk.symm hw o.sf
  ·refine ai rfl ?_
   refine ai rfl ?_;refine pJ l C H3 M p hk.symm hw hp ?_;exact(o.mid).pick (List.Sublist.cons_cons _ (alq (ak_ M) (ak2 _ L)))
theorem GC (hG:Reads H0 ⟨4,0,none⟩ je) (o:aw H0 H (rE b post t B::L))
  (pJ: ∀p C H' M x y,xi B= .ok p C→jM M p.1 x→jM M p.2 y→aw H0 H' (rE b post t C:: (M++L))→R (.tuple #[x,y,.int .i64 0]) H')
  (qI: ∀e C H' x y,xi B= .er e→e≠0→aL x=true→aL y=true→aw H0 H' (rE b post t C::L)→R (.tuple #[x,y,.int .i64 e]) H'):ab Tryz.prog 252 #[at_ b 0] H R:=by
 generalize hT:xi B=T at*;unfold xi at hT;refine fu.vc _ _ _ ?_;unfold fu.res;refine qY (n:=14) (by decide) o (fun x C1 H1 hx aak o=>?_) (fun hx=>?_)
 rotate_left
 ·rw [hx] at hT
  refine ai rfl ?_;refine ai rfl ?_;refine pY (by decide) ?_;rw [aH];exact qI 2 B H _ _ hT.symm (by decide) rfl rfl o
 rw [hx] at hT
 dsimp only [Rs.bind] at hT
 refine ai rfl ?_;refine ai rfl ?_;refine jD ?_;rw [ao,dF,By (k:=5) (m:=31) (by decide) rfl,show (2:Nat) ^ 5=32 from rfl,aC,show ((x%32:Nat):Int)+257= ((x%32+257:Nat):Int) by omega,bH (by omega) (by omega),ql];refine⟨by decide,?_⟩;rw [nM (m:=min (Int.toNat 5) IntKind.i64.bits) (j:=5) rfl,show (2:Nat) ^ 5=32 from rfl,dF,By (k:=5) (m:=31) (by decide) rfl,show (2:Nat) ^ 5=32 from rfl,aC,show ((x/32%32:Nat):Int)+1= ((x/32%32+1:Nat):Int) by omega,bH (by omega) (by omega),ql];refine⟨by decide,?_⟩;rw [nM (m:=min (Int.toNat 10) IntKind.i64.bits) (j:=10) rfl,show (2:Nat) ^ 10=1024 from rfl,aC,show ((x/1024:Nat):Int)+4= ((x/1024+4:Nat):Int) by omega,bH (by omega) (by omega),bU];have ha:257≤x%32+257:=by omega
 have K7:x/1024+4≤19:=by omega
 have ha3:x%32+257≤288:=by omega
 have hd3:x/32%32+1≤32:=by omega
 generalize x%32+257=a at*;generalize x/32%32+1=d at*;generalize x/1024+4=c at*;refine oy (d:=decide ((30:Int)< (d:Int))) (fun _=>?_) ?_
 ·rw [bU];exact⟨rfl,rfl⟩
 intro _;refine fI (fun hb=>?_) (fun hb=>?_)
 ·rw [ak5,decide_eq_true_eq,decide_eq_true_eq] at hb
  rw [if_pos (by omega)] at hT;exact qI 20 C1 H1 _ _ hT.symm (by decide) rfl rfl o
 rw [alu,decide_eq_false_iff_not,decide_eq_false_iff_not] at hb;rw [if_neg (by omega)] at hT;have Wj:a≤286:=by omega
 have Zv:d≤30:=by omega
 refine I4 hG K7 o (fun tl C2 H2 M p ht hw hp o=>?_) (fun tl C2 H2 ht hw o=>?_) (fun e C2 H2 ht he o=>?_)
 rotate_left
 ·rw [ht] at hT
  dsimp only [Rs.bind] at hT
  rw [if_pos hw] at hT;refine ai rfl ?_;refine ai rfl ?_;refine pY hw ?_;rw [aH];exact qI _ C2 H2 _ _ hT.symm hw rfl rfl o
 ·rw [ht] at hT
  refine ai rfl ?_;refine ai rfl ?_;refine pY he ?_;rw [aH];exact qI e C2 H2 _ _ hT.symm he rfl rfl o
 rw [ht] at hT
 dsimp only [Rs.bind] at hT
 rw [if_neg (fun g=>g hw)] at hT;refine ai rfl ?_;refine ai rfl ?_;refine jD ?_;rw [ao,aC,show (a:Int)+ (d:Int)= ((a+d:Nat):Int) by omega,bH (by omega) (by omega)];refine Eg (n:=a+d) (by omega) hp.sB o (fun l C3 lv H3 hl xE o=>?_) (fun e C3 H3 hl he o=>?_)
 rotate_left
 ·rw [hl] at hT
  refine ai rfl ?_;refine ai rfl ?_;refine pY he ?_;rw [aH];exact qI e C3 H3 _ _ hT.symm he rfl rfl (o.pick (List.Sublist.cons_cons _ (alH M L)))
 rw [hl] at hT
 dsimp only [Rs.bind] at hT
 refine ai rfl ?_;refine ai rfl ?_;refine jD ?_;rw [ao];have hlen: (aM l).length= (a+d)*1:=by rw [aS,xE];omega
 have hS:=o.sl (v:=lv) (by repeat(first|exact ajP|apply ajO));have oL:aw H0 H3 (rE b post t C3::L):=o.pick (List.Sublist.cons_cons _ (List.Sublist.cons _ (alH M L)));refine hS.at_ (n:=a+d) hlen (by decide) (by decide) (by omega) fun p hp=>?_;refine hp.load hS (w:= .int .i64 (l.getD 256 0)) (CP (by rw [xE];show 256<a+d;omega)) ?_;rw [bj];refine ax (fun hc5=>?_) (fun hc5=>?_)
 ·rw [if_pos hc5] at hT
  exact qI 12 C3 H3 _ _ hT.symm (by decide) rfl rfl oL
 rw [if_neg hc5] at hT;refine hS.cut (by decide) (n:=a+d) (lo:=0) (hi:=a) hlen (by omega) (by omega) (fun v1 h1=>?_) (.inr ⟨rfl,rfl⟩) (.inl rfl);rw [al8,ako,akG,aj0,Cv] at h1;refine kU (zs:=l.take a) o h1 (by rw [ajW];omega) (fun H4 M7 o=>?_) (fun H4 M1 p1 M7 lu o=>?_)
 ·rw [if_pos M7] at hT
  refine ai rfl ?_;refine ai rfl ?_;refine pY M7 ?_;rw [aH];exact qI _ C3 H4 _ _ hT.symm M7 rfl rfl (o.pick (List.Sublist.cons_cons _ (List.Sublist.cons _ (alH M L))))
 rw [if_neg (fun g=>g M7)] at hT;refine ai rfl ?_;refine ai rfl ?_;refine jD ?_;rw [ao];have YL:=o.sl (v:=lv) (alr _ (by repeat(first|exact ajP|apply ajO)));refine YL.cut (by decide) (n:=a+d) (lo:=a) (hi:=a+d) hlen (by omega) (by omega) (fun v2 h2=>?_) (.inl rfl) (.inr ⟨rfl,rfl⟩);rw [aj0,aj0,KR,aj9 (by rw [aS,aj1];omega)] at h2;have o:= (o.mid).pick (List.Sublist.cons_cons (rE b post t C3) (alq (ak_ M1) (List.Sublist.cons _ (alH M L))));refine kU (zs:=l.drop a) o h2 (by rw [aj1];omega) (fun H5 Tc o=>?_) (fun H5 M2 p2 Tc D8 o=>?_)
 ·rw [if_pos Tc] at hT
  refine ai rfl ?_;refine ai rfl ?_;obtain⟨-,cb,_,_,_,rfl,-⟩:=lu;exact qI _ C3 H5 _ _ hT.symm Tc rfl rfl (o.pick (List.Sublist.cons_cons _ (alH M1 L)))
 ·rw [if_neg (fun g=>g Tc)] at hT
  refine ai rfl ?_;refine ai rfl ?_;refine pJ _ C3 H5 (M2++M1) p1 p2 hT.symm lu.app D8.sB ?_;rw [ajT];exact o.mid
end
section
set_option maxRecDepth 100000
variable {H:ak} {R:Value→ak→Prop}
structure Ring (ring all:List UInt8):Prop where
 len:ring.length=min all.length 32768
 at_: ∀i,i<all.length→all.length≤i+32768→ring[i%32768]? =all[i]?
structure Win (H:ak) (b:Nat) (rv:Value) (all:List UInt8):Prop where
 ll:H[b]? =some (.cells #[rv,.int .i64 all.length] 252 (0,0))
 ring: ∃ring,pB H rv 1 (ring.map cY)∧Ring ring all
 ne:aV rv≠some b
 size:all.length≤1099511627776
structure Step (b:Nat) (rv:Value) (H:ak) (PY :Value) (H' :ak):Prop where
 size:H.size≤H'.size
 same: ∀i,i<H.size→i≠b→aV rv≠some i→H'[i]? =H[i]?
 ll: ∀k,aV PY =some k→aV rv=some k∨H.size≤k
theorem Step.refl {b:Nat} {rv:Value}:Step b rv H rv H:= ⟨ajR _,fun _ _ _ _=>rfl,fun _ h=> .inl h⟩
theorem Step.trans {b:Nat} {rv PY aal :Value} {H H' Zr :ak} (h:Step b rv H PY H') (k:Step b PY H' aal Zr):Step b rv H aal Zr :=
 ⟨akk h.size k.size,fun i hi hb hr=> (k.same i (akO hi h.size) hb (fun e=>by
   rcases h.ll i e with h' |h'
   ·exact hr h'
   ·omega)).trans (h.same i hi hb hr),fun j hj=>by
  rcases k.ll j hj with h' |h'
  ·exact h.ll j h'
  ·right;have:=h.size;omega⟩
theorem Step.ext {A H H' :ak} {b:Nat} {rv PY :Value} (h:Step b rv H PY H') (hx:Ext A H) (hb:A.size≤b) (hr: ∀k,aV rv=some k→A.size≤k):Ext A H' ∧∀k,aV PY =some k→A.size≤k:=
 ⟨⟨akk hx.size h.size,fun i hi=> (h.same i (akO hi hx.size) (by omega) (fun e=>by have:=hr i e;omega)).trans (hx.get i hi)⟩,fun k hk=>by
  rcases h.ll k hk with h' |h'
  ·exact hr k h'
  ·have:=hx.size;omega⟩
theorem Win.ext {H H' :ak} {b:Nat} {rv:Value} {all:List UInt8} (h:Win H b rv all) (hx:Ext H H'):Win H' b rv all:=by
 obtain⟨ring,ho,hr⟩:=h.ring;exact⟨hx.ll h.ll,⟨ring,ho.ext hx,hr⟩,h.ne,h.size⟩
variable {b:Nat} {rv:Value} {all:List UInt8}
end
section
set_option maxRecDepth 100000
variable {H H0:ak} {R:Value→ak→Prop} {v:Value} {zs:List Int} {ls:List Nat} {B:List Bool} {L:List It} {b:Nat} {q:List Value} {t:TypeId} {all:List UInt8}
def nw (H0 H:ak) (b:Nat) (q:List Value) (t:TypeId) (B:List Bool) (all:List UInt8) (L:List It):Prop:=
 ∃rv ring,Ring ring all∧all.length≤1099511627776∧aw H0 H (rE b (rv::i64 all.length::q) t B:: .sl rv 1 (ring.map cY)::L)
theorem I5 (ring:List UInt8): (ring.map cY).length=ring.length*1:=by simp
theorem R6 (w:nw H0 H b q t B all L) (h:R (i64 (min all.length 32768)) H):ab Tryz.prog 299 #[at_ b 3] H R:=by
 obtain⟨rv,ring,hr,hs,o⟩:=w;refine ia.vc _ _ _ ?_;unfold ia.res;rw [iA,ao,aA,ag,au];refine o.pl (by repeat(first|exact ajP|apply ajO)) (by decide) rfl ?_;refine o.Ow (v:=rv) (by repeat(first|exact ajP|apply ajO)) ?_;rw [aka,hr.len];exact h
theorem R7 {x:UInt8} (w:nw H0 H b q t B all L) (u0:all.length<1099511627776) (h: ∀H',nw H0 H' b q t B (all++ [x]) L→R (.tuple #[]) H'):ab Tryz.prog 257 #[at_ b 3,cY x] H R:=by
 obtain⟨rv,ring,hr,hs,o⟩:=w;have hlen:=hr.len;refine h_.vc _ _ _ _ ?_;unfold h_.res;rw [iA,ao];refine⟨fun H' => ∃PY Ng,Ring Ng (all++ [x])∧aw H0 H' (rE b (PY ::i64 all.length::q) t B:: .sl PY 1 (Ng.map cY)::L),?_,?_⟩
 ·rintro _ H1 ⟨PY,Ng,A3,o⟩
  rw [aA,ag,au];refine o.pl (by repeat(first|exact ajP|apply ajO)) (by decide) rfl ?_;rw [aC,bH (by omega) (by omega),aA,ag,au];refine o.ps (g:=3+1) bd.here (by decide) (by simp) rfl fun H2 o _=>?_;refine h H2 ⟨PY,Ng,A3,by rw [ajQ,alf];omega,?_⟩;have e:i64 (all++ [x]).length= .int .i64 ((all.length:Int)+1):=by rw [ajQ,alf];rfl
  rw [e];exact o
 ·rw [aA,ag,au]
  refine o.pl (by repeat(first|exact ajP|apply ajO)) (by decide) rfl ?_;refine o.Ow (v:=rv) (by repeat(first|exact ajP|apply ajO)) ?_;rw [aka,aQ];refine ax (fun hc=>?_) (fun hc=>?_)
  ·rw [aA,ag,au]
   refine o.pl (by repeat(first|exact ajP|apply ajO)) (by decide) rfl ?_;refine o.ej (by decide) rfl rfl fun y H1 o=>?_;refine o.app (v:=rv) (x:=y) (by repeat(first|exact bu.here|apply bu.there)) (o.sl (by repeat(first|exact ajP|apply ajO))) (by rfl) (by rw [aka];show 2* (ring.length+1)*1≤_;omega) fun y2 H2 o=>?_;rw [aA,ag,au];have hy2:= (o.sl (v:=y2) (by repeat(first|exact ajP|apply ajO))).one;refine o.ps (b:=b) (post:=rv::i64 all.length::q) (t:=t) (B:=B) (g:=3+0) (by repeat(first|exact bd.here|apply bd.there)) (by decide) (by simp) hy2 fun H3 o _=>?_;have aam:ring=all:=by
    apply akV;intro i
    by_cases hi:i<all.length
    ·rw [←hr.at_ i hi (by omega),aj_ (by omega)]
    ·rw [akc (by omega),akc (by omega)]
   subst aam;refine⟨y2,ring++ [x],⟨by simp;omega,fun i hi _=>by rw [aj_ (by simp at hi;omega)]⟩,?_⟩;rw [aky];exact o.sf.swap
  ·have qC:32768≤all.length:=by omega
   rw [aA,ag,au];refine o.pl (by repeat(first|exact ajP|apply ajO)) (by decide) rfl ?_;rw [aA,ag,au];refine o.pl (by repeat(first|exact ajP|apply ajO)) (by decide) rfl ?_;rw [sD];refine⟨by decide,?_⟩;rw [ale (by omega)];have hm: ((all.length:Int) %32768).toNat*1=all.length%32768:=by omega
   refine(o.sl (v:=rv) (by repeat(first|exact ajP|apply ajO))).at_ (I5 ring) (by decide) (by omega) (by omega) fun p hp=>?_;refine o.store hp (by repeat(first|exact ajP|apply ajO)) (by rw [aka];omega) rfl (by repeat(first|exact bd.here|apply bd.there)) fun H1 o _=>?_;rw [hm] at o;refine⟨rv,ring.set (all.length%32768) x,⟨by simp;omega,fun i hi MC=>?_⟩,by rw [List.map_set];exact o⟩;rw [ajQ,alf] at hi MC
   by_cases he:i=all.length
   ·subst he
    rw [alE (by omega),akB (ajR _),ali]
    rfl
   ·rw [amn (by omega),akx (by omega)]
    exact hr.at_ i (by omega) (by omega)
theorem Xx {d:Int} (w:nw H0 H b q t B all L) (WK:1≤d) (Zv:d≤(min all.length 32768:Nat)) (h:R (.tuple #[cY (all.getD (all.length - d.toNat) 0),.bool true]) H):ab Tryz.prog 300 #[at_ b 3,.int .i64 d] H R:=by
 have w0:=w;obtain⟨rv,ring,hr,hs,o⟩:=w;refine gz.vc _ _ _ _ ?_;unfold gz.res;rw [aQ,decide_eq_false (by omega)];refine bh ?_;refine R6 w0 ?_;rw [bU,decide_eq_false (by omega)];intro _;rw [ao,aA,ag,au];refine o.pl (by repeat(first|exact ajP|apply ajO)) (by decide) rfl ?_;rw [aA,ag,au];refine o.pl (by repeat(first|exact ajP|apply ajO)) (by decide) rfl ?_;rw [bE,bH (by omega) (by omega),sD];refine⟨by decide,?_⟩;rw [ale (by omega)];have hlen:=hr.len;have hm: (((all.length:Int) - d) %32768).toNat*1= (all.length - d.toNat) %32768:=by omega
 have hS:=o.sl (v:=rv) (by repeat(first|exact ajP|apply ajO));refine hS.at_ (I5 ring) (by decide) (by omega) (by omega) fun p hp=>?_;refine hp.load hS (w:=cY (all.getD (all.length - d.toNat) 0)) ?_ h;rw [hm,ake,hr.at_ _ (by omega) (by omega),ajV (by omega),ajX,ajV (by omega)]
 rfl
theorem aan {s:List UInt8} (w:nw H0 H b q t B all L) (u0:all.length+s.length≤1099511627776) (h: ∀H',nw H0 H' b q t B (all++s) L→R (.tuple #[]) H'):ab Tryz.prog 253 #[at_ b 3,str s] H R:=by
 refine g_.vc _ _ _ _ ?_;unfold g_.res;refine aJ ?_;refine⟨fun v H' => ∃ (i:Nat),v= .int .i64 i∧i≤s.length∧nw H0 H' b q t B (all++s.take i) L,fun v _=>match v with| .int _ i=> (s.length - i).toNat|_=>0,⟨0,rfl,by omega,by simpa using w⟩,?_⟩;rintro _ _ H1 ⟨i,rfl,hi,w⟩;rw [aQ];refine ax (fun hc=>?_) (fun hc=>?_)
 ·rw [dU,cn]
  refine⟨by omega,by omega,?_⟩;rw [ajS];refine R7 w (by rw [ajQ,ajW];omega) fun H2 w=>?_;rw [aC,bH (by omega) (by omega)];refine⟨⟨i+1,rfl,by omega,?_⟩,by show (_:Int).toNat< (_:Int).toNat;omega⟩;rw [akq,ajV (by omega),←ajT];rw [ajX,ajV (by omega)] at w;exact w
 ·have:i=s.length:=by omega
  subst this;rw [aj8] at w;exact h _ w
theorem O4 {n d:Nat} (w:nw H0 H b q t B all L) (hn:n≤258) (Ah:d<1∨min all.length 32768<d) (h:R (.tuple #[str [],.bool false]) H):ab Tryz.prog 281 #[at_ b 3,i64 n,i64 d] H R:=by
 refine ew.vc _ _ _ _ _ ?_;unfold ew.res;rw [aQ,decide_eq_false (by omega)];refine bh ?_;rw [bU,decide_eq_false (by omega)];intro _;refine bh ?_;rw [aQ];intro _;refine oy (d:=decide (((min all.length 32768:Nat):Int)<d)) (fun _=>?_) ?_
 ·refine R6 w ?_
  rw [bU];exact⟨rfl,rfl⟩
 intro _;refine fI (fun _=>h) (fun hc=>?_);simp only [alu,decide_eq_false_iff_not] at hc;omega
theorem nw.R8 {i:It} (w:nw H0 H b q t B all (i::L)): ∃rv ring,Ring ring all∧all.length≤1099511627776∧aw H0 H (i::rE b (rv::i64 all.length::q) t B:: .sl rv 1 (ring.map cY)::L):=by
 obtain⟨rv,ring,hr,hs,o⟩:=w;refine⟨rv,ring,hr,hs,o.perm ?_⟩;exact List.Perm.trans (List.Perm.swap ..) (List.Perm.cons _ (List.Perm.swap ..))
theorem nw.R9 {i:It} {rv:Value} {ring:List UInt8} (hr:Ring ring all) (hs:all.length≤1099511627776) (o:aw H0 H (i::rE b (rv::i64 all.length::q) t B:: .sl rv 1 (ring.map cY)::L)):nw H0 H b q t B all (i::L):=by
 refine⟨rv,ring,hr,hs,o.perm ?_⟩;exact List.Perm.trans (List.Perm.cons _ (List.Perm.swap ..)) (List.Perm.swap ..)
theorem Xy {n d:Nat} (w:nw H0 H b q t B all L) (Hb:n≤258) (Ha:1≤d) (WK:d≤min all.length 32768) (u0:all.length+258≤1099511627776)
  (h: ∀H',nw H0 H' b q t B (dZ n all d) L→R (.tuple #[str ((dZ n all d).drop all.length),.bool true]) H'):ab Tryz.prog 281 #[at_ b 3,i64 n,i64 d] H R:=by
 refine ew.vc _ _ _ _ _ ?_;unfold ew.res;rw [aQ,decide_eq_false (by omega)];refine bh ?_;rw [bU,decide_eq_false (by omega)];intro _;refine bh ?_;rw [aQ,decide_eq_false (by omega)];intro _;refine bh ?_;refine R6 w ?_;rw [bU,decide_eq_false (by omega)];intro _;rw [ao];obtain⟨rv,ring,hr,hs,o⟩:=w;refine o.xV (by omega) (by omega) (by omega) fun ov H1 o=>?_;rw [ajS] at o;have w:=nw.R9 hr hs o;refine o.Ow (v:=ov) (by repeat(first|exact ajP|apply ajO)) ?_;rw [akw];refine⟨fun v H' => ∃ (i:Nat) (out:List Value),v= .int .i64 i∧i≤n∧nw H0 H' b q t B (dZ i all d) (.sl ov 1 out::L)∧out.length=n∧out.take i= ((dZ i all d).drop all.length).map cY,
  fun v _=>match v with| .int _ i=> (n - i).toNat|_=>0,⟨0,_,rfl,by omega,w,by simp,by simp [dZ]⟩,?_⟩
 rintro _ _ H2 ⟨i,out,rfl,hi,w2,YG,VK⟩;have hl:=wq i all d;rw [aQ];refine ax (fun hc=>?_) (fun hc=>?_)
 ·refine Xx (d:=d) w2 (by omega) (by rw [hl];omega) ?_
  refine ai rfl ?_;refine ai rfl ?_;rw [ajS];generalize hx: (dZ i all d).getD ((dZ i all d).length - d) 0=x;obtain⟨rv,ring,hr,sP,o⟩:=w2.R8;refine(o.sl (v:=ov) (by repeat(first|exact ajP|apply ajO))).at_ (n:=n) (by omega) (by decide) (by omega) (by omega) fun p hp=>?_;refine o.store hp (by repeat(first|exact ajP|apply ajO)) (by omega) rfl (by repeat(first|exact bd.here|apply bd.there)) fun H3 o _=>?_;rw [ajS,aj0] at o;have hS:=o.sl (v:=ov) (by repeat(first|exact ajP|apply ajO));refine hS.at_ (n:=n) (by rw [akT];omega) (by decide) (by omega) (by omega) fun p hp=>?_;refine hp.load hS (w:=cY x) (by rw [ajS,aj0,alE (by omega)]) ?_;refine R7 (nw.R9 hr sP o) (by rw [hl];omega) fun H4 w=>?_;rw [aC,bH (by omega) (by omega)];refine⟨⟨i+1,out.set i (cY x),rfl,by omega,?_,by simpa using YG,?_⟩,by show (_:Int).toNat< (_:Int).toNat;omega⟩
  ·rw [zC,hx];exact w
  ·rw [zC,hx,akH (by rw [hl];omega),aky,←VK]
   rw [akq,alE (by omega),List.take_set_of_le (by omega)]
   rfl
 ·have MC:i=n:=by omega
  subst MC;rw [aj9 (by omega)] at VK;rw [VK] at w2;obtain⟨rv,ring,hr,sP,o⟩:=w2.R8;refine Sl.str (o.sl (v:=ov) (by repeat(first|exact ajP|apply ajO))) ?_;exact h _ ⟨rv,ring,hr,sP,o.pick (ak2 _ _)⟩
theorem nw.pl {K:Value→Prop} {g:Nat} {x:Value} (w:nw H0 H b q t B all L) (h5:5≤g) (hx:q[g - 5]? =some x) (hk:K x):al H (at_ b g) K:=by
 obtain⟨rv,ring,hr,hs,o⟩:=w;refine o.pl (w:=x) (by repeat(first|exact ajP|apply ajO)) (by omega) ?_ hk;obtain⟨j,rfl⟩: ∃j,g=j+5:= ⟨g - 5,by omega⟩;simp only [alY] at hx;rw [show j+5 - 3=j+1+1 by omega];exact hx
theorem nw.ps {K:Value→ak→Prop} {g:Nat} {x:Value} (w:nw H0 H b q t B all L) (h5:5≤g) (hg:g - 5<q.length) (hx:aL x=true) (hk: ∀H',nw H0 H' b (q.set (g - 5) x) t B all L→K undef H'):aE H (at_ b g) x K:=by
 obtain⟨rv,ring,hr,hs,o⟩:=w;refine o.ps (g:=g) bd.here (by omega) (by simp;omega) hx fun H' o _=>hk H' ⟨rv,ring,hr,hs,?_⟩;obtain⟨j,rfl⟩: ∃j,g=j+5:= ⟨g - 5,by omega⟩;rw [show j+5 - 3=j+1+1 by omega] at o;exact o
end
end Go.Proofs.YtpcgccdmmoggmaaGreatDoor
set_option maxRecDepth 100000
namespace Go.Proofs
open Go.Shelf Go.RowKit
section
set_option maxRecDepth 100000
set_option maxHeartbeats 1000000 in
theorem Tryz.vD (b f:Nat) (w:World) (h0:w.cell? ⟨b,f,none⟩=some (.pointer (some ⟨b,f,none⟩))):
  Calls Tryz.prog 128 #[.pointer (some ⟨b,f,none⟩)] w fun e w' =>e= .returned (.tuple #[])∧w' =w:=by
 obtain⟨j,hj,hjs⟩:=anp.1 (show (Tryz.prog.info? 153).map (·.size)=some 2 by kernel_rfl)
 go_enter Tryz.func128,Tryz.f128
 go_wp2
 rw [Lib.run_neq_ptr_same w _ Tryz.underlying151 hj]
 go_wp2
 go_end0
 exact⟨rfl,rfl⟩
set_option maxHeartbeats 1000000 in
theorem Tryz.Bi (b:Nat) (w:World) (h0:w.cell? ⟨b,5,none⟩=some (.pointer none)) (PQ:w.shape? b=some (255,14)) (QB:w.frozen? ⟨b,5,none⟩=false):
  Calls Tryz.prog 128 #[.pointer (some ⟨b,5,none⟩)] w fun e w' =>e= .returned (.tuple #[])∧w' =w.setCell ⟨b,5,none⟩ (.pointer (some ⟨b,5,none⟩)):=by
 obtain⟨j,hj,hjs⟩:=anp.1 (show (Tryz.prog.info? 153).map (·.size)=some 2 by kernel_rfl);have R_:liesAt Tryz.prog Tryz.prog.depth 255 (14/Tryz.prog.cellsOf 255) 5 153 1=true:=by kernel_rfl
 go_enter Tryz.func128,Tryz.f128
 go_wp2
 rw [Lib.run_to_unsafe w ⟨b,5,none⟩ Tryz.underlying151 Tryz.underlying256 hj (by rw [hjs];decide) PQ (show 5<14 by decide)];simp only [Result.andThen];rw [Oper.upon_value]
 go_wp2
 rw [run_callFunc_extern Tryz.func178 (by kernel_rfl) (by kernel_rfl) (by kernel_rfl) (e:=Extern.AbiNoEscape.same) (by kernel_rfl)];rw [Lib.run_noEscape];simp only [Result.andThen];rw [Oper.upon_value]
 go_wp2
 rw [Lib.run_from_unsafe w ⟨b,5,none⟩ Tryz.underlying256 Tryz.underlying151 hj PQ R_];simp only [Result.andThen];rw [Oper.upon_value]
 go_wp2
 go_end0
 exact⟨rfl,rfl⟩
set_option maxHeartbeats 1000000 in
theorem Tryz.I6 (b g cap:Nat) (cur:Array Value) (fr:Nat × Nat) (l:List UInt8) (w:World) (h1:w.cell? ⟨b,6,none⟩=some (.slice (some ⟨g,0,none⟩) l.length cap)) (hg:w.heap[g]? =some (.cells cur 5 fr)) (h0:l≠ []) (hl:l.length≤cap) (hm:l.length≤9223372036854775807) (hn:l.length≤cur.size)
  (hc: ∀ (j:Nat) (x:UInt8),l[j]? =some x→cur[j]? =some (Value.int .u8 x.toNat)):
  Calls Tryz.prog 76 #[.pointer (some ⟨b,5,none⟩)] w fun e w' =>e= .returned (.string ⟨l.toArray⟩)∧w' =w.drew.freeze ⟨g,0,none⟩ l.length:=by
 have T_:l.length≠0:=by simpa using h0
 have c1:w.drew.cell? ⟨b,6,none⟩=some (.slice (some ⟨g,0,none⟩) l.length cap):=h1;have hSD: (Builtin.unsafeSliceData_ #[82] 200 #[.slice (some ⟨g,0,none⟩) l.length cap]).run Tryz.prog w.drew= .ok (.pointer (some ⟨g,0,none⟩)) w.drew:=
  Lib.run_unsafeSliceData_row _ _ _ _ _ _ (by omega)
 have hUS: (Builtin.unsafeString_ #[200,3] 9 #[.pointer (some ⟨g,0,none⟩),.int .i64 l.length]).run Tryz.prog w.drew= .ok (.string ⟨l.toArray⟩) (w.drew.freeze ⟨g,0,none⟩ l.length):=by
  refine Lib.run_unsafeString_row w.drew 200 3 9 5 Tryz.underlying200 (by kernel_rfl) g cur.size (by have Xz :w.drew.heap[g]? =some (.cells cur 5 fr):=hg;simp [World.shape?,Xz]) l h0 hn hm ?_;intro j x hx;have Xz :w.drew.heap[g]? =some (.cells cur 5 fr):=hg;have:=hc j x hx;rw [show (⟨g,0,none⟩:Addr).add j= ⟨g,j,none⟩ from by cases j<;>simp [Addr.add],Lib.cell_of_heap Xz];exact this
 go_enter Tryz.func76,Tryz.f76
 go_wp2
 go_region
 all_goals (go_wp2;go_ret;exact⟨rfl,rfl⟩)
set_option maxHeartbeats 1000000 in
theorem Tryz.LI (b:Nat) (w:World) (h1:w.cell? ⟨b,6,none⟩=some (.slice none 0 0)):
  Calls Tryz.prog 76 #[.pointer (some ⟨b,5,none⟩)] w fun e w' =>e= .returned (.string ⟨#[]⟩)∧w' =w.drew:=by
 have c1:w.drew.cell? ⟨b,6,none⟩=some (.slice none 0 0):=h1;have hSD: (Builtin.unsafeSliceData_ #[82] 200 #[.slice none 0 0]).run Tryz.prog w.drew= .ok (.pointer none) w.drew:=rfl;have hUS: ∀ (W:World) (q:Option Addr),(Builtin.unsafeString_ #[200,3] 9 #[.pointer q,.int .i64 0]).run Tryz.prog W= .ok (.string .empty) W:=fun W q=>Lib.run_unsafeString_none W _ _ _ q
 go_enter Tryz.func76,Tryz.f76
 go_wp2
 go_region
 all_goals (go_wp2;go_ret;exact⟨rfl,rfl⟩)
end
end Go.Proofs
namespace Go.Proofs.YtpcgccdmmoggmaaGreatDoor
open Go Go.Vc Go.Proofs
section
set_option maxRecDepth 100000
variable {H H0:ak} {R:Value→ak→Prop} {v:Value} {B:List Bool} {L M:List It} {b:Nat} {q:List Value} {W out:List UInt8}
def tI (v:Value) (out:List UInt8):ir where
 eL k:=aV v=some k
 holds H:= (v= .slice none 0 0∧out= [])∨(out≠ []∧∃ (g cap:Nat) (sp:List Value) (fr:Nat × Nat),v= .slice (some ⟨g,0,none⟩) out.length cap∧H[g]? =some (.cells (out.map cY++sp).toArray 5 fr)∧FZ fr cap∧out.length+sp.length=cap)
 frame:=fun h hf=>by
  rcases h with h| ⟨h0,g,cap,sp,fr,rfl,h1,h2⟩
  ·exact .inl h
  ·exact .inr ⟨h0,g,cap,sp,fr,rfl,(hf g rfl).trans h1,h2⟩
 lt:=fun h hf=>by
  rcases h with ⟨rfl,_⟩ | ⟨h0,g,cap,sp,fr,rfl,h1,h2⟩
  ·simp [aV] at hf
  ·simp only [aV,ajY] at hf;subst hf;exact bw h1
theorem O5 (l:List UInt8): (l.map cY).all aL=true:=by simp [aL]
theorem GD {K:Value→ak→Prop} {x:Value} {new:List UInt8} (o:aw H0 H L) (lf:bu (.ay (tI v out)) L M) (hlen:mu x=some new.length) (mi:cellsOf H 1 x=some (new.map cY)) (pK:out.length+new.length≤140737488355328)
  (hk: ∀v' H',aw H0 H' (.ay (tI v' (out++new))::M)→K v' H'):bg H 5 1 1 [.int .u8 0] v x K:=by
 have o1:=o.front lf;have hh:=o1.ay (T:=tI v out) ajP;have key: ∀v' H',H.size≤H'.size→(∀k,k<H.size→aV v≠some k→H'[k]? =H[k]?)→(tI v' (out++new)).holds H' →(∀k,aV v' =some k→aV v=some k∨H.size≤k)→K v' H' :=
  fun v' H' h1 h2 h3 h4=>hk v' H' (o1.nq bd.here h1 h2 h3 h4)
 rcases hh with ⟨rfl,rfl⟩ | ⟨h0,g,cap,sp,fr,rfl,hb,hf,hc⟩
 ·simp only [bg,hlen,mi]
  refine⟨fun hle=>?_,fun eF=>?_⟩
  ·have:new= []:=amt.1 (by omega)
   subst this;exact key _ H (ajR _) (fun _ _ _=>rfl) (.inl ⟨rfl,rfl⟩) (fun k hk=> .inl hk)
  ·refine⟨by simp at pK;omega,?_⟩
   simp only [cellsOf,aj4];intro c hc;refine key _ _ (by simp) (fun i hi _=>lA hi) (.inr ⟨by intro e;rw [List.append_eq_nil_iff] at e;rw [e.2] at eF;simp at eF,H.size,c,jG [.int .u8 0] (c - (0+new.length)),(0,0),by simp,?_,.inl rfl,?_⟩) (fun k hk=>?_)
   ·exact cR
   ·rw [kC];simp;omega
   ·simp only [aV,ajY] at hk;right;omega
 ·simp only [bg,hlen,mi]
  refine⟨fun hle=>?_,fun eF=>?_⟩
  ·simp only [au,aj6,aj0]
   have D7:new.length≤sp.length:=by omega
   rw [mQ hf (new.map cY) H out.length 0 (out.map cY++sp) hb (O5 new) (by simp;omega) (by simp;omega)];simp only [akp];have hp:=s8 (new.map cY) (out.map cY) sp (by simpa using D7);rw [aka] at hp;rw [hp,aka];refine key _ _ (by simp) (fun i hi d_=>dW (by intro e;subst e;exact d_ rfl)) (.inr ⟨by simp [h0],g,cap,sp.drop new.length,fr,by simp,?_,hf,?_⟩) (fun k hk=> .inl hk)
   ·rw [aky];exact cB (bw hb)
   ·rw [ajQ,aj1];omega
  ·refine⟨by omega,?_⟩
   have hr:cellsOf H 1 (.slice (some ⟨g,0,none⟩) out.length cap)=some (out.map cY):=by
    have:= (pB.sl (by decide) (.inr ⟨g,out.length,cap,sp,rfl,⟨⟨_,fr,hb,by simpa using hf⟩,by simp,by simp;omega⟩⟩:pB H (.slice (some ⟨g,0,none⟩) out.length cap) 1 (out.map cY))).cellsOf;exact this
   rw [hr];intro c lz;refine key _ _ (by simp) (fun i hi _=>lA hi) (.inr ⟨by simp [h0],H.size,c,jG [.int .u8 0] (c - (out.length+new.length)),(0,0),by simp,?_,.inl rfl,?_⟩) (fun k hk=>?_)
   ·rw [aky];exact cR
   ·rw [kC,ajQ];simp;omega
   ·simp only [aV,ajY] at hk;right;omega
def Dc (H0 H:ak) (b:Nat) (q:List Value) (B:List Bool) (W out:List UInt8) (L:List It):Prop:=
 ∃bp bv,(bp= .pointer none∨bp=at_ b 5)∧aL bv=true∧nw H0 H b (bp::bv::q) 255 B W (.ay (tI bv out)::L)
def Idle (H0 H:ak) (b:Nat) (q:List Value) (B:List Bool) (W:List UInt8) (L:List It):Prop:=
 ∃bp bv,aL bp=true∧aL bv=true∧nw H0 H b (bp::bv::q) 255 B W L
theorem yI {K:Value→ak→Prop} {a:Addr} {x:Value} (h:aE H (.pointer (some a)) x K):K undef (setAt H (a.add 0) x):=by
 simp only [aE,jF] at h
 cases hc:cellAt H (a.add 0) with
 |none=>simp only [hc] at h
 |some y=>
  simp only [hc] at h
  cases hq:frozenAt H (a.add 0) with
  |true=>simp only [hq,cond_true] at h
  |false=>
   cases ho:aL x with
   |false=>simp only [hq,ho,cond_false] at h
   |true=>simpa only [hq,ho,cond_false,cond_true] using h
theorem vE {bp bv:Value} (hq:q.length=7) (wH:bp= .pointer none∨bp=at_ b 5) (w:nw H0 H b (bp::bv::q) 255 B W L)
  (h: ∀H',nw H0 H' b (at_ b 5::bv::q) 255 B W L→R (.tuple #[]) H'):ab Tryz.prog 128 #[at_ b 5] H R:=by
 obtain⟨rv,ring,hr,hs,o⟩:=id w;obtain⟨rest,acc,n,h1,-⟩:=o.ay (T:=ZS b (rv::i64 W.length::bp::bv::q) 255 B) (by repeat(first|exact ajP|apply ajO));intro wd hw;subst hw;have hc:=Lib.cell_of_heap h1 5;rcases wH with rfl|rfl
 ·have ff:=w.ps (K:=fun _ H' =>R (.tuple #[]) H') (g:=5) (x:=at_ b 5) (by decide) (by simp) rfl (fun H' w' =>h H' w')
  have:=yI ff;refine(Tryz.Bi b wd hc ?_ (Lib.frozen_of_heap h1 5)).mono fun e w' ⟨he,sO⟩=> ⟨_,he,?_,?_⟩
  ·simp [World.shape?,h1,hq]
  ·subst sO;exact⟨rfl,rfl,rfl,fun _=>by first|exact ajR _|exact akh _⟩
  ·subst sO;exact this
 ·exact(Tryz.vD b 5 wd hc).mono fun e w' ⟨he,sO⟩=> ⟨_,he,by subst sO;exact dI.refl _,by subst sO;exact h _ w⟩
theorem GF (o:aw H0 H L) (h:It.ay (tI v out)∈L):aL v=true:=by
 rcases o.ay h with ⟨rfl,_⟩ | ⟨_,_,_,_,_,rfl,_⟩<;>rfl
theorem I7 {x:Value} {new:List UInt8} {bv:Value} (hq:q.length=7) (hn:out.length+new.length≤140737488355328) (w:nw H0 H b (at_ b 5::bv::q) 255 B W (.ay (tI bv out)::L))
  (hlen:mu x=some new.length) (mi:cellsOf H 1 x=some (new.map cY)) (h: ∀H',Dc H0 H' b q B W (out++new) L→R undef H'):
  aB (at_ b 5) fun cI=>aa 1 cI fun cf=>al H cf fun cJ=>bg H 5 1 1 [(.int .u8 0)] cJ x fun cx bf=>aB (at_ b 5) fun cj=>aa 1 cj fun cS=>aE bf cS cx R:=by
 rw [aA,ag,au];refine w.pl (g:=5+1) (x:=bv) (by decide) rfl ?_;obtain⟨rv,ring,hr,hs,o⟩:=w.R8;refine GD o (by repeat(first|exact bu.here|apply bu.there)) hlen mi hn fun v' H2 o=>?_;have h1:=GF o (by repeat(first|exact ajP|apply ajO));have w:=nw.R9 hr hs o;rw [aA,ag,au];refine w.ps (g:=5+1) (by decide) (by simp) h1 fun H3 w=>?_;exact h H3 ⟨_,v',.inr rfl,h1,w⟩
theorem I8 {s:List UInt8} (hq:q.length=7) (hs:out.length+s.length≤140737488355328) (d:Dc H0 H b q B W out L) (h: ∀H',Dc H0 H' b q B W (out++s) L→R (.tuple #[i64 s.length,.nilIface]) H'):ab Tryz.prog 75 #[at_ b 5,str s] H R:=by
 obtain⟨bp,bv,wH,Bj,w⟩:=d;refine b7.vc _ _ _ _ ?_;unfold b7.res;refine vE hq wH w fun H1 w=>?_;refine I7 (x:=str s) (new:=s) hq hs w (by simp [mu,cn]) (by simp [cellsOf,cn]) fun H2 d=>?_;refine aJ ?_;exact h H2 d
theorem Sa {x:UInt8} (hq:q.length=7) (hs:out.length+1≤140737488355328) (d:Dc H0 H b q B W out L) (h: ∀H',Dc H0 H' b q B W (out++ [x]) L→R .nilIface H'):ab Tryz.prog 258 #[at_ b 5,cY x] H R:=by
 obtain⟨bp,bv,wH,Bj,w⟩:=d;refine dM.vc _ _ _ _ ?_;unfold dM.res;refine vE hq wH w fun H1 w=>?_;rw [aA,ag,au];refine w.pl (g:=5+1) (x:=bv) (by decide) rfl ?_;obtain⟨rv,ring,hr,sP,o⟩:=w.R8;refine o.ej (sz:=1) (by decide) rfl rfl fun y H2 o=>?_;have hS:=o.sl (v:=y) (by repeat(first|exact ajP|apply ajO));refine GD (new:= [x]) o (by repeat(first|exact bu.here|apply bu.there)) (hS.mu (n:=1) rfl (by decide)) hS.cellsOf hs fun v' H2 o=>?_;have h1:=GF o (by repeat(first|exact ajP|apply ajO));have w:=nw.R9 hr sP o.sf;rw [aA,ag,au];refine w.ps (g:=5+1) (by decide) (by simp) h1 fun H3 w=>?_;exact h H3 ⟨_,v',.inr rfl,h1,w⟩
theorem UJ (hq:q.length=7) (d:Idle H0 H b q B W L) (h: ∀H',Dc H0 H' b q B W [] L→R (.tuple #[]) H'):ab Tryz.prog 174 #[at_ b 5] H R:=by
 obtain⟨bp,bv,wH,Bj,w⟩:=d;refine eO.vc _ _ _ ?_;unfold eO.res;rw [aA,ag,au];refine w.ps (g:=5+0) (by decide) (by simp) rfl fun H1 w=>?_;rw [aA,ag,au];refine w.ps (g:=5+1) (by decide) (by simp) rfl fun H2 w=>?_;refine h H2 ⟨.pointer none,.slice none 0 0,.inl rfl,rfl,?_⟩;obtain⟨rv,ring,hr,hs,o⟩:=w;refine nw.R9 (rv:=rv) hr hs ?_;exact o.add (Ext.refl _) (i:= .ay (tI (.slice none 0 0) [])) (.inl ⟨rfl,rfl⟩) (by intro k hk;simp [It.eL,tI,aV] at hk)
def AS:ir where
 eL _:=False
 holds _:=True
 frame:=fun _ _=>trivial
 lt:=fun _ h=>h.elim
theorem I9 (hq:q.length=7) (hs:out.length≤140737488355328) (d:Dc H0 H b q B W out L) (h: ∀H',Idle H0 H' b q B W L→R (str out) H'):ab Tryz.prog 76 #[at_ b 5] H R:=by
 obtain⟨bp,bv,wH,Bj,w⟩:=d;have aao:aL bp=true:=by rcases wH with rfl|rfl<;>rfl
 obtain⟨rv,ring,hr,sP,o⟩:=w.R8;obtain⟨rest,acc,n,h1,-⟩:=o.ay (T:=ZS b (rv::i64 W.length::bp::bv::q) 255 B) (by repeat(first|exact ajP|apply ajO));intro wd hw;subst hw;have hc:wd.cell? ⟨b,6,none⟩=some bv:=Lib.cell_of_heap h1 6;rcases o.ay (T:=tI bv out) (by repeat(first|exact ajP|apply ajO)) with ⟨rfl,rfl⟩ | ⟨h0,g,cap,sp,fr,rfl,hg,hf,Cg⟩
 ·refine(Tryz.LI b wd hc).mono fun e w' ⟨he,sO⟩=> ⟨_,he,by subst sO;exact⟨rfl,rfl,rfl,fun _=>by first|exact ajR _|exact akh _⟩,?_⟩
  subst sO;exact h _ ⟨bp,_,aao,rfl,rv,ring,hr,sP,o.pick (ak2 _ _)⟩
 ·have T_:out.length≠0:=by simpa using h0
  have QB: (wd.drew.freeze ⟨g,0,none⟩ out.length).heap=wd.heap.modify g fun
    | .cells c elem (lo,hi)=> .cells c elem (if lo==hi then (0,0+out.length) else (min lo 0,max hi (0+out.length)))
    |o=>o:=by
   unfold World.freeze;rw [if_neg T_]
   rfl
  refine(Tryz.I6 b g cap _ fr out wd hc hg h0 (by omega) (by omega) (by simp) ?_).mono fun e w' ⟨he,sO⟩=> ⟨_,he,?_,?_⟩
  ·intro j x hx
   have hj:= (aku.1 hx).1;rw [akr,akx (by simpa using hj),ake,hx];rfl
  ·subst sO
   unfold World.freeze;rw [if_neg T_];exact⟨rfl,rfl,rfl,fun _=>by first|exact ajR _|exact akh _⟩
  ·subst sO
   have o2:aw H0 (wd.drew.freeze ⟨g,0,none⟩ out.length).heap (.ay AS::rE b (rv::i64 W.length::bp:: .slice (some ⟨g,0,none⟩) out.length cap::q) 255 B:: .sl rv 1 (ring.map cY)::L):=by
    rw [QB];refine o.nq bd.here (by simp) (fun k hk d_=>?_) trivial (fun k hk=>hk.elim);rw [alK,if_neg];intro e;exact d_ (by simp [It.eL,tI,aV,e])
   exact h _ ⟨bp,_,aao,rfl,rv,ring,hr,sP,o2.pick (ak2 _ _)⟩
end
end Go.Proofs.YtpcgccdmmoggmaaGreatDoor
