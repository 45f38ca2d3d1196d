/- Part 7 of the proof of RowTopMended: what it is built on, in the order of its needs. -/
import Derived.Test.YtpcgccdmmoggmaaGreatDoorPkF
set_option linter.unusedSimpArgs false
set_option linter.unusedVariables false
namespace Go.Proofs.YtpcgccdmmoggmaaGreatDoor
open Go Go.Vc Go.Proofs
section
set_option maxRecDepth 100000
variable {H H0 H' :ak} {R:Value→ak→Prop} {v:Value} {L:List It} {s:List UInt8} {G:List Tok}
inductive Np (s:List UInt8) (G:List Tok):Nat→Nat→Nat→Prop
 |zero:Np s G 1 (35+8*s.length) 0
 |less {k b d:Nat} {X:List Bool}:Np s G k b d→Dm 0 false s G k X→X.length<b→Np s G (k+1) X.length k
 |more {k b d:Nat} {X:List Bool}:Np s G k b d→Dm 0 false s G k X→¬X.length<b→Np s G (k+1) b d
theorem Np.pos {k b d:Nat} (h:Np s G k b d):1≤k:=by cases h<;>omega
theorem Np.one {k b d:Nat} (h:Np s G k b d): ∀ {b' d' :Nat},Np s G k b' d' →b=b' ∧d=d' :=by
 induction h with
 |zero=>
  intro b' d' g
  cases g with
  |zero=>exact⟨rfl,rfl⟩
  |less g _ _=>have:=g.pos;omega
  |more g _ _=>have:=g.pos;omega
 |less h hX eF ih=>
  intro b' d' g
  cases g with
  |zero=>have:=h.pos;omega
  |less g gX glt=>obtain rfl:=hX.one gX;exact⟨rfl,rfl⟩
  |more g gX glt=>
   obtain rfl:=hX.one gX;obtain⟨rfl,rfl⟩:=ih g;exact absurd eF glt
 |more h hX eF ih=>
  intro b' d' g
  cases g with
  |zero=>have:=h.pos;omega
  |less g gX glt=>
   obtain rfl:=hX.one gX;obtain⟨rfl,rfl⟩:=ih g;exact absurd glt eF
  |more g gX glt=>exact ih g
theorem Pm {lv:Value} {kind:Nat} (hk:kind<3) (hG:Reads H0 ⟨0,0,none⟩ je) (n_:s.length≤20000) (hl:It.sl lv 3 (eu G)∈L) (hlen:G.length≤20000) (hg: ∀t∈G,jC t=true) (ht:ux G [] s) (o:aw H0 H L)
  (h: ∀H' (n:Nat),(kind=0→n=35+8*s.length)→(kind≠0→∃X,Dm 0 false s G kind X∧n=X.length)→n≤3000000→aw H0 H' L→R (.tuple #[.int .i64 (n:Int),.bool true]) H'):
  ab Tryz.prog 317 #[.int .i64 (kind:Int),str s,lv] H R:=by
 refine oN.vc _ _ _ _ _ ?_;unfold oN.res;rw [bj]
 by_cases h0:kind=0
 ·rw [decide_eq_true (by omega)]
  refine bX ?_;refine yK hk (by omega) (o.sl (v:=lv) hl) (by omega) hg fun H1 hx=>?_;intro _;rw [aH];refine aJ ?_;rw [vf,bH (by omega) (by omega),aC,show (35:Int)+8* (s.length:Int)= ((35+8*s.length:Nat):Int) by omega,bH (by omega) (by omega)];exact h H1 _ (fun _=>rfl) (fun g=>absurd h0 g) (by omega) (o.more hx)
 ·rw [decide_eq_false (by omega),fH]
  intro _;rw [ao];refine o.box fun b H2 o _=>?_;have o:=RZ (t:=141) o;refine Fw (b:=wp b 141) (W:= []) (V:=s) (l:=false) hk hG (by omega) hl (by omega) (by simp) (fun e=>absurd e h0) hg (fun _=>ht) o fun H3 UM X hX _ hXl o=>?_;refine OZ (yF o (by repeat(first|exact ajP|apply ajO))) ?_;rw [bj,decide_eq_true rfl,aj4];exact h H3 X.length (fun e=>absurd e h0) (fun _=> ⟨X,hX,rfl⟩) (by omega) o.tl
theorem choose_spec {lv:Value} (hG:Reads H0 ⟨0,0,none⟩ je) (n_:s.length≤20000) (hl:It.sl lv 3 (eu G)∈L) (hlen:G.length≤20000) (hg: ∀t∈G,jC t=true) (ht:ux G [] s) (o:aw H0 H L)
  (h: ∀H' (k b:Nat),k<3→Np s G 3 b k→aw H0 H' L→R (.int .i64 (k:Int)) H'):ab Tryz.prog 306 #[str s,lv] H R:=by
 refine lS.vc _ _ _ _ ?_;unfold lS.res;refine⟨fun bv kv x H' => ∃ (b d k:Nat),bv= .int .i64 (b:Int)∧kv= .int .i64 (d:Int)∧x= .int .i64 (k:Int)∧k≤3∧d<3∧b≤3000000∧((k=0∧b=0∧d=0)∨Np s G k b d)∧aw H0 H' L,fun _ _ x _=>match x with| .int _ i=> (3 - i).toNat|_=>0,⟨0,0,0,rfl,rfl,rfl,by omega,by omega,by omega,.inl ⟨rfl,rfl,rfl⟩,o⟩,?_⟩;clear o;rintro _ _ _ _ H1 ⟨b,d,k,rfl,rfl,rfl,hk,hd,hb,hc,o⟩;rw [aQ];refine ax (fun eF=>?_) (fun eF=>?_)
 ·have hk3:k<3:=by omega
  refine Pm hk3 hG n_ hl hlen hg ht o fun H2 n EK Hb hn o=>?_;refine ai (vs:= [.int .i64 (n:Int),.bool true]) rfl ?_;refine ai (vs:= [.int .i64 (n:Int),.bool true]) rfl ?_;rw [fc,ak0,ao];refine⟨fun bv H' => ∃b' :Nat,bv= .int .i64 (b' :Int)∧b' ≤3000007∧((k=0∧b' =n+7)∨(k≠0∧b' =b))∧aw H0 H' L,?_,?_⟩
  ·rintro _ _ H3 ⟨b',rfl,Ta,Au,o⟩
   rw [aQ];refine ax (fun h1=>?_) (fun h1=>?_)
   ·rw [aC,bH (by omega) (by omega)]
    refine⟨⟨n,k,k+1,rfl,rfl,rfl,by omega,by omega,hn,.inr ?_,o⟩,by show (_:Int).toNat< (_:Int).toNat;omega⟩;rcases Au with ⟨rfl,rfl⟩ | ⟨h0,rfl⟩
    ·rw [EK rfl];exact .zero
    ·obtain⟨X,hX,rfl⟩:=Hb h0
     rcases hc with ⟨e,_⟩ |hc
     ·exact absurd e h0
     ·exact .less hc hX (by omega)
   ·rw [aC,bH (by omega) (by omega)]
    rcases Au with ⟨rfl,rfl⟩ | ⟨h0,rfl⟩
    ·omega
    ·obtain⟨X,hX,rfl⟩:=Hb h0
     rcases hc with ⟨e,_⟩ |hc
     ·exact absurd e h0
     ·exact⟨⟨b',d,k+1,rfl,rfl,rfl,by omega,hd,hb,.inr (.more hc hX (by omega)),o⟩,by show (_:Int).toNat< (_:Int).toNat;omega⟩
  ·rw [bj]
   refine ax (fun h0=>?_) (fun h0=>?_)
   ·rw [aC,show (n:Int)+7= ((n+7:Nat):Int) by omega,bH (by omega) (by omega)]
    exact⟨n+7,rfl,by omega,.inl ⟨by omega,rfl⟩,o⟩
   ·exact⟨b,rfl,by omega,.inr ⟨by omega,rfl⟩,o⟩
 ·have e:k=3:=by omega
  subst e;rcases hc with ⟨e,_⟩ |hc
  ·omega
  ·exact h H1 d b hd hc o
def Sx (s:List UInt8) (l:Nat) (X:List Bool):Prop:= ∃kind b,((l=0∧kind=0)∨(l≠0∧Np s (Dz [] s l) 3 b kind))∧Dm 0 true s (Dz [] s l) kind X
theorem Sx.one {l:Nat} {X Y:List Bool} (h:Sx s l X) (k:Sx s l Y):X=Y:=by
 obtain⟨a,b,h1,h2⟩:=h;obtain⟨c,d,k1,k2⟩:=k;rcases h1 with ⟨h0,rfl⟩ | ⟨h0,h1⟩<;>rcases k1 with ⟨k0,rfl⟩ | ⟨k0,k1⟩
 ·exact h2.one k2
 ·exact absurd h0 k0
 ·exact absurd k0 h0
 ·obtain⟨rfl,rfl⟩:=h1.one k1;exact h2.one k2
def Nq (s:List UInt8) (l:Nat) (out:List UInt8):Prop:= ∃X,Sx s l X∧out=a7 (od X)
theorem Pn {l:Nat} {a b:List UInt8} (h:Nq s l a) (k:Nq s l b):a=b:=by
 obtain⟨X,h1,rfl⟩:=h;obtain⟨Y,k1,rfl⟩:=k;rw [h1.one k1]
theorem zS: ∀ {G:List Tok} {W V:List UInt8},ja G W=some V→ux G W V
 | [],W,V,h=>akA h
 |t::G,W,V,h=>by
  rw [ja] at h
  split at h
  ·rename_i hg
   refine⟨hg,?_⟩
   split at h
   ·rename_i h0
    have e:Lq t W=dZ t.n.toNat (W++ [t.b]) t.d.toNat:=by unfold Lq;rw [if_pos h0]
    rw [e];exact zS h
   ·rename_i h0
    have e:Lq t W=dZ t.n.toNat W t.d.toNat:=by unfold Lq;rw [if_neg h0]
    rw [e];exact zS h
  ·cases h
theorem Jy {eb l:Nat} {c:Value} {dv:Value} {t:TypeId} (hT:Reads H0 ⟨5,0,none⟩ jU) (hG:Reads H0 ⟨0,0,none⟩ je) (hl:l≤9) (hs:s.length≤16384)
  (o:aw H0 H (.ay (p_ ⟨eb,[i64 l,str [],str s],[c],t⟩ dv [])::L))
  (h: ∀H' nu x y X,Sx s l X→XJ 0 true X [] s→X.length≤21000+58*s.length→aw H0 H' (.ay (p_ ⟨eb,[i64 l,x,y],[c],t⟩ nu X)::L)→R (.tuple #[]) H'):
  ab Tryz.prog 284 #[at_ eb 0,.int .i64 (s.length:Int),.bool true] H R:=by
 refine eU.vc _ _ _ _ _ ?_;unfold eU.res;rw [aA,ag,au];refine pE (j:=0+2) o (by repeat(first|exact ajP|apply ajO)) rfl ?_;refine bz (lo:=0) (hi:=s.length) (.inr ⟨rfl,rfl⟩) (.inl rfl) (by omega) (by omega) ?_;rw [ako,akG,aj8,aA,ag,au];refine pE (j:=0+2) o (by repeat(first|exact ajP|apply ajO)) rfl ?_;refine bz (lo:=s.length) (hi:=s.length) (.inl rfl) (.inr ⟨rfl,rfl⟩) (by omega) (by omega) ?_;rw [ali,alT,aA,ag,au];refine C_ (j:=0+2) (x:=str []) o (by repeat(first|exact ajP|apply ajO)) (by simp) rfl (by repeat(first|exact bd.here|apply bd.there)) fun H1 o=>?_;have o:aw H0 H1 (.ay (p_ ⟨eb,[i64 l,str [],str []],[c],t⟩ dv [])::L):=o;rw [aA,ag,au];refine pE (j:=0+1) o (by repeat(first|exact ajP|apply ajO)) rfl ?_;rw [aA,ag,au];refine pE (j:=0+0) o (by repeat(first|exact ajP|apply ajO)) rfl ?_;refine GS (hT.ext o.ext) hl (by simp;omega) fun H2 lv L2 o2=>?_;refine ai (vs:= [lv,.int .i64 0]) rfl ?_;refine ai (vs:= [lv,.int .i64 0]) rfl ?_;have Sy:=fun t ht=> (Pj [] s l t ht).1;have Xo:=LU [] s l;have Sz:=zS (LS [] s l);have o:=o.call o2;generalize hGG:Dz [] s l=G at Sy Xo Sz o;have o:aw H0 H2 (.ay (p_ ⟨eb,[i64 l,str [],str []],[c],t⟩ dv []):: .sl lv 3 (eu G)::L):= (o.mid (M:= .sl lv 3 (eu G)::L2)).pick (List.Sublist.cons_cons _ (List.Sublist.cons_cons _ (alH L2 L)));refine⟨fun kv H' => ∃ (kind b:Nat),kv= .int .i64 (kind:Int)∧kind<3∧((l=0∧kind=0)∨(l≠0∧Np s G 3 b kind))∧aw H0 H' (.ay (p_ ⟨eb,[i64 l,str [],str []],[c],t⟩ dv []):: .sl lv 3 (eu G)::L),?_,?_⟩
 ·clear o
  rintro _ _ H3 ⟨kind,b,rfl,hk3,aaD,o⟩;rw [aA,ag,au];refine Fw (b:= ⟨eb,[i64 l,str [],str []],[c],t⟩) (W:= []) (V:=s) (l:=true) (G:=G) hk3 hG (by omega) (by repeat(first|exact ajP|apply ajO)) (by omega) (by simp) (fun _=>by simp) Sy (fun _=>Sz) o fun H4 Ts X hX hB hXl o=>?_;rw [aj4] at o;rw [aA,ag,au];refine pE (j:=0+1) o (by repeat(first|exact ajP|apply ajO)) rfl ?_;refine aT (by simp;omega) ?_;rw [aj4,aA,ag,au];refine C_ (j:=0+1) (x:=str s) o (by repeat(first|exact ajP|apply ajO)) (by simp) rfl (by repeat(first|exact bd.here|apply bd.there)) fun H5 o=>?_;have o:aw H0 H5 (.ay (p_ ⟨eb,[i64 l,str s,str []],[c],t⟩ Ts X):: .sl lv 3 (eu G)::L):=o;rw [aA,ag,au];refine pE (j:=0+1) o (by repeat(first|exact ajP|apply ajO)) rfl ?_;rw [aA,ag,au];refine pE (j:=0+1) o (by repeat(first|exact ajP|apply ajO)) rfl ?_;refine aJ ?_;rw [bE,bH (by omega) (by omega),KA,show max ((s.length:Int) - 32768) 0= ((0:Nat):Int) by omega];refine bz (lo:=0) (hi:=s.length) (.inl rfl) (.inr ⟨rfl,rfl⟩) (by omega) (by omega) ?_;rw [ako,akG,aj8,aA,ag,au];refine C_ (j:=0+1) (x:=str s) o (by repeat(first|exact ajP|apply ajO)) (by simp) rfl (by repeat(first|exact bd.here|apply bd.there)) fun H6 o=>?_;have o:aw H0 H6 (.ay (p_ ⟨eb,[i64 l,str s,str []],[c],t⟩ Ts X):: .sl lv 3 (eu G)::L):=o;exact h H6 Ts (str s) (str []) X ⟨kind,b,by rw [hGG];exact aaD,by rw [hGG];exact hX⟩ hB (by omega) o.sf
 ·rw [aA,ag,au]
  refine pE (j:=0+0) o (by repeat(first|exact ajP|apply ajO)) rfl ?_;rw [bU];refine ax (fun hc=>?_) (fun hc=>?_)
  ·refine choose_spec hG (by omega) (by repeat(first|exact ajP|apply ajO)) (by omega) Sy Sz o fun H3 k b hk lz o=>?_
   exact⟨k,b,rfl,hk,.inr ⟨by omega,lz⟩,o⟩
  ·exact⟨0,0,rfl,by omega,.inl ⟨by omega,rfl⟩,o⟩
theorem GU {l:Nat} (hT:Reads H ⟨5,0,none⟩ jU) (hG:Reads H ⟨0,0,none⟩ je) (hl:l≤9) (hs:s.length≤16384)
  (h: ∀H' out,Nq s l out→run ⟨.hd,toBits out,[]⟩= (s,⟨.dn,[],s⟩,0)→out.length≤2700+8*s.length→Ext H H' →R (.tuple #[str out,.int .i64 0]) H'):ab Tryz.prog 239 #[str s,.int .i64 (l:Int)] H R:=by
 refine mZ.vc _ _ _ _ ?_;unfold mZ.res;refine nb.vc _ _ _ ?_;unfold nb.res;rw [aQ,decide_eq_false (by omega)];refine bh ?_;rw [bU,decide_eq_false (by omega)];intro _;rw [ao];refine aU rfl (by decide) ?_;rw [bG];refine(aw.start (H:=H)).box fun eb H1 o _=>?_;refine ai (vs:= [at_ eb 0,.int .i64 0]) rfl ?_;refine ai (vs:= [at_ eb 0,.int .i64 0]) rfl ?_;refine jD ?_;rw [ao];have o:aw H H1 (.box eb [i64 l,str [],str [],.slice none 0 0,.int .u64 0,.int .i64 0,.bool false] 367:: []):=o;refine eS.vc _ _ _ _ ?_;unfold eS.res;rw [iA,ao,aA,ag,au];refine o.az (b:=eb) (f:=0+6) (w:= .bool false) (by repeat(first|exact ajP|apply ajO)) rfl ?_;rw [ao,aA,ag,au];refine o.az (b:=eb) (f:=0+2) (w:=str []) (by repeat(first|exact ajP|apply ajO)) rfl ?_;refine aT (by simp;omega) ?_;rw [aj4,aA,ag,au];refine o.bK (b:=eb) (f:=0+2) (x:=str s) (by repeat(first|exact ajP|apply ajO)) (by simp) rfl (by repeat(first|exact bd.here|apply bd.there)) fun H2 o _=>?_;have o:aw H H2 (.box eb ([i64 l,str [],str s]++ [.slice none 0 0,.int .u64 0,.int .i64 0]++ [.bool false]) 367:: []):=o;have o:=UI o;refine⟨fun H' =>aw H H' (.ay (p_ ⟨eb,[i64 l,str [],str s],[.bool false],367⟩ (.slice none 0 0) []):: []),fun _=>0,o,?_⟩;clear o;rintro _ H3 o;rw [aA,ag,au];refine pE (j:=0+2) o (by repeat(first|exact ajP|apply ajO)) rfl ?_;refine aJ ?_;rw [bU,decide_eq_false (by omega),ao,aA,ag,au];refine vB (yF o (by repeat(first|exact ajP|apply ajO))) fun H4 Ts w c=>?_;have o:=su o w c bd.here (by repeat(first|exact ajP|apply ajO));refine ai (vs:= [str [],.int .i64 0]) rfl ?_;refine ai (vs:= [str [],.int .i64 0]) rfl ?_;have o:aw H H4 (.ay (p_ ⟨eb,[i64 l,str [],str s],[.bool false],367⟩ Ts []):: []):=o;refine eT.vc _ _ _ ?_;unfold eT.res;rw [iA,ao,aA,ag,au];refine R0 (j:=0) (k:=0+6) o (by repeat(first|exact ajP|apply ajO)) rfl rfl ?_;rw [ao,aA,ag,au];refine O0 (j:=0) (k:=0+6) (x:= .bool true) o (by repeat(first|exact ajP|apply ajO)) rfl (by simp) rfl (by repeat(first|exact bd.here|apply bd.there)) fun H5 o=>?_;have o:aw H H5 (.ay (p_ ⟨eb,[i64 l,str [],str s],[.bool true],367⟩ Ts []):: []):=o;rw [aA,ag,au];refine pE (j:=0+2) o (by repeat(first|exact ajP|apply ajO)) rfl ?_;refine aJ ?_;refine Jy hT hG hl hs o fun H6 VJ x y X hX hB hXl o=>?_;have aaE:=yE X;obtain⟨r,Jk,hr8⟩:=Fq X;rw [aA,ag,au];refine ss (yF o (by repeat(first|exact ajP|apply ajO))) (by omega) fun H7 dv7 w c=>?_;have o:=su o w c bd.here (by repeat(first|exact ajP|apply ajO));rw [aA,ag,au];refine vB (yF o (by repeat(first|exact ajP|apply ajO))) fun H8 dv8 w c=>?_;have o:=su o w c bd.here (by repeat(first|exact ajP|apply ajO));refine ai (vs:= [str (a7 (od X)),.int .i64 0]) rfl ?_;refine ai (vs:= [str (a7 (od X)),.int .i64 0]) rfl ?_;have hlen: (a7 (od X)).length= (od X).length/8:=pR _ _ rfl;refine aT (by simp;omega) ?_;have jc:=Jn.nil.fin hB hr8 (by rw [aj4,←Jk];exact aaE.1);rw [aj4,←Jk,←rz ((od X).length/8) (od X) (by omega)] at jc;exact h H8 _ ⟨X,hX,rfl⟩ jc (by rw [aj4];omega) o.ext
end
end Go.Proofs.YtpcgccdmmoggmaaGreatDoor
namespace Go.Vc
open Go
section
set_option maxRecDepth 100000
def t1 (s:Nat):Nat:=s/2 ^^^ (bif decide (s%2=1) then 3988292384 else 0)
def tn:Nat→Nat→Nat
 |0,s=>s
 |n+1,s=>tn n (t1 s)
theorem SA (a b:Nat): (a ^^^ b) /2=a/2 ^^^ b/2:=by
 have:=Nat.shiftRight_xor_distrib (a:=a) (b:=b) (i:=1)
 simpa [Nat.shiftRight_eq_div_pow] using this
theorem UT (a b:Nat): (a ^^^ b) %2= (a%2+b%2) %2:=by
 have h1: (a ^^^ b).testBit 0= ((a.testBit 0) ^^ (b.testBit 0)):=amT ..;rw [amc,amc,amc] at h1;rcases amd a with ha|ha<;>rcases amd b with hb|hb<;>rcases amd (a ^^^ b) with hc|hc<;>simp [ha,hb,hc] at h1 ⊢
theorem XO (a b:Nat):t1 (a ^^^ b)=t1 a ^^^ t1 b:=by
 unfold t1;rw [SA,UT];rcases amd a with ha|ha<;>rcases amd b with hb|hb<;>simp only [ha,hb,Nat.reduceAdd,Nat.reduceMod,decide_true,cond_true,decide_false,cond_false,Nat.xor_zero,Nat.zero_ne_one]
 ·rw [al0]
 ·rw [al0,Nat.xor_comm (b/2),←al0]
 ·rw [al0 (a/2) 3988292384,Nat.xor_comm 3988292384 (b/2 ^^^ 3988292384),al0 (b/2),Nat.xor_self,Nat.xor_zero]
theorem SB: ∀ (n a b:Nat),tn n (a ^^^ b)=tn n a ^^^ tn n b
 |0,_,_=>rfl
 |n+1,a,b=>by rw [tn,XO,SB n];rfl
theorem SC: ∀ (m n s:Nat),tn (m+n) s=tn n (tn m s)
 |0,n,s=>by rw [aj6];rfl
 |m+1,n,s=>by rw [show m+1+n= (m+n)+1 by omega,tn,tn,SC m n]
theorem Nr (n s:Nat):tn (n+1) s=t1 (tn n s):=SC n 1 s
theorem aaF {s:Nat} (h:s<4294967296):t1 s<4294967296:=by
 have h1:s/2<2 ^ 32:=by omega
 have h2: (bif decide (s%2=1) then 3988292384 else 0)<2 ^ 32:=by cases decide (s%2=1)<;>decide
 exact alD h1 h2
theorem Ns: ∀ (n:Nat) {s:Nat},s<4294967296→tn n s<4294967296
 |0,s,h=>h
 |n+1,s,h=>Ns n (aaF h)
theorem XP (x:Nat):t1 (2*x)=x:=by
 unfold t1;rw [amQ _ (by decide),Nat.mul_mod_right,decide_eq_false (by decide),cond_false,Nat.xor_zero]
theorem SD: ∀ (k x:Nat),tn k (2 ^ k*x)=x
 |0,x=>by rw [amf,Nat.one_mul];rfl
 |k+1,x=>by rw [tn,akF,akE (2 ^ k) 2,alM,XP,SD k]
def rK (s:Nat) (l:List UInt8):Nat:=l.foldl (fun s b=>tn 8 (s ^^^ b.toNat)) s
def mq (sum:Nat) (l:List UInt8):Nat:=4294967295 - rK (4294967295 - sum) l
theorem wS (s:Nat) (a b:List UInt8):rK s (a++b)=rK (rK s a) b:=by unfold rK;rw [amC]
theorem zT: ∀ (l:List UInt8) {s:Nat},s<4294967296→rK s l<4294967296
 | [],s,h=>h
 |b::l,s,h=>by
  have hb:b.toNat<2 ^ 32:=Nat.lt_trans b.toNat_lt (by decide);have:s ^^^ b.toNat<2 ^ 32:=alD (by omega) hb;exact zT l (Ns 8 (by omega))
theorem UU {n:Nat} (h:n<4294967296):4294967295 - n=4294967295 ^^^ n:=by
 apply ani;intro i;rw [show 4294967295 - n=2 ^ 32 - (n+1) by omega,anx (by omega),amT,show (4294967295:Nat)=2 ^ 32 - 1 by rfl,anz]
 by_cases hi:i<32
 ·simp [hi]
 ·have:n.testBit i=false:=Nat.testBit_lt_two_pow (akO h (show 2 ^ 32≤2 ^ i from akd (by decide) (by omega)))
  simp [hi,this]
theorem zU (s:Nat) (l:List UInt8):mq s l<4294967296:=by unfold mq;omega
theorem UW {n:Nat} (h:n<4294967296):4294967295 - (4294967295 - n)=n:=by omega
theorem wT (s:Nat) (a b:List UInt8):mq (mq s a) b=mq s (a++b):=by
 unfold mq;rw [wS,UW (zT a (by omega))]
structure Lin (f:Nat→Nat):Prop where
 xor: ∀a b,f (a ^^^ b)=f a ^^^ f b
 lt: ∀i,i<32→f (2 ^ i)<4294967296
theorem Lin.zero {f:Nat→Nat} (h:Lin f):f 0=0:=by
 have:=h.xor 0 0;rw [Nat.xor_self,Nat.xor_self] at this;exact this
end
end Go.Vc
namespace Go.Proofs.YtpcgccdmmoggmaaGreatDoor
open Go Go.Vc Go.Proofs
section
set_option maxRecDepth 100000
variable {H:ak} {R:Value→ak→Prop}
abbrev n32 (n:Nat):Value:= .int .u32 (n:Int)
theorem XQ {n:Nat}: ((n:Nat):Int).fdiv (2 ^ min (Int.toNat 1) IntKind.u32.bits)= ((n/2 ^ 1:Nat):Int):=nM rfl
theorem XR {n:Nat}: ((n:Nat):Int).fdiv (2 ^ min (Int.toNat 8) IntKind.u32.bits)= ((n/2 ^ 8:Nat):Int):=nM rfl
theorem XS {s:Nat} (h:s%2=1):t1 s=s/2 ^ 1 ^^^ 3988292384:=by unfold t1;rw [decide_eq_true h];rfl
theorem UX {s:Nat} (h: ¬s%2=1):t1 s=s/2 ^ 1:=by unfold t1;rw [decide_eq_false h];simp
theorem and_one (n:Nat):n &&& 1=n%2:=Nat.and_one_is_mod n
def UY:List Value:= (List.range 256).map fun i=>n32 (tn 8 i)
def qL (k:Nat):List Value:= (List.range 256).map fun i=>n32 (if i<k then tn 8 i else 0)
structure VN (H:ak) (b:Nat):Prop where
 ll:H[b]? =some (.cells UY.toArray 170 (0,0))
theorem VN.ext {H' :ak} {b:Nat} (h:VN H b) (hx:Ext H H'):VN H' b:= ⟨hx.ll h.ll⟩
abbrev Bl (b:Nat):Value:= .pointer (some ⟨b,0,none⟩)
theorem GV:qL 0=List.replicate 256 (n32 0):=by
 apply akV;intro i;unfold qL
 by_cases hi:i<256
 ·rw [ake,ak8 hi,amg,if_pos hi];rfl
 ·rw [akc (by rw [aka,ang];omega),akc (by rw [akw];omega)]
theorem Jz {k:Nat} (hk:k<256): (qL k).set k (n32 (tn 8 k))=qL (k+1):=by
 apply akV;intro i;unfold qL
 by_cases hi:i<256
 ·rw [ake,ak8 hi]
  by_cases h:i=k
  ·subst h
   rw [alE (by simp;exact hi)]
   simp
  ·rw [amn (fun e=>h e.symm),ake,ak8 hi]
   have: (i<k+1)↔i<k:=by omega
   simp [this]
 ·rw [akc (by simp;omega),akc (by simp;omega)]
theorem xz (h: ∀H' b,VN H' b→Ext H H' →H.size≤b→R (Bl b) H'):ab Tryz.prog 41 #[] H R:=by
 refine tz.vc _ _ ?_;unfold tz.res;refine jY fun H1 s1 e1 b1=>?_;refine⟨fun v H' => ∃k:Nat,v= .int .i64 k∧k≤256∧Ext H H' ∧H'[H.size]? =some (.cells (qL k).toArray 170 (0,0)),fun v _=>match v with| .int _ k=> (256 - k).toNat|_=>0,⟨0,rfl,by omega,e1,?_⟩,?_⟩
 ·rw [b1,GV];rfl
 rintro _ _ H2 ⟨k,rfl,hk,e2,b2⟩;simp only [aC,lR,au,aj6,eH,aQ];refine ax (fun hc=>?_) (fun hc=>?_)
 ·rw [TT (by omega) (by omega)]
  refine⟨fun v u H' => ∃j:Nat,u= .int .i64 j∧j≤8∧v=n32 (tn j k)∧H2=H',fun v u _=>match u with| .int _ k=> (8 - k).toNat|_=>0,⟨0,rfl,by omega,rfl,rfl⟩,?_⟩;rintro _ _ _ _ ⟨j,rfl,hj,rfl,rfl⟩;have eF:=Ns j (s:=k) (by omega);simp only [and_true,aC,ql,Int.reduceLE,dF,true_and,bj,aQ];refine ax (fun lz=>?_) (fun lz=>?_)
  ·rw [show (1:Int)= ((1:Nat):Int) from rfl,T5 eF (by decide),and_one]
   rw [show ((1:Nat):Int)= (1:Int) from rfl];rw [XQ];refine ax (fun DU=>?_) (fun DU=>?_)
   ·rw [show (3988292384:Int)= ((3988292384:Nat):Int) from rfl,F6 (by omega) (by decide),←XS (by omega),bH (by omega) (by omega)]
    exact⟨⟨j+1,rfl,by omega,by rw [Nr]⟩,by show (_:Int).toNat< (_:Int).toNat;omega⟩
   ·rw [←UX (by omega),bH (by omega) (by omega)]
    exact⟨⟨j+1,rfl,by omega,by rw [Nr]⟩,by show (_:Int).toNat< (_:Int).toNat;omega⟩
  ·have Yq:j=8:=by omega
   subst Yq;refine⟨by omega,by omega,?_⟩;simp only [ajS,aj0];refine lB b2 (by simp [qL];omega) rfl fun H3 s3 u3=>?_;rw [bH (by omega) (by omega)];refine⟨⟨k+1,rfl,by omega,u3.ext e2 (ajR _),?_⟩,by show (_:Int).toNat< (_:Int).toNat;omega⟩;rw [u3.at_,ama,Jz (by omega)]
 ·have hke:k=256:=by omega
  subst hke;refine h H2 _ ⟨?_⟩ e2 (ajR _);have:qL 256=UY:=by
   unfold qL UY;apply alg;intro i hi;rw [if_pos (amq.1 hi)]
  rw [b2,this]
theorem Nt {n:Nat} (h:n<4294967296):bitsOf .xor .u32 4294967295 (n:Int)= ((4294967295 - n:Nat):Int):=by
 rw [show (4294967295:Int)= ((4294967295:Nat):Int) from rfl,F6 (by decide) h,UU h]
theorem XT {a b:Nat} (ha:a<256) (hb:b<256):bitsOf .xor .u8 (a:Int) (b:Int)= ((a ^^^ b:Nat):Int):=by
 have eF:a ^^^ b<2 ^ 8:=alD (by simpa using ha) (by simpa using hb);have e: ((BitVec.ofInt 8 (a:Int)) ^^^ (BitVec.ofInt 8 (b:Int))).toNat=a ^^^ b:=by
  rw [amM,akC,akC,akD,akD,aj_ (by omega),aj_ (by omega)]
 show IntKind.u8.wrap ((((BitVec.ofInt 8 (a:Int)) ^^^ (BitVec.ofInt 8 (b:Int))).toNat:Nat):Int)=_;rw [e,wu8 (by omega) (by omega)]
theorem SE (s:Nat) (x:UInt8):tn 8 (s%256 ^^^ x.toNat) ^^^ s/2 ^ 8=tn 8 (s ^^^ x.toNat):=by
 have e:s=s%256 ^^^ 2 ^ 8* (s/2 ^ 8):=by
  apply ani;intro i;rw [amT,show (256:Nat)=2 ^ 8 by rfl,Nat.testBit_mod_two_pow,Nat.testBit_two_pow_mul]
  by_cases hi:i<8
  ·simp [hi,show ¬8≤i by omega]
  ·rw [Nat.testBit_div_two_pow]
   simp [hi,show 8≤i by omega]
 have e2:s ^^^ x.toNat= (s%256 ^^^ x.toNat) ^^^ 2 ^ 8* (s/2 ^ 8):=by
  conv=>lhs;rw [e]
  rw [al0,Nat.xor_comm (2 ^ 8* (s/2 ^ 8)),←al0]
 rw [e2,SB 8 (s%256 ^^^ x.toNat),SD]
theorem DB {b:Nat} {s:Nat} {l:List UInt8} (hs:s<4294967296) (hl:l.length≤9223372036854775807) (ht:VN H b) (h:R (n32 (mq s l)) H):ab Tryz.prog 63 #[Bl b,n32 s,str l] H R:=by
 refine j4.vc _ _ _ _ _ ?_;unfold j4.res;simp only [aA,xQ,cn,Qz,Int.reduceNeg,iA,ao];rw [show (if IntKind.u32.signed=true then (-1:Int) else IntKind.u32.max)=4294967295 by decide,Nt hs];refine⟨fun v u H' => ∃j:Nat,u= .int .i64 j∧j≤l.length∧v=n32 (rK (4294967295 - s) (l.take j))∧H=H',fun v u _=>match u with| .int _ k=> (l.length - k).toNat|_=>0,⟨0,rfl,by omega,by rw [alT];rfl,rfl⟩,?_⟩;rintro _ _ _ _ ⟨j,rfl,hj,rfl,rfl⟩;have eF:=zT (l.take j) (s:=4294967295 - s) (by omega);simp only [and_true,aC,ql,Int.reduceLE,true_and,dU,cn,eH,dF,lR,au,aj6,Qz,Int.reduceNeg,aQ];refine ax (fun hc=>?_) (fun hc=>?_)
 ·refine⟨by omega,by omega,?_⟩
  have MB:j<l.length:=by omega
  rw [ajS,ajX,ajV MB,alo];have aaG:rK (4294967295 - s) (l.take (j+1))=tn 8 (rK (4294967295 - s) (l.take j) ^^^ (l[j]).toNat):=by
   rw [akq,ajV MB,wS];rfl
  generalize rK (4294967295 - s) (l.take j)=f at*;generalize l[j]=x at*;have hx:x.toNat<256:=x.toNat_lt;rw [Mz,show ((f:Int) %256)= ((f%256:Nat):Int) by omega,XT (by omega) hx];have Vt:f%256 ^^^ x.toNat<2 ^ 8:=alD (by omega) (by omega);refine⟨by omega,by omega,?_⟩;simp only [ajS,aj0];refine lQ ht.ll (v:=n32 (tn 8 (f%256 ^^^ x.toNat))) (by unfold UY;rw [ake,ak8 (by omega)];rfl) ?_;rw [XR];simp only [dF];rw [F6 (Ns 8 (by omega)) (by omega),bH (by omega) (by omega),SE];exact⟨⟨j+1,rfl,by omega,by rw [aaG]⟩,by show (_:Int).toNat< (_:Int).toNat;omega⟩
 ·have Yq:j=l.length:=by omega
  subst Yq;rw [show (if IntKind.u32.signed=true then (-1:Int) else IntKind.u32.max)=4294967295 by decide,Nt eF];rw [aj8];exact h
theorem Fy {b:Nat} {l:List UInt8} (hl:l.length≤9223372036854775807) (ht:VN H b) (h:R (n32 (mq 0 l)) H):ab Tryz.prog 57 #[Bl b,str l] H R:=by
 refine kT.vc _ _ _ _ ?_;unfold kT.res;exact DB (s:=0) (by decide) hl ht h
end
section
set_option maxRecDepth 100000
variable {H H0 H' :ak} {R:Value→ak→Prop} {L:List It}
def kG (h:Hd):List UInt8:= [80,75,1,2]++aP 20 2++aP 20 2++jb h++aP h.u 4++aP h.p 4++aP h.z 4++aP h.nm.length 2++aP 0 2++List.replicate 10 0++aP h.a 4++h.nm
theorem nU (h:Hd): (kG h).length=46+h.nm.length:=by unfold kG;simp [aD,lJ];omega
theorem yO {x:Hd} (g:CQ x) (h: ∀H',Ext H H' →R (str (kG x)) H'):ab Tryz.prog 98 #[x.v] H R:=by
 have g1:=g.p;have g2:=g.z;have g3:=g.u;have g4:=g.a;have PU:=g.nm.len;have iz:=lJ x;refine iO.vc _ _ _ ?_;unfold iO.res;refine(aw.start (H:=H)).box fun b H1 o _=>?_;have o:aw H H1 [.box b x.cells 44]:=o;refine o.bC (b:=b) (by repeat(first|exact ajP|apply ajO)) rfl ?_;refine uv g fun H2 rR=>?_;have o:=o.more rR;rw [fc];show ar (.bool false) _ _;rw [ao,ag,au];refine o.az (b:=b) (f:=0+10) (w:= .int .u64 (x.a:Int)) (by repeat(first|exact ajP|apply ajO)) rfl ?_;rw [bU,decide_eq_false (by omega)];refine⟨fun e H' =>e=str []∧aw H H' [.box b x.cells 44],?_,?_⟩
 ·clear o
  rintro _ _ H3 ⟨rfl,o⟩;refine⟨fun e H' =>e=str []∧aw H H' [.box b x.cells 44],?_,?_⟩
  ·clear o
   rintro _ _ H4 ⟨rfl,o⟩;refine⟨fun e H' =>e=str []∧aw H H' [.box b x.cells 44],?_,?_⟩
   ·clear o
    rintro _ _ H5 ⟨rfl,o⟩;refine o.bC (b:=b) (by repeat(first|exact ajP|apply ajO)) rfl ?_;refine mz g fun H6 xn=>?_;have o:=o.more xn;refine bh ?_;intro _;refine yq fun H7 RA=>?_;have o:=o.more RA;refine aT (by simp [aD]) ?_;refine aT (by simp [aD]) ?_;refine o.bC (b:=b) (by repeat(first|exact ajP|apply ajO)) rfl ?_;rw [ag,au];refine o.az (b:=b) (f:=0+9) (w:= .int .u32 (x.u:Int)) (by repeat(first|exact ajP|apply ajO)) rfl ?_;refine cC ?_;rw [eX (by omega) (by omega),ag,au];refine o.az (b:=b) (f:=0+7) (w:= .int .u64 (x.p:Int)) (by repeat(first|exact ajP|apply ajO)) rfl ?_;refine o.bC (b:=b) (by repeat(first|exact ajP|apply ajO)) rfl ?_;rw [ag,au];refine o.az (b:=b) (f:=0+8) (w:= .int .u64 (x.z:Int)) (by repeat(first|exact ajP|apply ajO)) rfl ?_;refine o.bC (b:=b) (by repeat(first|exact ajP|apply ajO)) rfl ?_;rw [ag,au];refine o.az (b:=b) (f:=0+0) (w:=str x.nm) (by repeat(first|exact ajP|apply ajO)) rfl ?_;refine aJ ?_;refine cC ?_;rw [eX (by omega) (by omega)];refine aJ ?_;refine cC ?_;rw [eX (n:= ((([]:List UInt8).length:Nat):Int)) (by decide) (by decide),ag,au];refine o.az (b:=b) (f:=0+10) (w:= .int .u64 (x.a:Int)) (by repeat(first|exact ajP|apply ajO)) rfl ?_;rw [ag,au];refine o.az (b:=b) (f:=0+0) (w:=str x.nm) (by repeat(first|exact ajP|apply ajO)) rfl ?_;refine AF g fun H8 Oy=>?_;have o:=o.more Oy
    repeat' (first|with_reducible refine And.intro (o.az (b:=b) (by repeat(first|exact ajP|apply ajO)) rfl rfl) ?_|with_reducible refine And.intro (o.bC (b:=b) (by repeat(first|exact ajP|apply ajO)) rfl rfl) ?_)
    refine aT (by simp [aD,iz]) ?_;refine cL (n:=x.u) (k:=4) (by omega) (by decide) (by decide) fun H9 ZU=>?_;have o:=o.more ZU
    repeat' (first|with_reducible refine And.intro (o.az (b:=b) (by repeat(first|exact ajP|apply ajO)) rfl rfl) ?_|with_reducible refine And.intro (o.bC (b:=b) (by repeat(first|exact ajP|apply ajO)) rfl rfl) ?_)
    refine aT (by simp [aD,iz]) ?_;refine mz g fun RU LV=>?_;have o:=o.more LV
    repeat' (first|with_reducible refine And.intro (o.az (b:=b) (by repeat(first|exact ajP|apply ajO)) rfl rfl) ?_|with_reducible refine And.intro (o.bC (b:=b) (by repeat(first|exact ajP|apply ajO)) rfl rfl) ?_)
    refine pZ (n:=x.p) (by omega) fun UF LW=>?_;have o:=o.more LW
    repeat' (first|with_reducible refine And.intro (o.az (b:=b) (by repeat(first|exact ajP|apply ajO)) rfl rfl) ?_|with_reducible refine And.intro (o.bC (b:=b) (by repeat(first|exact ajP|apply ajO)) rfl rfl) ?_)
    refine aT (by simp [aD,iz]) ?_;refine mz g fun H12 XU=>?_;have o:=o.more XU
    repeat' (first|with_reducible refine And.intro (o.az (b:=b) (by repeat(first|exact ajP|apply ajO)) rfl rfl) ?_|with_reducible refine And.intro (o.bC (b:=b) (by repeat(first|exact ajP|apply ajO)) rfl rfl) ?_)
    refine pZ (n:=x.z) (by omega) fun H13 XV=>?_;have o:=o.more XV
    repeat' (first|with_reducible refine And.intro (o.az (b:=b) (by repeat(first|exact ajP|apply ajO)) rfl rfl) ?_|with_reducible refine And.intro (o.bC (b:=b) (by repeat(first|exact ajP|apply ajO)) rfl rfl) ?_)
    refine aT (by simp [aD,iz]) ?_;refine cL (n:=x.nm.length) (k:=2) (by omega) (by decide) (by decide) fun XH aak=>?_;have o:=o.more aak
    repeat' (first|with_reducible refine And.intro (o.az (b:=b) (by repeat(first|exact ajP|apply ajO)) rfl rfl) ?_|with_reducible refine And.intro (o.bC (b:=b) (by repeat(first|exact ajP|apply ajO)) rfl rfl) ?_)
    refine aT (by simp [aD,iz]) ?_;refine cL (n:=0) (k:=2) (by decide) (by decide) (by decide) fun H15 aeD=>?_;have o:=o.more aeD
    repeat' (first|with_reducible refine And.intro (o.az (b:=b) (by repeat(first|exact ajP|apply ajO)) rfl rfl) ?_|with_reducible refine And.intro (o.bC (b:=b) (by repeat(first|exact ajP|apply ajO)) rfl rfl) ?_)
    refine aT (by simp [aD,iz]) ?_;refine CT (c:=10) (by decide) fun PV Xt=>?_;have o:=o.more Xt
    repeat' (first|with_reducible refine And.intro (o.az (b:=b) (by repeat(first|exact ajP|apply ajO)) rfl rfl) ?_|with_reducible refine And.intro (o.bC (b:=b) (by repeat(first|exact ajP|apply ajO)) rfl rfl) ?_)
    refine aT (by simp [aD,iz]) ?_;refine pZ (n:=x.a) (by omega) fun YJ aeE=>?_;have o:=o.more aeE
    repeat' (first|with_reducible refine And.intro (o.az (b:=b) (by repeat(first|exact ajP|apply ajO)) rfl rfl) ?_|with_reducible refine And.intro (o.bC (b:=b) (by repeat(first|exact ajP|apply ajO)) rfl rfl) ?_)
    refine aT (by simp [aD,iz]) ?_;refine aT (by simp [aD,iz];omega) ?_;refine aT (by simp [aD,iz];omega) ?_;rw [akb];exact h YJ o.ext
   ·refine pC ?_
    rw [decide_eq_false (by simp),ao];exact⟨rfl,o⟩
  ·rw [ao]
   exact⟨rfl,o⟩
 ·refine o.bC (b:=b) (by repeat(first|exact ajP|apply ajO)) rfl ?_
  refine mz g fun H3 wx=>?_;rw [ao];exact⟨rfl,o.more wx⟩
def uU (n z a:Nat):List UInt8:= [80,75,5,6]++aP 0 4++aP n 2++aP n 2++aP z 4++aP a 4++aP 0 2
theorem nV (n z a:Nat): (uU n z a).length=22:=by unfold uU;simp [aD]
theorem DC {n z a:Nat} (hn:n≤1000) (hz:z≤100000000) (ha:a≤100000000) (h: ∀H',Ext H H' →R (str (uU n z a)) H'):ab Tryz.prog 99 #[.int .u64 (n:Int),.int .u64 (z:Int),.int .u64 (a:Int)] H R:=by
 refine r8.vc _ _ _ _ _ ?_;unfold r8.res;rw [iU,decide_eq_false (by omega)];refine bh ?_;rw [iU,decide_eq_false (by omega)];intro _;refine bh ?_;rw [iU,decide_eq_false (by omega)];intro _;rw [ao];refine⟨fun s H' =>s=str []∧Ext H H',?_,?_⟩
 ·rintro _ _ H1 ⟨rfl,nP⟩
  rw [qm,show min (n:Int) 65535= (n:Int) by omega];refine cL (n:=n) (k:=2) (by omega) (by decide) (by decide) fun H2 rR=>?_;refine aT (by simp [aD]) ?_;refine cL (n:=0) (k:=4) (by decide) (by decide) (by decide) fun H3 wx=>?_;refine aT (by simp [aD]) ?_;refine aT (by simp [aD]) ?_;refine aT (by simp [aD]) ?_;rw [bU,decide_eq_false (by omega)];refine pZ (n:=z) (by omega) fun H4 tV=>?_;refine aT (by simp [aD]) ?_;rw [bU,decide_eq_false (by omega)];refine pZ (n:=a) (by omega) fun H5 wQ=>?_;refine aT (by simp [aD]) ?_;refine cL (n:=0) (k:=2) (by decide) (by decide) (by decide) fun H6 xn=>?_;refine aT (by simp [aD]) ?_;exact h H6 (((((nP.trans rR).trans wx).trans tV).trans wQ).trans xn)
 ·rw [bU,decide_eq_false (by omega)]
  refine bh ?_;rw [bU,decide_eq_false (by omega)];intro _;refine bh ?_;rw [bU,decide_eq_false (by omega)];intro _;rw [ao];exact⟨rfl,Ext.refl _⟩
end
section
set_option maxRecDepth 100000
variable {H:ak} {R:Value→ak→Prop}
def yP:Nat→Int→Int
 |0,_=>0
 |k+1,y=>lD y+yP k (y+1)
def GW:Nat→Int→Int→Int
 |0,_,_=>0
 |k+1,y,m=>iW y m+GW k y (m+1)
theorem DD: ∀ (k:Nat) (y:Int),yP (k+1) y=yP k y+lD (y+k)
 |0,y=>by simp [yP]
 |k+1,y=>by
  have:=DD k (y+1);rw [yP,this,yP,show y+1+ (k:Int)=y+ ((k+1:Nat):Int) by omega];omega
def aaH (t:T6):Int:= (t.d - 1+yP (t.y - 1980).toNat 1980+GW (t.m - 1).toNat t.y 1)*43200+ (t.h*60+t.n)*30+t.s/2
theorem LX (y:Int):365≤lD y∧lD y≤366:=by have:=HZ y;unfold lD;omega
theorem JA (y m:Int):0≤iW y m∧iW y m≤31:=by
 unfold iW
 split
 ·decide
 ·split
  ·split<;>decide
  ·split<;>decide
theorem LY {t:T6} (h:pQ t=true):1980≤t.y∧t.y≤2107∧1≤t.m∧t.m≤12∧1≤t.d∧t.d≤iW t.y t.m∧0≤t.h∧t.h<24∧0≤t.n∧t.n<60∧0≤t.s∧t.s<60∧t.s%2=0:=by
 simp only [pQ,decide_eq_true_eq] at h;obtain⟨h1,h2,h3,h4,h5,h6,h7,h8,h9,YN,PW⟩:=h;have hm:1≤t.m∧t.m≤12:=by
  rcases Int.lt_or_le t.m 1 with hl|hl
  ·rw [iW,if_neg (by omega),if_neg (by omega),if_pos (by omega)] at h4;omega
  ·rcases Int.lt_or_le 12 t.m with hl|hl
   ·rw [iW,if_neg (by omega),if_neg (by omega),if_pos (by omega)] at h4;omega
   ·omega
 rw [ale h9] at PW;exact⟨h1,h2,hm.1,hm.2,h3,h4,h5,h6,h7,h8,h9,YN,PW⟩
theorem Fz: ∀ (k j:Nat) (y m:Int),GW k y m+vn j y (m+k)=vn (j+k) y m
 |0,j,y,m=>by simp [GW]
 |k+1,j,y,m=>by
  have:=Fz k j y (m+1);rw [GW,show j+ (k+1)= (j+k)+1 by omega,vn,←this,show m+1+ (k:Int)=m+ ((k+1:Nat):Int) by omega];omega
end
section
set_option maxRecDepth 100000
theorem aaI {t:T6} (h:pQ t=true):uH t=t.d+32*t.m+512* (t.y - 1980)∧uI t=t.s/2+32*t.n+2048*t.h∧0≤uH t∧uH t<65536∧0≤uI t∧uI t<65536∧Yt (uH t) (uI t)=t:=by
 obtain⟨hy0,hy1,JZ,ZV,Ha,WK,hh0,hh1,EK,Hb,hs0,mH,sP⟩:=LY h;have hb:=JA t.y t.m;have e1:uH t=t.d+32*t.m+512* (t.y - 1980):=by
  unfold uH;rw [bH (n:=t.m*2 ^ 5) (by omega) (by omega),FW (k:=5) (by omega) (by omega) (by omega) (by omega),bH (n:=t.y - 1980) (by omega) (by omega),bH (by omega) (by omega),FW (k:=9) (by omega) (by omega) (by omega) (by omega),eX (by omega) (by omega)];omega
 have e2:uI t=t.s/2+32*t.n+2048*t.h:=by
  unfold uI;rw [amp hs0,bH (n:=t.s/2) (by omega) (by omega),bH (n:=t.n*2 ^ 5) (by omega) (by omega),FW (k:=5) (by omega) (by omega) (by omega) (by omega),bH (by omega) (by omega),FW (k:=11) (by omega) (by omega) (by omega) (by omega),eX (by omega) (by omega)];omega
 refine⟨e1,e2,by omega,by omega,by omega,by omega,?_⟩;rw [e1,e2];obtain⟨y,m,d,hr,n,s⟩:=t;simp only [Yt,T6.mk.injEq]
 dsimp only at*
 exact⟨by omega,by omega,by omega,by omega,by omega,by omega⟩
end
section
set_option maxRecDepth 100000
variable {H H0 H' :ak} {R:Value→ak→Prop} {L:List It} {s:List UInt8}
theorem _root_.Go.Vc.aw.JB {L' :List It} {K:Value→ak→Prop} (o:aw H0 H L) {b f n:Nat} {cs vs:List Value} {t:TypeId} (lf:It.box b cs t∈L) (hv:vs.length=n) (hf:f+n≤cs.length) (hx:vs.all aL=true)
  (vj:bd (.box b cs t) (.box b (pH cs f vs) t) L L') (hk: ∀H',aw H0 H' L' →K undef H'):aG H n (.pointer (some ⟨b,f,none⟩)) (.agg vs.toArray) K:=by
 subst hv;have hb:=o.ll lf;have Wp:=w3 (o:=f) vs H cs.toArray 0 hb hx (by simpa using hf);simp only [aG,kJ,Wp];have u:G8 b (.cells (pH cs (f+0) vs).toArray t (0,0)) H (H.setIfInBounds b (.cells (pH cs (f+0) vs).toArray t (0,0))):=G8.set (bw hb);exact⟨by simp,hk _ (o.nq vj u.size (fun k hk d_=>u.ne k hk (fun e=>d_ e.symm)) u.at_ (fun k hk=> .inl hk))⟩
theorem GX {s p x r:List UInt8} (h:s=p++ (x++r)) {a n:Nat} (ha:a=p.length) (hn:n=x.length): (s.drop a).take n=x:=by
 subst ha;subst hn;subst h;rw [amA rfl,amz rfl]
theorem JC: ∀ (a b:List UInt8),qs (a++b)=qs a+256 ^ a.length*qs b
 | [],b=>by simp [qs]
 |x::a,b=>by
  rw [akX,qs,qs,JC a b,aj2,akF,Nat.mul_add,←alM,akE 256 (256 ^ a.length)];omega
theorem rL (n:Nat): ∀k,qs (aP n k)=n%256 ^ k
 |0=>by simp [aP,qs,amr]
 |k+1=>by
  rw [zm,JC,rL n k,aD];show n%256 ^ k+256 ^ k* ((UInt8.ofNat (n/256 ^ k%256)).toNat+256*0)=_;rw [UInt8.toNat_ofNat_of_lt' (by show _<256;omega),Nat.mul_zero,akp,akF,Nat.mod_mul]
def preB (p s:List UInt8):Bool:=decide (s.take p.length=p)
theorem nW {p:List UInt8} (hs:s.length≤1000000000) (hp:p.length≤1000000000) (h:R (.bool (preB p s)) H):ab Tryz.prog 106 #[str s,str p] H R:=by
 refine strings_HasPrefix.vc _ _ _ _ ?_;unfold strings_HasPrefix.res;refine stringslite_HasPrefix.vc _ _ _ _ ?_;unfold stringslite_HasPrefix.res;refine aJ ?_;refine aJ ?_;rw [iU]
 by_cases hl:p.length≤s.length
 ·rw [decide_eq_true (by omega)]
  refine bX ?_;refine aJ ?_;refine bz (lo:=0) (hi:=p.length) (.inr ⟨rfl,rfl⟩) (.inl rfl) (by omega) (by omega) ?_;rw [ako,akG];refine pD ?_;intro _;exact h
 ·rw [decide_eq_false (by omega),fH]
  intro _;have e:preB p s=false:=decide_eq_false fun e=>by
   have:=congrArg List.length e;rw [ajW] at this;omega
  rw [e] at h;exact h
theorem zV {a n:Nat} (hs:s.length≤1000000000) (ha:a≤1000000000) (hn:n≤1000000000) (h:R (str ((s.drop a).take n)) H):ab Tryz.prog 234 #[str s,.int .i64 (a:Int),.int .i64 (n:Int)] H R:=by
 refine tt.vc _ _ _ _ _ ?_;unfold tt.res;refine aJ ?_;rw [qm,show min (a:Int) (s.length:Int)= ((min a s.length:Nat):Int) by omega,aC,show ((min a s.length:Nat):Int)+ (n:Int)= ((min a s.length+n:Nat):Int) by omega,bH (by omega) (by omega)];refine aJ ?_;rw [qm,show min ((min a s.length+n:Nat):Int) (s.length:Int)= ((min (min a s.length+n) s.length:Nat):Int) by omega];refine bz (lo:=min a s.length) (hi:=min (min a s.length+n) s.length) (.inl rfl) (.inl rfl) (by omega) (by omega) ?_;have e: (s.drop (min a s.length)).take (min (min a s.length+n) s.length - min a s.length)= (s.drop a).take n:=by
  by_cases h1:a≤s.length
  ·rw [aks h1]
   by_cases h2:a+n≤s.length
   ·rw [aks h2,amj]
   ·rw [amR (by omega),aj9 (by rw [aj1];omega),aj9 (by rw [aj1];omega)]
  ·rw [show min a s.length=s.length by omega,akW,alj (by omega),amW,amW]
 rw [e];exact h
theorem uD {a n:Nat} (hs:s.length≤1000000000) (ha:a≤1000000000) (hn:n≤8) (h:R (.int .u64 ((qs ((s.drop a).take n):Nat):Int)) H):ab Tryz.prog 232 #[str s,.int .i64 (a:Int),.int .i64 (n:Int)] H R:=by
 refine oR.vc _ _ _ _ _ ?_;unfold oR.res;refine zV hs ha (by omega) ?_;have hl: ((s.drop a).take n).length≤8:=by rw [ajW];omega
 refine Cs (by omega) ?_;rw [if_pos hl];exact h
theorem wU {a n:Nat} {K:Int} {p r:List UInt8} {x k:Nat} (e:s=p++ (aP x k++r)) (ha: (a:Int)=K) (hp:a=p.length) (hn:n=k) (hx:x<256 ^ k) (hs:s.length≤1000000000) (hk:k≤8) (h:R (.int .u64 (x:Int)) H):ab Tryz.prog 232 #[str s,.int .i64 K,.int .i64 (n:Int)] H R:=by
 subst hn;have hl:s.length=p.length+ (n+r.length):=by rw [e];simp [aD]
 rw [←ha];refine uD hs (by omega) (by omega) ?_;rw [GX e hp (aD _ _).symm,rL,aj_ hx];exact h
theorem vN {g:List UInt8} (hs:s.length≤1000000000) (hg:g.length≤100) (h:R (.bool (preB (g.take s.length) s)) H):ab Tryz.prog 233 #[str s,str g] H R:=by
 refine oS.vc _ _ _ _ ?_;unfold oS.res;refine aJ ?_;refine zV (a:=0) (by omega) (by omega) hs ?_;rw [ako];exact nW hs (by rw [ajW];omega) h
theorem Po {b a:Nat} {hd:Hd} {t:T6} {k:Bool} {p r:List UInt8} (hs:s.length≤1000000000) (Tk:pQ t=true) (e:s=p++ (aP (if k then 0 else 8) 2++ (aP (if k then 0 else 8) 2++ (aP (sh t) 2++ (aP (sg t) 2++r))))) (ha:a=p.length) (o:aw H0 H (.box b hd.cells 44::L))
  (h: ∀H',aw H0 H' (.box b (Hd.cells ⟨hd.nm,t,hd.p,hd.z,hd.u,hd.a,k⟩) 44::L)→R (.bool true) H'):ab Tryz.prog 235 #[at_ b 0,str s,.int .i64 (a:Int)] H R:=by
 obtain⟨d1,d2,d3,d4,d5,d6,d7⟩:=aaI Tk;obtain⟨c1,_⟩:=CR t;obtain⟨c2,_⟩:=CS t;have hl:s.length=p.length+ (8+r.length):=by rw [e];simp [aD];omega
 have hm: (if k then 0 else 8:Nat)<256 ^ 2:=by split<;>decide
 refine kP.vc _ _ _ _ _ ?_;unfold kP.res;rw [aC,bH (by omega) (by omega)];refine wU (a:=a+2) (n:=2) (p:=p++aP (if k then 0 else 8) 2) (x:=if k then 0 else 8) (k:=2) (r:=aP (sh t) 2++ (aP (sg t) 2++r)) (by rw [e];simp) (by omega) (by simp [aD];omega) rfl hm hs (by decide) ?_;rw [bj,aA,ag,au];refine o.bK (b:=b) (f:=0+11) (by repeat(first|exact ajP|apply ajO)) (ajU rfl) rfl (by repeat(first|exact bd.here|apply bd.there)) fun H1 o _=>?_;have ek:decide ((((if k then 0 else 8:Nat)):Int)=0)=k:=by cases k<;>rfl
 rw [ek] at o;have o:aw H0 H1 (.box b (Hd.cells ⟨hd.nm,hd.t,hd.p,hd.z,hd.u,hd.a,k⟩) 44::L):=o;rw [aC,bH (by omega) (by omega)];refine wU (a:=a+6) (n:=2) (p:=p++aP (if k then 0 else 8) 2++aP (if k then 0 else 8) 2++aP (sh t) 2) (x:=sg t) (k:=2) (r:=r) (by rw [e];simp) (by omega) (by simp [aD];omega) rfl (by omega) hs (by decide) ?_;rw [aC,bH (by omega) (by omega)];refine wU (a:=a+4) (n:=2) (p:=p++aP (if k then 0 else 8) 2++aP (if k then 0 else 8) 2) (x:=sh t) (k:=2) (r:=aP (sg t) 2++r) (by rw [e];simp) (by omega) (by simp [aD];omega) rfl (by omega) hs (by decide) ?_;refine HY (by omega) (by omega) fun H2 rR=>?_;have o:=o.more rR;rw [←c1,←c2] at*;have hu:Tg (uH t) (uI t)=true:=by
  unfold Tg;rw [d7,Tk,decide_eq_true ⟨d4,d6⟩];rfl
 rw [hu,if_pos rfl,d7];refine ai (vs:= [t.v,.bool true]) rfl ?_;refine ai (vs:= [t.v,.bool true]) rfl ?_;refine o.box fun tb H3 o _=>?_;refine o.bW (b:=tb) (vs:=t.cells.toList) (by repeat(first|exact ajP|apply ajO)) rfl rfl rfl (by repeat(first|exact bd.here|apply bd.there)) fun H4 o _=>?_;refine o.bC (b:=tb) (by repeat(first|exact ajP|apply ajO)) rfl ?_;rw [aA,ag,au];refine o.JB (b:=b) (f:=0+1) (n:=6) (vs:=t.cells.toList) (by repeat(first|exact ajP|apply ajO)) rfl (ajU rfl) rfl (by repeat(first|exact bd.here|apply bd.there)) fun H5 o=>?_;exact h H5 (o.pick (ak2 _ _))
end
section
set_option maxRecDepth 100000
variable {H H0 H' :ak} {R:Value→ak→Prop} {L:List It} {s:List UInt8}
def Hd.zero:Hd:= ⟨[],T6.zero,0,0,0,0,false⟩
def JD (sign:List UInt8) (size dg flags g:Nat):Value:= .agg #[str sign,i64 size,i64 dg,i64 flags,.func (.func g) #[] #[]]
theorem BI (x:Hd):x.cells.length=12:=rfl
theorem tJ (x:Hd):x.cells.all aL=true:=rfl
theorem Pp {sign:List UInt8} {size dg flags g:Nat} (hs:s.length≤1000000) (hg:sign.length≤100) (hp:preB (sign.take s.length) s=false) (h: ∀H',Ext H H' →R (.tuple #[Hd.zero.v,.int .i64 (-1)]) H'):
  ab Tryz.prog 191 #[JD sign size dg flags g,str s] H R:=by
 refine fG.vc _ _ _ _ ?_;unfold fG.res;refine(aw.start (H:=H)).box fun fb H1 o _=>?_;have o:aw H H1 [.box fb [str sign,i64 size,i64 dg,i64 flags,.func (.func g) #[] #[]] 271]:=o;refine o.box fun rb H2 o _=>?_;have o:aw H H2 [.box rb Hd.zero.cells 44,.box fb [str sign,i64 size,i64 dg,i64 flags,.func (.func g) #[] #[]] 271]:=o;rw [ag,au];refine o.az (b:=fb) (f:=0+0) (w:=str sign) (by repeat(first|exact ajP|apply ajO)) rfl ?_;refine vN (by omega) hg ?_;rw [hp,fc,alh,aH,bG];refine o.bW (b:=rb) (vs:=Hd.zero.cells) (by repeat(first|exact ajP|apply ajO)) rfl rfl rfl (by repeat(first|exact bd.here|apply bd.there)) fun H3 o _=>?_;refine o.bC (b:=rb) (by repeat(first|exact ajP|apply ajO)) rfl ?_;exact h H3 o.ext
theorem Pq {sign:List UInt8} {size dg flags g n e:Nat} (hs:s.length≤1000000) (hg:sign.length≤100) (hz:size≤100) (hl:dg≤100) (hp:preB (sign.take s.length) s=true) (hn:qs ((s.drop dg).take 2)=n) (he:qs ((s.drop (dg+2)).take 2)=e)
  (eF:s.length<size∨s.length<size+n+e) (h: ∀H',Ext H H' →R (.tuple #[Hd.zero.v,.int .i64 0]) H'):
  ab Tryz.prog 191 #[JD sign size dg flags g,str s] H R:=by
 have MF:n<65536:=by
  rw [←hn];have:=yd ((s.drop dg).take 2);have h2: ((s.drop dg).take 2).length≤2:=by rw [ajW];omega
  exact akO this (akd (n:=256) (by decide) h2)
 have Qn:e<65536:=by
  rw [←he];have:=yd ((s.drop (dg+2)).take 2);have h2: ((s.drop (dg+2)).take 2).length≤2:=by rw [ajW];omega
  exact akO this (akd (n:=256) (by decide) h2)
 refine fG.vc _ _ _ _ ?_;unfold fG.res;refine(aw.start (H:=H)).box fun fb H1 o _=>?_;have o:aw H H1 [.box fb [str sign,i64 size,i64 dg,i64 flags,.func (.func g) #[] #[]] 271]:=o;refine o.box fun rb H2 o _=>?_;have o:aw H H2 [.box rb Hd.zero.cells 44,.box fb [str sign,i64 size,i64 dg,i64 flags,.func (.func g) #[] #[]] 271]:=o;rw [ag,au];refine o.az (b:=fb) (f:=0+0) (w:=str sign) (by repeat(first|exact ajP|apply ajO)) rfl ?_;refine vN (by omega) hg ?_;rw [hp,fc,ak0,ao,ag,au];refine o.az (b:=fb) (f:=0+2) (w:=i64 dg) (by repeat(first|exact ajP|apply ajO)) rfl ?_;rw [ag,au];refine o.az (b:=fb) (f:=0+2) (w:=i64 dg) (by repeat(first|exact ajP|apply ajO)) rfl ?_;rw [aC,show (dg:Int)+2= ((dg+2:Nat):Int) by omega,bH (by omega) (by omega)];refine uD (a:=dg) (n:=2) (by omega) (by omega) (by decide) ?_;rw [hn];refine⟨o.az (b:=fb) (f:=0+2) (by repeat(first|exact ajP|apply ajO)) rfl rfl,?_⟩;refine cC ?_;rw [bH (by omega) (by omega)];refine uD (a:=dg+2) (n:=2) (by omega) (by omega) (by decide) ?_;rw [he];refine cC ?_;rw [bH (by omega) (by omega)];refine aJ ?_;rw [ag,au];refine o.az (b:=fb) (f:=0+1) (w:=i64 size) (by repeat(first|exact ajP|apply ajO)) rfl ?_;rw [aQ];refine oy (d:=decide (s.length<size+n+e)) (fun _=>?_) ?_
 ·refine aJ ?_
  rw [ag,au];refine o.az (b:=fb) (f:=0+1) (w:=i64 size) (by repeat(first|exact ajP|apply ajO)) rfl ?_;rw [aC,bH (by omega) (by omega),aC,bH (by omega) (by omega),aQ];refine⟨?_,rfl⟩
  congr 1
  rw [decide_eq_decide];omega
 intro _;have hc: (decide ((s.length:Int)< (size:Int)) ||decide (s.length<size+n+e))=true:=by
  rw [ak5,decide_eq_true_eq,decide_eq_true_eq];omega
 rw [hc,aH,bG];refine o.bW (b:=rb) (vs:=Hd.zero.cells) (by repeat(first|exact ajP|apply ajO)) rfl rfl rfl (by repeat(first|exact bd.here|apply bd.there)) fun H3 o _=>?_;refine o.bC (b:=rb) (by repeat(first|exact ajP|apply ajO)) rfl ?_;exact h H3 o.ext
theorem DE {sign X nm:List UInt8} {size dg flags g:Nat} {t:T6} {k:Bool} {y:Hd} {p r p1 r1 p2 r2 p3 r3:List UInt8} (hm:re g Tryz.C=true) (hs:s.length≤1000000) (hg:sign.length≤100) (hz:size≤100) (hl:dg≤100) (hp:preB (sign.take s.length) s=true)
  (Qj:nm.length≤100) (e1:s=p1++ (aP nm.length 2++r1)) (lu:dg=p1.length) (e2:s=p2++ (aP 0 2++r2)) (D8:dg+2=p2.length) (hlen:X.length=size+nm.length) (hX:s=X++r) (e3:s=p3++ (nm++r3)) (Z6:size=p3.length)
  (Tk:pQ t=true) (et:s=p++ (aP (if k then 0 else 8) 2++ (aP (if k then 0 else 8) 2++ (aP (sh t) 2++ (aP (sg t) 2++ (s.drop (p.length+8))))))) (hf:flags=p.length) (d_:X≠ [])
  (Bh: ∀ (H1:ak) (b:Nat) (M:List It) (K:Value→ak→Prop),aw H H1 (.box b (Hd.cells ⟨nm,t,0,0,0,0,k⟩) 44::M)→(∀H2,aw H H2 (.box b y.cells 44::M)→K (str X) H2)→ab Tryz.prog g #[str s,at_ b 0] H1 K)
  (h: ∀H',Ext H H' →R (.tuple #[y.v,.int .i64 (X.length:Int)]) H'):
  ab Tryz.prog 191 #[JD sign size dg flags g,str s] H R:=by
 have hXl:X.length≤s.length:=by rw [hX,ajQ];omega
 have DY:p.length≤s.length:=by
  have:=congrArg List.length et;rw [ajQ] at this;omega
 refine fG.vc _ _ _ _ ?_;unfold fG.res;refine(aw.start (H:=H)).box fun fb H1 o _=>?_;have o:aw H H1 [.box fb [str sign,i64 size,i64 dg,i64 flags,.func (.func g) #[] #[]] 271]:=o;refine o.box fun rb H2 o _=>?_;have o:aw H H2 [.box rb Hd.zero.cells 44,.box fb [str sign,i64 size,i64 dg,i64 flags,.func (.func g) #[] #[]] 271]:=o;rw [ag,au];refine o.az (b:=fb) (f:=0+0) (w:=str sign) (by repeat(first|exact ajP|apply ajO)) rfl ?_;refine vN (by omega) hg ?_;rw [hp,fc,ak0,ao,ag,au];refine o.az (b:=fb) (f:=0+2) (w:=i64 dg) (by repeat(first|exact ajP|apply ajO)) rfl ?_;rw [ag,au];refine o.az (b:=fb) (f:=0+2) (w:=i64 dg) (by repeat(first|exact ajP|apply ajO)) rfl ?_;rw [aC,show (dg:Int)+2= ((dg+2:Nat):Int) by omega,bH (by omega) (by omega)];refine wU (a:=dg) (n:=2) e1 rfl lu rfl (show nm.length<65536 by omega) (by omega) (by decide) ?_;refine⟨o.az (b:=fb) (f:=0+2) (by repeat(first|exact ajP|apply ajO)) rfl rfl,?_⟩;refine cC ?_;rw [bH (by omega) (by omega)];refine wU (a:=dg+2) (n:=2) e2 rfl D8 rfl (show (0:Nat)<65536 by decide) (by omega) (by decide) ?_;refine cC ?_;rw [bH (n:= ((0:Nat):Int)) (by decide) (by decide)];refine aJ ?_;rw [ag,au];refine o.az (b:=fb) (f:=0+1) (w:=i64 size) (by repeat(first|exact ajP|apply ajO)) rfl ?_;rw [aQ,decide_eq_false (by omega)];refine bh ?_;refine aJ ?_;rw [ag,au];refine o.az (b:=fb) (f:=0+1) (w:=i64 size) (by repeat(first|exact ajP|apply ajO)) rfl ?_;rw [aC,bH (by omega) (by omega),aC,bH (by omega) (by omega),aQ,decide_eq_false (by omega)];intro _;rw [ao,ag,au];refine o.az (b:=fb) (f:=0+1) (w:=i64 size) (by repeat(first|exact ajP|apply ajO)) rfl ?_;refine zV (a:=size) (n:=nm.length) (by omega) (by omega) (by omega) ?_;rw [GX e3 Z6 rfl];refine aU rfl (by decide) ?_;rw [bG];refine o.box fun hb H3 o _=>?_;refine o.bW (b:=hb) (vs:=Hd.cells ⟨nm,T6.zero,0,0,0,0,false⟩) (by repeat(first|exact ajP|apply ajO)) rfl rfl rfl (by repeat(first|exact bd.here|apply bd.there)) fun H4 o _=>?_;rw [ag,au];refine o.az (b:=fb) (f:=0+3) (w:=i64 flags) (by repeat(first|exact ajP|apply ajO)) rfl ?_;refine Po (hd:= ⟨nm,T6.zero,0,0,0,0,false⟩) (by omega) Tk et hf o fun H5 o=>?_;rw [fc,ak0,ao,ag,au];refine o.az (b:=fb) (f:=0+4) (w:= .func (.func g) #[] #[]) (by repeat(first|exact ajP|apply ajO)) rfl ?_;refine wj hm ?_;refine Bh H5 hb _ _ o fun H6 o=>?_;refine pD ?_;rw [decide_eq_false d_];refine bh ?_;refine aJ ?_;rw [ag,au];refine o.az (b:=fb) (f:=0+1) (w:=i64 size) (by repeat(first|exact ajP|apply ajO)) rfl ?_;rw [aC,bH (by omega) (by omega),aC,bH (by omega) (by omega),mP,decide_eq_false (by omega)];intro _;refine bh ?_;refine nW (by omega) (by omega) ?_;have hpx:preB X s=true:=decide_eq_true (by rw [hX,amz rfl]);rw [hpx,fc];intro _;show ar (.bool false) _ _;rw [ao];refine o.bC (b:=hb) (by repeat(first|exact ajP|apply ajO)) rfl ?_;refine aJ ?_;refine o.bW (b:=rb) (vs:=y.cells) (by repeat(first|exact ajP|apply ajO)) rfl rfl rfl (by repeat(first|exact bd.here|apply bd.there)) fun H7 o _=>?_;refine o.bC (b:=rb) (by repeat(first|exact ajP|apply ajO)) rfl ?_;exact h H7 o.ext
end
section
set_option maxRecDepth 100000
variable {H H0 H' :ak} {R:Value→ak→Prop} {L:List It} {s:List UInt8}
def Hd.loc (x:Hd):Hd:= ⟨x.nm,x.t,0,0,0,0,x.k⟩
theorem CQ.loc {x:Hd} (g:CQ x):CQ x.loc:= ⟨g.nm,g.t,akj _,akj _,(show (0:Nat)<4294967296 by decide),akj _,fun _=> ⟨rfl,rfl⟩⟩
theorem LZ (x:Hd):bM x.loc=bM x:=rfl
def mB:List UInt8:= [80,75,3,4]
def DF:List UInt8:= [80,75,1,2]
theorem DG (y:Hd) (m:Int)
  (hr: ∀ (H:ak) (R:Value→ak→Prop),(∀H',Ext H H' →R (.tuple #[y.v,.int .i64 m]) H')→ab Tryz.prog 191 #[JD mB 30 26 6 190,str s] H R) (h: ∀H',Ext H H' →R (.tuple #[y.v,.int .i64 m]) H'):ab Tryz.prog 138 #[str s] H R:=by
 refine ts.vc _ _ _ ?_;unfold ts.res;refine(aw.start (H:=H)).box fun b H1 o _=>?_;have o:aw H H1 [.box b Hd.zero.cells 44]:=o;simp only [fV,bG,EI,oD,eN,iq,ak9,ak1,aj2,aj7,Nat.reduceAdd,Nat.reduceLeDiff,true_and];refine⟨rfl,rfl,rfl,rfl,rfl,?_⟩;refine hr H1 _ fun H2 hx=>?_;have o:=o.more hx;refine ai (vs:= [y.v,.int .i64 m]) rfl ?_;refine ai (vs:= [y.v,.int .i64 m]) rfl ?_;refine o.bW (b:=b) (vs:=y.cells) (by repeat(first|exact ajP|apply ajO)) rfl rfl rfl (by repeat(first|exact bd.here|apply bd.there)) fun H3 o _=>?_;refine o.bC (b:=b) (by repeat(first|exact ajP|apply ajO)) rfl ?_;exact h H3 o.ext
theorem Pr (y:Hd) (m:Int)
  (hr: ∀ (H:ak) (R:Value→ak→Prop),(∀H',Ext H H' →R (.tuple #[y.v,.int .i64 m]) H')→ab Tryz.prog 191 #[JD DF 46 28 8 231,str s] H R) (h: ∀H',Ext H H' →R (.tuple #[y.v,.int .i64 m]) H'):ab Tryz.prog 188 #[str s] H R:=by
 refine jq.vc _ _ _ ?_;unfold jq.res;refine(aw.start (H:=H)).box fun b H1 o _=>?_;have o:aw H H1 [.box b Hd.zero.cells 44]:=o;simp only [fV,bG,EI,oD,eN,iq,ak9,ak1,aj2,aj7,Nat.reduceAdd,Nat.reduceLeDiff,true_and];refine⟨rfl,rfl,rfl,rfl,rfl,?_⟩;refine hr H1 _ fun H2 hx=>?_;have o:=o.more hx;refine ai (vs:= [y.v,.int .i64 m]) rfl ?_;refine ai (vs:= [y.v,.int .i64 m]) rfl ?_;refine o.bW (b:=b) (vs:=y.cells) (by repeat(first|exact ajP|apply ajO)) rfl rfl rfl (by repeat(first|exact bd.here|apply bd.there)) fun H3 o _=>?_;refine o.bC (b:=b) (by repeat(first|exact ajP|apply ajO)) rfl ?_;exact h H3 o.ext
theorem JE {p:List UInt8} (r:List UInt8) (h:s=p++r):preB (p.take s.length) s=true:=by
 refine decide_eq_true ?_;subst h;rw [aj9 (show p.length≤(p++r).length by simp),amz rfl]
theorem L0 {x:Hd} {r:List UInt8} (g:CQ x) (e:s=bM x++r) (hs:s.length≤1000000) (h: ∀H',Ext H H' →R (.tuple #[x.loc.v,.int .i64 ((30+x.nm.length:Nat):Int)]) H'):ab Tryz.prog 138 #[str s] H R:=by
 have PU:=g.nm.len;have iz:=lJ x;have xE:=kx x;refine DG x.loc _ (fun H R h=>?_) h;rw [←xE] at h;have e0:s=mB++aP 20 2++ (aP x.uQ 2++ (aP x.uQ 2++ (aP (sh x.t) 2++ (aP (sg x.t) 2++ (List.replicate 12 0++aP x.nm.length 2++aP 0 2++x.nm++r))))):=by
  rw [e];unfold bM jb mB;simp [ajT]
 have e8:s.drop ((mB++aP 20 2).length+8)=List.replicate 12 0++aP x.nm.length 2++aP 0 2++x.nm++r:=by
  have e9:s= (mB++aP 20 2++ (aP x.uQ 2++ (aP x.uQ 2++ (aP (sh x.t) 2++aP (sg x.t) 2))))++ (List.replicate 12 0++aP x.nm.length 2++aP 0 2++x.nm++r):=by rw [e0];simp only [ajT]
  rw [e9,amA (by simp [aD])]
 refine DE (t:=x.t) (k:=x.k) (nm:=x.nm) (X:=bM x) (y:=x.loc) (r:=r) (p:=mB++aP 20 2) (p1:=mB++aP 20 2++jb x++List.replicate 12 0) (r1:=aP 0 2++x.nm++r) (p2:=mB++aP 20 2++jb x++List.replicate 12 0++aP x.nm.length 2) (r2:=x.nm++r) (p3:=mB++aP 20 2++jb x++List.replicate 12 0++aP x.nm.length 2++aP 0 2) (r3:=r)
  (by kernel_rfl) hs (by decide) (by decide) (by decide) (JE (p:=mB) (aP 20 2++jb x++List.replicate 12 0++aP x.nm.length 2++aP 0 2++x.nm++r) (by rw [e];unfold bM mB;simp [ajT])) PU (by rw [e];unfold bM mB;simp [ajT]) (by simp [aD,iz,mB]) (by rw [e];unfold bM mB;simp [ajT]) (by simp [aD,iz,mB])
  xE e (by rw [e];unfold bM mB;simp [ajT]) (by simp [aD,iz,mB]) g.t (by rw [e8];exact e0) (by simp [aD,mB]) (fun e=>by rw [e] at xE;simp at xE;omega) (fun H1 b M K o hk=>?_) h
 refine kO.vc _ _ _ _ ?_;unfold kO.res;refine⟨fun H' =>aw H H' (.box b x.loc.cells 44::M),?_,?_⟩
 ·clear o
  intro _ H2 o;rw [aA];refine o.bC (b:=b) (by repeat(first|exact ajP|apply ajO)) rfl ?_;refine rF g.loc fun H3 hx=>?_;rw [LZ];exact hk H3 (o.more hx)
 ·refine wU (a:=18) (n:=4) (k:=4) (x:=0) (p:=mB++aP 20 2++jb x++List.replicate 4 0) (r:=List.replicate 4 0++aP x.nm.length 2++aP 0 2++x.nm++r) ?_ rfl (by simp [aD,iz,mB]) rfl (by decide) (by omega) (by decide) ?_
  ·rw [e]
   have e4: (List.replicate 12 0:List UInt8)=List.replicate 4 0++ (aP 0 4++List.replicate 4 0):=by decide
   unfold bM mB;rw [e4];simp only [ajT]
  ·rw [bj,decide_eq_false (by decide),ao]
   exact o
theorem Ps {x:Hd} {m:Nat} (g:CQ x) (hm:m< (bM x).length) (e:s= (bM x).take m) (h: ∀H',Ext H H' →R (.tuple #[Hd.zero.v,.int .i64 0]) H'):ab Tryz.prog 138 #[str s] H R:=by
 have PU:=g.nm.len;have iz:=lJ x;have xE:=kx x;have n_:s.length=m:=by rw [e,ajW];omega
 refine DG Hd.zero _ (fun H R h=>?_) h;have aeF: (bM x).take 4=mB:=by unfold bM mB;simp
 refine Pq (by omega) (by decide) (by decide) (by decide) (decide_eq_true ?_) rfl rfl ?_ h
 ·rw [n_,←aeF,e,akQ,akQ]
  congr 1
  simp only [ajW];omega
 ·by_cases h30:m<30
  ·exact .inl (by omega)
  ·refine .inr ?_
   have e1: (s.drop 26).take 2=aP x.nm.length 2:=by
    have:s=mB++aP 20 2++jb x++List.replicate 12 0++ (aP x.nm.length 2++ (s.drop 28)):=by
     have e2:bM x= (mB++aP 20 2++jb x++List.replicate 12 0++aP x.nm.length 2)++ (aP 0 2++x.nm):=by unfold bM mB;simp only [ajT]
     have e3: (mB++aP 20 2++jb x++List.replicate 12 0++aP x.nm.length 2).length=28:=by simp [aD,iz,mB]
     have e4:s.take 28=mB++aP 20 2++jb x++List.replicate 12 0++aP x.nm.length 2:=by
      rw [e,akQ,show min 28 m=28 by omega,e2,amz e3]
     rw [←ajT,←e4,akf]
    exact GX this (by simp [aD,iz,mB]) (aD _ _).symm
   rw [e1,rL,aj_ (show x.nm.length<65536 by omega)];omega
theorem Pt {c:UInt8} {r:List UInt8} (hc:c≠3) (e:s=80::75::c::r) (hs:s.length≤1000000) (h: ∀H',Ext H H' →R (.tuple #[Hd.zero.v,.int .i64 (-1)]) H'):ab Tryz.prog 138 #[str s] H R:=by
 refine DG Hd.zero _ (fun H R h=>?_) h;refine Pp hs (by decide) (decide_eq_false fun h3=>?_) h;subst e;have:=congrArg (·[2]?) h3;have hl: (80::75::c::r).length=r.length+3:=rfl;rw [hl] at this
 cases r with
 |nil=>simp [mB] at this;exact hc this
 |cons a r=>simp [mB] at this;exact hc this
theorem JF {x:Hd} {r:List UInt8} (g:CQ x) (e:s=kG x++r) (hs:s.length≤1000000) (h: ∀H',Ext H H' →R (.tuple #[x.v,.int .i64 ((46+x.nm.length:Nat):Int)]) H'):ab Tryz.prog 188 #[str s] H R:=by
 have PU:=g.nm.len;have iz:=lJ x;have xE:=nU x;have g1:=g.p;have g2:=g.z;have g3:=g.u;have g4:=g.a;refine Pr x _ (fun H R h=>?_) h;rw [←xE] at h;obtain⟨T,hT⟩: ∃T,T=aP x.u 4++aP x.p 4++aP x.z 4++aP x.nm.length 2++aP 0 2++List.replicate 10 0++aP x.a 4++x.nm++r:= ⟨_,rfl⟩;have e0:s=DF++aP 20 2++aP 20 2++ (aP x.uQ 2++ (aP x.uQ 2++ (aP (sh x.t) 2++ (aP (sg x.t) 2++T)))):=by
  rw [e,hT];unfold kG jb DF;simp only [ajT]
 have e8:s.drop ((DF++aP 20 2++aP 20 2).length+8)=T:=by
  have e9:s= (DF++aP 20 2++aP 20 2++ (aP x.uQ 2++ (aP x.uQ 2++ (aP (sh x.t) 2++aP (sg x.t) 2))))++T:=by rw [e0];simp only [ajT]
  rw [e9,amA (by simp [aD])]
 obtain⟨Q,hQ⟩: ∃Q,Q=DF++aP 20 2++aP 20 2++jb x:= ⟨_,rfl⟩;have XW:Q.length=16:=by rw [hQ];simp [aD,iz,DF]
 have eQ:s=Q++T:=by rw [e,hQ,hT];unfold kG DF;simp only [ajT]
 refine DE (t:=x.t) (k:=x.k) (nm:=x.nm) (X:=kG x) (y:=x) (r:=r) (p:=DF++aP 20 2++aP 20 2) (p1:=Q++aP x.u 4++aP x.p 4++aP x.z 4) (r1:=aP 0 2++List.replicate 10 0++aP x.a 4++x.nm++r) (p2:=Q++aP x.u 4++aP x.p 4++aP x.z 4++aP x.nm.length 2) (r2:=List.replicate 10 0++aP x.a 4++x.nm++r) (p3:=Q++aP x.u 4++aP x.p 4++aP x.z 4++aP x.nm.length 2++aP 0 2++List.replicate 10 0++aP x.a 4) (r3:=r)
  (by kernel_rfl) hs (by decide) (by decide) (by decide) (JE (p:=DF) (aP 20 2++aP 20 2++jb x++T) (by rw [eQ,hQ];simp only [ajT])) PU (by rw [eQ,hT];simp only [ajT]) (by simp [aD,XW]) (by rw [eQ,hT];simp only [ajT]) (by simp [aD,XW])
  xE e (by rw [eQ,hT];simp only [ajT]) (by simp [aD,XW]) g.t (by rw [e8];exact e0) (by simp [aD,DF]) (fun e=>by rw [e] at xE;simp at xE;omega) (fun H1 b M K o hk=>?_) h
 refine jr.vc _ _ _ _ ?_;unfold jr.res;refine wU (a:=16) (n:=4) (k:=4) (x:=x.u) (p:=Q) (r:=aP x.p 4++aP x.z 4++aP x.nm.length 2++aP 0 2++List.replicate 10 0++aP x.a 4++x.nm++r) (by rw [eQ,hT];simp only [ajT]) rfl XW.symm rfl (by show _<4294967296;omega) (by omega) (by decide) ?_;refine cC ?_;rw [TT (by omega) (by omega),aA,ag,au];refine o.bK (b:=b) (f:=0+9) (by repeat(first|exact ajP|apply ajO)) (ajU rfl) rfl (by repeat(first|exact bd.here|apply bd.there)) fun H2 o _=>?_;refine wU (a:=20) (n:=4) (k:=4) (x:=x.p) (p:=Q++aP x.u 4) (r:=aP x.z 4++aP x.nm.length 2++aP 0 2++List.replicate 10 0++aP x.a 4++x.nm++r) (by rw [eQ,hT];simp only [ajT]) rfl (by simp [aD,XW]) rfl (by show _<4294967296;omega) (by omega) (by decide) ?_;refine wU (a:=24) (n:=4) (k:=4) (x:=x.z) (p:=Q++aP x.u 4++aP x.p 4) (r:=aP x.nm.length 2++aP 0 2++List.replicate 10 0++aP x.a 4++x.nm++r) (by rw [eQ,hT];simp only [ajT]) rfl (by simp [aD,XW]) rfl (by show _<4294967296;omega) (by omega) (by decide) ?_;refine wU (a:=42) (n:=4) (k:=4) (x:=x.a) (p:=Q++aP x.u 4++aP x.p 4++aP x.z 4++aP x.nm.length 2++aP 0 2++List.replicate 10 0) (r:=x.nm++r) (by rw [eQ,hT];simp only [ajT]) rfl (by simp [aD,XW]) rfl (by show _<4294967296;omega) (by omega) (by decide) ?_;rw [aA,ag,au];refine o.bK (b:=b) (f:=0+7) (by repeat(first|exact ajP|apply ajO)) (ajU rfl) rfl (by repeat(first|exact bd.here|apply bd.there)) fun H3 o _=>?_;rw [aA,ag,au];refine o.bK (b:=b) (f:=0+8) (by repeat(first|exact ajP|apply ajO)) (ajU rfl) rfl (by repeat(first|exact bd.here|apply bd.there)) fun H4 o _=>?_;rw [aA,ag,au];refine o.bK (b:=b) (f:=0+10) (by repeat(first|exact ajP|apply ajO)) (ajU rfl) rfl (by repeat(first|exact bd.here|apply bd.there)) fun H5 o _=>?_;have o:aw H H5 (.box b x.cells 44::M):=o;rw [aA,ag,au];refine o.az (b:=b) (f:=0+0) (w:=str x.nm) (by repeat(first|exact ajP|apply ajO)) rfl ?_;refine aJ ?_;rw [aC,bH (by omega) (by omega),aC,bH (by omega) (by omega)];refine⟨fun a H' =>aw H H' (.box b x.cells 44::M),?_,?_⟩
 ·clear o
  intro _ _ H6 o;refine⟨fun H' =>aw H H' (.box b x.cells 44::M),?_,?_⟩
  ·clear o
   intro _ H7 o;rw [aA];refine o.bC (b:=b) (by repeat(first|exact ajP|apply ajO)) rfl ?_;refine yO g fun H8 hx=>?_;exact hk H8 (o.more hx)
  ·rw [aA,ag,au]
   refine o.az (b:=b) (f:=0+10) (w:= .int .u64 (x.a:Int)) (by repeat(first|exact ajP|apply ajO)) rfl ?_;rw [bj,decide_eq_false (by omega),ao];exact o
 ·rw [aA,ag,au]
  refine o.az (b:=b) (f:=0+7) (w:= .int .u64 (x.p:Int)) (by repeat(first|exact ajP|apply ajO)) rfl ?_;rw [bj,decide_eq_false (by omega),ao];exact o
end
section
set_option maxRecDepth 100000
variable {H H0 H' :ak} {R:Value→ak→Prop} {L:List It} {s:List UInt8}
section flat
variable {α:Type} {f:α→List Value} {n:Nat} {l:List α}
def lN (f:α→List Value) (l:List α):List Value:= (l.map f).flatten
theorem ij (l m:List α):lN f (l++m)=lN f l++lN f m:=by simp [lN]
theorem xA (x:α) (l:List α):lN f (x::l)=f x++lN f l:=rfl
theorem k_ (x:α):lN f [x]=f x:=by simp [lN]
theorem ra (hf: ∀x,(f x).length=n): (lN f l).length=l.length*n:=by
 induction l with
 |nil=>simp [lN]
 |cons x l ih=>rw [xA,ajQ,hf,ih,aj2,akJ];omega
theorem wA (hf: ∀x,(f x).all aL=true): (lN f l).all aL=true:=by
 induction l with
 |nil=>rfl
 |cons x l ih=>rw [xA,List.all_append,hf,ih];rfl
theorem jN (hf: ∀x,(f x).length=n) {k:Nat} (hk:k<l.length): ((lN f l).drop (k*n)).take n=f l[k]:=by
 have e:lN f l=lN f (l.take k)++ (f l[k]++lN f (l.drop (k+1))):=by
  rw [←xA,←akN hk,←ij,akf]
 have hl: (lN f (l.take k)).length=k*n:=by rw [ra hf,ajW,aks (by omega)]
 rw [e,←hl,als,←hf l[k],amX]
theorem L1 (hf: ∀x,(f x).length=n) (k:Nat): (lN f l).take (k*n)=lN f (l.take k):=by
 by_cases hk:k<l.length
 ·have hl: (lN f (l.take k)).length=k*n:=by rw [ra hf,ajW,aks (by omega)]
  conv=>lhs;rw [←akf k l,ij]
  rw [←hl,amX]
 ·rw [aj9 (l:=lN f l) (by rw [ra hf];exact akZ _ (by omega)),aj9 (by omega)]
end flat
structure Fl where
 nm:List UInt8
 t:T6
 iY:List UInt8
def Fl.cells (f:Fl):List Value:= [str f.nm,.int .i64 f.t.y,.int .i64 f.t.m,.int .i64 f.t.d,.int .i64 f.t.h,.int .i64 f.t.n,.int .i64 f.t.s,str f.iY]
theorem rM (x:Fl):x.cells.length=8:=rfl
theorem Bm (x:Fl):x.cells.all aL=true:=rfl
def iZ (l:List Fl):List Value:=lN Fl.cells l
theorem gM (l:List Fl): (iZ l).length=l.length*8:=ra rM
structure nX (fs:List Fl):Prop where
 XX:CY (fs.map Fl.nm)
 tm: ∀f∈fs,pQ f.t=true
 iY: ∀f∈fs,f.iY.length≤400
theorem nX.len {fs:List Fl} (g:nX fs):fs.length≤5:=by have:=g.XX.len;rwa [aka] at this
theorem _root_.Go.Vc.aw.rN (o:aw H0 H L) (n:Nat):aw H0 H (L.drop n):=o.pick (List.drop_sublist n L)
theorem CY.take {ns:List (List UInt8)} (g:CY ns) (n:Nat):CY (ns.take n):=
 ⟨by have:=g.len;rw [ajW];omega,fun x hx=>g.nm x (akL hx),fun k H v R hs h=>g.all (min k n) H v R (by rw [←akQ];exact hs) h⟩
theorem nX.take {fs:List Fl} (g:nX fs) (n:Nat):nX (fs.take n):=
 ⟨by rw [amk];exact g.XX.take n,fun f hf=>g.tm f (akL hf),fun f hf=>g.iY f (akL hf)⟩
theorem yQ (sz:Nat) (hz:0<sz) (o:aw H0 H L):aw H0 H (.sl (.slice none 0 0) sz []::L):=
 o.add (Ext.refl _) (i:= .sl (.slice none 0 0) sz []) ⟨hz,.inl ⟨rfl,rfl⟩⟩ (by intro k hk;exact absurd hk (by simp [It.eL,aV]))
theorem AY {v:Value} {fs:List Fl} {l:Nat} (hs:Sl H v 8 (iZ fs)) (g:nX fs) (hl:l≤9) (h: ∀H',Ext H H' →R (.tuple #[.int .i64 0,.int .i64 0]) H'):ab Tryz.prog 44 #[v,.int .i64 (l:Int)] H R:=by
 have iv:=gM fs;have Ul:=g.len;refine kW.vc _ _ _ _ ?_;unfold kW.res;rw [aQ,decide_eq_false (by omega)];refine bh ?_;rw [bU,decide_eq_false (by omega)];intro _;rw [ao];refine hs.len iv (by decide) ?_;refine⟨fun y i H' => ∃k:Nat,i= .int .i64 (k:Int)∧k≤fs.length∧aw H H' [.sl y 1 (iC ((fs.map Fl.nm).take k))],fun _ i _=>match i with| .int _ x=> (fs.length - x).toNat|_=>0,⟨0,rfl,by omega,yQ 1 (by decide) aw.start⟩,?_⟩;rintro _ ns _ H1 ⟨k,rfl,hk,o⟩;rw [aQ];refine ax (fun hc=>?_) (fun hc=>?_)
 ·have j5:k<fs.length:=by omega
  have w5:=hs.ext o.ext;refine w5.at_ iv (by decide) (by omega) (by omega) fun p hp=>?_;rw [ajS] at hp;refine hp.kf w5 (ws:=fs[k].cells) (jN rM j5) rfl ?_;refine o.box fun b H2 o _=>?_;refine o.bW (by repeat(first|exact ajP|apply ajO)) rfl rfl (Bm _) (by repeat(first|exact bd.here|apply bd.there)) fun H3 o _=>?_;refine aj ?_;refine o.az (f:=0+0) (w:=str fs[k].nm) (by repeat(first|exact ajP|apply ajO)) rfl ?_;refine o.ej (sz:=1) (by decide) rfl rfl fun y H4 o=>?_;refine o.append (n:=k) (m:=1) (by repeat(first|exact bu.here|apply bu.there)) rfl (o.sl (by repeat(first|exact ajP|apply ajO))) (by rw [oJ,ajW,aka];omega) rfl rfl (by omega) fun v' H5 o=>?_;rw [aC,bH (by omega) (by omega)];refine⟨⟨k+1,rfl,by omega,?_⟩,by show (_:Int).toNat< (_:Int).toNat;omega⟩;have e:iC ((fs.map Fl.nm).take (k+1))=iC ((fs.map Fl.nm).take k)++ (str fs[k].nm).cells.toList:=by
   rw [akq,ake,ajV j5,nK];rfl
  rw [e];exact o.arr (by repeat(first|exact dV.nil|exact bu.here|apply dV.cons|apply bu.there))
 ·refine g.XX.all k _ _ _ (o.sl (by repeat(first|exact ajP|apply ajO))) fun H2 rR=>?_
  have hx:=o.ext.trans rR;clear o;refine ai (vs:= [.int .i64 0,.int .i64 0]) rfl ?_;refine ai (vs:= [.int .i64 0,.int .i64 0]) rfl ?_;refine jD ?_;rw [ao];refine hs.len iv (by decide) ?_;refine⟨fun i H' => ∃k:Nat,i= .int .i64 (k:Int)∧k≤fs.length∧Ext H H',fun i _=>match i with| .int _ x=> (fs.length - x).toNat|_=>0,⟨0,rfl,by omega,hx⟩,?_⟩;clear hk hc hx rR;rintro _ _ H3 ⟨k,rfl,hk,hx⟩;rw [aQ];refine ax (fun hc=>?_) (fun hc=>?_)
  ·have j5:k<fs.length:=by omega
   have w5:=hs.ext hx;refine w5.at_ iv (by decide) (by omega) (by omega) fun p hp=>?_;rw [ajS] at hp;refine hp.kf w5 (ws:=fs[k].cells) (jN rM j5) rfl ?_;have o:= (aw.start (H:=H)).more hx;refine o.box fun b H2 o _=>?_;refine o.bW (by repeat(first|exact ajP|apply ajO)) rfl rfl (Bm _) (by repeat(first|exact bd.here|apply bd.there)) fun H3 o _=>?_;refine aj ?_;refine fU (o.ll (by repeat(first|exact ajP|apply ajO))) (ws:=fs[k].t.cells.toList) rfl (by rw [rM];decide) ?_;refine wc fun H4 tV=>?_;rw [g.tm _ (ajZ j5)];refine kp ?_;rw [show (!true)=false from rfl,ao,aC,bH (by omega) (by omega)];exact⟨⟨k+1,rfl,by omega,o.ext.trans tV⟩,by show (_:Int).toNat< (_:Int).toNat;omega⟩
  ·refine hs.len iv (by decide) ?_
   refine⟨fun t i H' => ∃ (k:Nat) (n:Nat),i= .int .i64 (k:Int)∧t= .int .i64 (n:Int)∧n≤400*k∧k≤fs.length∧Ext H H',fun _ i _=>match i with| .int _ x=> (fs.length - x).toNat|_=>0,⟨0,0,rfl,rfl,by omega,by omega,hx⟩,?_⟩;clear hk hc hx;rintro _ _ _ H3 ⟨k,n,rfl,rfl,hn,hk,hx⟩;rw [aQ];refine ax (fun hc=>?_) (fun hc=>?_)
   ·have j5:k<fs.length:=by omega
    have w5:=hs.ext hx;refine w5.at_ iv (by decide) (by omega) (by omega) fun p hp=>?_;rw [ajS] at hp;refine hp.kf w5 (ws:=fs[k].cells) (jN rM j5) rfl ?_;have o:= (aw.start (H:=H)).more hx;refine o.box fun b H2 o _=>?_;refine o.bW (by repeat(first|exact ajP|apply ajO)) rfl rfl (Bm _) (by repeat(first|exact bd.here|apply bd.there)) fun H3 o _=>?_;refine aj ?_;refine o.az (f:=0+7) (w:=str fs[k].iY) (by repeat(first|exact ajP|apply ajO)) rfl ?_;have hd:=g.iY _ (ajZ j5);refine aJ ?_;rw [aC,bH (by omega) (by omega),bU,decide_eq_false (by omega),ao,aC,bH (by omega) (by omega)];exact⟨⟨k+1,n+fs[k].iY.length,rfl,by simp,by omega,by omega,o.ext⟩,by show (_:Int).toNat< (_:Int).toNat;omega⟩
   ·exact h _ hx
end
end Go.Proofs.YtpcgccdmmoggmaaGreatDoor
set_option maxRecDepth 100000
namespace Go.Proofs
open Go.Shelf Go.RowKit
section
set_option maxRecDepth 100000
set_option maxHeartbeats 1000000 in
theorem Tryz.zW (b:Nat) (w:World) (h0:w.cell? ⟨b,0,none⟩=some (.pointer none)) (PQ:w.shape? b=some (153,2)) (QB:w.frozen? ⟨b,0,none⟩=false):
  Calls Tryz.prog 128 #[.pointer (some ⟨b,0,none⟩)] w fun e w' =>e= .returned (.tuple #[])∧w' =w.setCell ⟨b,0,none⟩ (.pointer (some ⟨b,0,none⟩)):=by
 obtain⟨j,hj,hjs⟩:=anp.1 (show (Tryz.prog.info? 153).map (·.size)=some 2 by kernel_rfl);have R_:liesAt Tryz.prog Tryz.prog.depth 153 (2/Tryz.prog.cellsOf 153) 0 153 1=true:=by kernel_rfl
 go_enter Tryz.func128,Tryz.f128
 go_wp2
 rw [Lib.run_to_unsafe w ⟨b,0,none⟩ Tryz.underlying151 Tryz.underlying256 hj (by rw [hjs];decide) PQ (show 0<2 by decide)];simp only [Result.andThen];rw [Oper.upon_value]
 go_wp2
 rw [run_callFunc_extern Tryz.func178 (by kernel_rfl) (by kernel_rfl) (by kernel_rfl) (e:=Extern.AbiNoEscape.same) (by kernel_rfl)];rw [Lib.run_noEscape];simp only [Result.andThen];rw [Oper.upon_value]
 go_wp2
 rw [Lib.run_from_unsafe w ⟨b,0,none⟩ Tryz.underlying256 Tryz.underlying151 hj PQ R_];simp only [Result.andThen];rw [Oper.upon_value]
 go_wp2
 go_end0
 exact⟨rfl,rfl⟩
set_option maxHeartbeats 1000000 in
theorem Tryz.GY (b g cap:Nat) (cur:Array Value) (fr:Nat × Nat) (l:List UInt8) (w:World) (h1:w.cell? ⟨b,1,none⟩=some (.slice (some ⟨g,0,none⟩) l.length cap)) (hg:w.heap[g]? =some (.cells cur 5 fr)) (h0:l≠ []) (hl:l.length≤cap) (hm:l.length≤9223372036854775807) (hn:l.length≤cur.size)
  (hc: ∀ (j:Nat) (x:UInt8),l[j]? =some x→cur[j]? =some (Value.int .u8 x.toNat)):
  Calls Tryz.prog 76 #[.pointer (some ⟨b,0,none⟩)] w fun e w' =>e= .returned (.string ⟨l.toArray⟩)∧w' =w.drew.freeze ⟨g,0,none⟩ l.length:=by
 have T_:l.length≠0:=by simpa using h0
 have c1:w.drew.cell? ⟨b,1,none⟩=some (.slice (some ⟨g,0,none⟩) l.length cap):=h1;have hSD: (Builtin.unsafeSliceData_ #[82] 200 #[.slice (some ⟨g,0,none⟩) l.length cap]).run Tryz.prog w.drew= .ok (.pointer (some ⟨g,0,none⟩)) w.drew:=
  Lib.run_unsafeSliceData_row _ _ _ _ _ _ (by omega)
 have hUS: (Builtin.unsafeString_ #[200,3] 9 #[.pointer (some ⟨g,0,none⟩),.int .i64 l.length]).run Tryz.prog w.drew= .ok (.string ⟨l.toArray⟩) (w.drew.freeze ⟨g,0,none⟩ l.length):=by
  refine Lib.run_unsafeString_row w.drew 200 3 9 5 Tryz.underlying200 (by kernel_rfl) g cur.size (by have Xz :w.drew.heap[g]? =some (.cells cur 5 fr):=hg;simp [World.shape?,Xz]) l h0 hn hm ?_;intro j x hx;have Xz :w.drew.heap[g]? =some (.cells cur 5 fr):=hg;have:=hc j x hx;rw [show (⟨g,0,none⟩:Addr).add j= ⟨g,j,none⟩ from by cases j<;>simp [Addr.add],Lib.cell_of_heap Xz];exact this
 go_enter Tryz.func76,Tryz.f76
 go_wp2
 go_region
 all_goals (go_wp2;go_ret;exact⟨rfl,rfl⟩)
set_option maxHeartbeats 1000000 in
theorem Tryz.JG (b:Nat) (w:World) (h1:w.cell? ⟨b,1,none⟩=some (.slice none 0 0)):
  Calls Tryz.prog 76 #[.pointer (some ⟨b,0,none⟩)] w fun e w' =>e= .returned (.string ⟨#[]⟩)∧w' =w.drew:=by
 have c1:w.drew.cell? ⟨b,1,none⟩=some (.slice none 0 0):=h1;have hSD: (Builtin.unsafeSliceData_ #[82] 200 #[.slice none 0 0]).run Tryz.prog w.drew= .ok (.pointer none) w.drew:=rfl;have hUS: ∀ (W:World) (q:Option Addr),(Builtin.unsafeString_ #[200,3] 9 #[.pointer q,.int .i64 0]).run Tryz.prog W= .ok (.string .empty) W:=fun W q=>Lib.run_unsafeString_none W _ _ _ q
 go_enter Tryz.func76,Tryz.f76
 go_wp2
 go_region
 all_goals (go_wp2;go_ret;exact⟨rfl,rfl⟩)
end
end Go.Proofs
namespace Go.Proofs.YtpcgccdmmoggmaaGreatDoor
open Go Go.Vc Go.Proofs
section
variable {H H0 H' :ak} {R:Value→ak→Prop} {L:List It} {b:Nat} {out:List UInt8}
def BO (H0 H:ak) (b:Nat) (out:List UInt8) (L:List It):Prop:= ∃bp bv,(bp= .pointer none∨bp=at_ b 0)∧aL bv=true∧aw H0 H (.box b [bp,bv] 153:: .ay (tI bv out)::L)
theorem BO.new (o:aw H0 H (.box b [.pointer none,.slice none 0 0] 153::L)):BO H0 H b [] L:=
 ⟨_,_,.inl rfl,rfl,(o.add (Ext.refl _) (i:= .ay (tI (.slice none 0 0) [])) (.inl ⟨rfl,rfl⟩) (by intro k hk;simp [It.eL,tI,aV] at hk)).fW (by repeat(first|exact aY.refl|exact bu.here|apply aY.cons|apply bu.there))⟩
theorem BO.ext (d:BO H0 H b out L):Ext H0 H:=let ⟨_,_,_,_,o⟩:=d;o.ext
theorem BO.more (d:BO H0 H b out L) (hx:Ext H H'):BO H0 H' b out L:=let ⟨_,_,h1,h2,o⟩:=d; ⟨_,_,h1,h2,o.more hx⟩
theorem SF {bp bv:Value} (wH:bp= .pointer none∨bp=at_ b 0) (o:aw H0 H (.box b [bp,bv] 153::L))
  (h: ∀H',aw H0 H' (.box b [at_ b 0,bv] 153::L)→R (.tuple #[]) H'):ab Tryz.prog 128 #[at_ b 0] H R:=by
 have h1:=o.ll (b:=b) (cs:= [bp,bv]) (t:=153) (by repeat(first|exact ajP|apply ajO));intro wd hw;subst hw;have hc:=Lib.cell_of_heap h1 0;rcases wH with rfl|rfl
 ·have ff:aE wd.heap (at_ b 0) (at_ b 0) fun _ H' =>R (.tuple #[]) H' :=o.bK (f:=0) (by repeat(first|exact ajP|apply ajO)) (by simp) rfl (by repeat(first|exact bd.here|apply bd.there)) (fun H' o' _=>h H' o')
  have:=yI ff;refine(Tryz.zW b wd hc ?_ (Lib.frozen_of_heap h1 0)).mono fun e w' ⟨he,sO⟩=> ⟨_,he,?_,?_⟩
  ·simp [World.shape?,h1]
  ·subst sO;exact⟨rfl,rfl,rfl,fun _=>by first|exact ajR _|exact akh _⟩
  ·subst sO;exact this
 ·exact(Tryz.vD b 0 wd hc).mono fun e w' ⟨he,sO⟩=> ⟨_,he,by subst sO;exact dI.refl _,by subst sO;exact h _ o⟩
theorem SG {s:List UInt8} (hs:out.length+s.length≤140737488355328) (d:BO H0 H b out L) (h: ∀H',BO H0 H' b (out++s) L→R (.tuple #[i64 s.length,.nilIface]) H'):ab Tryz.prog 75 #[at_ b 0,str s] H R:=by
 obtain⟨bp,bv,wH,Bj,o⟩:=d;refine b7.vc _ _ _ _ ?_;unfold b7.res;refine SF wH o fun H1 o=>?_;rw [aA,ag,au];refine o.az (f:=0+1) (w:=bv) (by repeat(first|exact ajP|apply ajO)) rfl ?_;refine GD (new:=s) o (by repeat(first|exact bu.here|apply bu.there)) (by simp [mu,cn]) (by simp [cellsOf,cn]) hs fun v' H2 o=>?_;have h1:=GF o (by repeat(first|exact ajP|apply ajO));rw [aA,ag,au];refine o.bK (f:=0+1) (by repeat(first|exact ajP|apply ajO)) (by simp) h1 (by repeat(first|exact bd.here|apply bd.there)) fun H3 o _=>?_;refine aJ ?_;exact h H3 ⟨_,v',.inr rfl,h1,o.fW (by repeat(first|exact aY.refl|exact bu.here|apply aY.cons|apply bu.there))⟩
theorem Pu (hs:out.length≤140737488355328) (d:BO H0 H b out L) (h: ∀H' bp a c,aw H0 H' (.box b [bp,.slice a out.length c] 153::L)→R (str out) H'):ab Tryz.prog 76 #[at_ b 0] H R:=by
 obtain⟨bp,bv,wH,Bj,o⟩:=d;have h1:=o.ll (b:=b) (cs:= [bp,bv]) (t:=153) (by repeat(first|exact ajP|apply ajO));intro wd hw;subst hw;have hc:wd.cell? ⟨b,1,none⟩=some bv:=Lib.cell_of_heap h1 1;rcases o.ay (T:=tI bv out) (by repeat(first|exact ajP|apply ajO)) with ⟨rfl,rfl⟩ | ⟨h0,g,cap,sp,fr,rfl,hg,hf,Cg⟩
 ·refine(Tryz.JG b wd hc).mono fun e w' ⟨he,sO⟩=> ⟨_,he,by subst sO;exact⟨rfl,rfl,rfl,fun _=>by first|exact ajR _|exact akh _⟩,?_⟩
  subst sO;exact h _ bp _ _ o.sf
 ·have T_:out.length≠0:=by simpa using h0
  have QB: (wd.drew.freeze ⟨g,0,none⟩ out.length).heap=wd.heap.modify g fun
    | .cells c elem (lo,hi)=> .cells c elem (if lo==hi then (0,0+out.length) else (min lo 0,max hi (0+out.length)))
    |o=>o:=by
   unfold World.freeze;rw [if_neg T_]
   rfl
  refine(Tryz.GY b g cap _ fr out wd hc hg h0 (by omega) (by omega) (by simp) ?_).mono fun e w' ⟨he,sO⟩=> ⟨_,he,?_,?_⟩
  ·intro j x hx
   have hj:= (aku.1 hx).1;rw [akr,akx (by simpa using hj),ake,hx];rfl
  ·subst sO
   unfold World.freeze;rw [if_neg T_];exact⟨rfl,rfl,rfl,fun _=>by first|exact ajR _|exact akh _⟩
  ·subst sO
   have o2:aw H0 (wd.drew.freeze ⟨g,0,none⟩ out.length).heap (.box b [bp,.slice (some ⟨g,0,none⟩) out.length cap] 153:: .ay AS::L):=by
    rw [QB];refine o.nq (i:= .ay (tI (.slice (some ⟨g,0,none⟩) out.length cap) out)) (i' := .ay AS) (by repeat(first|exact bd.here|apply bd.there)) (by simp) (fun k hk d_=>?_) trivial (fun k hk=>hk.elim);rw [alK,if_neg];intro e;exact d_ (by simp [It.eL,tI,aV,e])
   exact h _ bp _ _ o2.sf
theorem XY {bp:Value} {n:Nat} {a:Option Addr} {c:Nat} (o:aw H0 H (.box b [bp,.slice a n c] 153::L)) (h:R (i64 n) H):ab Tryz.prog 100 #[at_ b 0] H R:=by
 refine fO.vc _ _ _ ?_;unfold fO.res;rw [aA,ag,au];exact o.az (f:=0+1) (w:= .slice a n c) (by repeat(first|exact ajP|apply ajO)) rfl h
end
section
set_option maxRecDepth 100000
variable {H H0 H' :ak} {R:Value→ak→Prop} {L:List It} {s:List UInt8}
abbrev Fp:=Fl × List UInt8
def cy (x:Fp) (a:Nat):Hd:= ⟨x.1.nm,x.1.t,x.2.length,x.1.iY.length,mq 0 x.1.iY,a,decide (x.1.iY= [])⟩
def mC (x:Fp):List UInt8:=bM (cy x 0)++ (x.2++c9 (cy x 0))
def a8 (l:List Fp):List UInt8:= (l.map mC).flatten
def bO:Nat→List Fp→List Hd
 |_,[]=> []
 |a,x::r=>cy x a::bO (a+ (mC x).length) r
def jh (l:List Hd):List UInt8:= (l.map kG).flatten
def fM (l:List Fp):List UInt8:=jh (bO 0 l)++uU l.length (jh (bO 0 l)).length (a8 l).length
def dL (l:List Fp):List UInt8:=a8 l++fM l
def mr (l:List Hd):List Value:=lN Hd.cells l
theorem qd (l:List Hd): (mr l).length=l.length*12:=ra BI
theorem pn (l m:List Fp):a8 (l++m)=a8 l++a8 m:=by simp [a8]
theorem wB (x:Fp):a8 [x]=mC x:=by simp [a8]
theorem DH (l m:List Hd):jh (l++m)=jh l++jh m:=by simp [jh]
theorem JH (x:Hd):jh [x]=kG x:=by simp [jh]
theorem j_: ∀ (a:Nat) (l:List Fp),(bO a l).length=l.length
 |_,[]=>rfl
 |a,x::r=>by rw [bO,aj2,j_,aj2]
theorem qe: ∀ (a:Nat) (l m:List Fp),bO a (l++m)=bO a l++bO (a+ (a8 l).length) m
 |a,[],m=>rfl
 |a,x::r,m=>by
  rw [akX,bO,qe,bO,akX]
  congr 2
  have: (a8 (x::r)).length= (mC x).length+ (a8 r).length:=by simp [a8]
  rw [this,←aly]
theorem fe {α:Type} {l:List α} {k:Nat} (h:k<l.length):l.take (k+1)=l.take k++ [l[k]]:=by rw [akq,ajV h];rfl
theorem BJ: ∀ {a:Nat} {l:List Fp} {k:Nat} (h:k<l.length) (h' :k< (bO a l).length),(bO a l)[k]=cy l[k] (a+ (a8 (l.take k)).length)
 |a,x::r,0,h,h' =>rfl
 |a,x::r,k+1,h,h' =>by
  have h1:k<r.length:=by simpa using h
  have e: (a8 ((x::r).take (k+1))).length= (mC x).length+ (a8 (r.take k)).length:=by simp [a8]
  simp only [bO,List.getElem_cons_succ];rw [BJ h1,e,aly]
structure jP (l:List Fp):Prop where
 Pv:nX (l.map Prod.fst)
 pk: ∀x∈l,x.2.length≤6000∧(x.1.iY= []→x.2= [])
theorem jP.len {l:List Fp} (g:jP l):l.length≤5:=by have:=g.Pv.len;rwa [aka] at this
theorem jP.sm {l:List Fp} (g:jP l) {x:Fp} (hx:x∈l) {a:Nat} (ha:a≤100000000):CQ (cy x a) where
 nm:=g.Pv.XX.nm _ (akn.2 ⟨x.1,akn.2 ⟨x,hx,rfl⟩,rfl⟩)
 t:=g.Pv.tm _ (akn.2 ⟨x,hx,rfl⟩)
 p:=by show x.2.length≤_;have:= (g.pk x hx).1;omega
 z:=by show x.1.iY.length≤_;have:=g.Pv.iY _ (akn.2 ⟨x,hx,rfl⟩);omega
 u:=zU _ _
 a:=ha
 k:=fun h=>by
  have h1:x.1.iY= []:=of_decide_eq_true h;exact⟨by show x.2.length=0;rw [(g.pk x hx).2 h1];rfl,by show x.1.iY.length=0;rw [h1];rfl⟩
theorem xB (h:Hd): (c9 h).length≤16:=by
 unfold c9
 split<;>simp [aD]
theorem jP.ent {l:List Fp} (g:jP l) {x:Fp} (hx:x∈l): (mC x).length≤6146∧(bM (cy x 0)).length≤130:=by
 have h1:= (g.pk x hx).1;have h2:=xB (cy x 0);have h3:= (g.sm hx (a:=0) (by omega)).nm.len;have h4: (bM (cy x 0)).length≤130:=by rw [kx];omega
 refine⟨?_,h4⟩;unfold mC;simp only [ajQ];omega
theorem jP.take {l:List Fp} (g:jP l) (k:Nat):jP (l.take k):=
 ⟨by rw [amk];exact g.Pv.take k,fun x hx=>g.pk x (akL hx)⟩
theorem JI {l:List Fp} (g:jP l): (a8 l).length≤6146*l.length:=by
 have: ∀m:List Fp,(∀x∈m,x∈l)→(a8 m).length≤6146*m.length:=by
  intro m
  induction m with
  |nil=>intro _;simp [a8]
  |cons x m ih=>
   intro hm;have h1:= (g.ent (hm x ajP)).1;have h2:=ih fun y hy=>hm y (ajO _ hy);have: (a8 (x::m)).length= (mC x).length+ (a8 m).length:=by simp [a8]
   rw [aj2];omega
 exact this l fun _ h=>h
theorem jP.Em {l:List Fp} (g:jP l) (k:Nat): (a8 (l.take k)).length≤30730:=by
 have h1:=JI (g.take k);have h2:= (g.take k).len;omega
theorem yR {l:List Fp} (g:jP l): ∀k,k≤l.length→(jh (bO 0 (l.take k))).length≤146*k
 |0,_=>by simp [bO,jh]
 |k+1,h=>by
  have ih:=yR g k (by omega);rw [fe (by omega),qe,DH,ajQ];have h1:= (g.sm (x:=l[k]) (ajZ _) (a:=0) (by omega)).nm.len;have: (jh (bO (0+ (a8 (l.take k)).length) [l[k]])).length≤146:=by
   rw [bO,bO,JH,nU];show 46+ (cy l[k] 0).nm.length≤146;omega
  omega
theorem zX {v:Value} {l:List Fp} (g:jP l) (hs:Sl H v 12 (mr (bO 0 l))) (h: ∀H',Ext H H' →R (str (fM l)) H'):ab Tryz.prog 45 #[v] H R:=by
 have iv: (mr (bO 0 l)).length=l.length*12:=by rw [qd,j_]
 have XZ:=g.len;refine pg.vc _ _ _ ?_;unfold pg.res;refine(aw.start (H:=H)).box fun b H1 o _=>?_;have d:BO H H1 b [] []:=BO.new o;refine hs.len iv (by decide) ?_;refine⟨fun a i H' => ∃k:Nat,i= .int .i64 (k:Int)∧a= .int .u64 ((a8 (l.take k)).length:Int)∧k≤l.length∧BO H H' b (jh (bO 0 (l.take k))) [],fun _ i _=>match i with| .int _ x=> (l.length - x).toNat|_=>0,⟨0,rfl,rfl,by omega,d⟩,?_⟩;clear o d;rintro _ _ _ H2 ⟨k,rfl,rfl,hk,d⟩;rw [aQ];refine ax (fun hc=>?_) (fun hc=>?_)
 ·have j5:k<l.length:=by omega
  have VO:k< (bO 0 l).length:=by rw [j_];exact j5
  have w5:=hs.ext d.ext;have he:=g.Em k;have iz:=yR g k hk;refine w5.at_ iv (by decide) (by omega) (by omega) fun p hp=>?_;rw [ajS] at hp;refine hp.kf w5 (ws:= (bO 0 l)[k].cells) (jN BI VO) rfl ?_;rw [BJ j5 VO,aj6];have sm:=g.sm (x:=l[k]) (ajZ _) (a:= (a8 (l.take k)).length) (by omega);obtain⟨x,hx⟩: ∃x,cy l[k] (a8 (l.take k)).length=x:= ⟨_,rfl⟩;have e1:x.a= (a8 (l.take k)).length:=by rw [←hx];rfl
  have e2:x.p=l[k].2.length:=by rw [←hx];rfl
  have e3:bM x=bM (cy l[k] 0):=by rw [←hx];rfl
  have e4:c9 x=c9 (cy l[k] 0):=by rw [←hx];rfl
  have e5:jh (bO 0 (l.take (k+1)))=jh (bO 0 (l.take k))++kG x:=by
   rw [fe j5,qe,DH,bO,bO,JH,aj6,hx]
  have e6: (a8 (l.take (k+1))).length=x.a+ (bM x).length+x.p+ (c9 x).length:=by
   rw [fe j5,pn,wB,ajQ,e1,e2,e3,e4];unfold mC;simp only [ajQ];omega
  have Yo :=g.Em (k+1);rw [e6] at Yo;rw [hx] at sm ⊢;have hcx: (kG x).length≤146:=by rw [nU];have:=sm.nm.len;omega
  obtain⟨bp,bv,YO,YX,o⟩:=d;refine o.box fun c H3 o _=>?_;refine o.bW (by repeat(first|exact ajP|apply ajO)) rfl rfl (tJ x) (by repeat(first|exact bd.here|apply bd.there)) fun H4 o _=>?_;refine o.bC (b:=c) (by repeat(first|exact ajP|apply ajO)) rfl ?_;refine uv sm fun H5 wQ=>?_;have o:=o.more wQ;refine kp ?_;rw [show (!true)=false from rfl,ao];refine aj ?_;refine o.az (b:=c) (f:=0+10) (w:= .int .u64 (x.a:Int)) (by repeat(first|exact ajP|apply ajO)) rfl ?_;refine o.bC (b:=c) (by repeat(first|exact ajP|apply ajO)) rfl ?_;refine aj ?_;refine o.az (b:=c) (f:=0+7) (w:= .int .u64 (x.p:Int)) (by repeat(first|exact ajP|apply ajO)) rfl ?_;refine o.bC (b:=c) (by repeat(first|exact ajP|apply ajO)) rfl ?_;refine rF sm fun H6 xn=>?_;have o:=o.more xn;refine⟨o.az (b:=c) (f:=0+10) (by repeat(first|exact ajP|apply ajO)) rfl rfl,o.az (b:=c) (f:=0+7) (by repeat(first|exact ajP|apply ajO)) rfl rfl,o.bC (b:=c) (by repeat(first|exact ajP|apply ajO)) rfl rfl,?_⟩;refine aJ ?_;refine cC ?_;rw [eX (by omega) (by omega),aC,eX (by omega) (by omega),aC,eX (by omega) (by omega)];refine rG sm fun H7 RA=>?_;have o:=o.more RA;refine⟨o.az (b:=c) (f:=0+10) (by repeat(first|exact ajP|apply ajO)) rfl rfl,o.az (b:=c) (f:=0+7) (by repeat(first|exact ajP|apply ajO)) rfl rfl,?_⟩;refine aJ ?_;refine cC ?_;rw [eX (by omega) (by omega),aC,eX (by omega) (by omega)];refine o.bC (b:=c) (by repeat(first|exact ajP|apply ajO)) rfl ?_;refine yO sm fun H8 Oy=>?_;have o:=o.more Oy;have d:BO H H8 b (jh (bO 0 (l.take k))) []:= ⟨bp,bv,YO,YX,o.arr (by repeat(first|exact dV.nil|exact bu.here|apply dV.cons|apply bu.there))⟩;refine SG (by omega) d fun H9 d=>?_;rw [aC,bH (by omega) (by omega)];refine⟨⟨k+1,rfl,?_,by omega,by rw [e5];exact d⟩,by show (_:Int).toNat< (_:Int).toNat;omega⟩;rw [e6];simp
 ·obtain rfl:k=l.length:=by omega
  have iz:=yR g _ hk;have he:=g.Em l.length;rw [aj8] at d iz he ⊢;refine Pu (by omega) d fun H3 bp a c o=>?_;refine hs.len iv (by decide) ?_;refine cC ?_;rw [eX (by omega) (by omega)];refine XY o ?_;refine cC ?_;rw [eX (by omega) (by omega)];refine DC (n:=l.length) (z:= (jh (bO 0 l)).length) (a:= (a8 l).length) (by omega) (by omega) (by omega) fun H4 tV=>?_;refine aT (by rw [nV];omega) ?_;exact h H4 (o.ext.trans tV)
end
section
set_option maxRecDepth 100000
variable {H H0 H' :ak} {R:Value→ak→Prop} {L:List It} {s:List UInt8}
def vO (b:Nat):ir where
 eL k:=k=b
 holds H:=VN H b
 frame:=fun h hf=> ⟨(hf b rfl).trans h.ll⟩
 lt:=fun h hf=>by obtain rfl:=hf;exact bw h.ll
def SH (lev:Nat) (x:Fp):Prop:= (x.1.iY= []→x.2= [])∧(x.1.iY≠ []→Nq x.1.iY lev x.2∧run ⟨.hd,toBits x.2,[]⟩= (x.1.iY,⟨.dn,[],x.1.iY⟩,0))∧x.2.length≤6000
theorem SH.one {lev:Nat} {x y:Fp} (h:SH lev x) (k:SH lev y) (e:x.1=y.1):x=y:=by
 obtain⟨f,a⟩:=x;obtain⟨f',b⟩:=y;simp only at e;subst e
 by_cases hd:f.iY= []
 ·exact congrArg _ ((show a= [] from h.1 hd).trans (show b= [] from k.1 hd).symm)
 ·exact congrArg _ (Pn (h.2.1 hd).1 (k.2.1 hd).1)
def mkC (fv:Value) (lev:Nat) (tb:Nat) (l:List Fp) (hv:Value) (rest:List UInt8) (tail:Bool):List Value:= [fv,i64 lev,Bl tb,i64 l.length,i64 (a8 l).length,hv,str rest,.bool tail]
abbrev Nu (b:Nat) (fv:Value) (fs:List Fl) (lev tb:Nat) (l:List Fp) (hv:Value) (rest:List UInt8) (tail:Bool) (L:List It):List It:=
 .box b (mkC fv lev tb l hv rest tail) 175:: .sl fv 8 (iZ fs):: .ay (vO tb):: .sl hv 12 (mr (bO 0 l))::L
theorem L3 {b:Nat} {fv:Value} {fs:List Fl} {lev tb:Nat} {l:List Fp} {hv:Value} {rest:List UInt8} {tail:Bool} (hT:Reads H0 ⟨5,0,none⟩ jU) (hG:Reads H0 ⟨0,0,none⟩ je) (tK:lev≤9) (gf:nX fs) (hl:l.map Prod.fst=fs.take l.length) (hk:l.length<fs.length) (g:jP l) (o:aw H0 H (Nu b fv fs lev tb l hv rest tail L))
  (h: ∀H' pk qN,SH lev (fs[l.length],pk)→aw H0 H' (Nu b fv fs lev tb (l++ [(fs[l.length],pk)]) qN rest tail L)→R (str (mC (fs[l.length],pk))) H'):ab Tryz.prog 198 #[at_ b 0] H R:=by
 have iv:=gM fs;have Ul:=gf.len;have En:=JI g;have XZ:=g.len;obtain⟨f,hf⟩: ∃f,fs[l.length]=f:= ⟨_,rfl⟩;have PT:f.iY.length≤400:=by rw [←hf];exact gf.iY _ (ajZ _)
 have htm:pQ f.t=true:=by rw [←hf];exact gf.tm _ (ajZ _)
 have Qj:zF f.nm:=by rw [←hf];exact gf.XX.nm _ (akn.2 ⟨_,ajZ _,rfl⟩)
 have VP: ((iZ fs).drop (l.length*8)).take 8=f.cells:=by rw [←hf];exact jN rM hk
 rw [hf] at h;refine gC.vc _ _ _ ?_;unfold gC.res;refine aI (aj ?_);refine o.az (b:=b) (f:=0+0) (w:=fv) (by repeat(first|exact ajP|apply ajO)) rfl ?_;refine aI (aj ?_);refine o.az (b:=b) (f:=0+3) (w:=i64 l.length) (by repeat(first|exact ajP|apply ajO)) rfl ?_;refine(o.sl (v:=fv) (by repeat(first|exact ajP|apply ajO))).at_ iv (by decide) (by omega) (by omega) fun p hp=>?_;rw [ajS] at hp;refine hp.kf (o.sl (by repeat(first|exact ajP|apply ajO))) VP rfl ?_;refine o.box fun b3 H1 o _=>?_;refine⟨o.az (b:=b) (f:=0+0) (by repeat(first|exact ajP|apply ajO)) rfl rfl,o.az (b:=b) (f:=0+3) (by repeat(first|exact ajP|apply ajO)) rfl rfl,hp.kf (o.sl (by repeat(first|exact ajP|apply ajO))) VP rfl rfl,?_⟩;refine o.bW (b:=b3) (by repeat(first|exact ajP|apply ajO)) rfl rfl (Bm f) (by repeat(first|exact bd.here|apply bd.there)) fun H2 o _=>?_;refine aI (aj ?_);refine o.az (b:=b) (f:=0+3) (w:=i64 l.length) (by repeat(first|exact ajP|apply ajO)) rfl ?_;rw [aC,bH (by omega) (by omega)];refine aI (aj ?_);refine o.bK (b:=b) (f:=0+3) (by repeat(first|exact ajP|apply ajO)) (ajU rfl) rfl (by repeat(first|exact bd.here|apply bd.there)) fun H3 o _=>?_;refine aj ?_;refine o.az (b:=b3) (f:=0+0) (w:=str f.nm) (by repeat(first|exact ajP|apply ajO)) rfl ?_;refine aj ?_;refine fU (o.ll (b:=b3) (by repeat(first|exact ajP|apply ajO))) (ws:=f.t.cells.toList) rfl (by rw [rM];decide) ?_;refine aI (aj ?_);refine o.az (b:=b) (f:=0+4) (w:=i64 (a8 l).length) (by repeat(first|exact ajP|apply ajO)) rfl ?_;refine cC ?_;rw [eX (by omega) (by omega)];refine aj ?_;refine o.az (b:=b3) (f:=0+7) (w:=str f.iY) (by repeat(first|exact ajP|apply ajO)) rfl ?_;refine pD ?_;refine aU rfl (ajU rfl) ?_;rw [fV];refine⟨rfl,ajU rfl,?_⟩;refine aU rfl (ajU rfl) ?_;refine aU rfl (ajU rfl) ?_;rw [bG];refine o.box fun b4 H4 o _=>?_;refine⟨o.az (b:=b3) (f:=0+0) (by repeat(first|exact ajP|apply ajO)) rfl rfl,fU (o.ll (b:=b3) (by repeat(first|exact ajP|apply ajO))) (ws:=f.t.cells.toList) rfl (by rw [rM];decide) rfl,o.az (b:=b) (f:=0+4) (by repeat(first|exact ajP|apply ajO)) rfl rfl,o.az (b:=b3) (f:=0+7) (by repeat(first|exact ajP|apply ajO)) rfl rfl,?_⟩;refine o.bW (b:=b4) (vs:= (⟨f.nm,f.t,0,0,0,(a8 l).length,decide (f.iY= [])⟩:Hd).cells) (by repeat(first|exact ajP|apply ajO)) rfl rfl (tJ _) (by repeat(first|exact bd.here|apply bd.there)) fun H5 o _=>?_;refine⟨fun v H' => ∃pk,v=str pk∧SH lev (f,pk)∧aw H0 H' (.box b4 (⟨f.nm,f.t,0,0,mq 0 f.iY,(a8 l).length,decide (f.iY= [])⟩:Hd).cells 44:: .box b3 f.cells 48:: .box b [fv,i64 lev,Bl tb,i64 (l.length+1:Nat),i64 (a8 l).length,hv,str rest,.bool tail] 175:: .sl fv 8 (iZ fs):: .ay (vO tb):: .sl hv 12 (mr (bO 0 l))::L),?_,?_⟩
 ·clear o
  rintro _ _ H6 ⟨pk,rfl,FU,o⟩;have DY:=FU.2.2;refine aJ ?_;refine cC ?_;rw [eX (by simp only at DY;omega) (by simp only at DY;omega)];refine aj ?_;refine o.az (b:=b3) (f:=0+7) (w:=str f.iY) (by repeat(first|exact ajP|apply ajO)) rfl ?_;refine aJ ?_;refine cC ?_;rw [eX (by omega) (by omega)];refine aj ?_;refine o.bK (b:=b4) (f:=0+7) (by repeat(first|exact ajP|apply ajO)) (ajU rfl) rfl (by repeat(first|exact bd.here|apply bd.there)) fun H7 o _=>?_;refine⟨o.az (b:=b3) (f:=0+7) (by repeat(first|exact ajP|apply ajO)) rfl rfl,?_⟩;refine aj ?_;refine o.bK (b:=b4) (f:=0+8) (by repeat(first|exact ajP|apply ajO)) (ajU rfl) rfl (by repeat(first|exact bd.here|apply bd.there)) fun H8 o _=>?_;have o:aw H0 H8 (.box b4 (cy (f,pk) (a8 l).length).cells 44:: .box b3 f.cells 48:: .box b [fv,i64 lev,Bl tb,i64 (l.length+1:Nat),i64 (a8 l).length,hv,str rest,.bool tail] 175:: .sl fv 8 (iZ fs):: .ay (vO tb):: .sl hv 12 (mr (bO 0 l))::L):=o;have g2:jP (l++ [(f,pk)]):=by
   refine⟨?_,fun x hx=>?_⟩
   ·rw [aky,hl,show [(f,pk)].map Prod.fst= [fs[l.length]] by rw [hf];rfl,←fe hk]
    exact gf.take _
   ·rcases akg.1 hx with hx|hx
    ·exact g.pk x hx
    ·obtain rfl:=akt.1 hx
     exact⟨DY,FU.1⟩
  have sm:CQ (cy (f,pk) (a8 l).length):=g2.sm (by simp) (by omega);refine aI (aj ?_);refine o.az (b:=b) (f:=0+5) (w:=hv) (by repeat(first|exact ajP|apply ajO)) rfl ?_;refine o.bC (b:=b4) (by repeat(first|exact ajP|apply ajO)) rfl ?_;refine o.ej (sz:=12) (by decide) rfl rfl fun y H9 o=>?_;refine⟨o.az (b:=b) (f:=0+5) (by repeat(first|exact ajP|apply ajO)) rfl rfl,?_⟩;refine o.append (n:=l.length) (m:=1) (by repeat(first|exact bu.here|apply bu.there)) rfl (o.sl (v:=y) (by repeat(first|exact ajP|apply ajO))) (by rw [qd,j_]) rfl (tJ _) (by omega) fun qN RU o=>?_;refine aI (aj ?_);refine o.bK (b:=b) (f:=0+5) (by repeat(first|exact ajP|apply ajO)) (ajU rfl) ((o.sl (v:=qN) (by repeat(first|exact ajP|apply ajO))).one) (by repeat(first|exact bd.here|apply bd.there)) fun UF o _=>?_;refine o.bC (b:=b4) (by repeat(first|exact ajP|apply ajO)) rfl ?_;refine o.bC (b:=b4) (by repeat(first|exact ajP|apply ajO)) rfl ?_;refine rF sm fun H12 XU=>?_;have o:=o.more XU;refine⟨o.bC (b:=b4) (by repeat(first|exact ajP|apply ajO)) rfl rfl,?_⟩;have xE: (bM (cy (f,pk) (a8 l).length)).length≤130:=by rw [kx];show 30+f.nm.length≤130;have:=Qj.len;omega
  have PX:=xB (cy (f,pk) (a8 l).length);refine aT (by simp only at DY;omega) ?_;refine rG sm fun H13 XV=>?_;have o:=o.more XV;refine aT (by rw [ajQ];simp only at DY;omega) ?_;have hE:bM (cy (f,pk) (a8 l).length)++pk++c9 (cy (f,pk) (a8 l).length)=mC (f,pk):=by rw [ajT];rfl
  rw [hE];have YM:= (g2.ent (x:= (f,pk)) (by simp)).1;refine aI (aj ?_);refine o.az (b:=b) (f:=0+4) (w:=i64 (a8 l).length) (by repeat(first|exact ajP|apply ajO)) rfl ?_;refine aJ ?_;rw [aC,bH (by omega) (by omega)];refine aI (aj ?_);refine o.bK (b:=b) (f:=0+4) (by repeat(first|exact ajP|apply ajO)) (ajU rfl) rfl (by repeat(first|exact bd.here|apply bd.there)) fun XH o _=>?_;refine h XH pk qN FU ?_;have e1:mkC fv lev tb (l++ [(f,pk)]) qN rest tail= [fv,i64 lev,Bl tb,i64 (l.length+1:Nat),.int .i64 (((a8 l).length:Int)+ (mC (f,pk)).length),qN,str rest,.bool tail]:=by
   unfold mkC;rw [pn,wB]
   simp
  have e2:mr (bO 0 (l++ [(f,pk)]))=mr (bO 0 l)++ (cy (f,pk) (a8 l).length).cells:=by
   rw [qe,mr,ij,bO,bO,k_,aj6];rfl
  unfold Nu;rw [e1,e2];have o:aw H0 XH (.sl y 12 (cy (f,pk) (a8 l).length).cells:: .box b4 (cy (f,pk) (a8 l).length).cells 44:: .box b3 f.cells 48:: .box b [fv,i64 lev,Bl tb,i64 (l.length+1:Nat),.int .i64 (((a8 l).length:Int)+ (mC (f,pk)).length),qN,str rest,.bool tail] 175:: .sl fv 8 (iZ fs):: .ay (vO tb):: .sl qN 12 (mr (bO 0 l)++ (cy (f,pk) (a8 l).length).cells)::L):=o.fW (by repeat(first|exact aY.refl|exact bu.here|apply aY.cons|apply bu.there));exact o.rN 3
 ·refine aj ?_
  refine o.az (b:=b4) (f:=0+11) (w:= .bool (decide (f.iY= []))) (by repeat(first|exact ajP|apply ajO)) rfl ?_;refine kp ?_
  by_cases hd:f.iY= []
  ·rw [decide_eq_true hd,show (!true)=false from rfl,ao]
   refine⟨[],rfl,⟨fun _=>rfl,fun hn=>absurd hd hn,by simp⟩,?_⟩;rw [decide_eq_true hd] at o;rw [show mq 0 f.iY=0 by rw [hd];rfl];exact o
  ·rw [decide_eq_false hd,show (!false)=true from rfl,aH]
   refine aj ?_;refine o.az (b:=b3) (f:=0+7) (w:=str f.iY) (by repeat(first|exact ajP|apply ajO)) rfl ?_;refine aI (aj ?_);refine o.az (b:=b) (f:=0+1) (w:=i64 lev) (by repeat(first|exact ajP|apply ajO)) rfl ?_;refine GU (hT.ext o.ext) (hG.ext o.ext) tK (by omega) fun H6 out hR jc hlen xn=>?_;have o:=o.more xn;refine ai (vs:= [str out,.int .i64 0]) rfl ?_;refine ai (vs:= [str out,.int .i64 0]) rfl ?_;refine aI (aj ?_);refine o.az (b:=b) (f:=0+2) (w:=Bl tb) (by repeat(first|exact ajP|apply ajO)) rfl ?_;refine aj ?_;refine o.az (b:=b3) (f:=0+7) (w:=str f.iY) (by repeat(first|exact ajP|apply ajO)) rfl ?_;refine Fy (by omega) (o.ay (T:=vO tb) (by repeat(first|exact ajP|apply ajO))) ?_;refine aj ?_;refine o.bK (b:=b4) (f:=0+9) (by repeat(first|exact ajP|apply ajO)) (ajU rfl) rfl (by repeat(first|exact bd.here|apply bd.there)) fun H7 o _=>?_;refine⟨out,rfl,⟨fun h=>absurd h hd,fun _=> ⟨hR,jc⟩,by show out.length≤6000;omega⟩,?_⟩;rw [decide_eq_false hd] at o;exact o
theorem L4 {b:Nat} {fv:Value} {fs:List Fl} {lev tb:Nat} {l:List Fp} {hv:Value} {rest:List UInt8} {tail:Bool} (hT:Reads H0 ⟨5,0,none⟩ jU) (hG:Reads H0 ⟨0,0,none⟩ je) (tK:lev≤9) (gf:nX fs) (hl:l.map Prod.fst=fs.take l.length) (hk:l.length<fs.length) (g:jP l) (o:aw H0 H (Nu b fv fs lev tb l hv rest tail L))
  (h: ∀H' pk qN,SH lev (fs[l.length],pk)→aw H0 H' (Nu b fv fs lev tb (l++ [(fs[l.length],pk)]) qN (mC (fs[l.length],pk)) tail L)→R (.bool true) H'):ab Tryz.prog 149 #[at_ b 0] H R:=by
 have XZ:=gf.len;refine dm.vc _ _ _ ?_;unfold dm.res;refine aI (aj ?_);refine o.az (b:=b) (f:=0+3) (w:=i64 l.length) (by repeat(first|exact ajP|apply ajO)) rfl ?_;refine aI (aj ?_);refine o.az (b:=b) (f:=0+0) (w:=fv) (by repeat(first|exact ajP|apply ajO)) rfl ?_;refine(o.sl (v:=fv) (by repeat(first|exact ajP|apply ajO))).len (gM fs) (by decide) ?_;rw [aQ,decide_eq_true (by omega),aH];refine L3 hT hG tK gf hl hk g o fun H1 pk qN hp o=>?_;refine aI (aj ?_);refine o.bK (b:=b) (f:=0+6) (by repeat(first|exact ajP|apply ajO)) (ajU rfl) rfl (by repeat(first|exact bd.here|apply bd.there)) fun H2 o _=>?_;exact h H2 pk qN hp o
theorem L5 {b:Nat} {fv:Value} {fs:List Fl} {lev tb:Nat} {l:List Fp} {hv:Value} {rest:List UInt8} (gf:nX fs) (hk:l.length=fs.length) (g:jP l) (o:aw H0 H (Nu b fv fs lev tb l hv rest false L))
  (h: ∀H',aw H0 H' (Nu b fv fs lev tb l hv (fM l) true L)→R (.bool true) H'):ab Tryz.prog 149 #[at_ b 0] H R:=by
 have XZ:=gf.len;refine dm.vc _ _ _ ?_;unfold dm.res;refine aI (aj ?_);refine o.az (b:=b) (f:=0+3) (w:=i64 l.length) (by repeat(first|exact ajP|apply ajO)) rfl ?_;refine aI (aj ?_);refine o.az (b:=b) (f:=0+0) (w:=fv) (by repeat(first|exact ajP|apply ajO)) rfl ?_;refine(o.sl (v:=fv) (by repeat(first|exact ajP|apply ajO))).len (gM fs) (by decide) ?_;rw [aQ,decide_eq_false (by omega),ao];refine aI (aj ?_);refine o.az (b:=b) (f:=0+7) (w:= .bool false) (by repeat(first|exact ajP|apply ajO)) rfl ?_;refine kp ?_;rw [show (!false)=true from rfl,aH];refine aI (aj ?_);refine o.bK (b:=b) (f:=0+7) (by repeat(first|exact ajP|apply ajO)) (ajU rfl) rfl (by repeat(first|exact bd.here|apply bd.there)) fun H1 o _=>?_;refine aI (aj ?_);refine o.az (b:=b) (f:=0+5) (w:=hv) (by repeat(first|exact ajP|apply ajO)) rfl ?_;refine zX g (o.sl (by repeat(first|exact ajP|apply ajO))) fun H2 rR=>?_;have o:=o.more rR;refine aI (aj ?_);refine o.bK (b:=b) (f:=0+6) (by repeat(first|exact ajP|apply ajO)) (ajU rfl) rfl (by repeat(first|exact bd.here|apply bd.there)) fun H3 o _=>?_;exact h H3 o
theorem L6 {b:Nat} {fv:Value} {fs:List Fl} {lev tb:Nat} {l:List Fp} {hv:Value} {rest:List UInt8} (gf:nX fs) (hk:l.length=fs.length) (o:aw H0 H (Nu b fv fs lev tb l hv rest true L))
  (h:R (.bool false) H):ab Tryz.prog 149 #[at_ b 0] H R:=by
 have XZ:=gf.len;refine dm.vc _ _ _ ?_;unfold dm.res;refine aI (aj ?_);refine o.az (b:=b) (f:=0+3) (w:=i64 l.length) (by repeat(first|exact ajP|apply ajO)) rfl ?_;refine aI (aj ?_);refine o.az (b:=b) (f:=0+0) (w:=fv) (by repeat(first|exact ajP|apply ajO)) rfl ?_;refine(o.sl (v:=fv) (by repeat(first|exact ajP|apply ajO))).len (gM fs) (by decide) ?_;rw [aQ,decide_eq_false (by omega),ao];refine aI (aj ?_);refine o.az (b:=b) (f:=0+7) (w:= .bool true) (by repeat(first|exact ajP|apply ajO)) rfl ?_;refine kp ?_;rw [show (!true)=false from rfl,ao];exact h
end
section
set_option maxRecDepth 100000
variable {H H0 H' :ak} {R:Value→ak→Prop} {L:List It} {s:List UInt8}
def zY (fs:List Fl) (lev:Nat) (X:List UInt8):Prop:= ∃l,jP l∧(∀x∈l,SH lev x)∧l.map Prod.fst=fs∧X=dL l
theorem Nv {lev:Nat}: ∀ {l m:List Fp},(∀x∈l,SH lev x)→(∀x∈m,SH lev x)→l.map Prod.fst=m.map Prod.fst→l=m
 | [],[],_,_,_=>rfl
 | [],_::_,_,_,h=>by simp at h
 |_::_,[],_,_,h=>by simp at h
 |x::l,y::m,hl,hm,h=>by
  simp only [akU,alk] at h;rw [(hl x ajP).one (hm y ajP) h.1,Nv (fun z hz=>hl z (ajO _ hz)) (fun z hz=>hm z (ajO _ hz)) h.2]
theorem zY.one {fs:List Fl} {lev:Nat} {X Y:List UInt8} (h:zY fs lev X) (k:zY fs lev Y):X=Y:=by
 obtain⟨l,_,h2,h3,rfl⟩:=h;obtain⟨m,_,k2,k3,rfl⟩:=k;rw [Nv h2 k2 (h3.trans k3.symm)]
def uE (H0 H:ak) (b:Nat) (fs:List Fl) (lev:Nat) (gone:List UInt8) (n:Nat) (L:List It):Prop:=
 ∃fv tb l hv rest tail,jP l∧(∀x∈l,SH lev x)∧l.map Prod.fst=fs.take l.length∧l.length≤fs.length∧(tail=true→l.length=fs.length)∧
  gone++rest= (if tail=true then dL l else a8 l)∧n= (5 - l.length)*7000+ (if tail=true then 0 else 1000)+rest.length∧aw H0 H (Nu b fv fs lev tb l hv rest tail L)
theorem uE.nq {b:Nat} {fs:List Fl} {lev n:Nat} {gone:List UInt8} {L' :List It} (st:uE H0 H b fs lev gone n L) (h: ∀fv tb l hv rest tail,aw H0 H (Nu b fv fs lev tb l hv rest tail L)→aw H0 H' (Nu b fv fs lev tb l hv rest tail L')):uE H0 H' b fs lev gone n L' :=by
 obtain⟨fv,tb,l,hv,rest,tail,h1,h2,h3,h4,h5,h6,h7,o⟩:=st;exact⟨fv,tb,l,hv,rest,tail,h1,h2,h3,h4,h5,h6,h7,h _ _ _ _ _ _ o⟩
theorem UZ (x:Fp):mC x≠ []:=fun h=>by
 have: (mC x).length=0:=by rw [h];rfl
 unfold mC at this;rw [ajQ,kx] at this;omega
theorem SI (l:List Fp):fM l≠ []:=fun h=>by
 have: (fM l).length=0:=by rw [h];rfl
 unfold fM at this;rw [ajQ,nV] at this;omega
theorem JJ {l:List Fp} (g:jP l): (fM l).length≤752:=by
 have h1:=yR g l.length (ajR _);have h2:=g.len;rw [aj8] at h1;unfold fM;rw [ajQ,nV];omega
theorem zZ {b:Nat} {fv:Value} {fs:List Fl} {lev tb:Nat} {l:List Fp} {hv:Value} {rest gone:List UInt8} {tail:Bool} {n:Nat} (hp:jP l) (hk: ∀x∈l,SH lev x) (hl:l.map Prod.fst=fs.take l.length) (hle:l.length≤fs.length) (ht:tail=true→l.length=fs.length)
  (hg:gone++rest= (if tail=true then dL l else a8 l)) (hn:n= (5 - l.length)*7000+ (if tail=true then 0 else 1000)+rest.length) (o:aw H0 H (Nu b fv fs lev tb l hv rest tail L)) (hr:rest≠ [])
  (h1: ∀H' SJ n',n' <n→uE H0 H' b fs lev (gone++SJ) n' L→R (.tuple #[str SJ,.bool true]) H'):
  aB (at_ b 0) fun dG=>aa 6 dG fun da=>al H da fun db=>bc db fun cX=>np cX (.int .i64 256) fun dq=>aB (at_ b 0) fun c8=>aa 6 c8 fun dK=>al H dK fun dt=>bt dt none (some dq) fun dX=>
   aB (at_ b 0) fun fF=>aa 6 fF fun fD=>al H fD fun gJ=>bt gJ (some dq) none fun iu=>aB (at_ b 0) fun jJ=>aa 6 jJ fun jK=>aE H jK iu fun _ cm=>R (.tuple #[dX,(.bool true)]) cm:=by
 have Gi:0<rest.length:=List.length_pos_iff.2 hr;refine aI (aj ?_);refine o.az (b:=b) (f:=0+6) (w:=str rest) (by repeat(first|exact ajP|apply ajO)) rfl ?_;refine aJ ?_;have hm:np (.int .i64 (rest.length:Int)) (.int .i64 256)=fun K:Value→Prop=>K (.int .i64 ((min rest.length 256:Nat):Int)):=by
  funext K
  simp only [qm]
  congr 2
  omega
 rw [hm];refine aI (aj ?_);refine o.az (b:=b) (f:=0+6) (w:=str rest) (by repeat(first|exact ajP|apply ajO)) rfl ?_;refine bz (lo:=0) (hi:=min rest.length 256) (.inr ⟨rfl,rfl⟩) (.inl rfl) (by omega) (by omega) ?_;refine aI (aj ?_);refine o.az (b:=b) (f:=0+6) (w:=str rest) (by repeat(first|exact ajP|apply ajO)) rfl ?_;refine bz (lo:=min rest.length 256) (hi:=rest.length) (.inl rfl) (.inr ⟨rfl,rfl⟩) (by omega) (by omega) ?_;refine aI (aj ?_);refine o.bK (b:=b) (f:=0+6) (by repeat(first|exact ajP|apply ajO)) (ajU rfl) rfl (by repeat(first|exact bd.here|apply bd.there)) fun H1 o _=>?_;have e2: (rest.drop (min rest.length 256)).take (rest.length - min rest.length 256)=rest.drop (min rest.length 256):=aj9 (by rw [aj1];omega);rw [ako,akG];rw [e2] at o;refine h1 H1 _ _ ?_ ⟨fv,tb,l,hv,rest.drop (min rest.length 256),tail,hp,hk,hl,hle,ht,?_,rfl,o⟩
 ·rw [aj1,hn];omega
 ·rw [ajT,akf];exact hg
theorem Pw {b:Nat} {fs:List Fl} {lev n:Nat} {gone:List UInt8} (hT:Reads H0 ⟨5,0,none⟩ jU) (hG:Reads H0 ⟨0,0,none⟩ je) (tK:lev≤9) (gf:nX fs) (st:uE H0 H b fs lev gone n L)
  (h1: ∀H' SJ n',n' <n→uE H0 H' b fs lev (gone++SJ) n' L→R (.tuple #[str SJ,.bool true]) H')
  (h0: ∀H',zY fs lev gone→uE H0 H' b fs lev gone n L→R (.tuple #[str [],.bool false]) H'):ab Tryz.prog 104 #[at_ b 0] H R:=by
 obtain⟨fv,tb,l,hv,rest,tail,hp,hk,hl,hle,ht,hg,hn,o⟩:=st;have hf5:=gf.len;refine gB.vc _ _ _ ?_;unfold gB.res;rw [show eA 3 (at_ b 0) (.pointer none)=fun K:Value→Prop=>K (.bool false) by rfl];refine bh ?_;refine aI (aj ?_);refine o.az (b:=b) (f:=0+6) (w:=str rest) (by repeat(first|exact ajP|apply ajO)) rfl ?_;refine pD ?_
 by_cases hr:rest= []
 ·subst hr
  rw [decide_eq_true rfl];refine bX ?_;rw [akb] at hg
  by_cases VQ:l.length<fs.length
  ·have htf:tail=false:=by cases tail;rfl;exact absurd (ht rfl) (by omega)
   subst htf;refine L4 hT hG tK gf hl VQ hp o fun H1 pk qN FU o=>?_;refine kp ?_;intro _ _;rw [show (!true)=false from rfl,ao];have D8:jP (l++ [(fs[l.length],pk)]):=by
    refine⟨?_,fun x hx=>?_⟩
    ·rw [aky,hl,show [(fs[l.length],pk)].map Prod.fst= [fs[l.length]] from rfl,←fe VQ]
     exact gf.take _
    ·rcases akg.1 hx with hx|hx
     ·exact hp.pk x hx
     ·obtain rfl:=akt.1 hx
      exact⟨FU.2.2,FU.1⟩
   have hE:= (D8.ent (x:= (fs[l.length],pk)) (by simp)).1;refine zZ (gone:=gone) (n:=_) D8 (fun x hx=>?_) ?_ ?_ (fun h=>by cases h) ?_ rfl o (UZ _) fun H2 SJ n' Zl st=>h1 H2 SJ n' (akO Zl ?_) st
   ·rcases akg.1 hx with hx|hx
    ·exact hk x hx
    ·obtain rfl:=akt.1 hx;exact FU
   ·rw [aky,hl,ajQ,show [(fs[l.length],pk)].length=1 from rfl,fe VQ];rfl
   ·rw [ajQ,show [(fs[l.length],pk)].length=1 from rfl];omega
   ·rw [hg]
    show a8 l++mC _=a8 (l++_);rw [pn,wB]
   ·rw [hn,ajQ,show [(fs[l.length],pk)].length=1 from rfl]
    simp only [aj7,akS,if_false];omega
  ·have VQ:l.length=fs.length:=by omega
   cases tail with
   |true=>
    refine L6 gf VQ o ?_;refine kp ?_;intro _ _;rw [show (!false)=true from rfl,aH];refine h0 H ⟨l,hp,hk,by rw [hl,VQ,aj8],hg⟩ ⟨fv,tb,l,hv,[],true,hp,hk,hl,hle,ht,by rw [akb];exact hg,hn,o⟩
   |false=>
    refine L5 gf VQ hp o fun H1 o=>?_;refine kp ?_;intro _ _;rw [show (!true)=false from rfl,ao];have Jb:=JJ hp;refine zZ (gone:=gone) (n:=_) hp hk hl hle (fun _=>VQ) ?_ rfl o (SI _) fun H2 SJ n' Zl st=>h1 H2 SJ n' (akO Zl ?_) st
    ·rw [hg];rfl
    ·rw [hn]
     simp only [aj7,akS,if_false,if_true];omega
 ·rw [decide_eq_false hr]
  rw [fH];intro _ _;rw [ao];exact zZ hp hk hl hle ht hg hn o hr h1
theorem SK {v:Value} {fs:List Fl} {lev:Nat} (hs:Sl H v 8 (iZ fs)) (gf:nX fs) (tK:lev≤9) (h: ∀H' b,uE H H' b fs lev [] 36000 []→R (.tuple #[at_ b 0,.int .i64 0]) H'):ab Tryz.prog 48 #[v,.int .i64 (lev:Int)] H R:=by
 have hf5:=gf.len;refine nf.vc _ _ _ _ ?_;unfold nf.res;refine AY hs gf tK fun H1 nP=>?_;refine ai (vs:= [.int .i64 0,.int .i64 0]) rfl ?_;refine ai (vs:= [.int .i64 0,.int .i64 0]) rfl ?_;refine jD ?_;rw [ao];have o:=yQ 8 (by decide) ((aw.start (H:=H)).more nP);refine o.append (n:=0) (m:=fs.length) (by repeat(first|exact bu.here|apply bu.there)) rfl (hs.ext nP) rfl (gM fs) (wA Bm) (by omega) fun fv H2 o=>?_;refine xz fun H3 tb ht wx hb3=>?_;have o:=o.add wx (i:= .ay (vO tb)) ht (by intro k hk;obtain rfl:k=tb:=hk;exact hb3);refine aU (o.sl (v:=fv) (by repeat(first|exact ajP|apply ajO))).one (ajU rfl) ?_;refine aU rfl (ajU rfl) ?_;refine aU rfl (ajU rfl) ?_;rw [bG];refine o.box fun b H4 o _=>?_;have o:=yQ 12 (by decide) o;refine h H4 b ⟨fv,tb,[],.slice none 0 0,[],false,⟨gf.take 0,(fun x hx=>nomatch hx)⟩,(fun x hx=>nomatch hx),rfl,akj _,(fun h=>nomatch h),rfl,rfl,o.fW (by repeat(first|exact aY.refl|exact bu.here|apply aY.cons|apply bu.there))⟩
theorem Px {b:Nat} (h: ∀H' mb,aw H H' [.box mb [at_ b 0] 111]→R (.func (.func 103) #[] #[at_ mb 0]) H'):ab Tryz.prog 49 #[at_ b 0] H R:=by
 refine ie.vc _ _ _ ?_;unfold ie.res;refine(aw.start (H:=H)).box fun mb H1 o _=>?_;exact h H1 mb o
end
section
set_option maxRecDepth 100000
variable {H H0 H' :ak} {R:Value→ak→Prop} {L:List It} {s:List UInt8}
structure Ev where
 k:Nat
 h:Hd
 x:List UInt8
def Ev.cells (e:Ev):List Value:=i64 e.k:: (e.h.cells++ [str e.x])
theorem Nw (e:Ev):e.cells.length=14:=rfl
theorem JK (e:Ev):e.cells.all aL=true:=rfl
def pq (l:List Ev):List Value:=lN Ev.cells l
theorem tL (l:List Ev): (pq l).length=l.length*14:=ra Nw
inductive Tr (l:List Fp):List Ev→Nat→Option (List UInt8)→Prop
 |nil:Tr l [] 0 none
 |beg {E k h} (hk:k<l.length) (t:Tr l E k none) (h1:h.nm=l[k].1.nm) (h2:h.t=l[k].1.t):Tr l (E++ [⟨1,h,[]⟩]) k (some [])
 |iY {E k W x} (t:Tr l E k (some W)):Tr l (E++ [⟨2,Hd.zero,x⟩]) k (some (W++x))
 |fil {E k h} (hk:k<l.length) (t:Tr l E k (some l[k].1.iY)) (h1:h.nm=l[k].1.nm) (h2:h.t=l[k].1.t):Tr l (E++ [⟨3,h,[]⟩]) (k+1) none
 |don {E} (t:Tr l E l.length none):Tr l (E++ [⟨4,Hd.zero,[]⟩]) l.length none
structure Pd where
 tb:Nat
 rest:List UInt8
 st:Nat
 at' :Nat
 en:Nat
 h:Hd
 Aw:Bool
 d:Value
 dP:Nat
 hv:Value
 nv:Value
 tail:List UInt8
 ov:Value
def Pd.cells (p:Pd):List Value:= [Bl p.tb,str p.rest,i64 p.st,i64 p.at',i64 p.en,str p.h.nm,.int .i64 p.h.t.y,.int .i64 p.h.t.m,.int .i64 p.h.t.d,.int .i64 p.h.t.h,.int .i64 p.h.t.n,.int .i64 p.h.t.s,.int .u64 (p.h.p:Int),.int .u64 (p.h.z:Int),.int .u32 (p.h.u:Int),.int .u64 (p.h.a:Int),.bool p.h.k,.bool p.Aw,p.d,i64 p.dP,p.hv,p.nv,str p.tail,p.ov,.int .i64 0]
abbrev fC (b:Nat) (p:Pd) (hs:List Hd) (ns:List (List UInt8)) (E:List Ev) (L:List It):List It:=
 .box b p.cells 105:: .ay (vO p.tb):: .sl p.hv 12 (mr hs):: .sl p.nv 1 (iC ns):: .sl p.ov 14 (pq E)::L
theorem uF {b n:Nat} {p:Pd} {hs:List Hd} {ns:List (List UInt8)} {E:List Ev} (hn:n≤p.rest.length) (ji:p.at' +p.rest.length≤100000000) (o:aw H0 H (fC b p hs ns E L))
  (h: ∀H',aw H0 H' (fC b {p with rest:=p.rest.drop n,at' :=p.at' +n} hs ns E L)→R (str (p.rest.take n)) H'):ab Tryz.prog 140 #[at_ b 0,.int .i64 (n:Int)] H R:=by
 refine gR.vc _ _ _ _ ?_;unfold gR.res;refine aI (aj ?_);refine o.az (b:=b) (f:=0+1) (w:=str p.rest) (by repeat(first|exact ajP|apply ajO)) rfl ?_;refine bz (lo:=0) (hi:=n) (.inr ⟨rfl,rfl⟩) (.inl rfl) (by omega) hn ?_;refine aI (aj ?_);refine o.az (b:=b) (f:=0+1) (w:=str p.rest) (by repeat(first|exact ajP|apply ajO)) rfl ?_;refine bz (lo:=n) (hi:=p.rest.length) (.inl rfl) (.inr ⟨rfl,rfl⟩) hn (ajR _) ?_;refine aI (aj ?_);refine o.bK (b:=b) (f:=0+1) (by repeat(first|exact ajP|apply ajO)) (ajU rfl) rfl (by repeat(first|exact bd.here|apply bd.there)) fun H1 o _=>?_;refine aI (aj ?_);refine o.az (b:=b) (f:=0+3) (w:=i64 p.at') (by repeat(first|exact ajP|apply ajO)) rfl ?_;rw [aC,bH (by omega) (by omega)];refine aI (aj ?_);refine o.bK (b:=b) (f:=0+3) (by repeat(first|exact ajP|apply ajO)) (ajU rfl) rfl (by repeat(first|exact bd.here|apply bd.there)) fun H2 o _=>?_;rw [ako,akG];rw [aj9 (l:=p.rest.drop n) (by rw [aj1];omega)] at o;exact h H2 o
theorem AZ {b:Nat} {p:Pd} {hs:List Hd} {ns:List (List UInt8)} {E:List Ev} (hhs:hs.length≤100) (hE:E.length≤100000) (o:aw H0 H (fC b p hs ns E L))
  (h: ∀H' qN oe,aw H0 H' (fC b {p with hv:=qN,en:=p.at',ov:=oe,st:=0} (hs++ [p.h]) ns (E++ [⟨3,p.h,[]⟩]) L)→R (.tuple #[]) H'):ab Tryz.prog 141 #[at_ b 0] H R:=by
 refine gm.vc _ _ _ ?_;unfold gm.res;refine aI (aj ?_);refine o.az (b:=b) (f:=0+20) (w:=p.hv) (by repeat(first|exact ajP|apply ajO)) rfl ?_;refine aI (aj ?_);refine fU (o.ll (b:=b) (by repeat(first|exact ajP|apply ajO))) (ws:=p.h.cells) rfl (ajU rfl) ?_;refine o.ej (sz:=12) (by decide) rfl rfl fun y H1 o=>?_;refine⟨o.az (b:=b) (f:=0+20) (by repeat(first|exact ajP|apply ajO)) rfl rfl,?_⟩;refine o.append (n:=hs.length) (m:=1) (by repeat(first|exact bu.here|apply bu.there)) rfl (o.sl (v:=y) (by repeat(first|exact ajP|apply ajO))) (qd _) rfl (tJ _) (by omega) fun qN H2 o=>?_;refine aI (aj ?_);refine o.bK (b:=b) (f:=0+20) (by repeat(first|exact ajP|apply ajO)) (ajU rfl) ((o.sl (v:=qN) (by repeat(first|exact ajP|apply ajO))).one) (by repeat(first|exact bd.here|apply bd.there)) fun H3 o _=>?_;refine aI (aj ?_);refine o.az (b:=b) (f:=0+3) (w:=i64 p.at') (by repeat(first|exact ajP|apply ajO)) rfl ?_;refine aI (aj ?_);refine o.bK (b:=b) (f:=0+4) (by repeat(first|exact ajP|apply ajO)) (ajU rfl) rfl (by repeat(first|exact bd.here|apply bd.there)) fun H4 o _=>?_;refine aI (aj ?_);refine o.az (b:=b) (f:=0+23) (w:=p.ov) (by repeat(first|exact ajP|apply ajO)) rfl ?_;refine aI (aj ?_);refine fU (o.ll (b:=b) (by repeat(first|exact ajP|apply ajO))) (ws:=p.h.cells) rfl (ajU rfl) ?_;refine aU rfl (ajU rfl) ?_;rw [fV];refine⟨rfl,ajU rfl,?_⟩;rw [bG];refine o.ej (sz:=14) (by decide) rfl rfl fun z H5 o=>?_;refine⟨o.az (b:=b) (f:=0+23) (by repeat(first|exact ajP|apply ajO)) rfl rfl,?_⟩;refine o.append (n:=E.length) (m:=1) (by repeat(first|exact bu.here|apply bu.there)) rfl (o.sl (v:=z) (by repeat(first|exact ajP|apply ajO))) (tL _) rfl (JK ⟨3,p.h,[]⟩) (by omega) fun oe H6 o=>?_;refine aI (aj ?_);refine o.bK (b:=b) (f:=0+23) (by repeat(first|exact ajP|apply ajO)) (ajU rfl) ((o.sl (v:=oe) (by repeat(first|exact ajP|apply ajO))).one) (by repeat(first|exact bd.here|apply bd.there)) fun H7 o _=>?_;refine aI (aj ?_);refine o.bK (b:=b) (f:=0+2) (by repeat(first|exact ajP|apply ajO)) (ajU rfl) rfl (by repeat(first|exact bd.here|apply bd.there)) fun H8 o _=>?_;refine h H8 qN oe ?_;have e1:mr (hs++ [p.h])=mr hs++p.h.cells:=by rw [mr,ij,k_];rfl
 have e2:pq (E++ [⟨3,p.h,[]⟩])=pq E++ (Ev.cells ⟨3,p.h,[]⟩):=by rw [pq,ij,k_];rfl
 unfold fC;rw [e1,e2];have o:aw H0 H8 (.sl z 14 (Ev.cells ⟨3,p.h,[]⟩):: .sl y 12 p.h.cells:: .box b ({p with hv:=qN,en:=p.at',ov:=oe,st:=0}:Pd).cells 105:: .ay (vO p.tb):: .sl qN 12 (mr hs++p.h.cells):: .sl p.nv 1 (iC ns):: .sl oe 14 (pq E++Ev.cells ⟨3,p.h,[]⟩)::L):=o.fW (by repeat(first|exact aY.refl|exact bu.here|apply aY.cons|apply bu.there));exact o.rN 2
end
section
set_option maxRecDepth 100000
variable {H H0 H' :ak} {R:Value→ak→Prop} {L:List It} {b dP:Nat} {D D' :DM} {S:ir}
def SL (b:Nat) (D:DM) (dP:Nat) (S:ir):Prop:= ∀ (H0 H:ak) (N:List It),aw H0 H (.ay S::N)→∃M,vG H0 H b D dP (M++N)
theorem U0 (o:aw H0 H L) (h: ∀H' b S,SL b ⟨.hd,[],[]⟩ 0 S→aw H0 H' (.ay S::L)→R (at_ b 0) H'):ab Tryz.prog 123 #[] H R:=by
 refine Fs o fun H1 b r=>?_;obtain⟨q,hq,d⟩:=r;obtain⟨P,hP,o⟩:=d.Sd;refine h H1 b (qu P) (fun H0 H N o=> ⟨[],q,?_,hP H0 H N (nT o)⟩) (qK o);obtain⟨st,last,left,sy,di,h1,h2,h3,h4,h5,h6⟩:=hq;exact⟨st,last,left,sy,di,h1,h2,h3,h4,h5,h6⟩
theorem SM {s ot:List UInt8} (hG:Reads H0 ⟨4,0,none⟩ je) (hd:SL b D dP S) (o:aw H0 H (.ay S::L)) (hl:mO D.st) (u0:D.W.length+258* (D.B.length+8*s.length)≤1000000000000) (XE:dP+s.length≤1000000000000)
  (jc:run (D.add (toBits s))= (ot,D',0)) (h: ∀H' S',SL b D' (dP+s.length) S' →aw H0 H' (.ay S' ::L)→R (.tuple #[str ot,.int .i64 0]) H'):ab Tryz.prog 124 #[at_ b 0,str s] H R:=by
 have o1:aw H0 H (.ay S:: [.ay (qu L)]):= (qK (P:=L) (L:= [.ay S]) (o.perm (List.perm_append_comm (l₁:= [.ay S]) (l₂:=L)).symm)).perm (List.Perm.swap _ _ _);obtain⟨M,r⟩:=hd _ _ _ o1;refine Dk hG r hl u0 XE (fun o2 D2 H2 M2 hr r=>?_) (fun o2 D2 e H2 M2 hr he _=>?_)
 ·rw [jc] at hr
  cases hr
  obtain⟨q,hq,d⟩:=r;obtain⟨P,hP,o⟩:=d.Sd;have o:aw H0 H2 ((P++ (M2++M))++ [.ay (qu L)]):=by simpa using o
  have hq:uX ((M2++M)++ .ay (qu L):: []) (i64 (dP+s.length)) D'.st q:=by simpa using hq
  refine h H2 (qu (P++ (M2++M))) (fun H0 H N o=> ⟨M2++M,q,hq.BD.mono fun i hi=>?_,hP H0 H _ ?_⟩) ?_
  ·rw [akb] at hi;exact ald _ hi
  ·rw [←ajT];exact nT o
  ·have o3:= (qK o).perm (List.Perm.swap _ _ _)
   have o4:=nT o3;exact o4.perm (List.perm_append_comm (l₁:= [_]) (l₂:=L))
 ·rw [jc] at hr
  cases hr
  exact absurd rfl he
theorem SN (hd:SL b D dP S) (o:aw H0 H (.ay S::L)) (h:R (.bool D.st.mm) H):ab Tryz.prog 125 #[at_ b 0] H R:=by
 obtain⟨M,r⟩:=hd _ _ _ o;exact uA r h
theorem SO (hd:SL b D dP S) (o:aw H0 H (.ay S::L)) (hn:D.st.mm=true) (h: ∀H',Ext H H' →R (str (a7 ((eZ D.B).take (8* (D.B.length/8))))) H'):ab Tryz.prog 126 #[at_ b 0] H R:=by
 obtain⟨M,r⟩:=hd _ _ _ o;exact xu r hn h
theorem SP (hd:SL b D dP S) (o:aw H0 H (.ay S::L)) (hn:D.st.mm=true) (hf:dP≤1000000000000) (hB:D.B.length≤8000000000000) (h: ∀H',Ext H H' →R (.int .i64 ((dP:Int) - ((a7 ((eZ D.B).take (8* (D.B.length/8)))).length:Int))) H'):ab Tryz.prog 142 #[at_ b 0] H R:=by
 obtain⟨M,r⟩:=hd _ _ _ o;exact LN r hn hf hB h
end
end Go.Proofs.YtpcgccdmmoggmaaGreatDoor
namespace Go.Vc
open Go
section
variable {H H0:ak} {L M:List It}
theorem pB.xC {v x:Value} {sz bytes m n:Nat} {e:TypeId} {zero l new:List Value} {K:Value→ak→Prop} (h:pB H v sz l) (hz:0<sz) (hzero:zero.length=sz) (hlen:mu x=some m) (mi:cellsOf H sz x=some new)
  (hl:l.length=n*sz) (hm:new.length=m*sz) (qn:new.all aL=true) (pK:2* (n+m)*bytes≤281474976710656)
  (hk: ∀v' H',pB H' v' sz (l++new)→pB H' v sz l→(∀i,i<H.size→aV v≠some i→H'[i]? =H[i]?)→H.size≤H'.size→K v' H'):bg H e sz bytes zero v x K:=by
 rcases h with ⟨rfl,rfl⟩ | ⟨b,n',cap,sp,rfl,⟨t,fr,hb,hf⟩,FN,hc⟩
 ·exact pB.append (.inl ⟨rfl,rfl⟩) hz hzero hlen mi hl hm qn pK fun v' H' o h1 h2 h3=>hk v' H' o (.inl ⟨rfl,rfl⟩) h1 h2
 ·have Wo:n' =n:=alS hz (FN.symm.trans hl)
  subst Wo;simp only [bg,hlen,mi];refine⟨fun hle=>?_,fun eF=>?_⟩
  ·have D7:new.length≤sp.length:=by
    rw [ajQ] at hc;have:=akZ sz hle;rw [akJ] at this;omega
   simp only [au,aj6];rw [mQ hf new H (n' *sz) 0 (l++sp) hb qn (by rw [ajQ];omega) hc];simp only [akp];rw [←FN,s8 new l sp D7];refine hk _ _ (.inr ⟨b,n' +m,cap,sp.drop new.length,rfl,⟨⟨t,fr,cB (bw hb),hf⟩,?_,?_⟩⟩) (.inr ⟨b,n',cap,new++sp.drop new.length,rfl,⟨⟨t,fr,?_,hf⟩,FN,?_⟩⟩) (fun i hi d_=>?_) (by simp)
   ·rw [ajQ,FN,hm,akJ]
   ·rw [ajQ,ajQ,aj1]
    rw [ajQ] at hc;omega
   ·rw [←ajT];exact cB (bw hb)
   ·rw [ajQ,ajQ,aj1]
    rw [ajQ] at hc;omega
   ·exact dW (by intro e;subst e;simp [aV] at d_)
  ·refine⟨pK,?_⟩
   have hr:cellsOf H sz (.slice (some ⟨b,0,none⟩) n' cap)=some l:=by
    have:= (pB.sl hz (.inr ⟨b,n',cap,sp,rfl,⟨⟨t,fr,hb,hf⟩,FN,hc⟩⟩:pB H (.slice (some ⟨b,0,none⟩) n' cap) sz l)).cellsOf;exact this
   rw [hr];intro c lz;refine hk _ _ (.inr ⟨H.size,n' +m,c,jG zero (c - (n' +m)),rfl,⟨⟨e,(0,0),cR,.inl rfl⟩,?_,?_⟩⟩) (.inr ⟨b,n',cap,sp,rfl,⟨⟨t,fr,(lA (bw hb)).trans hb,hf⟩,FN,hc⟩⟩) (fun i hi _=>lA hi) (by simp)
   ·rw [ajQ,FN,hm,akJ]
   ·rw [ajQ,ajQ,kC,FN,hm,hzero,←akJ,←akJ]
    congr 1;omega
theorem aw.xC (o:aw H0 H L) {e:TypeId} {sz bytes m n:Nat} {v x:Value} {zero l new:List Value} {K:Value→ak→Prop} (lf:bu (.sl v sz l) L M) (hzero:zero.length=sz) (hx:Sl H x sz new)
  (hl:l.length=n*sz) (hm:new.length=m*sz) (qn:new.all aL=true) (pK:2* (n+m)*bytes≤281474976710656)
  (hk: ∀v' H',Sl H' v' sz (l++new)→aw H0 H' (.sl v sz l::M)→K v' H'):bg H e sz bytes zero v x K:=by
 have o1:=o.front lf;obtain⟨hz,ho⟩:=o1.ok _ ajP;refine pB.xC ho hz hzero (hx.mu hm hz) hx.cellsOf hl hm qn pK fun v' H' o' o2 hi hs=>?_;exact hk v' H' (o'.sl hz) (o1.nq bd.here hs (fun k hk hf=>hi k hk hf) ⟨hz,o2⟩ fun k hk=> .inl hk)
end
end Go.Vc
namespace Go.Proofs.YtpcgccdmmoggmaaGreatDoor
open Go Go.Vc Go.Proofs
section
set_option maxRecDepth 100000
variable {H H0 H' :ak} {R:Value→ak→Prop} {L:List It} {s:List UInt8}
theorem FA {b:Nat} {p:Pd} {hs:List Hd} {ns:List (List UInt8)} {E:List Ev} {x:Hd} {m:Nat} (g:CQ x) (hm:m< (bM x).length) (e:p.rest= (bM x).take m) (o:aw H0 H (fC b p hs ns E L))
  (h: ∀H',aw H0 H' (fC b p hs ns E L)→R (.int .i64 2) H'):ab Tryz.prog 89 #[at_ b 0] H R:=by
 refine dH.vc _ _ _ ?_;unfold dH.res;refine aI (aj ?_);refine o.az (b:=b) (f:=0+1) (w:=str p.rest) (by repeat(first|exact ajP|apply ajO)) rfl ?_;refine Ps g hm e fun H1 nP=>?_;have o:=o.more nP;refine ai (vs:= [Hd.zero.v,.int .i64 0]) rfl ?_;refine ai (vs:= [Hd.zero.v,.int .i64 0]) rfl ?_;refine o.box fun b3 H2 o _=>?_;refine o.bW (b:=b3) (by repeat(first|exact ajP|apply ajO)) rfl rfl (tJ _) (by repeat(first|exact bd.here|apply bd.there)) fun H3 o _=>?_;rw [aQ,decide_eq_false (by decide),ao,bj,decide_eq_true rfl,aH];exact h H3 (o.rN 1)
theorem head_tail {b:Nat} {p:Pd} {l:List Fp} {ns:List (List UInt8)} {E:List Ev} {c:UInt8} {r:List UInt8} (gl:jP l) (hc:c≠3) (e:p.rest=80::75::c::r) (hr:p.rest.length≤1000000) (o:aw H0 H (fC b p (bO 0 l) ns E L))
  (h: ∀H',aw H0 H' (fC b {p with st:=3,tail:=fM l} (bO 0 l) ns E L)→R (.int .i64 0) H'):ab Tryz.prog 89 #[at_ b 0] H R:=by
 refine dH.vc _ _ _ ?_;unfold dH.res;refine aI (aj ?_);refine o.az (b:=b) (f:=0+1) (w:=str p.rest) (by repeat(first|exact ajP|apply ajO)) rfl ?_;refine Pt hc e hr fun H1 nP=>?_;have o:=o.more nP;refine ai (vs:= [Hd.zero.v,.int .i64 (-1)]) rfl ?_;refine ai (vs:= [Hd.zero.v,.int .i64 (-1)]) rfl ?_;refine o.box fun b3 H2 o _=>?_;refine o.bW (b:=b3) (by repeat(first|exact ajP|apply ajO)) rfl rfl (tJ _) (by repeat(first|exact bd.here|apply bd.there)) fun H3 o _=>?_;rw [aQ,decide_eq_true (by decide),aH];refine aI (aj ?_);refine o.az (b:=b) (f:=0+20) (w:=p.hv) (by repeat(first|exact ajP|apply ajO)) rfl ?_;refine zX gl (o.sl (by repeat(first|exact ajP|apply ajO))) fun H4 tV=>?_;have o:=o.more tV;refine aI (aj ?_);refine o.bK (b:=b) (f:=0+2) (by repeat(first|exact ajP|apply ajO)) (ajU rfl) rfl (by repeat(first|exact bd.here|apply bd.there)) fun H5 o _=>?_;refine aI (aj ?_);refine o.bK (b:=b) (f:=0+22) (by repeat(first|exact ajP|apply ajO)) (ajU rfl) rfl (by repeat(first|exact bd.here|apply bd.there)) fun H6 o _=>?_;exact h H6 (o.rN 1)
def ny (x:Hd) (a:Nat):Hd:= ⟨x.nm,x.t,0,0,0,a,x.k⟩
theorem Py {b:Nat} {p:Pd} {hs:List Hd} {ns:List (List UInt8)} {E:List Ev} {x:Hd} {r:List UInt8} {all:List (List UInt8)} (g:CQ x) (e:p.rest=bM x++r) (hr:p.rest.length≤1000000) (ji:p.at' +p.rest.length≤100000000) (ha:CY all) (DS:ns++ [x.nm]=all.take (ns.length+1)) (hn5:ns.length≤5) (hhs:hs.length≤5) (hE:E.length≤10000) (o:aw H0 H (fC b p hs ns E L))
  (aaK:x.k=true→∀H' qN J5 oe,aw H0 H' (fC b {p with rest:=r,st:=0,at' :=p.at' + (bM x).length,en:=p.at' + (bM x).length,h:=ny x p.at',Aw:=false,hv:=qN,nv:=J5,ov:=oe} (hs++ [ny x p.at']) (ns++ [x.nm]) ((E++ [⟨1,ny x p.at',[]⟩])++ [⟨3,ny x p.at',[]⟩]) L)→R (.int .i64 0) H')
  (aaL:x.k=false→∀H' d S J5 oe,SL d ⟨.hd,[],[]⟩ 0 S→aw H0 H' (.ay S::fC b {p with rest:=r,st:=1,at' :=p.at' + (bM x).length,h:=ny x p.at',Aw:=false,d:=at_ d 0,dP:=0,nv:=J5,ov:=oe} hs (ns++ [x.nm]) (E++ [⟨1,ny x p.at',[]⟩]) L)→R (.int .i64 0) H'):
  ab Tryz.prog 89 #[at_ b 0] H R:=by
 have Gi:p.rest.length= (bM x).length+r.length:=by rw [e,ajQ]
 have xE:=kx x;refine dH.vc _ _ _ ?_;unfold dH.res;refine aI (aj ?_);refine o.az (b:=b) (f:=0+1) (w:=str p.rest) (by repeat(first|exact ajP|apply ajO)) rfl ?_;refine L0 g e hr fun H1 nP=>?_;have o:=o.more nP;refine ai (vs:= [x.loc.v,.int .i64 ((30+x.nm.length:Nat):Int)]) rfl ?_;refine ai (vs:= [x.loc.v,.int .i64 ((30+x.nm.length:Nat):Int)]) rfl ?_;refine o.box fun b3 H2 o _=>?_;refine o.bW (b:=b3) (vs:=x.loc.cells) (by repeat(first|exact ajP|apply ajO)) rfl rfl (tJ _) (by repeat(first|exact bd.here|apply bd.there)) fun H3 o _=>?_;rw [aQ,decide_eq_false (by omega),ao,bj,decide_eq_false (by omega),ao];refine aI (aj ?_);refine o.az (b:=b) (f:=0+21) (w:=p.nv) (by repeat(first|exact ajP|apply ajO)) rfl ?_;refine aj ?_;refine o.az (b:=b3) (f:=0+0) (w:=str x.nm) (by repeat(first|exact ajP|apply ajO)) rfl ?_;refine o.ej (sz:=1) (by decide) rfl rfl fun y H4 o=>?_;refine⟨o.az (b:=b) (f:=0+21) (by repeat(first|exact ajP|apply ajO)) rfl rfl,?_⟩;refine o.xC (n:=ns.length) (m:=1) (by repeat(first|exact bu.here|apply bu.there)) rfl (o.sl (v:=y) (by repeat(first|exact ajP|apply ajO))) (by rw [oJ,aj0]) rfl rfl (by omega) fun v1 H5 hs5 o=>?_;refine ha.all (ns.length+1) _ _ _ (by rw [←DS,nK];exact hs5) fun H6 xn=>?_;have o:=o.more xn;refine ai (vs:= [.int .i64 0,.int .i64 0]) rfl ?_;refine ai (vs:= [.int .i64 0,.int .i64 0]) rfl ?_;refine jD ?_;rw [ao];refine aI (aj ?_);refine o.az (b:=b) (f:=0+21) (w:=p.nv) (by repeat(first|exact ajP|apply ajO)) rfl ?_;refine aj ?_;refine o.az (b:=b3) (f:=0+0) (w:=str x.nm) (by repeat(first|exact ajP|apply ajO)) rfl ?_;refine o.ej (sz:=1) (by decide) rfl rfl fun y2 H7 o=>?_;refine⟨o.az (b:=b) (f:=0+21) (by repeat(first|exact ajP|apply ajO)) rfl rfl,?_⟩;refine o.append (n:=ns.length) (m:=1) (by repeat(first|exact bu.here|apply bu.there)) rfl (o.sl (v:=y2) (by repeat(first|exact ajP|apply ajO))) (by rw [oJ,aj0]) rfl rfl (by omega) fun J5 H8 o=>?_;refine aI (aj ?_);refine o.bK (b:=b) (f:=0+21) (by repeat(first|exact ajP|apply ajO)) (ajU rfl) ((o.sl (v:=J5) (by repeat(first|exact ajP|apply ajO))).one) (by repeat(first|exact bd.here|apply bd.there)) fun H9 o _=>?_;refine o.bC (b:=b3) (by repeat(first|exact ajP|apply ajO)) rfl ?_;refine mz g.loc fun RU LV=>?_;have o:=o.more LV;refine aI (aj ?_);refine o.bK (b:=b) (f:=0+17) (by repeat(first|exact ajP|apply ajO)) (ajU rfl) rfl (by repeat(first|exact bd.here|apply bd.there)) fun UF o _=>?_;refine aI (aj ?_);refine o.az (b:=b) (f:=0+3) (w:=i64 p.at') (by repeat(first|exact ajP|apply ajO)) rfl ?_;refine cC ?_;rw [eX (by omega) (by omega)];refine aj ?_;refine o.bK (b:=b3) (f:=0+8) (by repeat(first|exact ajP|apply ajO)) (ajU rfl) rfl (by repeat(first|exact bd.here|apply bd.there)) fun H12 o _=>?_;refine⟨o.az (b:=b) (f:=0+3) (by repeat(first|exact ajP|apply ajO)) rfl rfl,?_⟩;refine aj ?_;refine o.bK (b:=b3) (f:=0+10) (by repeat(first|exact ajP|apply ajO)) (ajU rfl) rfl (by repeat(first|exact bd.here|apply bd.there)) fun H13 o _=>?_;refine o.bC (b:=b3) (by repeat(first|exact ajP|apply ajO)) rfl ?_;have e3: (x.loc.cells.set (0+8) (.int .u64 0)).set (0+10) (.int .u64 (p.at' :Int))= (ny x p.at').cells:=rfl;rw [e3] at o ⊢;refine aI (aj ?_);refine o.JB (b:=b) (f:=0+5) (n:=12) (vs:= (ny x p.at').cells) (by repeat(first|exact ajP|apply ajO)) rfl (ajU rfl) (tJ _) (by repeat(first|exact bd.here|apply bd.there)) fun XH o=>?_;have o:aw H0 XH (.sl y2 1 [str x.nm]:: .sl y 1 [str x.nm]:: .box b3 (ny x p.at').cells 44::fC b {p with h:=ny x p.at',Aw:=false,nv:=J5} hs (ns++ [x.nm]) E L):=by
  unfold fC;rw [nK];exact o.fW (by repeat(first|exact aY.refl|exact bu.here|apply aY.cons|apply bu.there))
 rw [show (((30+x.nm.length:Nat)):Int)= (((bM x).length:Nat):Int) by rw [xE]];refine uF (p:= {p with h:=ny x p.at',Aw:=false,nv:=J5}) (L:= [.sl y2 1 [str x.nm],.sl y 1 [str x.nm],.box b3 (ny x p.at').cells 44]++L) (by show _≤p.rest.length;omega) ji (o.fW (by repeat(first|exact aY.refl|exact bu.here|apply aY.cons|apply bu.there))) fun H15 o=>?_;have o:aw H0 H15 (.sl y2 1 [str x.nm]:: .sl y 1 [str x.nm]:: .box b3 (ny x p.at').cells 44::fC b {p with rest:=r,at' :=p.at' + (bM x).length,h:=ny x p.at',Aw:=false,nv:=J5} hs (ns++ [x.nm]) E L):=by
  have e5:p.rest.drop (bM x).length=r:=by rw [e,als]
  rw [←e5];exact o.fW (by repeat(first|exact aY.refl|exact bu.here|apply aY.cons|apply bu.there))
 refine aI (aj ?_);refine o.az (b:=b) (f:=0+23) (w:=p.ov) (by repeat(first|exact ajP|apply ajO)) rfl ?_;refine o.bC (b:=b3) (by repeat(first|exact ajP|apply ajO)) rfl ?_;refine aU rfl (ajU rfl) ?_;rw [fV];refine⟨rfl,ajU rfl,?_⟩;rw [bG];refine o.ej (sz:=14) (by decide) rfl rfl fun z PV o=>?_;refine⟨o.az (b:=b) (f:=0+23) (by repeat(first|exact ajP|apply ajO)) rfl rfl,?_⟩;refine o.append (n:=E.length) (m:=1) (by repeat(first|exact bu.here|apply bu.there)) rfl (o.sl (v:=z) (by repeat(first|exact ajP|apply ajO))) (tL _) rfl (JK ⟨1,ny x p.at',[]⟩) (by omega) fun oe YJ o=>?_;refine aI (aj ?_);refine o.bK (b:=b) (f:=0+23) (by repeat(first|exact ajP|apply ajO)) (ajU rfl) ((o.sl (v:=oe) (by repeat(first|exact ajP|apply ajO))).one) (by repeat(first|exact bd.here|apply bd.there)) fun H18 o _=>?_;refine aj ?_;refine o.az (b:=b3) (f:=0+11) (w:= .bool x.k) (by repeat(first|exact ajP|apply ajO)) rfl ?_;have e2:pq (E++ [⟨1,ny x p.at',[]⟩])=pq E++ (Ev.cells ⟨1,ny x p.at',[]⟩):=by rw [pq,ij,k_];rfl
 have o:aw H0 H18 (.sl z 14 (Ev.cells ⟨1,ny x p.at',[]⟩):: .sl y2 1 [str x.nm]:: .sl y 1 [str x.nm]:: .box b3 (ny x p.at').cells 44::fC b {p with rest:=r,at' :=p.at' + (bM x).length,h:=ny x p.at',Aw:=false,nv:=J5,ov:=oe} hs (ns++ [x.nm]) (E++ [⟨1,ny x p.at',[]⟩]) L):=by
  unfold fC;rw [e2];exact o.fW (by repeat(first|exact aY.refl|exact bu.here|apply aY.cons|apply bu.there))
 have o:=o.rN 4;refine fI (fun hk=>?_) (fun hk=>?_)
 ·refine AZ (p:= {p with rest:=r,at' :=p.at' + (bM x).length,h:=ny x p.at',Aw:=false,nv:=J5,ov:=oe}) (by omega) (by rw [ajQ];show _+1≤_;omega) o fun H19 qN ov2 o=>?_
  exact aaK hk H19 qN J5 ov2 o
 ·refine U0 o fun H19 d S hd o=>?_
  refine aI (aj ?_);refine o.bK (b:=b) (f:=0+2) (by repeat(first|exact ajP|apply ajO)) (ajU rfl) rfl (by repeat(first|exact bd.here|apply bd.there)) fun H20 o _=>?_;refine aI (aj ?_);refine o.bK (b:=b) (f:=0+18) (by repeat(first|exact ajP|apply ajO)) (ajU rfl) rfl (by repeat(first|exact bd.here|apply bd.there)) fun Xu o _=>?_;refine aI (aj ?_);refine o.bK (b:=b) (f:=0+19) (by repeat(first|exact ajP|apply ajO)) (ajU rfl) rfl (by repeat(first|exact bd.here|apply bd.there)) fun H22 o _=>?_;exact aaL hk H22 d S J5 oe hd o
end
section
set_option maxRecDepth 100000
variable {H H0 H' :ak} {R:Value→ak→Prop} {L:List It} {s:List UInt8}
theorem L7 {u:Nat} (h:u<4294967296):mq u []=u:=by
 unfold mq rK;simp only [List.foldl];omega
def PZ (E:List Ev) (t:List UInt8):List Ev:=if t= [] then E else E++ [⟨2,Hd.zero,t⟩]
def Hd.tell (h:Hd) (t:List UInt8):Hd:= {h with z:=h.z+t.length,u:=mq h.u t}
theorem DI {b d:Nat} {p:Pd} {hs:List Hd} {ns:List (List UInt8)} {E:List Ev} {S:ir} {D D' :DM} {ot z:List UInt8} {x:Hd} (hG:Reads H0 ⟨4,0,none⟩ je) (hd:p.d=at_ d 0) (hD:SL d D p.dP S) (hl:mO D.st) (u0:D.W.length+258* (D.B.length+8*p.rest.length)≤1000000000000) (XE:p.dP+p.rest.length≤100000000) (ji:p.at' +p.rest.length≤100000000)
  (jc:run (D.add (toBits p.rest))= (ot,D',0)) (hu:p.h.u<4294967296) (hz:p.h.z≤1000000) (VK:ot.length≤1000000) (hE:E.length≤10000) (il:p.Aw=false)
  (hzz:D'.st.mm=true→a7 ((eZ D'.B).take (8* (D'.B.length/8)))=z∧z.length≤p.rest.length∧D'.B.length≤8000000000000∧x= {p.h.tell ot with p:=p.dP+p.rest.length - z.length}∧CQ x)
  (o:aw H0 H (.ay S::fC b p hs ns E L))
  (AV:D'.st.mm=false→∀H' S' oe,SL d D' (p.dP+p.rest.length) S' →aw H0 H' (.ay S' ::fC b {p with rest:= [],at' :=p.at' +p.rest.length,h:=p.h.tell ot,dP:=p.dP+p.rest.length,ov:=oe} hs ns (PZ E ot) L)→R (.int .i64 2) H')
  (JL:D'.st.mm=true→∀H' oe,aw H0 H' (fC b {p with rest:=z,at' :=p.at' +p.rest.length - z.length,st:=2,h:=x,dP:=p.dP+p.rest.length,ov:=oe} hs ns (PZ E ot) L)→R (.int .i64 0) H'):ab Tryz.prog 90 #[at_ b 0] H R:=by
 refine gQ.vc _ _ _ ?_;unfold gQ.res;refine aI (aj ?_);refine o.az (b:=b) (f:=0+1) (w:=str p.rest) (by repeat(first|exact ajP|apply ajO)) rfl ?_;refine aJ ?_;refine uF (L:= .ay S::L) (ajR _) ji (o.fW (by repeat(first|exact aY.refl|exact bu.here|apply aY.cons|apply bu.there))) fun H1 o=>?_;rw [aj8];have o:aw H0 H1 (.ay S::fC b {p with rest:= [],at' :=p.at' +p.rest.length} hs ns E L):=by
  have:p.rest.drop p.rest.length= []:=akW;rw [←this];exact o.fW (by repeat(first|exact aY.refl|exact bu.here|apply aY.cons|apply bu.there))
 refine aI (aj ?_);refine o.az (b:=b) (f:=0+19) (w:=i64 p.dP) (by repeat(first|exact ajP|apply ajO)) rfl ?_;refine aJ ?_;rw [aC,bH (by omega) (by omega)];refine aI (aj ?_);refine o.bK (b:=b) (f:=0+19) (by repeat(first|exact ajP|apply ajO)) (ajU rfl) rfl (by repeat(first|exact bd.here|apply bd.there)) fun H2 o _=>?_;have o:aw H0 H2 (.ay S::fC b {p with rest:= [],at' :=p.at' +p.rest.length,dP:=p.dP+p.rest.length} hs ns E L):=o;refine aI (aj ?_);refine o.az (b:=b) (f:=0+18) (w:=at_ d 0) (by repeat(first|exact ajP|apply ajO)) (by rw [←hd];rfl) ?_;refine SM hG hD o hl u0 (by omega) jc fun H3 S' Tb o=>?_;refine ai (vs:= [str ot,.int .i64 0]) rfl ?_;refine ai (vs:= [str ot,.int .i64 0]) rfl ?_;refine⟨fun H' => ∃oe,aw H0 H' (.ay S' ::fC b {p with rest:= [],at' :=p.at' +p.rest.length,h:=p.h.tell ot,dP:=p.dP+p.rest.length,ov:=oe} hs ns (PZ E ot) L),?_,?_⟩
 ·clear o
  rintro _ H4 ⟨oe,o⟩;refine jD ?_;rw [ao];refine aI (aj ?_);refine o.az (b:=b) (f:=0+18) (w:=at_ d 0) (by repeat(first|exact ajP|apply ajO)) (by rw [←hd];rfl) ?_;refine SN Tb o ?_;refine kp ?_;refine fI (fun hn=>?_) (fun hn=>?_)
  ·exact AV (by simpa using hn) H4 S' oe Tb o
  ·have hn:D'.st.mm=true:=by simpa using hn
   obtain⟨z1,z2,z3,z4,sm⟩:=hzz hn;refine aI (aj ?_);refine o.az (b:=b) (f:=0+18) (w:=at_ d 0) (by repeat(first|exact ajP|apply ajO)) (by rw [←hd];rfl) ?_;refine SO Tb o hn fun H5 wQ=>?_;have o:=o.more wQ;rw [z1];refine aI (aj ?_);refine o.bK (b:=b) (f:=0+1) (by repeat(first|exact ajP|apply ajO)) (ajU rfl) rfl (by repeat(first|exact bd.here|apply bd.there)) fun H6 o _=>?_;refine aI (aj ?_);refine o.az (b:=b) (f:=0+3) (w:=i64 (p.at' +p.rest.length:Nat)) (by repeat(first|exact ajP|apply ajO)) rfl ?_;refine aI (aj ?_);refine o.az (b:=b) (f:=0+1) (w:=str z) (by repeat(first|exact ajP|apply ajO)) rfl ?_;refine aJ ?_;rw [bE,show (((p.at' +p.rest.length:Nat):Int) - (z.length:Int))= ((p.at' +p.rest.length - z.length:Nat):Int) by omega,bH (by omega) (by omega)];refine aI (aj ?_);refine o.bK (b:=b) (f:=0+3) (by repeat(first|exact ajP|apply ajO)) (ajU rfl) rfl (by repeat(first|exact bd.here|apply bd.there)) fun H7 o _=>?_;refine aI (aj ?_);refine o.az (b:=b) (f:=0+18) (w:=at_ d 0) (by repeat(first|exact ajP|apply ajO)) (by rw [←hd];rfl) ?_;refine SP Tb o hn (by omega) z3 fun H8 Oy=>?_;have o:=o.more Oy;rw [z1,show (((p.dP+p.rest.length:Nat):Int) - (z.length:Int))= ((p.dP+p.rest.length - z.length:Nat):Int) by omega];refine cC ?_;rw [eX (by omega) (by omega)];refine aI (aj (aj ?_));refine o.bK (b:=b) (f:=0+5+7) (by repeat(first|exact ajP|apply ajO)) (ajU rfl) rfl (by repeat(first|exact bd.here|apply bd.there)) fun H9 o _=>?_;refine aI (aj ?_);refine o.bK (b:=b) (f:=0+2) (by repeat(first|exact ajP|apply ajO)) (ajU rfl) rfl (by repeat(first|exact bd.here|apply bd.there)) fun RU o _=>?_;have o:aw H0 RU (.ay S' ::fC b {p with rest:=z,at' :=p.at' +p.rest.length - z.length,st:=2,h:=x,dP:=p.dP+p.rest.length,ov:=oe} hs ns (PZ E ot) L):=by
    rw [z4];exact o
   refine aI (aj ?_);refine fU (o.ll (b:=b) (by repeat(first|exact ajP|apply ajO))) (ws:=x.cells) rfl (ajU rfl) ?_;refine mz sm fun UF LW=>?_;have o:=o.more LW;rw [fH];intro _;rw [ao];exact JL hn UF oe (o.rN 1)
 ·refine pC ?_
  by_cases ho:ot= []
  ·rw [decide_eq_false (by simpa using ho),ao]
   refine⟨p.ov,?_⟩;have e1:p.h.tell ot=p.h:=by rw [ho];unfold Hd.tell;rw [L7 hu];rfl
   rw [e1,PZ,if_pos ho];exact o
  ·rw [decide_eq_true (by simpa using ho),aH]
   refine aI (aj (aj ?_));refine o.az (b:=b) (f:=0+5+8) (w:= .int .u64 (p.h.z:Int)) (by repeat(first|exact ajP|apply ajO)) rfl ?_;refine aJ ?_;refine cC ?_;rw [eX (by omega) (by omega),aC,eX (by omega) (by omega)];refine aI (aj (aj ?_));refine o.bK (b:=b) (f:=0+5+8) (by repeat(first|exact ajP|apply ajO)) (ajU rfl) rfl (by repeat(first|exact bd.here|apply bd.there)) fun H4 o _=>?_;refine aI (aj ?_);refine o.az (b:=b) (f:=0+0) (w:=Bl p.tb) (by repeat(first|exact ajP|apply ajO)) rfl ?_;refine aI (aj (aj ?_));refine o.az (b:=b) (f:=0+5+9) (w:=n32 p.h.u) (by repeat(first|exact ajP|apply ajO)) rfl ?_;refine DB hu (by omega) (o.ay (T:=vO p.tb) (by repeat(first|exact ajP|apply ajO))) ?_;refine aI (aj (aj ?_));refine o.bK (b:=b) (f:=0+5+9) (by repeat(first|exact ajP|apply ajO)) (ajU rfl) rfl (by repeat(first|exact bd.here|apply bd.there)) fun H5 o _=>?_;refine aI (aj ?_);refine o.az (b:=b) (f:=0+23) (w:=p.ov) (by repeat(first|exact ajP|apply ajO)) rfl ?_;refine aU rfl (ajU rfl) ?_;refine aU rfl (ajU rfl) ?_;rw [bG];refine o.ej (sz:=14) (by decide) rfl rfl fun y H6 o=>?_;refine o.append (n:=E.length) (m:=1) (by repeat(first|exact bu.here|apply bu.there)) rfl (o.sl (v:=y) (by repeat(first|exact ajP|apply ajO))) (tL _) rfl (JK ⟨2,Hd.zero,ot⟩) (by omega) fun oe H7 o=>?_;refine aI (aj ?_);refine o.bK (b:=b) (f:=0+23) (by repeat(first|exact ajP|apply ajO)) (ajU rfl) ((o.sl (v:=oe) (by repeat(first|exact ajP|apply ajO))).one) (by repeat(first|exact bd.here|apply bd.there)) fun H8 o _=>?_;refine⟨oe,?_⟩;have e2:pq (E++ [⟨2,Hd.zero,ot⟩])=pq E++ (Ev.cells ⟨2,Hd.zero,ot⟩):=by rw [pq,ij,k_];rfl
   unfold fC;rw [PZ,if_neg ho,e2];have o:aw H0 H8 (.sl y 14 (Ev.cells ⟨2,Hd.zero,ot⟩):: .ay S' :: .box b ({p with rest:= [],at' :=p.at' +p.rest.length,h:=p.h.tell ot,dP:=p.dP+p.rest.length,ov:=oe}:Pd).cells 105:: .ay (vO p.tb):: .sl p.hv 12 (mr hs):: .sl p.nv 1 (iC ns):: .sl oe 14 (pq E++Ev.cells ⟨2,Hd.zero,ot⟩)::L):=o.fW (by repeat(first|exact aY.refl|exact bu.here|apply aY.cons|apply bu.there));exact o.rN 1
end
section
set_option maxRecDepth 100000
variable {H H0 H' :ak} {R:Value→ak→Prop} {L:List It} {s:List UInt8}
theorem L8 {a b n:Nat} {K:Value→Prop} (hn:min a b=n) (h:K (i64 n)):np (i64 a) (i64 b) K:=by
 rw [qm,show min ((a:Nat):Int) ((b:Nat):Int)= ((n:Nat):Int) by omega];exact h
theorem GZ {a b n:Nat} {k:Int} {K:Value→Prop} (hb: ((b:Nat):Int)=k) (hn:min a b=n) (h:K (i64 n)):np (i64 a) (.int .i64 k) K:=by
 subst hb;exact L8 hn h
theorem JM {b q:Nat} {p:Pd} {hs:List Hd} {ns:List (List UInt8)} {E:List Ev} (sm:CQ p.h) (hk:p.h.k=false) (il:p.Aw=false) (ji:p.at' +p.rest.length≤100000000) (hhs:hs.length≤5) (hE:E.length≤10000) (hq:q=min p.rest.length 16) (he:p.rest.take q= (c9 p.h).take q)
  (o:aw H0 H (fC b p hs ns E L))
  (AV:q<16→∀H',aw H0 H' (fC b p hs ns E L)→R (.int .i64 2) H')
  (JL:q=16→∀H' qN oe,aw H0 H' (fC b {p with rest:=p.rest.drop 16,at' :=p.at' +16,hv:=qN,en:=p.at' +16,ov:=oe,st:=0} (hs++ [p.h]) ns (E++ [⟨3,p.h,[]⟩]) L)→R (.int .i64 0) H'):ab Tryz.prog 91 #[at_ b 0] H R:=by
 have hw: (c9 p.h).length=16:=by unfold c9;rw [hk];simp [aD]
 have Tl: (p.rest.take q).length=q:=by rw [ajW];omega
 refine gj.vc _ _ _ ?_;unfold gj.res;refine aI (aj ?_);refine fU (o.ll (b:=b) (by repeat(first|exact ajP|apply ajO))) (ws:=p.h.cells) rfl (ajU rfl) ?_;refine rG sm fun H1 nP=>?_;have o:=o.more nP;refine aI (aj ?_);refine o.az (b:=b) (f:=0+1) (w:=str p.rest) (by repeat(first|exact ajP|apply ajO)) rfl ?_;refine aI (aj ?_);refine o.az (b:=b) (f:=0+1) (w:=str p.rest) (by repeat(first|exact ajP|apply ajO)) rfl ?_;refine aJ ?_;refine aJ ?_;refine L8 (n:=q) (by omega) ?_;refine bz (lo:=0) (hi:=q) (.inr ⟨rfl,rfl⟩) (.inl rfl) (by omega) (by omega) ?_;rw [ako,akG];refine aJ ?_;rw [Tl];refine GZ (b:=8) (n:=min q 8) rfl rfl ?_;refine aI (aj ?_);refine o.az (b:=b) (f:=0+17) (w:= .bool p.Aw) (by repeat(first|exact ajP|apply ajO)) rfl ?_;refine aI (aj ?_);refine fU (o.ll (b:=b) (by repeat(first|exact ajP|apply ajO))) (ws:=p.h.cells) rfl (ajU rfl) ?_;refine mz sm fun H2 rR=>?_;have o:=o.more rR;refine⟨o.az (b:=b) (f:=0+17) (by repeat(first|exact ajP|apply ajO)) rfl rfl,?_⟩;rw [Zj,il,show decide (false≠false)=false from rfl];refine bh ?_;refine GZ (b:=4) (n:=min (min q 8) 4) rfl rfl ?_;refine bz (lo:=0) (hi:=min (min q 8) 4) (.inr ⟨rfl,rfl⟩) (.inl rfl) (by omega) (by rw [Tl];omega) ?_;refine GZ (b:=4) (n:=min (min q 8) 4) rfl rfl ?_;refine bz (lo:=0) (hi:=min (min q 8) 4) (.inr ⟨rfl,rfl⟩) (.inl rfl) (by omega) (by omega) ?_;refine pC ?_;have ht: ∀m,m≤q→(p.rest.take q).take m= (c9 p.h).take m:=fun m hm=>by
  rw [he,akQ,aks hm]
 rw [decide_eq_false (by rw [ako,ako,akG,ht _ (by omega)];simp)];intro _;rw [ao,aQ];refine ax (fun hc=>?_) (fun hc=>?_)
 ·exact AV (by omega) H2 o
 ·have hq8:8≤q:=by omega
  refine bz (lo:=0) (hi:=8) (.inr ⟨rfl,rfl⟩) (.inl rfl) (by omega) (by rw [Tl];omega) ?_;refine bz (lo:=0) (hi:=8) (.inr ⟨rfl,rfl⟩) (.inl rfl) (by omega) (by omega) ?_;refine pC ?_;rw [decide_eq_false (by rw [ako,ako,akG,ht _ hq8];simp),ao];refine nW (by omega) (by rw [Tl];omega) ?_;have Jx:preB (p.rest.take q) (c9 p.h)=true:=by
   unfold preB;rw [Tl,he];exact decide_eq_true rfl
  rw [Jx];refine kp ?_;rw [show (!true)=false from rfl,ao];refine aJ ?_;refine aJ ?_;rw [Tl,hw,aQ];refine ax (fun hc=>?_) (fun hc=>?_)
  ·exact AV (by omega) H2 o
  ·have aeH:q=16:=by omega
   refine aJ ?_;rw [hw];refine uF (by omega) ji o fun H3 o=>?_;refine AZ (by omega) (by omega) o fun H4 qN oe o=>?_;exact JL aeH H4 qN oe o
theorem G0 {b q:Nat} {p:Pd} {hs:List Hd} {ns:List (List UInt8)} {E:List Ev} (ji:p.at' +p.rest.length≤100000000) (hE:E.length≤10000) (hq:q=min p.rest.length p.tail.length) (he:p.rest.take q=p.tail.take q)
  (o:aw H0 H (fC b p hs ns E L))
  (AV:q<p.tail.length→∀H',aw H0 H' (fC b {p with rest:=p.rest.drop q,at' :=p.at' +q,tail:=p.tail.drop q} hs ns E L)→R (.int .i64 2) H')
  (JL:q=p.tail.length→∀H' oe,aw H0 H' (fC b {p with rest:=p.rest.drop q,at' :=p.at' +q,tail:= [],ov:=oe,st:=4} hs ns (E++ [⟨4,Hd.zero,[]⟩]) L)→R (.int .i64 0) H'):ab Tryz.prog 92 #[at_ b 0] H R:=by
 refine fN.vc _ _ _ ?_;unfold fN.res;refine aI (aj ?_);refine o.az (b:=b) (f:=0+1) (w:=str p.rest) (by repeat(first|exact ajP|apply ajO)) rfl ?_;refine aJ ?_;refine aI (aj ?_);refine o.az (b:=b) (f:=0+22) (w:=str p.tail) (by repeat(first|exact ajP|apply ajO)) rfl ?_;refine aJ ?_;refine L8 (n:=q) (by omega) ?_;refine aI (aj ?_);refine o.az (b:=b) (f:=0+1) (w:=str p.rest) (by repeat(first|exact ajP|apply ajO)) rfl ?_;refine bz (lo:=0) (hi:=q) (.inr ⟨rfl,rfl⟩) (.inl rfl) (by omega) (by omega) ?_;refine aI (aj ?_);refine o.az (b:=b) (f:=0+22) (w:=str p.tail) (by repeat(first|exact ajP|apply ajO)) rfl ?_;refine bz (lo:=0) (hi:=q) (.inr ⟨rfl,rfl⟩) (.inl rfl) (by omega) (by omega) ?_;refine pC ?_;rw [decide_eq_false (by rw [ako,ako,akG,he];simp),ao];refine uF (by omega) ji o fun H1 o=>?_;refine aI (aj ?_);refine o.az (b:=b) (f:=0+22) (w:=str p.tail) (by repeat(first|exact ajP|apply ajO)) rfl ?_;refine bz (lo:=q) (hi:=p.tail.length) (.inl rfl) (.inr ⟨rfl,rfl⟩) (by omega) (ajR _) ?_;rw [aj9 (by rw [aj1];omega)];refine aI (aj ?_);refine o.bK (b:=b) (f:=0+22) (by repeat(first|exact ajP|apply ajO)) (ajU rfl) rfl (by repeat(first|exact bd.here|apply bd.there)) fun H2 o _=>?_;have o:aw H0 H2 (fC b {p with rest:=p.rest.drop q,at' :=p.at' +q,tail:=p.tail.drop q} hs ns E L):=o;refine aI (aj ?_);refine o.az (b:=b) (f:=0+22) (w:=str (p.tail.drop q)) (by repeat(first|exact ajP|apply ajO)) rfl ?_;refine pC ?_
 by_cases hl:q=p.tail.length
 ·have e0:p.tail.drop q= []:=by rw [hl,akW]
  rw [e0,decide_eq_false (by simp),ao];rw [e0] at o;refine aI (aj ?_);refine o.bK (b:=b) (f:=0+2) (by repeat(first|exact ajP|apply ajO)) (ajU rfl) rfl (by repeat(first|exact bd.here|apply bd.there)) fun H3 o _=>?_;refine aI (aj ?_);refine o.az (b:=b) (f:=0+23) (w:=p.ov) (by repeat(first|exact ajP|apply ajO)) rfl ?_;refine aU rfl (ajU rfl) ?_;rw [bG];refine o.ej (sz:=14) (by decide) rfl rfl fun y H4 o=>?_;refine o.append (n:=E.length) (m:=1) (by repeat(first|exact bu.here|apply bu.there)) rfl (o.sl (v:=y) (by repeat(first|exact ajP|apply ajO))) (tL _) rfl (JK ⟨4,Hd.zero,[]⟩) (by omega) fun oe H5 o=>?_;refine aI (aj ?_);refine o.bK (b:=b) (f:=0+23) (by repeat(first|exact ajP|apply ajO)) (ajU rfl) ((o.sl (v:=oe) (by repeat(first|exact ajP|apply ajO))).one) (by repeat(first|exact bd.here|apply bd.there)) fun H6 o _=>?_;refine JL hl H6 oe ?_;have e2:pq (E++ [⟨4,Hd.zero,[]⟩])=pq E++ (Ev.cells ⟨4,Hd.zero,[]⟩):=by rw [pq,ij,k_];rfl
  unfold fC;rw [e2];have o:aw H0 H6 (.sl y 14 (Ev.cells ⟨4,Hd.zero,[]⟩):: .box b ({p with rest:=p.rest.drop q,at' :=p.at' +q,tail:= [],ov:=oe,st:=4}:Pd).cells 105:: .ay (vO p.tb):: .sl p.hv 12 (mr hs):: .sl p.nv 1 (iC ns):: .sl oe 14 (pq E++Ev.cells ⟨4,Hd.zero,[]⟩)::L):=o.fW (by repeat(first|exact aY.refl|exact bu.here|apply aY.cons|apply bu.there));exact o.rN 1
 ·rw [decide_eq_true (by intro h;have:=congrArg List.length h;rw [aj1] at this;simp at this;omega),aH]
  exact AV (by omega) H2 o
theorem X0 {b:Nat} {p:Pd} {hs:List Hd} {ns:List (List UInt8)} {E:List Ev} (h0:p.st=0) (o:aw H0 H (fC b p hs ns E L)) (h:ab Tryz.prog 89 #[at_ b 0] H R):ab Tryz.prog 42 #[at_ b 0] H R:=by
 refine cc.vc _ _ _ ?_;unfold cc.res;refine aI (aj ?_);refine o.az (b:=b) (f:=0+2) (w:= .int .i64 0) (by repeat(first|exact ajP|apply ajO)) (by show some (i64 p.st)=_;rw [h0];rfl) ?_;rw [bj,decide_eq_true rfl,aH];exact h
theorem X1 {b:Nat} {p:Pd} {hs:List Hd} {ns:List (List UInt8)} {E:List Ev} (h0:p.st=1) (o:aw H0 H (fC b p hs ns E L)) (h:ab Tryz.prog 90 #[at_ b 0] H R):ab Tryz.prog 42 #[at_ b 0] H R:=by
 refine cc.vc _ _ _ ?_;unfold cc.res;refine aI (aj ?_);refine o.az (b:=b) (f:=0+2) (w:= .int .i64 1) (by repeat(first|exact ajP|apply ajO)) (by show some (i64 p.st)=_;rw [h0];rfl) ?_;rw [bj,decide_eq_false (by decide),ao,bj,decide_eq_true rfl,aH];exact h
theorem X2 {b:Nat} {p:Pd} {hs:List Hd} {ns:List (List UInt8)} {E:List Ev} (h0:p.st=2) (o:aw H0 H (fC b p hs ns E L)) (h:ab Tryz.prog 91 #[at_ b 0] H R):ab Tryz.prog 42 #[at_ b 0] H R:=by
 refine cc.vc _ _ _ ?_;unfold cc.res;refine aI (aj ?_);refine o.az (b:=b) (f:=0+2) (w:= .int .i64 2) (by repeat(first|exact ajP|apply ajO)) (by show some (i64 p.st)=_;rw [h0];rfl) ?_;rw [bj,decide_eq_false (by decide),ao,bj,decide_eq_false (by decide),ao,bj,decide_eq_true rfl,aH];exact h
theorem X3 {b:Nat} {p:Pd} {hs:List Hd} {ns:List (List UInt8)} {E:List Ev} (h0:p.st=3) (o:aw H0 H (fC b p hs ns E L)) (h:ab Tryz.prog 92 #[at_ b 0] H R):ab Tryz.prog 42 #[at_ b 0] H R:=by
 refine cc.vc _ _ _ ?_;unfold cc.res;refine aI (aj ?_);refine o.az (b:=b) (f:=0+2) (w:= .int .i64 3) (by repeat(first|exact ajP|apply ajO)) (by show some (i64 p.st)=_;rw [h0];rfl) ?_;rw [bj,decide_eq_false (by decide),ao,bj,decide_eq_false (by decide),ao,bj,decide_eq_false (by decide),ao,bj,decide_eq_true rfl,aH];exact h
theorem X4 {b:Nat} {p:Pd} {hs:List Hd} {ns:List (List UInt8)} {E:List Ev} (h0:p.st=4) (hr:p.rest= []) (o:aw H0 H (fC b p hs ns E L)) (h:R (.int .i64 2) H):ab Tryz.prog 42 #[at_ b 0] H R:=by
 refine cc.vc _ _ _ ?_;unfold cc.res;refine aI (aj ?_);refine o.az (b:=b) (f:=0+2) (w:= .int .i64 4) (by repeat(first|exact ajP|apply ajO)) (by show some (i64 p.st)=_;rw [h0];rfl) ?_;rw [bj,decide_eq_false (by decide),ao,bj,decide_eq_false (by decide),ao,bj,decide_eq_false (by decide),ao,bj,decide_eq_false (by decide),ao];refine aI (aj ?_);refine o.az (b:=b) (f:=0+1) (w:=str []) (by repeat(first|exact ajP|apply ajO)) (by show some (str p.rest)=_;rw [hr]) ?_;refine pC ?_;rw [decide_eq_false (by simp),ao];exact h
end
end Go.Proofs.YtpcgccdmmoggmaaGreatDoor
namespace Go.Vc
open Go
section
set_option maxRecDepth 100000
theorem SQ [Go.Vc.Mode] {P:Program} {F:Fence} {n:Nat} (hd:F.depth=none) (hl:F.plain=Fence.wide) {K:Value→ak→Prop} {o:Oper} {a:Act} {w:World} {N:Act→World→Prop} {Q:Exit→Act→World→Prop} (hs: ∀c,o.op≠ .defer c) (h:after P K w ((execOp a.eval o).run P w)) (hF: ∀v w',dI w w' →K v w'.heap→N (a.put o.dst v) w'):
  o.wpIn F n P a w N Q:=by
 have hfn: ∀f,F.fn f:=fun f=>by
  have:F.plain.fn f:=by rw [hl];trivial
  exact this
 refine⟨fun f _=>hfn f,?_⟩;rw [Oper.semAt_eq _ _ _ hs];generalize (execOp a.eval o).run P w=r at h
 cases r with
 |ok x w' =>
  cases x<;>simp only [after] at h
  case value v=>exact hF v w' h.1 h.2
  case skip=>exact hF undef w' h.1 h.2
  case enter f args=>
   refine⟨fun h=> (by rw [hd] at h;cases h),?_⟩;have hc:CallsIn Fence.wide (n - 1) P f args w' (fun| .returned v,D5 =>N (a.put o.dst v) D5 | .panicked chain,D5 =>Q (.panic chain) a D5 | .outgrown,_=>LetsOut Q):=by
    refine callsIn_wide.2 ((h.2 w' rfl).mono fun e D5 he=>?_);obtain⟨v,rfl,hr,hk⟩:=he;exact hF v D5 (h.1.trans hr) hk
   rw [←hl] at hc;exact hc
 |halt x w' =>simp only [after] at h
theorem JN [Go.Vc.Mode] {P:Program} {F:Fence} {n:Nat} {ops:Array Oper} {o:Oper} {rest:List Oper} {Q:Exit→Act→World→Prop} {a:Act} {w:World} {C:List Nat} (hC:nG P C) (hd:F.depth=none) (hl:F.plain=Fence.wide) (hs: ∀c,o.op≠ .defer c) (hg:o.guard=none) {K:Value→ak→Prop} {r:Prop}
  (e:YU P (bR a) C o w.heap K=r) (h:r) (hF: ∀v w',dI w w' →K v w'.heap→wpListIn F n P ops Q rest (a.put o.dst v) w'):wpListIn F n P ops Q (o::rest) a w:=by
 refine wpListIn_plain hg fun N hN=>?_;have hv:=e.mpr h;refine SQ hd hl hs ?_ fun v w' hr hk=>hN _ _ (hF v w' hr hk);rw [rY];unfold YU at hv;obtain⟨dst,op,ty,pos,af,g⟩:=o
 split at hv
 ·obtain⟨v,jc,hk⟩:=Ey (dst:=dst) (ty:=ty) (pos:=pos) (af:=af) (g:=g) hv
  rw [jc w];exact⟨dI.refl w,hk⟩
 ·obtain⟨v,jc,hk⟩:=yZ (dst:=dst) (ty:=ty) (pos:=pos) (af:=af) (g:=g) hv
  rw [jc w rfl];exact⟨dI.refl w,hk⟩
 ·exact ED hC hv w rfl
end
end Go.Vc
namespace Go.Proofs.YtpcgccdmmoggmaaGreatDoor
open Go Go.Vc Go.Proofs
section
set_option maxRecDepth 100000
variable {H H0 H' :ak} {R:Value→ak→Prop} {L:List It} {s:List UInt8}
def tM (r:Nat) (ob:Obj):ir where
 eL k:=k=r
 holds H:=H[r]? =some ob
 frame:=fun h hf=> (hf r rfl).trans h
 lt:=fun h hf=>by obtain rfl:=hf;exact bw h
def SS (H:ak) (b:Nat):Nat:=match H[b]? with
 |some (.cells cs _ _)=>match (cs[3]? :Option Value),(cs[6]? :Option Value),(cs[7]? :Option Value) with
  |some (.int _ k),some (.string r),some (.bool t)=> (5 - k.toNat)*7000+ (if t=true then 0 else 1000)+r.size
  |_,_,_=>0
 |_=>0
theorem uE.rQ {b:Nat} {fs:List Fl} {lev n:Nat} {gone:List UInt8} (st:uE H0 H b fs lev gone n L):SS H b=n:=by
 obtain⟨fv,tb,l,hv,rest,tail,h1,h2,h3,h4,h5,h6,h7,o⟩:=st;have h:=o.ll (b:=b) (by repeat(first|exact ajP|apply ajO));unfold SS;rw [h,h7];simp only [mkC]
 rfl
abbrev Eo (r0:It) (d mb b ob:Nat) (kH:Value) (fZ:List (List UInt8)):List It:= [r0,.ay (tM d (.deferred (some []))),.box mb [at_ b 0] 111,.box ob [kH] 60,.sl kH 1 (iC fZ)]
def SU (H0 H:ak) (b:Nat) (fs:List Fl) (lev:Nat) (gone:List UInt8) (n:Nat) (L:List It) (x:List UInt8) (ok:Bool):Prop:=
 (ok=true∧∃n',n' <n∧uE H0 H b fs lev (gone++x) n' L)∨(ok=false∧zY fs lev gone∧uE H0 H b fs lev gone n L)
abbrev DJ (l d:Nat) (rec:Loop) (mb b ob:Nat) (kH:Value) (fZ:List (List UInt8)):List It:=Eo (.ay (tM l (.loop rec))) d mb b ob kH fZ
theorem uE.rec {b l d mb ob:Nat} {rec:Loop} {kH:Value} {fZ:List (List UInt8)} {fs:List Fl} {lev n:Nat} {gone:List UInt8} (st:uE H0 H b fs lev gone n (DJ l d rec mb b ob kH fZ)):H[l]? =some (.loop rec):=by
 obtain⟨fv,tb,l,hv,rest,tail,h1,h2,h3,h4,h5,h6,h7,o⟩:=st;exact o.ay (T:=tM _ _) (by repeat(first|exact ajP|apply ajO))
theorem uE.out {b d mb ob:Nat} {i0:It} {v:Value} {fZ:List (List UInt8)} {fs:List Fl} {lev n:Nat} {gone:List UInt8} {K:Value→Prop} (st:uE H0 H b fs lev gone n (Eo i0 d mb b ob v fZ)) (hk:K v):al H (at_ ob 0) K:=by
 obtain⟨fv,tb,l,hv,rest,tail,h1,h2,h3,h4,h5,h6,h7,o⟩:=st;exact o.az (b:=ob) (f:=0) (by repeat(first|exact ajP|apply ajO)) rfl hk
theorem uE.set {b l d mb ob:Nat} {o0 o1:Obj} {kH:Value} {fZ:List (List UInt8)} {fs:List Fl} {lev n:Nat} {gone:List UInt8} (st:uE H0 H b fs lev gone n (Eo (.ay (tM l o0)) d mb b ob kH fZ)):uE H0 (H.setIfInBounds l o1) b fs lev gone n (Eo (.ay (tM l o1)) d mb b ob kH fZ):=
 st.nq fun fv tb _ hv rest tail o=>o.nq (i:= .ay (tM l o0)) (i' := .ay (tM l o1)) (by repeat(first|exact bd.here|apply bd.there)) (by simp) (fun k hk hf=>dW (fun e=>hf e.symm)) (cB (bw (o.ay (T:=tM l o0) (by repeat(first|exact ajP|apply ajO))))) (fun k hk=> .inl hk)
theorem uE.X5 {b:Nat} {T:ir} {fs:List Fl} {lev n:Nat} {gone:List UInt8} (st:uE H0 H b fs lev gone n (.ay T::L)):T.holds H:=by
 obtain⟨fv,tb,l,hv,rest,tail,h1,h2,h3,h4,h5,h6,h7,o⟩:=st;exact o.ay (by repeat(first|exact ajP|apply ajO))
theorem SV {b l d mb ob lev:Nat} {fs:List Fl} {rec:Loop} {W:World} {n0:Nat} (hT:Reads H0 ⟨5,0,none⟩ jU) (hG:Reads H0 ⟨0,0,none⟩ je) (tK:lev≤9) (gf:nX fs) (hn:n0≤36000) (st:uE H0 W.heap b fs lev [] n0 (DJ l d rec mb b ob (.slice none 0 0) []))
  (Y: ∀ (W' :World) (gone:List UInt8) fZ kH s n,fZ.length≤36000→uE H0 W'.heap b fs lev gone n (DJ l d rec mb b ob kH fZ)→YieldAt Fence.wide 0 Tryz.prog l #[str s] W' fun e Tm =>e= .returned (.bool true)∧Go.Vc.dI W' Tm ∧∃aaM,uE H0 Tm.heap b fs lev gone n (DJ l d rec mb b ob aaM (fZ++ [s]))):
  CallsIn Fence.wide 0 Tryz.prog 103 #[.func (.yield l) #[] #[],at_ mb 0] W fun e W' => ∃v,e= .returned v∧Go.Vc.dI W W' ∧∃fZ kH n,fZ.length≤36000∧zY fs lev fZ.flatten∧uE H0 W'.heap b fs lev fZ.flatten n (DJ l d rec mb b ob kH fZ):=by
 have hN: ∀ (W' :World) gone n kH fZ,uE H0 W'.heap b fs lev gone n (DJ l d rec mb b ob kH fZ)→CallsIn Fence.wide 0 Tryz.prog 104 #[at_ b 0] W' fun e Tm => ∃ (x:List UInt8) (ok:Bool),e= .returned (.tuple #[.string ⟨x.toArray⟩,.bool ok])∧Go.Vc.dI W' Tm ∧SU H0 Tm.heap b fs lev gone n (DJ l d rec mb b ob kH fZ) x ok:=fun W' gone n kH fZ st=>
  (callsIn_wide.2 (Pw (R:=fun v H' => ∃ (x:List UInt8) (ok:Bool),v= .tuple #[.string ⟨x.toArray⟩,.bool ok]∧SU H0 H' b fs lev gone n (DJ l d rec mb b ob kH fZ) x ok) hT hG tK gf st (fun H' SJ n' hn st=> ⟨SJ,true,rfl,.inl ⟨rfl,n',hn,st⟩⟩) (fun H' ha st=> ⟨[],false,rfl,.inr ⟨rfl,ha,st⟩⟩) W' rfl)).mono fun e w' ⟨v,h1,h2,x,ok,h3,h4⟩=> ⟨x,ok,by rw [h1,h3],h2,h4⟩
 have cM: ∀ (W' :World) gone n kH fZ,uE H0 W'.heap b fs lev gone n (DJ l d rec mb b ob kH fZ)→W'.cell? ⟨mb,0,none⟩=some (at_ b 0):=fun W' gone n kH fZ st=>by
  obtain⟨fv,tb,l,hv,rest,tail,h1,h2,h3,h4,h5,h6,h7,o⟩:=st;exact j7 (o.ll (b:=mb) (cs:= [at_ b 0]) (by repeat(first|exact ajP|apply ajO)))
 have c0:=cM _ _ _ _ _ st;refine callsIn_of_wp Tryz.func103 rfl trivial ?_ rfl;simp only [Tryz.ntmps103,akI,aj2,aj7,Nat.reduceAdd,Nat.reduceSub,amv,amw,amx,amy,aj4,akX]
 gi_wp2_with (first| (refine⟨trivial,rfl,?_⟩;gi_at_call 104;refine(hN _ _ _ _ _ st).mono ?_;rintro e W1 ⟨x1,ok1,rfl,A3,w5⟩))
 gi_loopw [3,4] (fun s ok w=>Go.Vc.dI W w∧∃fZ kH x n ok',s= .string ⟨List.toArray x⟩∧ok= .bool ok' ∧fZ.length+n≤36000∧SU H0 w.heap b fs lev fZ.flatten n (DJ l d rec mb b ob kH fZ) x ok') (fun s ok w=>2*SS w.heap b+match ok with| .bool true=>1|_=>0)
 ·exact⟨A3,[],_,x1,n0,ok1,rfl,rfl,by simpa using hn,w5⟩
 ·obtain⟨hrW,fZ,kH,x,n,ok',rfl,rfl,hlen,hN2⟩:=hrel
  rcases hN2 with ⟨rfl,n',Zl,X6⟩ | ⟨rfl,ha,X6⟩
  ·obtain⟨fn1,tm1,as1,bo1,hy1,Vx⟩:=Y wr _ fZ kH x n' (by omega) X6
   clear Y
   gi_wp2_with (first| (refine⟨rfl,?_⟩;refine Vx.mono ?_;clear Vx hy1;rintro e W3 ⟨rfl,KF,aaN,st3⟩;have c3:=cM _ _ _ _ _ st3) | (refine⟨trivial,rfl,?_⟩;gi_at_call 104;refine(hN _ _ _ _ _ st3).mono ?_;rintro e W4 ⟨x4,ok4,rfl,Xl,hv4⟩))
   have Ul:fZ.flatten++x= (fZ++ [x]).flatten:=by simp
   rw [Ul] at hv4;refine⟨⟨((hrW.trans KF).trans Xl),fZ++ [x],aaN,x4,n',ok4,rfl,rfl,by rw [ajQ];show _+1+n' ≤_;omega,hv4⟩,?_⟩;rw [X6.rQ];rcases hv4 with ⟨rfl,n4,hn4,YP⟩ | ⟨rfl,_,YP⟩
   ·rw [YP.rQ];show 2*n4+1<2*n' +1;omega
   ·rw [YP.rQ];show 2*n' +0<2*n' +1;omega
  ·gi_wp2
   go_end0
   exact⟨_,rfl,hrW,fZ,kH,n,by omega,ha,X6⟩
theorem L9 {P:Program} {l:Nat} {fn:FuncId} {tmps:Array Value} {ps:Array Tmp} {assign body:Code} {d:Nat} {W:World} (h1:W.heap[l]? =some (.loop (p7 fn tmps ps assign body d .busy none))):
  (Instr.endRound l none).run P W= .ok (.bool true) (W.putObj l (.loop (p7 fn tmps ps assign body d .ready none))):=run_endRound (P:=P) none h1
attribute [local go_sem] Oper.semAt_some
theorem Pz {v:Value} {fs:List Fl} {lev:Nat} (hT:Reads H ⟨5,0,none⟩ jU) (hG:Reads H ⟨0,0,none⟩ je) (hs:Sl H v 8 (iZ fs)) (gf:nX fs) (tK:lev≤9)
  (h: ∀H' sv fZ,zY fs lev fZ.flatten→fZ.length≤36000→aw H H' [.sl sv 1 (iC fZ)]→R (.tuple #[sv,.int .i64 0]) H'):ab Tryz.prog 18 #[v,.int .i64 (lev:Int)] H R:=by
 intro w hw;subst hw;have hN:CallsIn Fence.wide 0 Tryz.prog 48 #[v,.int .i64 (lev:Int)] w fun e W' => ∃b,e= .returned (.tuple #[at_ b 0,.int .i64 0])∧Go.Vc.dI w W' ∧uE w.heap W'.heap b fs lev [] 36000 []:=
  (callsIn_wide.2 (SK (R:=fun v H' => ∃b,v= .tuple #[at_ b 0,.int .i64 0]∧uE w.heap H' b fs lev [] 36000 []) hs gf tK (fun H' b st=> ⟨b,rfl,st⟩) w rfl)).mono fun e w' ⟨v,h1,h2,b,h3,h4⟩=> ⟨b,by rw [h1,h3],h2,h4⟩
 have hA: ∀W:World,∀b,CallsIn Fence.wide 0 Tryz.prog 49 #[at_ b 0] W fun e W' => ∃mb,e= .returned (.func (.func 103) #[] #[at_ mb 0])∧Go.Vc.dI W W' ∧aw W.heap W'.heap [.box mb [at_ b 0] 111]:=fun W b=>
  (callsIn_wide.2 (Px (R:=fun v H' => ∃mb,v= .func (.func 103) #[] #[at_ mb 0]∧aw W.heap H' [.box mb [at_ b 0] 111]) (fun H' mb o=> ⟨mb,rfl,o⟩) W rfl)).mono fun e w' ⟨v,h1,h2,mb,h3,h4⟩=> ⟨mb,by rw [h1,h3],h2,h4⟩
 refine(callsIn_wide (n:=0)).1 ?_;refine callsIn_of_wp_marks Tryz.func18 rfl trivial ?_ rfl;simp only [Tryz.ntmps18,akI,aj2,aj7,Nat.reduceAdd,Nat.reduceSub,amv,amw,amx,amy,aj4,akX]
 gi_wp2_with (first| (refine⟨trivial,rfl,?_⟩;gi_at_call 48;refine hN.mono ?_;clear hN;rintro e W1 ⟨b,rfl,A3,st1⟩) | (refine⟨trivial,rfl,?_⟩;gi_at_call 49;refine(hA _ _).mono ?_;clear hA;rintro e W2 ⟨mb,rfl,tR,o2⟩))
 obtain⟨ob,V8⟩: ∃ob,ob=W1.heap.size:= ⟨_,rfl⟩;rw [←V8];have aaO:uE w.heap (W1.alloc (.cells #[.slice none 0 0] 60)).heap b fs lev [] 36000 [.box ob [.slice none 0 0] 60]:=st1.nq fun fv tb l hv rest tail o=>
  (o.add (Ext.refl _).push (i:= .box ob [.slice none 0 0] 60) (by rw [V8];exact World.alloc_heap_new _ _) (by intro k hk;obtain rfl:ob=k:=hk;exact Nat.le_of_eq V8.symm)).fW (by repeat(first|exact aY.refl|exact bu.here|apply aY.cons|apply bu.there))
 clear V8;have X6:uE w.heap W2.heap b fs lev [] 36000 [.box mb [at_ b 0] 111,.box ob [.slice none 0 0] 60]:=aaO.nq fun fv tb l hv rest tail o=> (o.call o2).fW (by repeat(first|exact aY.refl|exact bu.here|apply aY.cons|apply bu.there));refine CU (gf:=103) (lb:= #[at_ mb 0]) rfl (enters_of Tryz.func103 (by kernel_rfl) rfl) ?_;intro fn W4 hW4 hL hD tV Xl;have c4:aw W2.heap W4.heap [.ay (tM (W2.heap.size+1) _),.ay (tM W2.heap.size (.deferred (some [])))]:= ⟨tV,by
   intro i hi;rcases aj5.1 hi with rfl|hi
   ·exact hL
   ·obtain rfl:=akt.1 hi;exact hD,by
   intro i hi k hk;rcases aj5.1 hi with rfl|hi
   ·obtain rfl:k=_:=hk;omega
   ·obtain rfl:=akt.1 hi;obtain rfl:k=_:=hk;omega,by
   refine aki.2 ⟨fun j hj k hk D4=>?_,List.pairwise_singleton _ _⟩;obtain rfl:=akt.1 hj;obtain rfl:k=_:=hk;have:W2.heap.size+1=W2.heap.size:=D4;omega⟩
 have YP:=X6.nq fun fv tb l hv rest tail o=> (yQ 1 (by decide) (o.call c4)).fW (L' :=Nu b fv fs lev tb l hv rest tail (DJ (W2.heap.size+1) W2.heap.size _ mb b ob (.slice none 0 0) [])) (by repeat(first|exact aY.refl|exact bu.here|apply aY.cons|apply bu.there));refine(SV hT hG tK gf (ajR _) YP ?_).mono ?_
 ·intro W' gone fZ kH s n hlen st
  have Xm :=st.rec;refine CV Xm rfl ?_
  gi_wp2
  refine⟨_,run_beginRound Xm rfl,?_⟩;refine wpIn_block (wpIn_region_lit ?_);generalize hrb:Obj.loop {(p7 _ _ _ _ _ _ .ready none) with state:= .busy}=X7;obtain⟨Wb,hWb⟩: ∃Wb,Wb=W'.putObj (W2.heap.size+1) X7:= ⟨_,rfl⟩;have aeK :Go.Vc.dI W' Wb:=by rw [hWb];exact⟨rfl,rfl,rfl,fun _=>ajR _⟩
  have YQ:uE w.heap Wb.heap b fs lev gone n (Eo (.ay (tM (W2.heap.size+1) X7)) W2.heap.size mb b ob kH fZ):=by
   rw [hWb];exact st.set
  rw [←hWb];clear hWb;refine JN Tryz.tc rfl rfl (fun c h=>nomatch h) rfl (K:=fun v H' =>v=kH∧H' =Wb.heap) (r:=al Wb.heap (at_ ob 0) fun v=>v=kH∧Wb.heap=Wb.heap) (by kernel_rfl) (YQ.out ⟨rfl,rfl⟩) ?_;rintro v0 Wc hrc ⟨Tt,hc⟩;subst Tt;rw [←hc] at YQ;refine JN Tryz.tc rfl rfl (fun c h=>nomatch h) rfl (K:=fun v H' =>v=str s∧H' =Wc.heap) (r:=str s=str s∧Wc.heap=Wc.heap) (by kernel_rfl) ⟨rfl,rfl⟩ ?_;rintro _ Wd Wh ⟨rfl,hd⟩;rw [←hd] at YQ;obtain⟨r0,PR⟩: ∃r0,r0=It.ay (tM (W2.heap.size+1) X7):= ⟨_,rfl⟩;rw [←PR] at YQ;refine JN Tryz.tc rfl rfl (fun c h=>nomatch h) rfl (K:=fun y H' =>uE w.heap H' b fs lev gone n (.sl y 1 [str s]::Eo r0 W2.heap.size mb b ob v0 fZ)) (r:=aX Wd.heap 9 1 [str []] [(0,1,str s)] fun y H' =>uE w.heap H' b fs lev gone n (.sl y 1 [str s]::Eo r0 W2.heap.size mb b ob v0 fZ)) (by kernel_rfl) ?_ ?_
  ·obtain⟨fv,tb,l,hv,rest,tail,h1,h2,h3,h4,h5,h6,h7,o⟩:=YQ
   exact o.ej (sz:=1) (by decide) rfl rfl fun y H' o=> ⟨fv,tb,l,hv,rest,tail,h1,h2,h3,h4,h5,h6,h7,o.fW (by repeat(first|exact aY.refl|exact bu.here|apply aY.cons|apply bu.there))⟩
  clear YQ;intro y We hre st;refine JN Tryz.tc rfl rfl (fun c h=>nomatch h) rfl (K:=fun v' H' =>uE w.heap H' b fs lev gone n (.sl y 1 [str s]:: [r0,.ay (tM W2.heap.size (.deferred (some []))),.box mb [at_ b 0] 111,.box ob [v0] 60,.sl v' 1 (iC (fZ++ [s]))])) (r:=bg We.heap 9 1 16 [str []] v0 y fun v' H' =>uE w.heap H' b fs lev gone n (.sl y 1 [str s]:: [r0,.ay (tM W2.heap.size (.deferred (some []))),.box mb [at_ b 0] 111,.box ob [v0] 60,.sl v' 1 (iC (fZ++ [s]))])) (by kernel_rfl) ?_ ?_
  ·obtain⟨fv,tb,l,hv,rest,tail,h1,h2,h3,h4,h5,h6,h7,o⟩:=st
   refine o.append (n:=fZ.length) (m:=1) (by repeat(first|exact bu.here|apply bu.there)) rfl (o.sl (v:=y) (by repeat(first|exact ajP|apply ajO))) (by rw [oJ,aj0]) rfl rfl (by omega) fun v' H' o=> ⟨fv,tb,l,hv,rest,tail,h1,h2,h3,h4,h5,h6,h7,?_⟩;rw [nK];exact o.fW (by repeat(first|exact aY.refl|exact bu.here|apply aY.cons|apply bu.there))
  clear st;intro v' Wf hrf st;refine JN Tryz.tc rfl rfl (fun c h=>nomatch h) rfl (K:=fun _ H' =>uE w.heap H' b fs lev gone n (Eo r0 W2.heap.size mb b ob v' (fZ++ [s]))) (r:=aE Wf.heap (at_ ob 0) v' fun _ H' =>uE w.heap H' b fs lev gone n (Eo r0 W2.heap.size mb b ob v' (fZ++ [s]))) (by kernel_rfl) ?_ ?_
  ·obtain⟨fv,tb,l,hv,rest,tail,h1,h2,h3,h4,h5,h6,h7,o⟩:=st
   exact o.bK (b:=ob) (f:=0) (by repeat(first|exact ajP|apply ajO)) (ajU rfl) (o.sl (v:=v') (by repeat(first|exact ajP|apply ajO))).one (by repeat(first|exact bd.here|apply bd.there)) fun H' o _=> ⟨fv,tb,l,hv,rest,tail,h1,h2,h3,h4,h5,h6,h7,o.arr (by repeat(first|exact dV.nil|exact bu.here|apply dV.cons|apply bu.there))⟩
  clear st;intro _ Wg hrg st;refine wpListIn_nil ?_;rw [PR] at st;have hbz:=st.X5;simp only [Exit.inBlock];rw [←hrb] at hbz;refine⟨_,_,L9 hbz,rfl,((((((aeK.trans hrc).trans Wh).trans hre).trans hrf).trans hrg).trans ⟨rfl,rfl,rfl,fun _=>ajR _⟩),v',?_⟩;exact st.set
 ·rintro e W5 ⟨v5,rfl,hr5,fZ,kH,n,hlen,ha,st5⟩
  have ZY:=st5.rec;refine⟨v5,.ready,none,rfl,ZY,by simp,?_⟩;generalize FL:Obj.loop _=Ln;obtain⟨W6,Tn⟩: ∃W6,W6=W5.putObj (W2.heap.size+1) Ln:= ⟨_,rfl⟩;have st6:uE w.heap W6.heap b fs lev fZ.flatten n (Eo (.ay (tM (W2.heap.size+1) Ln)) W2.heap.size mb b ob kH fZ):=by rw [Tn];exact st5.set
  have hr6:Go.Vc.dI w W6:=by
   have h1:Go.Vc.dI W1 (W1.alloc (.cells #[.slice none 0 0] 60)):= ⟨rfl,rfl,rfl,fun _=>ajR _⟩;have h2:Go.Vc.dI W5 W6:=by rw [Tn];exact⟨rfl,rfl,rfl,fun _=>ajR _⟩
   exact((((A3.trans h1).trans tR).trans Xl).trans hr5).trans h2
  rw [←Tn];clear Tn st5 hr5 ZY YP c4 tV Xl hL hD hW4 X6 aaO o2 tR st1 A3 FL;have cO:W6.cell? ⟨ob,0,none⟩=some kH:=by
   obtain⟨fv,tb,l,hv,rest,tail,h1,h2,h3,h4,h5,h6,h7,o⟩:=st6;exact j7 (o.ll (b:=ob) (cs:= [kH]) (by repeat(first|exact ajP|apply ajO)))
  have hD6:W6.heap[W2.heap.size]? =some (.deferred (some [])):=by
   obtain⟨fv,tb,l,hv,rest,tail,h1,h2,h3,h4,h5,h6,h7,o⟩:=st6;exact o.ay (T:=tM W2.heap.size _) (by repeat(first|exact ajP|apply ajO))
  gi_wp2
  refine⟨by simp,.inl ⟨_,_,rfl,run_takeDeferred hD6,?_⟩⟩;refine⟨.tuple #[kH,.int .i64 0],results_tmp2 (fn:=Tryz.f18) (t:=4) (u:=5) rfl _ _ _,_,rfl,hr6.trans ⟨rfl,rfl,rfl,fun _=>ajR _⟩,?_⟩;obtain⟨fv,tb,l,hv,rest,tail,h1,h2,h3,h4,h5,h6,h7,o⟩:=st6;have o:aw w.heap (W6.heap.setIfInBounds W2.heap.size (.deferred none)) (Nu b fv fs lev tb l hv rest tail [.ay (tM (W2.heap.size+1) Ln),.ay (tM W2.heap.size (.deferred none)),.box mb [at_ b 0] 111,.box ob [kH] 60,.sl kH 1 (iC fZ)]):=o.nq (i:= .ay (tM W2.heap.size (.deferred (some [])))) (i' := .ay (tM W2.heap.size (.deferred none))) (by repeat(first|exact bd.here|apply bd.there)) (by simp) (fun k hk hf=>dW (fun e=>hf e.symm)) (cB (bw hD6)) (fun k hk=> .inl hk);exact h _ kH fZ ha hlen (o.arr (by repeat(first|exact dV.nil|exact bu.here|apply dV.cons|apply bu.there)))
end
section
set_option maxRecDepth 100000
variable {H H0 H' :ak} {R:Value→ak→Prop} {L:List It} {s:List UInt8}
theorem mG {l:List Fp} (g:jP l): (dL l).length≤31482:=by
 have h1:=JJ g;have h2:=g.Em l.length;rw [aj8] at h2;unfold dL;rw [ajQ];omega
theorem zY.le {fs:List Fl} {lev:Nat} {X:List UInt8} (h:zY fs lev X):X.length≤31482:=by
 obtain⟨l,g,_,_,rfl⟩:=h;exact mG g
theorem z8 {v:Value} {fs:List Fl} {lev:Nat} (hT:Reads H ⟨5,0,none⟩ jU) (hG:Reads H ⟨0,0,none⟩ je) (hs:Sl H v 8 (iZ fs)) (gf:nX fs) (tK:lev≤9)
  (h: ∀H' X,zY fs lev X→Ext H H' →R (.tuple #[str X,.int .i64 0]) H'):ab Tryz.prog 8 #[v,.int .i64 (lev:Int)] H R:=by
 refine l_.vc _ _ _ _ ?_;unfold l_.res;refine Pz hT hG hs gf tK fun H1 sv fZ ha hl o=>?_;refine ai (vs:= [sv,.int .i64 0]) rfl ?_;refine ai (vs:= [sv,.int .i64 0]) rfl ?_;refine NZ (o.sl (by repeat(first|exact ajP|apply ajO))) (by omega) (by have:=ha.le;omega) fun H2 rR=>?_;exact h H2 _ ha (o.ext.trans rR)
theorem PA {v1 v2:Value} {fs1 fs2:List Fl} {lev:Nat} (hT:Reads H ⟨5,0,none⟩ jU) (hG:Reads H ⟨0,0,none⟩ je) (h1:Sl H v1 8 (iZ fs1)) (h2:Sl H v2 8 (iZ fs2)) (gf:nX (fs1++fs2)) (tK:lev≤9)
  (h: ∀H' X,zY (fs1++fs2) lev X→Ext H H' →R (.tuple #[str X,.int .i64 0,.int .i64 0]) H'):ab Tryz.prog 15 #[v1,v2,.int .i64 (lev:Int)] H R:=by
 have hl:=gf.len;rw [ajQ] at hl;refine nd.vc _ _ _ _ _ ?_;unfold nd.res;have o:=yQ 8 (by decide) (aw.start (H:=H));refine o.append (n:=0) (m:=fs1.length) (by repeat(first|exact bu.here|apply bu.there)) rfl h1 rfl (gM fs1) (wA Bm) (by omega) fun a1 H1 o=>?_;refine o.append (n:=fs1.length) (m:=fs2.length) (by repeat(first|exact bu.here|apply bu.there)) rfl (h2.ext o.ext) (gM fs1) (gM fs2) (wA Bm) (by omega) fun a2 H2 o=>?_;have hs:Sl H2 a2 8 (iZ (fs1++fs2)):=by
  have:=o.sl (v:=a2) (by repeat(first|exact ajP|apply ajO))
  rwa [show iZ fs1++iZ fs2=iZ (fs1++fs2) from (ij _ _).symm] at this
 refine AY hs gf tK fun H3 wx=>?_;refine ai (vs:= [.int .i64 0,.int .i64 0]) rfl ?_;refine ai (vs:= [.int .i64 0,.int .i64 0]) rfl ?_;refine jD ?_;rw [ao];have hx:=o.ext.trans wx;refine z8 (hT.ext hx) (hG.ext hx) (hs.ext wx) gf tK fun H4 X ha tV=>?_;refine ai (vs:= [str X,.int .i64 0]) rfl ?_;refine ai (vs:= [str X,.int .i64 0]) rfl ?_;exact h H4 X ha (hx.trans tV)
end
section
set_option maxRecDepth 100000
variable {H H0 H' :ak} {R:Value→ak→Prop} {L:List It} {s:List UInt8}
structure nj (l:List Fp):Prop where
 ok:jP l
 run: ∀x∈l,x.1.iY≠ []→Go.Proofs.YtpcgccdmmoggmaaGreatDoor.run ⟨.hd,toBits x.2,[]⟩= (x.1.iY,⟨.dn,[],x.1.iY⟩,0)
def eW (l:List Fp) (k:Nat):Nat:= (a8 (l.take k)).length
def ik (l:List Fp):List (List UInt8):= (l.map Prod.fst).map Fl.nm
def jT (x:Fp):Nat:= (bM (cy x 0)).length
def FB (x:Fp) (a:Nat) (W:List UInt8):Hd:= ⟨x.1.nm,x.1.t,0,W.length,mq 0 W,a,false⟩
inductive Ph (l:List Fp) (p:Pd) (ns:List (List UInt8)) (S:ir):Nat→Option (List UInt8)→Prop
 |h0 (k:Nat) (hk:k≤l.length) (ff:p.st=0) (ji:p.at' =eW l k) (DS:ns= (ik l).take k):Ph l p ns S k none
 |h1 (k:Nat) (hk:k<l.length) (d:Nat) (ff:p.st=1) (hd:p.d=at_ d 0) (d_:l[k].1.iY≠ []) (hf:p.dP<l[k].2.length) (hD:SL d (lh l[k].2 p.dP).2.1 p.dP S) (ji:p.at' =eW l k+ (jT l[k]+p.dP)) (hh:p.h=FB l[k] (eW l k) (lh l[k].2 p.dP).1) (il:p.Aw=false) (DS:ns= (ik l).take (k+1)):Ph l p ns S k (some (lh l[k].2 p.dP).1)
 |h2 (k:Nat) (hk:k<l.length) (ff:p.st=2) (d_:l[k].1.iY≠ []) (ji:p.at' =eW l k+ (jT l[k]+l[k].2.length)) (hh:p.h=cy l[k] (eW l k)) (il:p.Aw=false) (DS:ns= (ik l).take (k+1)):Ph l p ns S k (some l[k].1.iY)
 |h3 (j:Nat) (hj:j< (fM l).length) (ff:p.st=3) (ji:p.at' =eW l l.length+j) (ht:p.tail= (fM l).drop j):Ph l p ns S l.length none
 |h4 (ff:p.st=4) (ji:p.at' = (dL l).length):Ph l p ns S l.length none
def JO:Nat→Nat
 |1=>1
 |2=>2
 |4=>1
 |_=>0
def PS (H0 H:ak) (b:Nat) (l:List Fp) (m:Nat) (E0 E:List Ev) (k:Nat) (W:Option (List UInt8)) (fr:Bool) (L:List It):Prop:=
 ∃p ns S,Ph l p ns S k W∧p.rest= ((dL l).take m).drop p.at' ∧p.at' ≤m∧m≤(dL l).length∧p.en=eW l k∧Tr l (E0++E) k W∧(fr=true→E.length≤3*k+JO p.st)∧(fr=false→(m= (dL l).length→p.st=4)∧E.length≤20∧(k<l.length→m<eW l (k+1)))∧
  aw H0 H (.ay S::fC b p (bO 0 (l.take k)) ns E L)
theorem G1 {Z p y:List UInt8} {a m:Nat} (h:Z=p++y) (ha:a=p.length) (hm:a≤m): (Z.take m).drop a=y.take (m - a):=by
 rw [List.drop_take,h,ha,als]
theorem tN {l:List Fp} {k:Nat} (hk:k<l.length):dL l=a8 (l.take k)++ (mC l[k]++ (a8 (l.drop (k+1))++fM l)):=by
 have h:l=l.take k++ (l[k]::l.drop (k+1)):=by rw [←akN hk,akf]
 have e:a8 l=a8 (l.take k)++ (mC l[k]++a8 (l.drop (k+1))):=by
  conv=>lhs;rw [h,pn]
  congr 1
 unfold dL;rw [e]
 simp
theorem qf {l:List Fp} {k:Nat} (hk:k<l.length):eW l (k+1)=eW l k+ (mC l[k]).length:=by
 unfold eW;rw [fe hk,pn,wB,ajQ]
theorem BK (l:List Fp):eW l l.length= (a8 l).length:=by unfold eW;rw [aj8]
theorem pF (x:Fp): (mC x).length=jT x+ (x.2.length+ (c9 (cy x 0)).length):=by unfold mC jT;simp only [ajQ]
theorem BL {x y:List UInt8} {n:Nat} (h:n≤x.length): (x++y).take n=x.take n:=akM h
theorem Nx {x y:List UInt8} {n:Nat} (h:x.length≤n): (x++y).take n=x++y.take (n - x.length):=by
 rw [List.take_append,aj9 h]
theorem L_ {l:List Fp} {k m f:Nat} (hk:k<l.length) (hm:eW l k+ (jT l[k]+f)≤m) (hf:f≤l[k].2.length): ((dL l).take m).drop (eW l k+ (jT l[k]+f))= (l[k].2.drop f++ (c9 (cy l[k] 0)++ (a8 (l.drop (k+1))++fM l))).take (m - (eW l k+ (jT l[k]+f))):=by
 refine G1 (p:=a8 (l.take k)++ (bM (cy l[k] 0)++l[k].2.take f)) ?_ ?_ hm
 ·rw [tN hk]
  unfold mC
  conv=>lhs;rw [←akf f l[k].2]
  simp only [ajT]
 ·simp only [ajQ,ajW,eW,jT];omega
def tO (H:ak) (b:Nat):Nat:=match H[b]? with
 |some (.cells cs _ _)=>match (cs[1]? :Option Value),(cs[2]? :Option Value) with
  |some (.string r),some (.int _ st)=>2*r.size+ (if st=0 then 1 else 0)
  |_,_=>0
 |_=>0
theorem sN {b:Nat} {p:Pd} {hs:List Hd} {ns:List (List UInt8)} {E:List Ev} {S:ir} (o:aw H0 H (.ay S::fC b p hs ns E L)):tO H b=2*p.rest.length+ (if p.st=0 then 1 else 0):=by
 have h:=o.ll (b:=b) (by repeat(first|exact ajP|apply ajO));unfold tO;rw [h];simp only [Pd.cells];show 2*p.rest.toArray.size+ (if ((p.st:Nat):Int)=0 then 1 else 0)=_;rw [akI]
 congr 1
 by_cases h0:p.st=0
 ·rw [if_pos h0,if_pos (by omega)]
 ·rw [if_neg h0,if_neg (by omega)]
end
section
set_option maxRecDepth 100000
variable {H H0 H' :ak} {R:Value→ak→Prop} {L:List It} {s:List UInt8} {b m k:Nat} {l:List Fp} {E0 E:List Ev} {W:Option (List UInt8)}
theorem SX {l:List Fp} (g:nj l) {k:Nat} (hk:k<l.length) (d_:l[k].1.iY≠ []):run ⟨.hd,toBits l[k].2,[]⟩= (l[k].1.iY,⟨.dn,[],l[k].1.iY⟩,0):=g.run _ (ajZ hk) d_
theorem X8 {l:List Fp} (g:nj l) {k:Nat} (hk:k<l.length) (d_:l[k].1.iY≠ []):0<l[k].2.length:=by
 rcases alR l[k].2.length with h|h
 ·have h1:=SX g hk d_
  rw [amt.1 h] at h1;have h2:run ⟨.hd,[],[]⟩= (l[k].1.iY,⟨.dn,[],l[k].1.iY⟩,0):=h1;rw [E_] at h2;exact absurd (congrArg (fun x=>x.1) h2).symm d_
 ·exact h
theorem U1 {pk iY:List UInt8} (h:run ⟨.hd,toBits pk,[]⟩= (iY,⟨.dn,[],iY⟩,0)) {f:Nat} (hf:f<pk.length): (lh pk f).2.1.st.mm=false:=by
 cases hn: (lh pk f).2.1.st.mm with
 |false=>rfl
 |true=>
  have h0: (run ⟨.hd,toBits pk,[]⟩).2.2=0:=by rw [h]
  have h1:=zR h0 f (pk.length - f);have h2: (DM.add (lh pk f).2.1 (toBits ((pk.drop f).take (pk.length - f)))).st.mm=true:=hn;rw [xk h2,Jl (by omega),h] at h1;have h3:=congrArg (fun x=>x.2.1.B) h1;simp only [DM.add] at h3;have h4:=congrArg List.length h3;rw [ajQ,bs,ajW,aj1] at h4
  simp at h4
  omega
theorem DK {pk iY z:List UInt8} (h:run ⟨.hd,toBits pk,[]⟩= (iY,⟨.dn,[],iY⟩,0)) {f:Nat} (hf:f≤pk.length): ∃o,iY= (lh pk f).1++o∧run ((lh pk f).2.1.add (toBits (pk.drop f++z)))= (o,⟨.dn,toBits z,iY⟩,0):=by
 have h0: (run ⟨.hd,toBits pk,[]⟩).2.2=0:=by rw [h]
 have h1:=zR h0 f (pk.length - f);rw [show f+ (pk.length - f)=pk.length by omega,Jl (ajR _),h,aj9 (by rw [aj1];omega)] at h1;obtain⟨o,D',e,hr⟩: ∃o D' e,run ((lh pk f).2.1.add (toBits (pk.drop f)))= (o,D',e):= ⟨_,_,_,rfl⟩;rw [hr] at h1;simp only [ak4] at h1;obtain⟨h2,rfl,rfl⟩:=h1;refine⟨o,h2,?_⟩;have hs:Gq (lh pk f).2.1.st:=Rw _ _ (amD _) trivial;have h3:= (Bx (C:=toBits z) (BF z) _ ((lh pk f).2.1.add (toBits (pk.drop f))) (amD _) hs).1 (by rw [hr]);rw [hr] at h3;have e1:DM.add (DM.add (lh pk f).2.1 (toBits (pk.drop f))) (toBits z)= (lh pk f).2.1.add (toBits (pk.drop f++z)):=by
  unfold DM.add;rw [ey,ajT]
 rw [e1] at h3;rw [h3];have h4:run (DM.add ⟨.dn,[],iY⟩ (toBits z))= ([],DM.add ⟨.dn,[],iY⟩ (toBits z),0):=xk rfl;rw [h4,akb]
 rfl
theorem Ma (z:List UInt8):a7 ((eZ (toBits z)).take (8* ((toBits z).length/8)))=z:=by
 have e:eZ (toBits z)=toBits z:=by unfold eZ;rw [BF,ako]
 rw [e,bs,show 8* (8*z.length/8)=8*z.length by omega,←bs,aj8,qq]
def Ha:Hd:= ⟨[97],⟨1980,1,1,0,0,0⟩,0,0,0,0,true⟩
theorem X9:CQ Ha:= ⟨zG,by decide,akj _,akj _,by show (0:Nat)<_;decide,akj _,fun _=> ⟨rfl,rfl⟩⟩
theorem PB (l:List Fp): ∃c r,c≠3∧fM l=80::75::c::r:=by
 unfold fM
 cases l with
 |nil=>exact⟨5,_,by decide,rfl⟩
 |cons x l=>exact⟨1,_,by decide,rfl⟩
theorem JP {x:Fp} (d_:x.1.iY≠ []) (a:Nat): (c9 (cy x a)).length=16:=by
 have hk: (cy x a).k=false:=decide_eq_false d_;unfold c9;rw [hk];simp [aD]
theorem Mb (g:nj l) {p:Pd} {S:ir} (hk:k≤l.length) (ff:p.st=0) (ji:p.at' =eW l k) (hr:p.rest= ((dL l).take m).drop p.at') (hc:p.at' ≤m) (hm:m≤(dL l).length) (nz:p.en=eW l k) (tr:Tr l (E0++E) k none) (hE:E.length≤3*k)
  (o:aw H0 H (.ay S::fC b p (bO 0 (l.take k)) ((ik l).take k) E L))
  (zx: ∀H' E' k' W',PS H0 H' b l m E0 E' k' W' true L→tO H' b<tO H b→R (.int .i64 0) H')
  (sA: ∀H' E' k' W',PS H0 H' b l m E0 E' k' W' false L→R (.int .i64 2) H'):ab Tryz.prog 42 #[at_ b 0] H R:=by
 have hZ:=mG g.ok;have h5:=g.ok.len;have DT:=sN o;rw [if_pos ff] at DT;have Gi:p.rest.length=m - p.at' :=by rw [hr,aj1,ajW];omega
 refine X0 ff (o.fW (L' :=fC b p (bO 0 (l.take k)) ((ik l).take k) E (.ay S::L)) (by repeat(first|exact aY.refl|exact bu.here|apply aY.cons|apply bu.there))) ?_;have o2:aw H0 H (fC b p (bO 0 (l.take k)) ((ik l).take k) E (.ay S::L)):=o.fW (by repeat(first|exact aY.refl|exact bu.here|apply aY.cons|apply bu.there));rcases akz k l.length with j5|j5
 ·have sm:CQ (cy l[k] (eW l k)):=g.ok.sm (ajZ j5) (by have:=g.ok.Em k;unfold eW;omega)
  have Tp:bM (cy l[k] (eW l k))=bM (cy l[k] 0):=rfl;have D7:dL l=a8 (l.take k)++ (bM (cy l[k] 0)++ (l[k].2++ (c9 (cy l[k] 0)++ (a8 (l.drop (k+1))++fM l)))):=by rw [tN j5];unfold mC;simp
  have tR:=hr;rw [ji,G1 (a:=eW l k) D7 rfl (by rw [←ji];exact hc)] at tR;rcases akz (m - eW l k) (jT l[k]) with eF|Vu
  ·rw [BL (Nat.le_of_lt eF)] at tR
   refine FA sm (m:=m - eW l k) eF tR o2 fun H1 o=>?_;refine sA H1 E k none ⟨p,_,S,.h0 k hk ff ji rfl,hr,hc,hm,nz,tr,(fun h=>nomatch h),fun _=> ⟨fun hmz=>?_,by omega,fun _=>by rw [qf j5,pF];omega⟩,o.fW (by repeat(first|exact aY.refl|exact bu.here|apply aY.cons|apply bu.there))⟩;have:=congrArg List.length D7;simp only [ajQ] at this;unfold eW jT at eF;omega
  ·rw [Nx Vu] at tR
   have PU: ((ik l).take k).length=k:=by rw [ajW,ik,aka,aka];omega
   have hnk: (ik l).take k++ [(cy l[k] (eW l k)).nm]= (ik l).take (((ik l).take k).length+1):=by
    rw [PU,fe (by rw [ik,aka,aka];exact j5)]
    simp [ik,cy]
   have hhl: (bO 0 (l.take k)).length≤5:=by rw [j_,ajW];omega
   have ze:p.at' +p.rest.length≤100000000:=by rw [Gi];omega
   have SY: ((dL l).take m).drop (p.at' + (bM (cy l[k] (eW l k))).length)= (l[k].2++ (c9 (cy l[k] 0)++ (a8 (l.drop (k+1))++fM l))).take (m - eW l k - jT l[k]):=by
    rw [←akR,←hr,tR,Tp,als];rfl
   have aaP: (ik l).take k++ [(cy l[k] (eW l k)).nm]= (ik l).take (k+1):=by rw [hnk,PU]
   have Wm:bO 0 (l.take (k+1))=bO 0 (l.take k)++ [cy l[k] (eW l k)]:=by
    rw [fe j5,qe,bO,bO,aj6];rfl
   refine Py (x:=cy l[k] (eW l k)) (r:= (l[k].2++ (c9 (cy l[k] 0)++ (a8 (l.drop (k+1))++fM l))).take (m - eW l k - jT l[k])) sm tR (by rw [Gi];omega) ze g.ok.Pv.XX hnk (by rw [PU];omega) hhl (by omega) o2 (fun Mu H1 qN J5 oe o=>?_) (fun Mu H1 d S' J5 oe hD o=>?_)
   ·have Mc:l[k].1.iY= []:=of_decide_eq_true Mu
    have FU:= (g.ok.pk _ (ajZ j5)).2 Mc;have hbe:ny (cy l[k] (eW l k)) p.at' =cy l[k] (eW l k):=by
     unfold ny cy;rw [ji,FU,Mc]
     rfl
    have aeO: (c9 (cy l[k] 0)).length=0:=by
     have: (cy l[k] 0).k=true:=decide_eq_true Mc;unfold c9;rw [this];rfl
    have tQ:eW l (k+1)=p.at' + (bM (cy l[k] (eW l k))).length:=by
     rw [qf j5,pF,aeO,FU,ji,Tp];rfl
    rw [hbe] at o;rw [aaP,←Wm] at o;have o:=o.fW (L' := .ay S::fC b {p with rest:= (l[k].2++ (c9 (cy l[k] 0)++ (a8 (l.drop (k+1))++fM l))).take (m - eW l k - jT l[k]),st:=0,at' :=p.at' + (bM (cy l[k] (eW l k))).length,en:=p.at' + (bM (cy l[k] (eW l k))).length,h:=cy l[k] (eW l k),Aw:=false,hv:=qN,nv:=J5,ov:=oe} (bO 0 (l.take (k+1))) ((ik l).take (k+1)) (E++ [⟨1,cy l[k] (eW l k),[]⟩]++ [⟨3,cy l[k] (eW l k),[]⟩]) L) (by repeat(first|exact aY.refl|exact bu.here|apply aY.cons|apply bu.there));have DL:=sN o;refine zx H1 _ (k+1) none ⟨_,_,S,.h0 (k+1) j5 rfl tQ.symm rfl,SY.symm,?_,hm,tQ.symm,?_,fun _=>?_,(fun h=>nomatch h),o⟩ ?_
    ·show p.at' + (bM (cy l[k] (eW l k))).length≤m
     rw [Tp];unfold jT at Vu;omega
    ·rw [←ajT,←ajT]
     refine .fil j5 ?_ rfl rfl;rw [Mc];exact .beg j5 tr rfl rfl
    ·simp only [ajQ,alf,JO];omega
    ·rw [DT,DL,Gi,ji]
     simp only [if_true];have h1: (((l[k].2++ (c9 (cy l[k] 0)++ (a8 (l.drop (k+1))++fM l))).take (m - eW l k - jT l[k]))).length≤m - eW l k - jT l[k]:=by rw [ajW];omega
     have h2:30≤jT l[k]:=by unfold jT;rw [kx];omega
     omega
   ·have Mc:l[k].1.iY≠ []:=of_decide_eq_false Mu
    have hbe:ny (cy l[k] (eW l k)) p.at' =FB l[k] (eW l k) (lh l[k].2 0).1:=by
     rw [zQ];unfold ny FB;rw [ji,Mu]
     rfl
    rw [aaP] at o;obtain⟨y,hy⟩: ∃y,y= (l[k].2++ (c9 (cy l[k] 0)++ (a8 (l.drop (k+1))++fM l))).take (m - eW l k - jT l[k]):= ⟨_,rfl⟩;rw [←hy] at o SY;obtain⟨p1,lu⟩: ∃p1:Pd,p1= {p with rest:=y,st:=1,at' :=p.at' + (bM (cy l[k] (eW l k))).length,h:=ny (cy l[k] (eW l k)) p.at',Aw:=false,d:=at_ d 0,dP:=0,nv:=J5,ov:=oe}:= ⟨_,rfl⟩;have o:aw H0 H1 (.ay S' ::fC b p1 (bO 0 (l.take k)) ((ik l).take (k+1)) (E++ [⟨1,ny (cy l[k] (eW l k)) p.at',[]⟩]) L):=by
     rw [lu];exact(o.fW (L' := .ay S:: .ay S' ::fC b _ (bO 0 (l.take k)) ((ik l).take (k+1)) (E++ [⟨1,ny (cy l[k] (eW l k)) p.at',[]⟩]) L) (by repeat(first|exact aY.refl|exact bu.here|apply aY.cons|apply bu.there))).rN 1
    have f1:p1.st=1:=by rw [lu]
    have f2:p1.dP=0:=by rw [lu]
    have f3:p1.d=at_ d 0:=by rw [lu]
    have f4:p1.at' =p.at' + (bM (cy l[k] (eW l k))).length:=by rw [lu]
    have f5:p1.h=ny (cy l[k] (eW l k)) p.at' :=by rw [lu]
    have f6:p1.rest=y:=by rw [lu]
    have f7:p1.Aw=false:=by rw [lu]
    have f8:p1.en=p.en:=by rw [lu]
    clear lu;have DL:=sN o;have ph:=Ph.h1 (p:=p1) (ns:= (ik l).take (k+1)) (S:=S') k j5 d f1 f3 Mc (by rw [f2];exact X8 g j5 Mc) (by rw [f2,zQ];exact hD) (by rw [f4,f2,ji,Tp];rfl) (by rw [f5,f2];exact hbe) f7 rfl;rw [f2,zQ] at ph;refine zx H1 _ k (some []) ⟨p1,_,S',ph,by rw [f6,f4];exact SY.symm,?_,hm,by rw [f8];exact nz,?_,fun _=>?_,(fun h=>nomatch h),o⟩ ?_
    ·rw [f4,Tp];unfold jT at Vu;omega
    ·rw [←ajT]
     exact .beg j5 tr rfl rfl
    ·rw [f1];simp only [ajQ,alf,JO];omega
    ·rw [DT,DL,Gi,ji,f1,f6]
     simp only [Nat.one_ne_zero,if_false];have h1:y.length≤m - eW l k - jT l[k]:=by rw [hy,ajW];omega
     omega
 ·obtain rfl:k=l.length:=by omega
  obtain⟨c,r,DU,Jb⟩:=PB l;have ze:=BK l;have D7:dL l=a8 l++ (80::75::c::r):=by unfold dL;rw [Jb]
  have tR:=hr;rw [ji,ze,G1 D7 rfl (by rw [←ze,←ji];exact hc)] at tR;have Xs:=congrArg List.length D7;have h22:22≤(fM l).length:=by unfold fM;rw [ajQ,nV];omega
  rw [ajQ,←Jb] at Xs;rcases akz (m - (a8 l).length) 3 with eF|Vu
  ·have KF:p.rest= (bM Ha).take (m - (a8 l).length):=by
    rw [tR];have:m - (a8 l).length=0∨m - (a8 l).length=1∨m - (a8 l).length=2:=by omega
    rcases this with e|e|e<;>rw [e]<;>rfl
   refine FA X9 (m:=m - (a8 l).length) (by rw [kx];omega) KF o2 fun H1 o=>?_;exact sA H1 E _ none ⟨p,_,S,.h0 _ hk ff ji rfl,hr,hc,hm,nz,tr,(fun h=>nomatch h),fun _=> ⟨fun hmz=>by omega,by omega,fun h=>by omega⟩,o.fW (by repeat(first|exact aY.refl|exact bu.here|apply aY.cons|apply bu.there))⟩
  ·have KF:p.rest=80::75::c::r.take (m - (a8 l).length - 3):=by
    rw [tR];obtain⟨q,hq⟩: ∃q,m - (a8 l).length=q+3:= ⟨m - (a8 l).length - 3,by omega⟩;rw [hq];rfl
   have xE:l.take l.length=l:=aj8;rw [xE] at o2;refine head_tail g.ok DU KF (by rw [Gi];omega) o2 fun H1 o=>?_;have o:=o.fW (L' := .ay S::fC b {p with st:=3,tail:=fM l} (bO 0 l) ((ik l).take l.length) E L) (by repeat(first|exact aY.refl|exact bu.here|apply aY.cons|apply bu.there));have DL:=sN o;refine zx H1 E _ none ⟨{p with st:=3,tail:=fM l},(ik l).take l.length,S,.h3 0 (by omega) rfl ji rfl,hr,hc,hm,nz,tr,fun _=>by simp only [JO];omega,(fun h=>nomatch h),by rw [xE];exact o⟩ ?_;rw [DT,DL]
   simp
end
end Go.Proofs.YtpcgccdmmoggmaaGreatDoor
