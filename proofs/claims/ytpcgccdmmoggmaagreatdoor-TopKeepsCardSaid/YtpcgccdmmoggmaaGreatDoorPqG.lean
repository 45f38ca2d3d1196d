/- Part 7 of the proof of RowTopKeeps: what it is built on, in the order of its needs. -/
import Derived.Test.YtpcgccdmmoggmaaGreatDoorPqF
set_option linter.unusedSimpArgs false
set_option linter.unusedVariables false
set_option maxRecDepth 100000
namespace Go.Proofs.YtpcgccdmmoggmaaGreatDoor
open Go Go.Vc Go.Proofs
section
variable {H H0 H' :ai} {R:Value→ai→Prop} {v:Value} {L:List It} {s:List UInt8} {G:List Tok}
inductive GY (s:List UInt8) (G:List Tok):Nat→Nat→Nat→Prop
 |zero:GY s G 1 (35+8*s.length) 0
 |less {k b d:Nat} {X:List Bool}:GY s G k b d→r4 0 false s G k X→X.length<b→GY s G (k+1) X.length k
 |more {k b d:Nat} {X:List Bool}:GY s G k b d→r4 0 false s G k X→¬X.length<b→GY s G (k+1) b d
theorem GY.pos {k b d:Nat} (h:GY s G k b d):1≤k:=by cases h<;>omega
theorem GY.one {k b d:Nat} (h:GY s G k b d): ∀ {b' d' :Nat},GY s G k b' d' →b=b' ∧d=d' :=by
 induction h with
 |zero=>
  intro b' d' g
  cases g with
  |zero=>exact⟨rfl,rfl⟩
  |less g _ _=>have:=g.pos;omega
  |more g _ _=>have:=g.pos;omega
 |less h hX cF ih=>
  intro b' d' g
  cases g with
  |zero=>have:=h.pos;omega
  |less g gX Wn=>obtain rfl:=hX.one gX;exact⟨rfl,rfl⟩
  |more g gX Wn=>
   obtain rfl:=hX.one gX;obtain⟨rfl,rfl⟩:=ih g;exact absurd cF Wn
 |more h hX cF ih=>
  intro b' d' g
  cases g with
  |zero=>have:=h.pos;omega
  |less g gX Wn=>
   obtain rfl:=hX.one gX;obtain⟨rfl,rfl⟩:=ih g;exact absurd Wn cF
  |more g gX Wn=>exact ih g
theorem L8 {lv:Value} {kind:Nat} (hk:kind<3) (hG:Reads H0 ⟨0,0,none⟩ ff) (ik:s.length≤20000) (hl:It.sl lv 3 (cP G)∈L) (hlen:G.length≤20000) (hg: ∀t∈G,eH t=true) (ht:nT G [] s) (o:ar H0 H L)
  (h: ∀H' (n:Nat),(kind=0→n=35+8*s.length)→(kind≠0→∃X,r4 0 false s G kind X∧n=X.length)→n≤3000000→ar H0 H' L→R (.tuple #[.int .i64 (n:Int),.bool true]) H'):
  ab 317 #[.int .i64 (kind:Int),str s,lv] H R:=by
 refine HH.vc _ _ _ _ _ ?_;rw [bc]
 by_cases h0:kind=0
 ·rw [decide_eq_true (by omega)]
  refine bB ?_;refine tE hk (by omega) (o.sl (v:=lv) hl) (by omega) hg fun H1 hx=>?_;intro _;rw [aD];refine aJ ?_;rw [mc,ba (by omega) (by omega),az,show (35:Int)+8* (s.length:Int)= ((35+8*s.length:Nat):Int) by omega,ba (by omega) (by omega)];exact h H1 _ (fun _=>rfl) (fun g=>absurd h0 g) (by omega) (o.more hx)
 ·rw [decide_eq_false (by omega),cW]
  intro _;rw [aj];refine o.box fun b H2 o _=>?_;have o:=Ot (t:=141) o;refine BS (b:=wp b 141) (W:= []) (V:=s) (l:=false) hk hG (by omega) hl (by omega) (by simp) (fun e=>absurd e h0) hg (fun _=>ht) o fun H3 Rf X hX _ ZD o=>?_;refine LK (tw o (by repeat(first|exact af8|apply af7))) ?_;rw [bc,decide_eq_true rfl,agn];exact h H3 X.length (fun e=>absurd e h0) (fun _=> ⟨X,hX,rfl⟩) (by omega) o.tl
theorem choose_spec {lv:Value} (hG:Reads H0 ⟨0,0,none⟩ ff) (ik:s.length≤20000) (hl:It.sl lv 3 (cP G)∈L) (hlen:G.length≤20000) (hg: ∀t∈G,eH t=true) (ht:nT G [] s) (o:ar H0 H L)
  (h: ∀H' (k b:Nat),k<3→GY s G 3 b k→ar H0 H' L→R (.int .i64 (k:Int)) H'):ab 306 #[str s,lv] H R:=by
 refine CF.vc _ _ _ _ ?_;refine⟨fun bv kv x H' => ∃ (b d k:Nat),bv= .int .i64 (b:Int)∧kv= .int .i64 (d:Int)∧x= .int .i64 (k:Int)∧k≤3∧d<3∧b≤3000000∧((k=0∧b=0∧d=0)∨GY s G k b d)∧ar H0 H' L,fun _ _ x _=>match x with| .int _ i=> (3 - i).toNat|_=>0,⟨0,0,0,rfl,rfl,rfl,by omega,by omega,by omega,.inl ⟨rfl,rfl,rfl⟩,o⟩,?_⟩;clear o;rintro _ _ _ _ H1 ⟨b,d,k,rfl,rfl,rfl,hk,hd,hb,hc,o⟩;rw [aN];refine av (fun cF=>?_) (fun cF=>?_)
 ·have ZE:k<3:=by omega
  refine L8 ZE hG ik hl hlen hg ht o fun H2 n Bg xl hn o=>?_;refine ag (vs:= [.int .i64 (n:Int),.bool true]) rfl ?_;refine ag (vs:= [.int .i64 (n:Int),.bool true]) rfl ?_;rw [db,ahn,aj];refine⟨fun bv H' => ∃b' :Nat,bv= .int .i64 (b' :Int)∧b' ≤3000007∧((k=0∧b' =n+7)∨(k≠0∧b' =b))∧ar H0 H' L,?_,?_⟩
  ·rintro _ _ H3 ⟨b',rfl,PH,jq,o⟩
   rw [aN];refine av (fun h1=>?_) (fun h1=>?_)
   ·rw [az,ba (by omega) (by omega)]
    refine⟨⟨n,k,k+1,rfl,rfl,rfl,by omega,by omega,hn,.inr ?_,o⟩,by show (_:Int).toNat< (_:Int).toNat;omega⟩;rcases jq with ⟨rfl,rfl⟩ | ⟨h0,rfl⟩
    ·rw [Bg rfl];exact .zero
    ·obtain⟨X,hX,rfl⟩:=xl h0
     rcases hc with ⟨e,_⟩ |hc
     ·exact absurd e h0
     ·exact .less hc hX (by omega)
   ·rw [az,ba (by omega) (by omega)]
    rcases jq with ⟨rfl,rfl⟩ | ⟨h0,rfl⟩
    ·omega
    ·obtain⟨X,hX,rfl⟩:=xl h0
     rcases hc with ⟨e,_⟩ |hc
     ·exact absurd e h0
     ·exact⟨⟨b',d,k+1,rfl,rfl,rfl,by omega,hd,hb,.inr (.more hc hX (by omega)),o⟩,by show (_:Int).toNat< (_:Int).toNat;omega⟩
  ·rw [bc]
   refine av (fun h0=>?_) (fun h0=>?_)
   ·rw [az,show (n:Int)+7= ((n+7:Nat):Int) by omega,ba (by omega) (by omega)]
    exact⟨n+7,rfl,by omega,.inl ⟨by omega,rfl⟩,o⟩
   ·exact⟨b,rfl,by omega,.inr ⟨by omega,rfl⟩,o⟩
 ·have e:k=3:=by omega
  subst e;rcases hc with ⟨e,_⟩ |hc
  ·omega
  ·exact h H1 d b hd hc o
def OZ (s:List UInt8) (l:Nat) (X:List Bool):Prop:= ∃kind b,((l=0∧kind=0)∨(l≠0∧GY s (zH [] s l) 3 b kind))∧r4 0 true s (zH [] s l) kind X
theorem OZ.one {l:Nat} {X Y:List Bool} (h:OZ s l X) (k:OZ s l Y):X=Y:=by
 obtain⟨a,b,h1,h2⟩:=h;obtain⟨c,d,k1,k2⟩:=k;rcases h1 with ⟨h0,rfl⟩ | ⟨h0,h1⟩<;>rcases k1 with ⟨k0,rfl⟩ | ⟨k0,k1⟩
 ·exact h2.one k2
 ·exact absurd h0 k0
 ·exact absurd k0 h0
 ·obtain⟨rfl,rfl⟩:=h1.one k1;exact h2.one k2
def F_ (s:List UInt8) (l:Nat) (out:List UInt8):Prop:= ∃X,OZ s l X∧out=bG (iL X)
theorem L9 {l:Nat} {a b:List UInt8} (h:F_ s l a) (k:F_ s l b):a=b:=by
 obtain⟨X,h1,rfl⟩:=h;obtain⟨Y,k1,rfl⟩:=k;rw [h1.one k1]
theorem uZ: ∀ {G:List Tok} {W V:List UInt8},eu G W=some V→nT G W V
 | [],W,V,h=>agN h
 |t::G,W,V,h=>by
  rw [eu] at h
  split at h
  ·rename_i hg
   refine⟨hg,?_⟩
   split at h
   ·rename_i h0
    have e:Iw t W=cU t.n.toNat (W++ [t.b]) t.d.toNat:=by unfold Iw;rw [if_pos h0]
    rw [e];exact uZ h
   ·rename_i h0
    have e:Iw t W=cU t.n.toNat W t.d.toNat:=by unfold Iw;rw [if_neg h0]
    rw [e];exact uZ h
  ·cases h
theorem Ga {eb l:Nat} {c:Value} {dv:Value} {t:TypeId} (hT:Reads H0 ⟨5,0,none⟩ eT) (hG:Reads H0 ⟨0,0,none⟩ ff) (hl:l≤9) (hs:s.length≤16384)
  (o:ar H0 H (.aA (ka ⟨eb,[i64 l,str [],str s],[c],t⟩ dv [])::L))
  (h: ∀H' iK x y X,OZ s l X→TK 0 true X [] s→X.length≤21000+58*s.length→ar H0 H' (.aA (ka ⟨eb,[i64 l,x,y],[c],t⟩ iK X)::L)→R (.tuple #[]) H'):
  ab 284 #[at_ eb 0,.int .i64 (s.length:Int),.bool true] H R:=by
 refine oJ.vc _ _ _ _ _ ?_;rw [au,ae,al];refine jR (j:=0+2) o (by repeat(first|exact af8|apply af7)) rfl ?_;refine bg (lo:=0) (hi:=s.length) (.inr ⟨rfl,rfl⟩) (.inl rfl) (by omega) (by omega) ?_;rw [agS,ahb,agr,au,ae,al];refine jR (j:=0+2) o (by repeat(first|exact af8|apply af7)) rfl ?_;refine bg (lo:=s.length) (hi:=s.length) (.inl rfl) (.inr ⟨rfl,rfl⟩) (by omega) (by omega) ?_;rw [ahB,ahW,au,ae,al];refine y_ (j:=0+2) (x:=str []) o (by repeat(first|exact af8|apply af7)) (by simp) rfl (by repeat(first|exact aV.here|apply aV.there)) fun H1 o=>?_;have o:ar H0 H1 (.aA (ka ⟨eb,[i64 l,str [],str []],[c],t⟩ dv [])::L):=o;rw [au,ae,al];refine jR (j:=0+1) o (by repeat(first|exact af8|apply af7)) rfl ?_;rw [au,ae,al];refine jR (j:=0+0) o (by repeat(first|exact af8|apply af7)) rfl ?_;refine Du (hT.ext o.ext) hl (by simp;omega) fun H2 lv L2 o2=>?_;refine ag (vs:= [lv,.int .i64 0]) rfl ?_;refine ag (vs:= [lv,.int .i64 0]) rfl ?_;have O0:=fun t ht=> (L7 [] s l t ht).1;have Tt:=I3 [] s l;have O1:=uZ (I2 [] s l);have o:=o.call o2;generalize hGG:zH [] s l=G at O0 Tt O1 o;have o:ar H0 H2 (.aA (ka ⟨eb,[i64 l,str [],str []],[c],t⟩ dv []):: .sl lv 3 (cP G)::L):= (o.mid (M:= .sl lv 3 (cP G)::L2)).pick (List.Sublist.cons_cons _ (List.Sublist.cons_cons _ (ah1 L2 L)));refine⟨fun kv H' => ∃ (kind b:Nat),kv= .int .i64 (kind:Int)∧kind<3∧((l=0∧kind=0)∨(l≠0∧GY s G 3 b kind))∧ar H0 H' (.aA (ka ⟨eb,[i64 l,str [],str []],[c],t⟩ dv []):: .sl lv 3 (cP G)::L),?_,?_⟩
 ·clear o
  rintro _ _ H3 ⟨kind,b,rfl,ZE,Wo,o⟩;rw [au,ae,al];refine BS (b:= ⟨eb,[i64 l,str [],str []],[c],t⟩) (W:= []) (V:=s) (l:=true) (G:=G) ZE hG (by omega) (by repeat(first|exact af8|apply af7)) (by omega) (by simp) (fun _=>by simp) O0 (fun _=>O1) o fun H4 P5 X hX hB ZD o=>?_;rw [agn] at o;rw [au,ae,al];refine jR (j:=0+1) o (by repeat(first|exact af8|apply af7)) rfl ?_;refine aP (by simp;omega) ?_;rw [agn,au,ae,al];refine y_ (j:=0+1) (x:=str s) o (by repeat(first|exact af8|apply af7)) (by simp) rfl (by repeat(first|exact aV.here|apply aV.there)) fun H5 o=>?_;have o:ar H0 H5 (.aA (ka ⟨eb,[i64 l,str s,str []],[c],t⟩ P5 X):: .sl lv 3 (cP G)::L):=o;rw [au,ae,al];refine jR (j:=0+1) o (by repeat(first|exact af8|apply af7)) rfl ?_;rw [au,ae,al];refine jR (j:=0+1) o (by repeat(first|exact af8|apply af7)) rfl ?_;refine aJ ?_;rw [aZ,ba (by omega) (by omega),Hz,show max ((s.length:Int) - 32768) 0= ((0:Nat):Int) by omega];refine bg (lo:=0) (hi:=s.length) (.inl rfl) (.inr ⟨rfl,rfl⟩) (by omega) (by omega) ?_;rw [agS,ahb,agr,au,ae,al];refine y_ (j:=0+1) (x:=str s) o (by repeat(first|exact af8|apply af7)) (by simp) rfl (by repeat(first|exact aV.here|apply aV.there)) fun H6 o=>?_;have o:ar H0 H6 (.aA (ka ⟨eb,[i64 l,str s,str []],[c],t⟩ P5 X):: .sl lv 3 (cP G)::L):=o;exact h H6 P5 (str s) (str []) X ⟨kind,b,by rw [hGG];exact Wo,by rw [hGG];exact hX⟩ hB (by omega) o.lW
 ·rw [au,ae,al]
  refine jR (j:=0+0) o (by repeat(first|exact af8|apply af7)) rfl ?_;rw [a8];refine av (fun hc=>?_) (fun hc=>?_)
  ·refine choose_spec hG (by omega) (by repeat(first|exact af8|apply af7)) (by omega) O0 O1 o fun H3 k b hk f_ o=>?_
   exact⟨k,b,rfl,hk,.inr ⟨by omega,f_⟩,o⟩
  ·exact⟨0,0,rfl,by omega,.inl ⟨by omega,rfl⟩,o⟩
theorem Dv {l:Nat} (hT:Reads H ⟨5,0,none⟩ eT) (hG:Reads H ⟨0,0,none⟩ ff) (hl:l≤9) (hs:s.length≤16384)
  (h: ∀H' out,F_ s l out→run ⟨.hd,toBits out,[]⟩= (s,⟨.dn,[],s⟩,0)→out.length≤2700+8*s.length→Ext H H' →R (.tuple #[str out,.int .i64 0]) H'):ab 239 #[str s,.int .i64 (l:Int)] H R:=by
 refine EV.vc _ _ _ _ ?_;refine EW.vc _ _ _ ?_;rw [aN,decide_eq_false (by omega)];refine aO ?_;rw [a8,decide_eq_false (by omega)];intro _;rw [aj];refine aM rfl (by decide) ?_;rw [bz];refine(ar.start (H:=H)).box fun eb H1 o _=>?_;refine ag (vs:= [at_ eb 0,.int .i64 0]) rfl ?_;refine ag (vs:= [at_ eb 0,.int .i64 0]) rfl ?_;refine fH ?_;rw [aj];have o:ar H H1 (.box eb [i64 l,str [],str [],.slice none 0 0,.int .u64 0,.int .i64 0,.bool false] 367:: []):=o;refine oH.vc _ _ _ _ ?_;rw [cB,aj,au,ae,al];refine o.aw (b:=eb) (f:=0+6) (w:= .bool false) (by repeat(first|exact af8|apply af7)) rfl ?_;rw [aj,au,ae,al];refine o.aw (b:=eb) (f:=0+2) (w:=str []) (by repeat(first|exact af8|apply af7)) rfl ?_;refine aP (by simp;omega) ?_;rw [agn,au,ae,al];refine o.bF (b:=eb) (f:=0+2) (x:=str s) (by repeat(first|exact af8|apply af7)) (by simp) rfl (by repeat(first|exact aV.here|apply aV.there)) fun H2 o _=>?_;have o:ar H H2 (.box eb ([i64 l,str [],str s]++ [.slice none 0 0,.int .u64 0,.int .i64 0]++ [.bool false]) 367:: []):=o;have o:=Q_ o;refine⟨fun H' =>ar H H' (.aA (ka ⟨eb,[i64 l,str [],str s],[.bool false],367⟩ (.slice none 0 0) []):: []),fun _=>0,o,?_⟩;clear o;rintro _ H3 o;rw [au,ae,al];refine jR (j:=0+2) o (by repeat(first|exact af8|apply af7)) rfl ?_;refine aJ ?_;rw [a8,decide_eq_false (by omega),aj,au,ae,al];refine pM (tw o (by repeat(first|exact af8|apply af7))) fun H4 P5 w c=>?_;have o:=l7 o w c aV.here (by repeat(first|exact af8|apply af7));refine ag (vs:= [str [],.int .i64 0]) rfl ?_;refine ag (vs:= [str [],.int .i64 0]) rfl ?_;have o:ar H H4 (.aA (ka ⟨eb,[i64 l,str [],str s],[.bool false],367⟩ P5 []):: []):=o;refine oI.vc _ _ _ ?_;rw [cB,aj,au,ae,al];refine Ou (j:=0) (k:=0+6) o (by repeat(first|exact af8|apply af7)) rfl rfl ?_;rw [aj,au,ae,al];refine LM (j:=0) (k:=0+6) (x:= .bool true) o (by repeat(first|exact af8|apply af7)) rfl (by simp) rfl (by repeat(first|exact aV.here|apply aV.there)) fun H5 o=>?_;have o:ar H H5 (.aA (ka ⟨eb,[i64 l,str [],str s],[.bool true],367⟩ P5 []):: []):=o;rw [au,ae,al];refine jR (j:=0+2) o (by repeat(first|exact af8|apply af7)) rfl ?_;refine aJ ?_;refine Ga hT hG hl hs o fun H6 Sf x y X hX hB ZD o=>?_;have Wp:=pK X;obtain⟨r,Dq,XI⟩:=BN X;rw [au,ae,al];refine l6 (tw o (by repeat(first|exact af8|apply af7))) (by omega) fun H7 dv7 w c=>?_;have o:=l7 o w c aV.here (by repeat(first|exact af8|apply af7));rw [au,ae,al];refine pM (tw o (by repeat(first|exact af8|apply af7))) fun H8 dv8 w c=>?_;have o:=l7 o w c aV.here (by repeat(first|exact af8|apply af7));refine ag (vs:= [str (bG (iL X)),.int .i64 0]) rfl ?_;refine ag (vs:= [str (bG (iL X)),.int .i64 0]) rfl ?_;have hlen: (bG (iL X)).length= (iL X).length/8:=j1 _ _ rfl;refine aP (by simp;omega) ?_;have fY:=F0.nil.fin hB XI (by rw [agn,←Dq];exact Wp.1);rw [agn,←Dq,←lj ((iL X).length/8) (iL X) (by omega)] at fY;exact h H8 _ ⟨X,hX,rfl⟩ fY (by rw [agn];omega) o.ext
end
end Go.Proofs.YtpcgccdmmoggmaaGreatDoor
namespace Go.Vc
open Go
section
def t1 (s:Nat):Nat:=s/2 ^^^ (bif decide (s%2=1) then 3988292384 else 0)
def tn:Nat→Nat→Nat
 |0,s=>s
 |n+1,s=>tn n (t1 s)
theorem O2 (a b:Nat): (a ^^^ b) /2=a/2 ^^^ b/2:=by
 have:=Nat.shiftRight_xor_distrib (a:=a) (b:=b) (i:=1)
 simpa [Nat.shiftRight_eq_div_pow] using this
theorem Rl (a b:Nat): (a ^^^ b) %2= (a%2+b%2) %2:=by
 have h1: (a ^^^ b).testBit 0= ((a.testBit 0) ^^ (b.testBit 0)):=aje ..;rw [aiA,aiA,aiA] at h1;rcases aiB a with ha|ha<;>rcases aiB b with hb|hb<;>rcases aiB (a ^^^ b) with hc|hc<;>simp [ha,hb,hc] at h1 ⊢
theorem TP (a b:Nat):t1 (a ^^^ b)=t1 a ^^^ t1 b:=by
 unfold t1;rw [O2,Rl];rcases aiB a with ha|ha<;>rcases aiB b with hb|hb<;>simp only [ha,hb,Nat.reduceAdd,Nat.reduceMod,decide_true,cond_true,decide_false,cond_false,Nat.xor_zero,Nat.zero_ne_one]
 ·rw [aij]
 ·rw [aij,Nat.xor_comm (b/2),←aij]
 ·rw [aij (a/2) 3988292384,Nat.xor_comm 3988292384 (b/2 ^^^ 3988292384),aij (b/2),Nat.xor_self,Nat.xor_zero]
theorem O3: ∀ (n a b:Nat),tn n (a ^^^ b)=tn n a ^^^ tn n b
 |0,_,_=>rfl
 |n+1,a,b=>by rw [tn,TP,O3 n];rfl
theorem O4: ∀ (m n s:Nat),tn (m+n) s=tn n (tn m s)
 |0,n,s=>by rw [ags];rfl
 |m+1,n,s=>by rw [show m+1+n= (m+n)+1 by omega,tn,tn,O4 m n]
theorem xv (n s:Nat):tn (n+1) s=t1 (tn n s):=O4 n 1 s
theorem Wq {s:Nat} (h:s<4294967296):t1 s<4294967296:=by
 have h1:s/2<2 ^ 32:=by omega
 have h2: (bif decide (s%2=1) then 3988292384 else 0)<2 ^ 32:=by cases decide (s%2=1)<;>decide
 exact ahK h1 h2
theorem Gb: ∀ (n:Nat) {s:Nat},s<4294967296→tn n s<4294967296
 |0,s,h=>h
 |n+1,s,h=>Gb n (Wq h)
theorem TQ (x:Nat):t1 (2*x)=x:=by
 unfold t1;rw [Nat.mul_div_cancel_left _ (by decide),Nat.mul_mod_right,decide_eq_false (by decide),cond_false,Nat.xor_zero]
theorem O5: ∀ (k x:Nat),tn k (2 ^ k*x)=x
 |0,x=>by rw [ahX,Nat.one_mul];rfl
 |k+1,x=>by rw [tn,agW,agT (2 ^ k) 2,ah8,TQ,O5 k]
def ja (s:Nat) (l:List UInt8):Nat:=l.foldl (fun s b=>tn 8 (s ^^^ b.toNat)) s
def cS (sum:Nat) (l:List UInt8):Nat:=4294967295 - ja (4294967295 - sum) l
theorem mj (s:Nat) (a b:List UInt8):ja s (a++b)=ja (ja s a) b:=by unfold ja;rw [aiW]
theorem qv: ∀ (l:List UInt8) {s:Nat},s<4294967296→ja s l<4294967296
 | [],s,h=>h
 |b::l,s,h=>by
  have hb:b.toNat<2 ^ 32:=Nat.lt_trans b.toNat_lt (by decide);have:s ^^^ b.toNat<2 ^ 32:=ahK (by omega) hb;exact qv l (Gb 8 (by omega))
theorem Rm {n:Nat} (h:n<4294967296):4294967295 - n=4294967295 ^^^ n:=by
 apply ajB;intro i;rw [show 4294967295 - n=2 ^ 32 - (n+1) by omega,ajR (by omega),aje,show (4294967295:Nat)=2 ^ 32 - 1 by rfl,ajS]
 by_cases hi:i<32
 ·simp [hi]
 ·have:n.testBit i=false:=Nat.testBit_lt_two_pow (ahj h (show 2 ^ 32≤2 ^ i from agA (by decide) (by omega)))
  simp [hi,this]
theorem u0 (s:Nat) (l:List UInt8):cS s l<4294967296:=by unfold cS;omega
theorem Rn {n:Nat} (h:n<4294967296):4294967295 - (4294967295 - n)=n:=by omega
theorem AW (s:Nat) (a b:List UInt8):cS (cS s a) b=cS s (a++b):=by
 unfold cS;rw [mj,Rn (qv a (by omega))]
structure Lin (f:Nat→Nat):Prop where
 xor: ∀a b,f (a ^^^ b)=f a ^^^ f b
 lt: ∀i,i<32→f (2 ^ i)<4294967296
theorem Lin.zero {f:Nat→Nat} (h:Lin f):f 0=0:=by
 have:=h.xor 0 0;rw [Nat.xor_self,Nat.xor_self] at this;exact this
end
end Go.Vc
namespace Go.Proofs.YtpcgccdmmoggmaaGreatDoor
open Go Go.Vc Go.Proofs
section
variable {H:ai} {R:Value→ai→Prop}
abbrev n32 (n:Nat):Value:= .int .u32 (n:Int)
theorem TR {n:Nat}: ((n:Nat):Int).fdiv (2 ^ min (Int.toNat 1) IntKind.u32.bits)= ((n/2 ^ 1:Nat):Int):=iX rfl
theorem TS {n:Nat}: ((n:Nat):Int).fdiv (2 ^ min (Int.toNat 8) IntKind.u32.bits)= ((n/2 ^ 8:Nat):Int):=iX rfl
theorem O6 {s:Nat} (h:s%2=1):t1 s=s/2 ^ 1 ^^^ 3988292384:=by unfold t1;rw [decide_eq_true h];rfl
theorem Kd {s:Nat} (h: ¬s%2=1):t1 s=s/2 ^ 1:=by unfold t1;rw [decide_eq_false h];simp
theorem and_one (n:Nat):n &&& 1=n%2:=Nat.and_one_is_mod n
def O7:List Value:= (List.range 256).map fun i=>n32 (tn 8 i)
def kB (k:Nat):List Value:= (List.range 256).map fun i=>n32 (if i<k then tn 8 i else 0)
structure Sj (H:ai) (b:Nat):Prop where
 fZ:H[b]? =some (.cells O7.toArray 170 (0,0))
theorem Sj.ext {H' :ai} {b:Nat} (h:Sj H b) (hx:Ext H H'):Sj H' b:= ⟨hx.fZ h.fZ⟩
abbrev zJ (b:Nat):Value:= .pointer (some ⟨b,0,none⟩)
theorem Dw:kB 0=List.replicate 256 (n32 0):=by
 apply agX;intro i;unfold kB
 by_cases hi:i<256
 ·rw [agu,aho hi,aie,if_pos hi];rfl
 ·rw [agq (by rw [agw,ajz];omega),agq (by rw [agF];omega)]
theorem Gc {k:Nat} (hk:k<256): (kB k).set k (n32 (tn 8 k))=kB (k+1):=by
 apply agX;intro i;unfold kB
 by_cases hi:i<256
 ·rw [agu,aho hi]
  by_cases h:i=k
  ·subst h
   rw [ahC (by simp;exact hi)]
   simp
  ·rw [aiv (fun e=>h e.symm),agu,aho hi]
   have: (i<k+1)↔i<k:=by omega
   simp [this]
 ·rw [agq (by simp;omega),agq (by simp;omega)]
theorem nX (h: ∀H' b,Sj H' b→Ext H H' →H.size≤b→R (zJ b) H'):ab 41 #[] H R:=by
 refine NI.vc _ _ ?_;refine eW fun H1 s1 e1 b1=>?_;refine⟨fun v H' => ∃k:Nat,v= .int .i64 k∧k≤256∧Ext H H' ∧H'[H.size]? =some (.cells (kB k).toArray 170 (0,0)),fun v _=>match v with| .int _ k=> (256 - k).toNat|_=>0,⟨0,rfl,by omega,e1,?_⟩,?_⟩
 ·rw [b1,Dw];rfl
 rintro _ _ H2 ⟨k,rfl,hk,e2,b2⟩;simp only [az,gG,al,ags,bR,aN];refine av (fun hc=>?_) (fun hc=>?_)
 ·rw [Cr (by omega) (by omega)]
  refine⟨fun v u H' => ∃j:Nat,u= .int .i64 j∧j≤8∧v=n32 (tn j k)∧H2=H',fun v u _=>match u with| .int _ k=> (8 - k).toNat|_=>0,⟨0,rfl,by omega,rfl,rfl⟩,?_⟩;rintro _ _ _ _ ⟨j,rfl,hj,rfl,rfl⟩;have cF:=Gb j (s:=k) (by omega);simp only [and_true,az,kj,Int.reduceLE,cd,true_and,bc,aN];refine av (fun f_=>?_) (fun f_=>?_)
  ·rw [show (1:Int)= ((1:Nat):Int) from rfl,QD cF (by decide),and_one]
   rw [show ((1:Nat):Int)= (1:Int) from rfl];rw [TR];refine av (fun Ar=>?_) (fun Ar=>?_)
   ·rw [show (3988292384:Int)= ((3988292384:Nat):Int) from rfl,sO (by omega) (by decide),←O6 (by omega),ba (by omega) (by omega)]
    exact⟨⟨j+1,rfl,by omega,by rw [xv]⟩,by show (_:Int).toNat< (_:Int).toNat;omega⟩
   ·rw [←Kd (by omega),ba (by omega) (by omega)]
    exact⟨⟨j+1,rfl,by omega,by rw [xv]⟩,by show (_:Int).toNat< (_:Int).toNat;omega⟩
  ·have PL:j=8:=by omega
   subst PL;refine⟨by omega,by omega,?_⟩;simp only [af_,agh];refine gn b2 (by simp [kB];omega) rfl fun H3 s3 u3=>?_;rw [ba (by omega) (by omega)];refine⟨⟨k+1,rfl,by omega,u3.ext e2 (aga _),?_⟩,by show (_:Int).toNat< (_:Int).toNat;omega⟩;rw [u3.at_,aiu,Gc (by omega)]
 ·have hke:k=256:=by omega
  subst hke;refine h H2 _ ⟨?_⟩ e2 (aga _);have:kB 256=O7:=by
   unfold kB O7;apply ahs;intro i hi;rw [if_pos (aiy.1 hi)]
  rw [b2,this]
theorem Ke {n:Nat} (h:n<4294967296):bitsOf .xor .u32 4294967295 (n:Int)= ((4294967295 - n:Nat):Int):=by
 rw [show (4294967295:Int)= ((4294967295:Nat):Int) from rfl,sO (by decide) h,Rm h]
theorem TT {a b:Nat} (ha:a<256) (hb:b<256):bitsOf .xor .u8 (a:Int) (b:Int)= ((a ^^^ b:Nat):Int):=by
 have cF:a ^^^ b<2 ^ 8:=ahK (by simpa using ha) (by simpa using hb);have e: ((BitVec.ofInt 8 (a:Int)) ^^^ (BitVec.ofInt 8 (b:Int))).toNat=a ^^^ b:=by
  rw [ai8,agY,agY,agZ,agZ,agp (by omega),agp (by omega)]
 show IntKind.u8.wrap ((((BitVec.ofInt 8 (a:Int)) ^^^ (BitVec.ofInt 8 (b:Int))).toNat:Nat):Int)=_;rw [e,wu8 (by omega) (by omega)]
theorem O8 (s:Nat) (x:UInt8):tn 8 (s%256 ^^^ x.toNat) ^^^ s/2 ^ 8=tn 8 (s ^^^ x.toNat):=by
 have e:s=s%256 ^^^ 2 ^ 8* (s/2 ^ 8):=by
  apply ajB;intro i;rw [aje,show (256:Nat)=2 ^ 8 by rfl,Nat.testBit_mod_two_pow,Nat.testBit_two_pow_mul]
  by_cases hi:i<8
  ·simp [hi,show ¬8≤i by omega]
  ·rw [Nat.testBit_div_two_pow]
   simp [hi,show 8≤i by omega]
 have e2:s ^^^ x.toNat= (s%256 ^^^ x.toNat) ^^^ 2 ^ 8* (s/2 ^ 8):=by
  conv=>lhs;rw [e]
  rw [aij,Nat.xor_comm (2 ^ 8* (s/2 ^ 8)),←aij]
 rw [e2,O3 8 (s%256 ^^^ x.toNat),O5]
theorem zK {b:Nat} {s:Nat} {l:List UInt8} (hs:s<4294967296) (hl:l.length≤9223372036854775807) (ht:Sj H b) (h:R (n32 (cS s l)) H):ab 63 #[zJ b,n32 s,str l] H R:=by
 refine yE.vc _ _ _ _ _ ?_;simp only [au,qf,bu,Nl,Int.reduceNeg,cB,aj];rw [show (if IntKind.u32.signed=true then (-1:Int) else IntKind.u32.max)=4294967295 by decide,Ke hs];refine⟨fun v u H' => ∃j:Nat,u= .int .i64 j∧j≤l.length∧v=n32 (ja (4294967295 - s) (l.take j))∧H=H',fun v u _=>match u with| .int _ k=> (l.length - k).toNat|_=>0,⟨0,rfl,by omega,by rw [ahW];rfl,rfl⟩,?_⟩;rintro _ _ _ _ ⟨j,rfl,hj,rfl,rfl⟩;have cF:=qv (l.take j) (s:=4294967295 - s) (by omega);simp only [and_true,az,kj,Int.reduceLE,true_and,cf,bu,bR,cd,gG,al,ags,Nl,Int.reduceNeg,aN];refine av (fun hc=>?_) (fun hc=>?_)
 ·refine⟨by omega,by omega,?_⟩
  have Aw:j<l.length:=by omega
  rw [af_,agd,agb Aw,ahi];have zL:ja (4294967295 - s) (l.take (j+1))=tn 8 (ja (4294967295 - s) (l.take j) ^^^ (l[j]).toNat):=by
   rw [agz,agb Aw,mj];rfl
  generalize ja (4294967295 - s) (l.take j)=f at*;generalize l[j]=x at*;have hx:x.toNat<256:=x.toNat_lt;rw [JE,show ((f:Int) %256)= ((f%256:Nat):Int) by omega,TT (by omega) hx];have JQ:f%256 ^^^ x.toNat<2 ^ 8:=ahK (by omega) (by omega);refine⟨by omega,by omega,?_⟩;simp only [af_,agh];refine gF ht.fZ (v:=n32 (tn 8 (f%256 ^^^ x.toNat))) (by unfold O7;rw [agu,aho (by omega)];rfl) ?_;rw [TS];simp only [cd];rw [sO (Gb 8 (by omega)) (by omega),ba (by omega) (by omega),O8];exact⟨⟨j+1,rfl,by omega,by rw [zL]⟩,by show (_:Int).toNat< (_:Int).toNat;omega⟩
 ·have PL:j=l.length:=by omega
  subst PL;rw [show (if IntKind.u32.signed=true then (-1:Int) else IntKind.u32.max)=4294967295 by decide,Ke cF];rw [agr];exact h
theorem qw {b:Nat} {l:List UInt8} (hl:l.length≤9223372036854775807) (ht:Sj H b) (h:R (n32 (cS 0 l)) H):ab 57 #[zJ b,str l] H R:=by
 refine AL.vc _ _ _ _ ?_;exact zK (s:=0) (by decide) hl ht h
end
section
variable {H H0 H' :ai} {R:Value→ai→Prop} {L:List It}
def fJ (h:Hd):List UInt8:= [80,75,1,2]++aQ 20 2++aQ 20 2++lX h++aQ h.u 4++aQ h.p 4++aQ h.z 4++aQ h.nm.length 2++aQ 0 2++List.replicate 10 0++aQ h.a 4++h.nm
theorem jb (h:Hd): (fJ h).length=46+h.nm.length:=by unfold fJ;simp [ay,j7];omega
theorem tK {x:Hd} (g:N2 x) (h: ∀H',Ext H H' →R (str (fJ x)) H'):ab 98 #[x.v] H R:=by
 have g1:=g.p;have g2:=g.z;have g3:=g.u;have g4:=g.a;have PW:=g.nm.len;have dX:=j7 x;refine uB.vc _ _ _ ?_;refine(ar.start (H:=H)).box fun b H1 o _=>?_;have o:ar H H1 [.box b x.cells 44]:=o;refine o.bf (b:=b) (by repeat(first|exact af8|apply af7)) rfl ?_;refine nP g fun H2 kO=>?_;have o:=o.more kO;rw [db];show ao (.bool false) _ _;rw [aj,ae,al];refine o.aw (b:=b) (f:=0+10) (w:= .int .u64 (x.a:Int)) (by repeat(first|exact af8|apply af7)) rfl ?_;rw [a8,decide_eq_false (by omega)];refine⟨fun e H' =>e=str []∧ar H H' [.box b x.cells 44],?_,?_⟩
 ·clear o
  rintro _ _ H3 ⟨rfl,o⟩;refine⟨fun e H' =>e=str []∧ar H H' [.box b x.cells 44],?_,?_⟩
  ·clear o
   rintro _ _ H4 ⟨rfl,o⟩;refine⟨fun e H' =>e=str []∧ar H H' [.box b x.cells 44],?_,?_⟩
   ·clear o
    rintro _ _ H5 ⟨rfl,o⟩;refine o.bf (b:=b) (by repeat(first|exact af8|apply af7)) rfl ?_;refine lq g fun H6 vS=>?_;have o:=o.more vS;refine aO ?_;intro _;refine tg fun H7 QQ=>?_;have o:=o.more QQ;refine aP (by simp [ay]) ?_;refine aP (by simp [ay]) ?_;refine o.bf (b:=b) (by repeat(first|exact af8|apply af7)) rfl ?_;rw [ae,al];refine o.aw (b:=b) (f:=0+9) (w:= .int .u32 (x.u:Int)) (by repeat(first|exact af8|apply af7)) rfl ?_;refine b7 ?_;rw [cR (by omega) (by omega),ae,al];refine o.aw (b:=b) (f:=0+7) (w:= .int .u64 (x.p:Int)) (by repeat(first|exact af8|apply af7)) rfl ?_;refine o.bf (b:=b) (by repeat(first|exact af8|apply af7)) rfl ?_;rw [ae,al];refine o.aw (b:=b) (f:=0+8) (w:= .int .u64 (x.z:Int)) (by repeat(first|exact af8|apply af7)) rfl ?_;refine o.bf (b:=b) (by repeat(first|exact af8|apply af7)) rfl ?_;rw [ae,al];refine o.aw (b:=b) (f:=0+0) (w:=str x.nm) (by repeat(first|exact af8|apply af7)) rfl ?_;refine aJ ?_;refine b7 ?_;rw [cR (by omega) (by omega)];refine aJ ?_;refine b7 ?_;rw [cR (n:= ((([]:List UInt8).length:Nat):Int)) (by decide) (by decide),ae,al];refine o.aw (b:=b) (f:=0+10) (w:= .int .u64 (x.a:Int)) (by repeat(first|exact af8|apply af7)) rfl ?_;rw [ae,al];refine o.aw (b:=b) (f:=0+0) (w:=str x.nm) (by repeat(first|exact af8|apply af7)) rfl ?_;refine vR g fun H8 N3=>?_;have o:=o.more N3
    repeat' (first|with_reducible refine And.intro (o.aw (b:=b) (by repeat(first|exact af8|apply af7)) rfl rfl) ?_|with_reducible refine And.intro (o.bf (b:=b) (by repeat(first|exact af8|apply af7)) rfl rfl) ?_)
    refine aP (by simp [ay,dX]) ?_;refine bJ (n:=x.u) (k:=4) (by omega) (by decide) (by decide) fun H9 VC=>?_;have o:=o.more VC
    repeat' (first|with_reducible refine And.intro (o.aw (b:=b) (by repeat(first|exact af8|apply af7)) rfl rfl) ?_|with_reducible refine And.intro (o.bf (b:=b) (by repeat(first|exact af8|apply af7)) rfl rfl) ?_)
    refine aP (by simp [ay,dX]) ?_;refine lq g fun Q7 O9=>?_;have o:=o.more O9
    repeat' (first|with_reducible refine And.intro (o.aw (b:=b) (by repeat(first|exact af8|apply af7)) rfl rfl) ?_|with_reducible refine And.intro (o.bf (b:=b) (by repeat(first|exact af8|apply af7)) rfl rfl) ?_)
    refine j5 (n:=x.p) (by omega) fun R9 O_=>?_;have o:=o.more O_
    repeat' (first|with_reducible refine And.intro (o.aw (b:=b) (by repeat(first|exact af8|apply af7)) rfl rfl) ?_|with_reducible refine And.intro (o.bf (b:=b) (by repeat(first|exact af8|apply af7)) rfl rfl) ?_)
    refine aP (by simp [ay,dX]) ?_;refine lq g fun Sg TU=>?_;have o:=o.more TU
    repeat' (first|with_reducible refine And.intro (o.aw (b:=b) (by repeat(first|exact af8|apply af7)) rfl rfl) ?_|with_reducible refine And.intro (o.bf (b:=b) (by repeat(first|exact af8|apply af7)) rfl rfl) ?_)
    refine j5 (n:=x.z) (by omega) fun Re TV=>?_;have o:=o.more TV
    repeat' (first|with_reducible refine And.intro (o.aw (b:=b) (by repeat(first|exact af8|apply af7)) rfl rfl) ?_|with_reducible refine And.intro (o.bf (b:=b) (by repeat(first|exact af8|apply af7)) rfl rfl) ?_)
    refine aP (by simp [ay,dX]) ?_;refine bJ (n:=x.nm.length) (k:=2) (by omega) (by decide) (by decide) fun TJ V2=>?_;have o:=o.more V2
    repeat' (first|with_reducible refine And.intro (o.aw (b:=b) (by repeat(first|exact af8|apply af7)) rfl rfl) ?_|with_reducible refine And.intro (o.bf (b:=b) (by repeat(first|exact af8|apply af7)) rfl rfl) ?_)
    refine aP (by simp [ay,dX]) ?_;refine bJ (n:=0) (k:=2) (by decide) (by decide) (by decide) fun Zx ZF=>?_;have o:=o.more ZF
    repeat' (first|with_reducible refine And.intro (o.aw (b:=b) (by repeat(first|exact af8|apply af7)) rfl rfl) ?_|with_reducible refine And.intro (o.bf (b:=b) (by repeat(first|exact af8|apply af7)) rfl rfl) ?_)
    refine aP (by simp [ay,dX]) ?_;refine yS (c:=10) (by decide) fun Ol Tx=>?_;have o:=o.more Tx
    repeat' (first|with_reducible refine And.intro (o.aw (b:=b) (by repeat(first|exact af8|apply af7)) rfl rfl) ?_|with_reducible refine And.intro (o.bf (b:=b) (by repeat(first|exact af8|apply af7)) rfl rfl) ?_)
    refine aP (by simp [ay,dX]) ?_;refine j5 (n:=x.a) (by omega) fun VR ZG=>?_;have o:=o.more ZG
    repeat' (first|with_reducible refine And.intro (o.aw (b:=b) (by repeat(first|exact af8|apply af7)) rfl rfl) ?_|with_reducible refine And.intro (o.bf (b:=b) (by repeat(first|exact af8|apply af7)) rfl rfl) ?_)
    refine aP (by simp [ay,dX]) ?_;refine aP (by simp [ay,dX];omega) ?_;refine aP (by simp [ay,dX];omega) ?_;rw [agy];exact h VR o.ext
   ·refine qh ?_
    rw [decide_eq_false (by simp),aj];exact⟨rfl,o⟩
  ·rw [aj]
   exact⟨rfl,o⟩
 ·refine o.bf (b:=b) (by repeat(first|exact af8|apply af7)) rfl ?_
  refine lq g fun H3 q7=>?_;rw [aj];exact⟨rfl,o.more q7⟩
def oP (n z a:Nat):List UInt8:= [80,75,5,6]++aQ 0 4++aQ n 2++aQ n 2++aQ z 4++aQ a 4++aQ 0 2
theorem mX (n z a:Nat): (oP n z a).length=22:=by unfold oP;simp [ay]
theorem zM {n z a:Nat} (hn:n≤1000) (hz:z≤100000000) (ha:a≤100000000) (h: ∀H',Ext H H' →R (str (oP n z a)) H'):ab 99 #[.int .u64 (n:Int),.int .u64 (z:Int),.int .u64 (a:Int)] H R:=by
 refine JM.vc _ _ _ _ _ ?_;rw [dP,decide_eq_false (by omega)];refine aO ?_;rw [dP,decide_eq_false (by omega)];intro _;refine aO ?_;rw [dP,decide_eq_false (by omega)];intro _;rw [aj];refine⟨fun s H' =>s=str []∧Ext H H',?_,?_⟩
 ·rintro _ _ H1 ⟨rfl,kr⟩
  rw [iV,show min (n:Int) 65535= (n:Int) by omega];refine bJ (n:=n) (k:=2) (by omega) (by decide) (by decide) fun H2 kO=>?_;refine aP (by simp [ay]) ?_;refine bJ (n:=0) (k:=4) (by decide) (by decide) (by decide) fun H3 q7=>?_;refine aP (by simp [ay]) ?_;refine aP (by simp [ay]) ?_;refine aP (by simp [ay]) ?_;rw [a8,decide_eq_false (by omega)];refine j5 (n:=z) (by omega) fun H4 oQ=>?_;refine aP (by simp [ay]) ?_;rw [a8,decide_eq_false (by omega)];refine j5 (n:=a) (by omega) fun H5 uP=>?_;refine aP (by simp [ay]) ?_;refine bJ (n:=0) (k:=2) (by decide) (by decide) (by decide) fun H6 vS=>?_;refine aP (by simp [ay]) ?_;exact h H6 (((((kr.trans kO).trans q7).trans oQ).trans uP).trans vS)
 ·rw [a8,decide_eq_false (by omega)]
  refine aO ?_;rw [a8,decide_eq_false (by omega)];intro _;refine aO ?_;rw [a8,decide_eq_false (by omega)];intro _;rw [aj];exact⟨rfl,Ext.refl _⟩
end
section
variable {H:ai} {R:Value→ai→Prop}
def tL:Nat→Int→Int
 |0,_=>0
 |k+1,y=>gq y+tL k (y+1)
def Dx:Nat→Int→Int→Int
 |0,_,_=>0
 |k+1,y,m=>ei y m+Dx k y (m+1)
theorem zN: ∀ (k:Nat) (y:Int),tL (k+1) y=tL k y+gq (y+k)
 |0,y=>by simp [tL]
 |k+1,y=>by
  have:=zN k (y+1);rw [tL,this,tL,show y+1+ (k:Int)=y+ ((k+1:Nat):Int) by omega];omega
def Ws (t:T6):Int:= (t.d - 1+tL (t.y - 1980).toNat 1980+Dx (t.m - 1).toNat t.y 1)*43200+ (t.h*60+t.n)*30+t.s/2
theorem I4 (y:Int):365≤gq y∧gq y≤366:=by have:=EJ y;unfold gq;omega
theorem Gd (y m:Int):0≤ei y m∧ei y m≤31:=by
 unfold ei
 split
 ·decide
 ·split
  ·split<;>decide
  ·split<;>decide
theorem I5 {t:T6} (h:j0 t=true):1980≤t.y∧t.y≤2107∧1≤t.m∧t.m≤12∧1≤t.d∧t.d≤ei t.y t.m∧0≤t.h∧t.h<24∧0≤t.n∧t.n<60∧0≤t.s∧t.s<60∧t.s%2=0:=by
 simp only [j0,decide_eq_true_eq] at h;obtain⟨h1,h2,h3,h4,h5,h6,h7,h8,h9,Zo,XA⟩:=h;have hm:1≤t.m∧t.m≤12:=by
  rcases Int.lt_or_le t.m 1 with hl|hl
  ·rw [ei,if_neg (by omega),if_neg (by omega),if_pos (by omega)] at h4;omega
  ·rcases Int.lt_or_le 12 t.m with hl|hl
   ·rw [ei,if_neg (by omega),if_neg (by omega),if_pos (by omega)] at h4;omega
   ·omega
 rw [ahy h9] at XA;exact⟨h1,h2,hm.1,hm.2,h3,h4,h5,h6,h7,h8,h9,Zo,XA⟩
theorem BU: ∀ (k j:Nat) (y m:Int),Dx k y m+pg j y (m+k)=pg (j+k) y m
 |0,j,y,m=>by simp [Dx]
 |k+1,j,y,m=>by
  have:=BU k j y (m+1);rw [Dx,show j+ (k+1)= (j+k)+1 by omega,pg,←this,show m+1+ (k:Int)=m+ ((k+1:Nat):Int) by omega];omega
end
section
theorem Wt {t:T6} (h:j0 t=true):n8 t=t.d+32*t.m+512* (t.y - 1980)∧n9 t=t.s/2+32*t.n+2048*t.h∧0≤n8 t∧n8 t<65536∧0≤n9 t∧n9 t<65536∧Ut (n8 t) (n9 t)=t:=by
 obtain⟨hy0,Xn,MA,UC,GU,PR,hh0,hh1,Bg,xl,VX,gW,lV⟩:=I5 h;have hb:=Gd t.y t.m;have e1:n8 t=t.d+32*t.m+512* (t.y - 1980):=by
  unfold n8;rw [ba (n:=t.m*2 ^ 5) (by omega) (by omega),Ct (k:=5) (by omega) (by omega) (by omega) (by omega),ba (n:=t.y - 1980) (by omega) (by omega),ba (by omega) (by omega),Ct (k:=9) (by omega) (by omega) (by omega) (by omega),cR (by omega) (by omega)];omega
 have e2:n9 t=t.s/2+32*t.n+2048*t.h:=by
  unfold n9;rw [aix VX,ba (n:=t.s/2) (by omega) (by omega),ba (n:=t.n*2 ^ 5) (by omega) (by omega),Ct (k:=5) (by omega) (by omega) (by omega) (by omega),ba (by omega) (by omega),Ct (k:=11) (by omega) (by omega) (by omega) (by omega),cR (by omega) (by omega)];omega
 refine⟨e1,e2,by omega,by omega,by omega,by omega,?_⟩;rw [e1,e2];obtain⟨y,m,d,hr,n,s⟩:=t;simp only [Ut,T6.mk.injEq]
 dsimp only at*
 exact⟨by omega,by omega,by omega,by omega,by omega,by omega⟩
end
section
variable {H H0 H' :ai} {R:Value→ai→Prop} {L:List It} {s:List UInt8}
theorem _root_.Go.Vc.ar.Pa {L' :List It} {K:Value→ai→Prop} (o:ar H0 H L) {b f n:Nat} {cs vs:List Value} {t:TypeId} (dz:It.box b cs t∈L) (hv:vs.length=n) (hf:f+n≤cs.length) (hx:vs.all aK=true)
  (jC:aV (.box b cs t) (.box b (iI cs f vs) t) L L') (hk: ∀H',ar H0 H' L' →K undef H'):aC H n (.pointer (some ⟨b,f,none⟩)) (.agg vs.toArray) K:=by
 subst hv;have hb:=o.fZ dz;have S6:=nA (o:=f) vs H cs.toArray 0 hb hx (by simpa using hf);simp only [aC,eV,S6];have u:DY b (.cells (iI cs (f+0) vs).toArray t (0,0)) H (H.setIfInBounds b (.cells (iI cs (f+0) vs).toArray t (0,0))):=DY.set (bq hb);exact⟨by simp,hk _ (o.eX jC u.size (fun k hk df=>u.ne k hk (fun e=>df e.symm)) u.at_ (fun k hk=> .inl hk))⟩
theorem Ge {s p x r:List UInt8} (h:s=p++ (x++r)) {a n:Nat} (ha:a=p.length) (hn:n=x.length): (s.drop a).take n=x:=by
 subst ha;subst hn;subst h;rw [ajg rfl,ajf rfl]
theorem Gf: ∀ (a b:List UInt8),ji (a++b)=ji a+256 ^ a.length*ji b
 | [],b=>by simp [ji]
 |x::a,b=>by
  rw [ahd,ji,ji,Gf a b,agi,agW,Nat.mul_add,←ah8,agT 256 (256 ^ a.length)];omega
theorem mY (n:Nat): ∀k,ji (aQ n k)=n%256 ^ k
 |0=>by simp [aQ,ji,aiz]
 |k+1=>by
  rw [ur,Gf,mY n k,ay];show n%256 ^ k+256 ^ k* ((UInt8.ofNat (n/256 ^ k%256)).toNat+256*0)=_;rw [UInt8.toNat_ofNat_of_lt' (by show _<256;omega),Nat.mul_zero,agL,agW,ai9]
def preB (p s:List UInt8):Bool:=decide (s.take p.length=p)
theorem lz {p:List UInt8} (hs:s.length≤1000000000) (hp:p.length≤1000000000) (h:R (.bool (preB p s)) H):ab 106 #[str s,str p] H R:=by
 refine strings_HasPrefix.vc _ _ _ _ ?_;refine stringslite_HasPrefix.vc _ _ _ _ ?_;refine aJ ?_;refine aJ ?_;rw [dP]
 by_cases hl:p.length≤s.length
 ·rw [decide_eq_true (by omega)]
  refine bB ?_;refine aJ ?_;refine bg (lo:=0) (hi:=p.length) (.inr ⟨rfl,rfl⟩) (.inl rfl) (by omega) (by omega) ?_;rw [agS,ahb];refine iW ?_;intro _;exact h
 ·rw [decide_eq_false (by omega),cW]
  intro _;have e:preB p s=false:=decide_eq_false fun e=>by
   have:=congrArg List.length e;rw [age] at this;omega
  rw [e] at h;exact h
theorem u4 {a n:Nat} (hs:s.length≤1000000000) (ha:a≤1000000000) (hn:n≤1000000000) (h:R (str ((s.drop a).take n)) H):ab 234 #[str s,.int .i64 (a:Int),.int .i64 (n:Int)] H R:=by
 refine NB.vc _ _ _ _ _ ?_;refine aJ ?_;rw [iV,show min (a:Int) (s.length:Int)= ((min a s.length:Nat):Int) by omega,az,show ((min a s.length:Nat):Int)+ (n:Int)= ((min a s.length+n:Nat):Int) by omega,ba (by omega) (by omega)];refine aJ ?_;rw [iV,show min ((min a s.length+n:Nat):Int) (s.length:Int)= ((min (min a s.length+n) s.length:Nat):Int) by omega];refine bg (lo:=min a s.length) (hi:=min (min a s.length+n) s.length) (.inl rfl) (.inl rfl) (by omega) (by omega) ?_;have e: (s.drop (min a s.length)).take (min (min a s.length+n) s.length - min a s.length)= (s.drop a).take n:=by
  by_cases h1:a≤s.length
  ·rw [ag2 h1]
   by_cases h2:a+n≤s.length
   ·rw [ag2 h2,aiF]
   ·rw [Nat.min_eq_right (by omega),agx (by rw [agl];omega),agx (by rw [agl];omega)]
  ·rw [show min a s.length=s.length by omega,ahM,ahN (by omega),List.take_nil,List.take_nil]
 rw [e];exact h
theorem Dy {a n:Nat} (hs:s.length≤1000000000) (ha:a≤1000000000) (hn:n≤8) (h:R (.int .u64 ((ji ((s.drop a).take n):Nat):Int)) H):ab 232 #[str s,.int .i64 (a:Int),.int .i64 (n:Int)] H R:=by
 refine HL.vc _ _ _ _ _ ?_;refine u4 hs ha (by omega) ?_;have hl: ((s.drop a).take n).length≤8:=by rw [age];omega
 refine mM (by omega) ?_;rw [if_pos hl];exact h
theorem tM {a n:Nat} {K:Int} {p r:List UInt8} {x k:Nat} (e:s=p++ (aQ x k++r)) (ha: (a:Int)=K) (hp:a=p.length) (hn:n=k) (hx:x<256 ^ k) (hs:s.length≤1000000000) (hk:k≤8) (h:R (.int .u64 (x:Int)) H):ab 232 #[str s,.int .i64 K,.int .i64 (n:Int)] H R:=by
 subst hn;have hl:s.length=p.length+ (n+r.length):=by rw [e];simp [ay]
 rw [←ha];refine Dy hs (by omega) (by omega) ?_;rw [Ge e hp (ay _ _).symm,mY,agp hx];exact h
theorem Gg {g:List UInt8} (hs:s.length≤1000000000) (hg:g.length≤100) (h:R (.bool (preB (g.take s.length) s)) H):ab 233 #[str s,str g] H R:=by
 refine HM.vc _ _ _ _ ?_;refine aJ ?_;refine u4 (a:=0) (by omega) (by omega) hs ?_;rw [agS];exact lz hs (by rw [age];omega) h
theorem L_ {b a:Nat} {hd:Hd} {t:T6} {k:Bool} {p r:List UInt8} (hs:s.length≤1000000000) (PT:j0 t=true) (e:s=p++ (aQ (if k then 0 else 8) 2++ (aQ (if k then 0 else 8) 2++ (aQ (ou t) 2++ (aQ (oq t) 2++r))))) (ha:a=p.length) (o:ar H0 H (.box b hd.cells 44::L))
  (h: ∀H',ar H0 H' (.box b (Hd.cells ⟨hd.nm,t,hd.p,hd.z,hd.u,hd.a,k⟩) 44::L)→R (.bool true) H'):ab 235 #[at_ b 0,str s,.int .i64 (a:Int)] H R:=by
 obtain⟨d1,d2,d3,d4,d5,d6,d7⟩:=Wt PT;obtain⟨c1,_⟩:=yQ t;obtain⟨c2,_⟩:=yR t;have hl:s.length=p.length+ (8+r.length):=by rw [e];simp [ay];omega
 have hm: (if k then 0 else 8:Nat)<256 ^ 2:=by split<;>decide
 refine AF.vc _ _ _ _ _ ?_;rw [az,ba (by omega) (by omega)];refine tM (a:=a+2) (n:=2) (p:=p++aQ (if k then 0 else 8) 2) (x:=if k then 0 else 8) (k:=2) (r:=aQ (ou t) 2++ (aQ (oq t) 2++r)) (by rw [e];simp) (by omega) (by simp [ay];omega) rfl hm hs (by decide) ?_;rw [bc,au,ae,al];refine o.bF (b:=b) (f:=0+11) (by repeat(first|exact af8|apply af7)) (agm rfl) rfl (by repeat(first|exact aV.here|apply aV.there)) fun H1 o _=>?_;have ek:decide ((((if k then 0 else 8:Nat)):Int)=0)=k:=by cases k<;>rfl
 rw [ek] at o;have o:ar H0 H1 (.box b (Hd.cells ⟨hd.nm,hd.t,hd.p,hd.z,hd.u,hd.a,k⟩) 44::L):=o;rw [az,ba (by omega) (by omega)];refine tM (a:=a+6) (n:=2) (p:=p++aQ (if k then 0 else 8) 2++aQ (if k then 0 else 8) 2++aQ (ou t) 2) (x:=oq t) (k:=2) (r:=r) (by rw [e];simp) (by omega) (by simp [ay];omega) rfl (by omega) hs (by decide) ?_;rw [az,ba (by omega) (by omega)];refine tM (a:=a+4) (n:=2) (p:=p++aQ (if k then 0 else 8) 2++aQ (if k then 0 else 8) 2) (x:=ou t) (k:=2) (r:=aQ (oq t) 2++r) (by rw [e];simp) (by omega) (by simp [ay];omega) rfl (by omega) hs (by decide) ?_;refine EI (by omega) (by omega) fun H2 kO=>?_;have o:=o.more kO;rw [←c1,←c2] at*;have hu:PQ (n8 t) (n9 t)=true:=by
  unfold PQ;rw [d7,PT,decide_eq_true ⟨d4,d6⟩];rfl
 rw [hu,if_pos rfl,d7];refine ag (vs:= [t.v,.bool true]) rfl ?_;refine ag (vs:= [t.v,.bool true]) rfl ?_;refine o.box fun tb H3 o _=>?_;refine o.br (b:=tb) (vs:=t.cells.toList) (by repeat(first|exact af8|apply af7)) rfl rfl rfl (by repeat(first|exact aV.here|apply aV.there)) fun H4 o _=>?_;refine o.bf (b:=tb) (by repeat(first|exact af8|apply af7)) rfl ?_;rw [au,ae,al];refine o.Pa (b:=b) (f:=0+1) (n:=6) (vs:=t.cells.toList) (by repeat(first|exact af8|apply af7)) rfl (agm rfl) rfl (by repeat(first|exact aV.here|apply aV.there)) fun H5 o=>?_;exact h H5 (o.pick (ag_ _ _))
end
section
variable {H H0 H' :ai} {R:Value→ai→Prop} {L:List It} {s:List UInt8}
def Hd.zero:Hd:= ⟨[],T6.zero,0,0,0,0,false⟩
def Sk (sign:List UInt8) (size fX flags g:Nat):Value:= .agg #[str sign,i64 size,i64 fX,i64 flags,.func (.func g) #[] #[]]
theorem xx (x:Hd):x.cells.length=12:=rfl
theorem zO (x:Hd):x.cells.all aK=true:=rfl
theorem I6 {sign X nm:List UInt8} {size fX flags g:Nat} {t:T6} {k:Bool} {y:Hd} {p r p1 r1 p2 r2 p3 r3:List UInt8} (hm:jT g Tryz.C=true) (hs:s.length≤1000000) (hg:sign.length≤100) (hz:size≤100) (hl:fX≤100) (hp:preB (sign.take s.length) s=true)
  (Mz:nm.length≤100) (e1:s=p1++ (aQ nm.length 2++r1)) (Iy:fX=p1.length) (e2:s=p2++ (aQ 0 2++r2)) (Aq:fX+2=p2.length) (hlen:X.length=size+nm.length) (hX:s=X++r) (e3:s=p3++ (nm++r3)) (VN:size=p3.length)
  (PT:j0 t=true) (et:s=p++ (aQ (if k then 0 else 8) 2++ (aQ (if k then 0 else 8) 2++ (aQ (ou t) 2++ (aQ (oq t) 2++ (s.drop (p.length+8))))))) (hf:flags=p.length) (df:X≠ [])
  (w_: ∀ (H1:ai) (b:Nat) (M:List It) (K:Value→ai→Prop),ar H H1 (.box b (Hd.cells ⟨nm,t,0,0,0,0,k⟩) 44::M)→(∀H2,ar H H2 (.box b y.cells 44::M)→K (str X) H2)→ab g #[str s,at_ b 0] H1 K)
  (h: ∀H',Ext H H' →R (.tuple #[y.v,.int .i64 (X.length:Int)]) H'):
  ab 191 #[Sk sign size fX flags g,str s] H R:=by
 have ZD:X.length≤s.length:=by rw [hX,af9];omega
 have y5:p.length≤s.length:=by
  have:=congrArg List.length et;rw [af9] at this;omega
 refine AE.vc _ _ _ _ ?_;refine(ar.start (H:=H)).box fun fb H1 o _=>?_;have o:ar H H1 [.box fb [str sign,i64 size,i64 fX,i64 flags,.func (.func g) #[] #[]] 271]:=o;refine o.box fun rb H2 o _=>?_;have o:ar H H2 [.box rb Hd.zero.cells 44,.box fb [str sign,i64 size,i64 fX,i64 flags,.func (.func g) #[] #[]] 271]:=o;rw [ae,al];refine o.aw (b:=fb) (f:=0+0) (w:=str sign) (by repeat(first|exact af8|apply af7)) rfl ?_;refine Gg (by omega) hg ?_;rw [hp,db,ahn,aj,ae,al];refine o.aw (b:=fb) (f:=0+2) (w:=i64 fX) (by repeat(first|exact af8|apply af7)) rfl ?_;rw [ae,al];refine o.aw (b:=fb) (f:=0+2) (w:=i64 fX) (by repeat(first|exact af8|apply af7)) rfl ?_;rw [az,show (fX:Int)+2= ((fX+2:Nat):Int) by omega,ba (by omega) (by omega)];refine tM (a:=fX) (n:=2) e1 rfl Iy rfl (show nm.length<65536 by omega) (by omega) (by decide) ?_;refine⟨o.aw (b:=fb) (f:=0+2) (by repeat(first|exact af8|apply af7)) rfl rfl,?_⟩;refine b7 ?_;rw [ba (by omega) (by omega)];refine tM (a:=fX+2) (n:=2) e2 rfl Aq rfl (show (0:Nat)<65536 by decide) (by omega) (by decide) ?_;refine b7 ?_;rw [ba (n:= ((0:Nat):Int)) (by decide) (by decide)];refine aJ ?_;rw [ae,al];refine o.aw (b:=fb) (f:=0+1) (w:=i64 size) (by repeat(first|exact af8|apply af7)) rfl ?_;rw [aN,decide_eq_false (by omega)];refine aO ?_;refine aJ ?_;rw [ae,al];refine o.aw (b:=fb) (f:=0+1) (w:=i64 size) (by repeat(first|exact af8|apply af7)) rfl ?_;rw [az,ba (by omega) (by omega),az,ba (by omega) (by omega),aN,decide_eq_false (by omega)];intro _;rw [aj,ae,al];refine o.aw (b:=fb) (f:=0+1) (w:=i64 size) (by repeat(first|exact af8|apply af7)) rfl ?_;refine u4 (a:=size) (n:=nm.length) (by omega) (by omega) (by omega) ?_;rw [Ge e3 VN rfl];refine aM rfl (by decide) ?_;rw [bz];refine o.box fun hb H3 o _=>?_;refine o.br (b:=hb) (vs:=Hd.cells ⟨nm,T6.zero,0,0,0,0,false⟩) (by repeat(first|exact af8|apply af7)) rfl rfl rfl (by repeat(first|exact aV.here|apply aV.there)) fun H4 o _=>?_;rw [ae,al];refine o.aw (b:=fb) (f:=0+3) (w:=i64 flags) (by repeat(first|exact af8|apply af7)) rfl ?_;refine L_ (hd:= ⟨nm,T6.zero,0,0,0,0,false⟩) (by omega) PT et hf o fun H5 o=>?_;rw [db,ahn,aj,ae,al];refine o.aw (b:=fb) (f:=0+4) (w:= .func (.func g) #[] #[]) (by repeat(first|exact af8|apply af7)) rfl ?_;refine qn hm ?_;refine w_ H5 hb _ _ o fun H6 o=>?_;refine iW ?_;rw [decide_eq_false df];refine aO ?_;refine aJ ?_;rw [ae,al];refine o.aw (b:=fb) (f:=0+1) (w:=i64 size) (by repeat(first|exact af8|apply af7)) rfl ?_;rw [az,ba (by omega) (by omega),az,ba (by omega) (by omega),cA,decide_eq_false (by omega)];intro _;refine aO ?_;refine lz (by omega) (by omega) ?_;have hpx:preB X s=true:=decide_eq_true (by rw [hX,ajf rfl]);rw [hpx,db];intro _;show ao (.bool false) _ _;rw [aj];refine o.bf (b:=hb) (by repeat(first|exact af8|apply af7)) rfl ?_;refine aJ ?_;refine o.br (b:=rb) (vs:=y.cells) (by repeat(first|exact af8|apply af7)) rfl rfl rfl (by repeat(first|exact aV.here|apply aV.there)) fun H7 o _=>?_;refine o.bf (b:=rb) (by repeat(first|exact af8|apply af7)) rfl ?_;exact h H7 o.ext
end
section
variable {H H0 H' :ai} {R:Value→ai→Prop} {L:List It} {s:List UInt8}
def zP:List UInt8:= [80,75,1,2]
theorem Ma (y:Hd) (m:Int)
  (hr: ∀ (H:ai) (R:Value→ai→Prop),(∀H',Ext H H' →R (.tuple #[y.v,.int .i64 m]) H')→ab 191 #[Sk zP 46 28 8 231,str s] H R) (h: ∀H',Ext H H' →R (.tuple #[y.v,.int .i64 m]) H'):ab 188 #[str s] H R:=by
 refine wP.vc _ _ _ ?_;refine(ar.start (H:=H)).box fun b H1 o _=>?_;have o:ar H H1 [.box b Hd.zero.cells 44]:=o;simp only [eE,bz,KF,kG,dd,eh,ahx,ahp,agi,agt,Nat.reduceAdd,Nat.reduceLeDiff,true_and];refine⟨rfl,rfl,rfl,rfl,rfl,?_⟩;refine hr H1 _ fun H2 hx=>?_;have o:=o.more hx;refine ag (vs:= [y.v,.int .i64 m]) rfl ?_;refine ag (vs:= [y.v,.int .i64 m]) rfl ?_;refine o.br (b:=b) (vs:=y.cells) (by repeat(first|exact af8|apply af7)) rfl rfl rfl (by repeat(first|exact aV.here|apply aV.there)) fun H3 o _=>?_;refine o.bf (b:=b) (by repeat(first|exact af8|apply af7)) rfl ?_;exact h H3 o.ext
theorem Pb {p:List UInt8} (r:List UInt8) (h:s=p++r):preB (p.take s.length) s=true:=by
 refine decide_eq_true ?_;subst h;rw [agx (show p.length≤(p++r).length by simp),ajf rfl]
theorem Gh {x:Hd} {r:List UInt8} (g:N2 x) (e:s=fJ x++r) (hs:s.length≤1000000) (h: ∀H',Ext H H' →R (.tuple #[x.v,.int .i64 ((46+x.nm.length:Nat):Int)]) H'):ab 188 #[str s] H R:=by
 have PW:=g.nm.len;have dX:=j7 x;have xn:=jb x;have g1:=g.p;have g2:=g.z;have g3:=g.u;have g4:=g.a;refine Ma x _ (fun H R h=>?_) h;rw [←xn] at h;obtain⟨T,hT⟩: ∃T,T=aQ x.u 4++aQ x.p 4++aQ x.z 4++aQ x.nm.length 2++aQ 0 2++List.replicate 10 0++aQ x.a 4++x.nm++r:= ⟨_,rfl⟩;have e0:s=zP++aQ 20 2++aQ 20 2++ (aQ x.tj 2++ (aQ x.tj 2++ (aQ (ou x.t) 2++ (aQ (oq x.t) 2++T)))):=by
  rw [e,hT];unfold fJ lX zP;simp only [agc]
 have e8:s.drop ((zP++aQ 20 2++aQ 20 2).length+8)=T:=by
  have e9:s= (zP++aQ 20 2++aQ 20 2++ (aQ x.tj 2++ (aQ x.tj 2++ (aQ (ou x.t) 2++aQ (oq x.t) 2))))++T:=by rw [e0];simp only [agc]
  rw [e9,ajg (by simp [ay])]
 obtain⟨Q,hQ⟩: ∃Q,Q=zP++aQ 20 2++aQ 20 2++lX x:= ⟨_,rfl⟩;have TW:Q.length=16:=by rw [hQ];simp [ay,dX,zP]
 have eQ:s=Q++T:=by rw [e,hQ,hT];unfold fJ zP;simp only [agc]
 refine I6 (t:=x.t) (k:=x.k) (nm:=x.nm) (X:=fJ x) (y:=x) (r:=r) (p:=zP++aQ 20 2++aQ 20 2) (p1:=Q++aQ x.u 4++aQ x.p 4++aQ x.z 4) (r1:=aQ 0 2++List.replicate 10 0++aQ x.a 4++x.nm++r) (p2:=Q++aQ x.u 4++aQ x.p 4++aQ x.z 4++aQ x.nm.length 2) (r2:=List.replicate 10 0++aQ x.a 4++x.nm++r) (p3:=Q++aQ x.u 4++aQ x.p 4++aQ x.z 4++aQ x.nm.length 2++aQ 0 2++List.replicate 10 0++aQ x.a 4) (r3:=r)
  (by kernel_rfl) hs (by decide) (by decide) (by decide) (Pb (p:=zP) (aQ 20 2++aQ 20 2++lX x++T) (by rw [eQ,hQ];simp only [agc])) PW (by rw [eQ,hT];simp only [agc]) (by simp [ay,TW]) (by rw [eQ,hT];simp only [agc]) (by simp [ay,TW])
  xn e (by rw [eQ,hT];simp only [agc]) (by simp [ay,TW]) g.t (by rw [e8];exact e0) (by simp [ay,zP]) (fun e=>by rw [e] at xn;simp at xn;omega) (fun H1 b M K o hk=>?_) h
 refine wQ.vc _ _ _ _ ?_;refine tM (a:=16) (n:=4) (k:=4) (x:=x.u) (p:=Q) (r:=aQ x.p 4++aQ x.z 4++aQ x.nm.length 2++aQ 0 2++List.replicate 10 0++aQ x.a 4++x.nm++r) (by rw [eQ,hT];simp only [agc]) rfl TW.symm rfl (by show _<4294967296;omega) (by omega) (by decide) ?_;refine b7 ?_;rw [Cr (by omega) (by omega),au,ae,al];refine o.bF (b:=b) (f:=0+9) (by repeat(first|exact af8|apply af7)) (agm rfl) rfl (by repeat(first|exact aV.here|apply aV.there)) fun H2 o _=>?_;refine tM (a:=20) (n:=4) (k:=4) (x:=x.p) (p:=Q++aQ x.u 4) (r:=aQ x.z 4++aQ x.nm.length 2++aQ 0 2++List.replicate 10 0++aQ x.a 4++x.nm++r) (by rw [eQ,hT];simp only [agc]) rfl (by simp [ay,TW]) rfl (by show _<4294967296;omega) (by omega) (by decide) ?_;refine tM (a:=24) (n:=4) (k:=4) (x:=x.z) (p:=Q++aQ x.u 4++aQ x.p 4) (r:=aQ x.nm.length 2++aQ 0 2++List.replicate 10 0++aQ x.a 4++x.nm++r) (by rw [eQ,hT];simp only [agc]) rfl (by simp [ay,TW]) rfl (by show _<4294967296;omega) (by omega) (by decide) ?_;refine tM (a:=42) (n:=4) (k:=4) (x:=x.a) (p:=Q++aQ x.u 4++aQ x.p 4++aQ x.z 4++aQ x.nm.length 2++aQ 0 2++List.replicate 10 0) (r:=x.nm++r) (by rw [eQ,hT];simp only [agc]) rfl (by simp [ay,TW]) rfl (by show _<4294967296;omega) (by omega) (by decide) ?_;rw [au,ae,al];refine o.bF (b:=b) (f:=0+7) (by repeat(first|exact af8|apply af7)) (agm rfl) rfl (by repeat(first|exact aV.here|apply aV.there)) fun H3 o _=>?_;rw [au,ae,al];refine o.bF (b:=b) (f:=0+8) (by repeat(first|exact af8|apply af7)) (agm rfl) rfl (by repeat(first|exact aV.here|apply aV.there)) fun H4 o _=>?_;rw [au,ae,al];refine o.bF (b:=b) (f:=0+10) (by repeat(first|exact af8|apply af7)) (agm rfl) rfl (by repeat(first|exact aV.here|apply aV.there)) fun H5 o _=>?_;have o:ar H H5 (.box b x.cells 44::M):=o;rw [au,ae,al];refine o.aw (b:=b) (f:=0+0) (w:=str x.nm) (by repeat(first|exact af8|apply af7)) rfl ?_;refine aJ ?_;rw [az,ba (by omega) (by omega),az,ba (by omega) (by omega)];refine⟨fun a H' =>ar H H' (.box b x.cells 44::M),?_,?_⟩
 ·clear o
  intro _ _ H6 o;refine⟨fun H' =>ar H H' (.box b x.cells 44::M),?_,?_⟩
  ·clear o
   intro _ H7 o;rw [au];refine o.bf (b:=b) (by repeat(first|exact af8|apply af7)) rfl ?_;refine tK g fun H8 hx=>?_;exact hk H8 (o.more hx)
  ·rw [au,ae,al]
   refine o.aw (b:=b) (f:=0+10) (w:= .int .u64 (x.a:Int)) (by repeat(first|exact af8|apply af7)) rfl ?_;rw [bc,decide_eq_false (by omega),aj];exact o
 ·rw [au,ae,al]
  refine o.aw (b:=b) (f:=0+7) (w:= .int .u64 (x.p:Int)) (by repeat(first|exact af8|apply af7)) rfl ?_;rw [bc,decide_eq_false (by omega),aj];exact o
end
section
variable {H H0 H' :ai} {R:Value→ai→Prop} {L:List It} {s:List UInt8}
section flat
variable {α:Type} {f:α→List Value} {n:Nat} {l:List α}
def jr (f:α→List Value) (l:List α):List Value:= (l.map f).flatten
theorem mZ (l m:List α):jr f (l++m)=jr f l++jr f m:=by simp [jr]
theorem r_ (x:α) (l:List α):jr f (x::l)=f x++jr f l:=rfl
theorem qx (x:α):jr f [x]=f x:=by simp [jr]
theorem u9 (hf: ∀x,(f x).length=n): (jr f l).length=l.length*n:=by
 induction l with
 |nil=>simp [jr]
 |cons x l ih=>rw [r_,af9,hf,ih,agi,ahw];omega
theorem Mb (hf: ∀x,(f x).all aK=true): (jr f l).all aK=true:=by
 induction l with
 |nil=>rfl
 |cons x l ih=>rw [r_,List.all_append,hf,ih];rfl
theorem fA (hf: ∀x,(f x).length=n) {k:Nat} (hk:k<l.length): ((jr f l).drop (k*n)).take n=f l[k]:=by
 have e:jr f l=jr f (l.take k)++ (f l[k]++jr f (l.drop (k+1))):=by
  rw [←r_,←ag4 hk,←mZ,agE]
 have hl: (jr f (l.take k)).length=k*n:=by rw [u9 hf,age,ag2 (by omega)]
 rw [e,←hl,aiX,←hf l[k],List.take_left]
end flat
structure Fl where
 nm:List UInt8
 t:T6
 iO:List UInt8
def Fl.cells (f:Fl):List Value:= [str f.nm,.int .i64 f.t.y,.int .i64 f.t.m,.int .i64 f.t.d,.int .i64 f.t.h,.int .i64 f.t.n,.int .i64 f.t.s,str f.iO]
theorem ml (x:Fl):x.cells.length=8:=rfl
theorem Dz (x:Fl):x.cells.all aK=true:=rfl
def kC (l:List Fl):List Value:=jr Fl.cells l
theorem jc (l:List Fl): (kC l).length=l.length*8:=u9 ml
structure jt (fs:List Fl):Prop where
 UP:BC (fs.map Fl.nm)
 tm: ∀f∈fs,j0 f.t=true
 iO: ∀f∈fs,f.iO.length≤400
theorem jt.len {fs:List Fl} (g:jt fs):fs.length≤5:=by have:=g.UP.len;rwa [agw] at this
theorem _root_.Go.Vc.ar.Pc (o:ar H0 H L) (n:Nat):ar H0 H (L.drop n):=o.pick (List.drop_sublist n L)
theorem BC.take {ns:List (List UInt8)} (g:BC ns) (n:Nat):BC (ns.take n):=
 ⟨by have:=g.len;rw [age];omega,fun x hx=>g.nm x (ag3 hx),fun k H v R hs h=>g.all (min k n) H v R (by rw [←aiM];exact hs) h⟩
theorem jt.take {fs:List Fl} (g:jt fs) (n:Nat):jt (fs.take n):=
 ⟨by rw [ai0];exact g.UP.take n,fun f hf=>g.tm f (ag3 hf),fun f hf=>g.iO f (ag3 hf)⟩
theorem Gi (sz:Nat) (hz:0<sz) (o:ar H0 H L):ar H0 H (.sl (.slice none 0 0) sz []::L):=
 o.add (Ext.refl _) (i:= .sl (.slice none 0 0) sz []) ⟨hz,.inl ⟨rfl,rfl⟩⟩ (by intro k hk;exact absurd hk (by simp [It.cN,aS]))
theorem Gj {v:Value} {fs:List Fl} {l:Nat} (hs:Sl H v 8 (kC fs)) (g:jt fs) (hl:l≤9) (h: ∀H',Ext H H' →R (.tuple #[.int .i64 0,.int .i64 0]) H'):ab 44 #[v,.int .i64 (l:Int)] H R:=by
 have dI:=jc fs;have ME:=g.len;refine AR.vc _ _ _ _ ?_;rw [aN,decide_eq_false (by omega)];refine aO ?_;rw [a8,decide_eq_false (by omega)];intro _;rw [aj];refine hs.len dI (by decide) ?_;refine⟨fun y i H' => ∃k:Nat,i= .int .i64 (k:Int)∧k≤fs.length∧ar H H' [.sl y 1 (cH ((fs.map Fl.nm).take k))],fun _ i _=>match i with| .int _ x=> (fs.length - x).toNat|_=>0,⟨0,rfl,by omega,Gi 1 (by decide) ar.start⟩,?_⟩;rintro _ ns _ H1 ⟨k,rfl,hk,o⟩;rw [aN];refine av (fun hc=>?_) (fun hc=>?_)
 ·have fG:k<fs.length:=by omega
  have rp:=hs.ext o.ext;refine rp.at_ dI (by decide) (by omega) (by omega) fun p hp=>?_;rw [af_] at hp;refine hp.fE rp (ws:=fs[k].cells) (fA ml fG) rfl ?_;refine o.box fun b H2 o _=>?_;refine o.br (by repeat(first|exact af8|apply af7)) rfl rfl (Dz _) (by repeat(first|exact aV.here|apply aV.there)) fun H3 o _=>?_;refine ax ?_;refine o.aw (f:=0+0) (w:=str fs[k].nm) (by repeat(first|exact af8|apply af7)) rfl ?_;refine o.dj (sz:=1) (by decide) rfl rfl fun y H4 o=>?_;refine o.append (n:=k) (m:=1) (by repeat(first|exact bw.here|apply bw.there)) rfl (o.sl (by repeat(first|exact af8|apply af7))) (by rw [eY,age,agw];omega) rfl rfl (by omega) fun v' H5 o=>?_;rw [az,ba (by omega) (by omega)];refine⟨⟨k+1,rfl,by omega,?_⟩,by show (_:Int).toNat< (_:Int).toNat;omega⟩;have e:cH ((fs.map Fl.nm).take (k+1))=cH ((fs.map Fl.nm).take k)++ (str fs[k].nm).cells.toList:=by
   rw [agz,agu,agb fG,nB];rfl
  rw [e];exact o.arr (by repeat(first|exact cC.nil|exact bw.here|apply cC.cons|apply bw.there))
 ·refine g.UP.all k _ _ _ (o.sl (by repeat(first|exact af8|apply af7))) fun H2 kO=>?_
  have hx:=o.ext.trans kO;clear o;refine ag (vs:= [.int .i64 0,.int .i64 0]) rfl ?_;refine ag (vs:= [.int .i64 0,.int .i64 0]) rfl ?_;refine fH ?_;rw [aj];refine hs.len dI (by decide) ?_;refine⟨fun i H' => ∃k:Nat,i= .int .i64 (k:Int)∧k≤fs.length∧Ext H H',fun i _=>match i with| .int _ x=> (fs.length - x).toNat|_=>0,⟨0,rfl,by omega,hx⟩,?_⟩;clear hk hc hx kO;rintro _ _ H3 ⟨k,rfl,hk,hx⟩;rw [aN];refine av (fun hc=>?_) (fun hc=>?_)
  ·have fG:k<fs.length:=by omega
   have rp:=hs.ext hx;refine rp.at_ dI (by decide) (by omega) (by omega) fun p hp=>?_;rw [af_] at hp;refine hp.fE rp (ws:=fs[k].cells) (fA ml fG) rfl ?_;have o:= (ar.start (H:=H)).more hx;refine o.box fun b H2 o _=>?_;refine o.br (by repeat(first|exact af8|apply af7)) rfl rfl (Dz _) (by repeat(first|exact aV.here|apply aV.there)) fun H3 o _=>?_;refine ax ?_;refine iF (o.fZ (by repeat(first|exact af8|apply af7))) (ws:=fs[k].t.cells.toList) rfl (by rw [ml];decide) ?_;refine qj fun H4 oQ=>?_;rw [g.tm _ (agj fG)];refine gI ?_;rw [show (!true)=false from rfl,aj,az,ba (by omega) (by omega)];exact⟨⟨k+1,rfl,by omega,o.ext.trans oQ⟩,by show (_:Int).toNat< (_:Int).toNat;omega⟩
  ·refine hs.len dI (by decide) ?_
   refine⟨fun t i H' => ∃ (k:Nat) (n:Nat),i= .int .i64 (k:Int)∧t= .int .i64 (n:Int)∧n≤400*k∧k≤fs.length∧Ext H H',fun _ i _=>match i with| .int _ x=> (fs.length - x).toNat|_=>0,⟨0,0,rfl,rfl,by omega,by omega,hx⟩,?_⟩;clear hk hc hx;rintro _ _ _ H3 ⟨k,n,rfl,rfl,hn,hk,hx⟩;rw [aN];refine av (fun hc=>?_) (fun hc=>?_)
   ·have fG:k<fs.length:=by omega
    have rp:=hs.ext hx;refine rp.at_ dI (by decide) (by omega) (by omega) fun p hp=>?_;rw [af_] at hp;refine hp.fE rp (ws:=fs[k].cells) (fA ml fG) rfl ?_;have o:= (ar.start (H:=H)).more hx;refine o.box fun b H2 o _=>?_;refine o.br (by repeat(first|exact af8|apply af7)) rfl rfl (Dz _) (by repeat(first|exact aV.here|apply aV.there)) fun H3 o _=>?_;refine ax ?_;refine o.aw (f:=0+7) (w:=str fs[k].iO) (by repeat(first|exact af8|apply af7)) rfl ?_;have hd:=g.iO _ (agj fG);refine aJ ?_;rw [az,ba (by omega) (by omega),a8,decide_eq_false (by omega),aj,az,ba (by omega) (by omega)];exact⟨⟨k+1,n+fs[k].iO.length,rfl,by simp,by omega,by omega,o.ext⟩,by show (_:Int).toNat< (_:Int).toNat;omega⟩
   ·exact h _ hx
end
end Go.Proofs.YtpcgccdmmoggmaaGreatDoor
namespace Go.Proofs
open Go.Shelf Go.RowKit
section
set_option maxHeartbeats 1000000 in
theorem Tryz.u_ (b:Nat) (w:World) (h0:w.cell? ⟨b,0,none⟩=some (.pointer none)) (MC:w.shape? b=some (153,2)) (No:w.frozen? ⟨b,0,none⟩=false):
  Calls Tryz.prog 128 #[.pointer (some ⟨b,0,none⟩)] w fun e w' =>e= .returned (.tuple #[])∧w' =w.setCell ⟨b,0,none⟩ (.pointer (some ⟨b,0,none⟩)):=by
 obtain⟨j,hj,XB⟩:=ajI.1 (show (Tryz.prog.info? 153).map (·.size)=some 2 by kernel_rfl);have OE:liesAt Tryz.prog Tryz.prog.depth 153 (2/Tryz.prog.cellsOf 153) 0 153 1=true:=by kernel_rfl
 go_enter Tryz.func128,Tryz.f128
 go_wp2
 rw [Lib.run_to_unsafe w ⟨b,0,none⟩ Tryz.underlying151 Tryz.underlying256 hj (by rw [XB];decide) MC (show 0<2 by decide)];simp only [Result.andThen];rw [Oper.upon_value]
 go_wp2
 rw [run_callFunc_extern Tryz.func178 (by kernel_rfl) (by kernel_rfl) (by kernel_rfl) (e:=Extern.AbiNoEscape.same) (by kernel_rfl)];rw [Lib.run_noEscape];simp only [Result.andThen];rw [Oper.upon_value]
 go_wp2
 rw [Lib.run_from_unsafe w ⟨b,0,none⟩ Tryz.underlying256 Tryz.underlying151 hj MC OE];simp only [Result.andThen];rw [Oper.upon_value]
 go_wp2
 go_end0
 exact⟨rfl,rfl⟩
set_option maxHeartbeats 1000000 in
theorem Tryz.DA (b g cap:Nat) (cur:Array Value) (fr:Nat × Nat) (l:List UInt8) (w:World) (h1:w.cell? ⟨b,1,none⟩=some (.slice (some ⟨g,0,none⟩) l.length cap)) (hg:w.heap[g]? =some (.cells cur 5 fr)) (h0:l≠ []) (hl:l.length≤cap) (hm:l.length≤9223372036854775807) (hn:l.length≤cur.size)
  (hc: ∀ (j:Nat) (x:UInt8),l[j]? =some x→cur[j]? =some (Value.int .u8 x.toNat)):
  Calls Tryz.prog 76 #[.pointer (some ⟨b,0,none⟩)] w fun e w' =>e= .returned (.string ⟨l.toArray⟩)∧w' =w.drew.freeze ⟨g,0,none⟩ l.length:=by
 have R2:l.length≠0:=by simpa using h0
 have c1:w.drew.cell? ⟨b,1,none⟩=some (.slice (some ⟨g,0,none⟩) l.length cap):=h1;have Zd: (Builtin.unsafeSliceData_ #[82] 200 #[.slice (some ⟨g,0,none⟩) l.length cap]).run Tryz.prog w.drew= .ok (.pointer (some ⟨g,0,none⟩)) w.drew:=
  Lib.run_unsafeSliceData_row _ _ _ _ _ _ (by omega)
 have Ze: (Builtin.unsafeString_ #[200,3] 9 #[.pointer (some ⟨g,0,none⟩),.int .i64 l.length]).run Tryz.prog w.drew= .ok (.string ⟨l.toArray⟩) (w.drew.freeze ⟨g,0,none⟩ l.length):=by
  refine Lib.run_unsafeString_row w.drew 200 3 9 5 Tryz.underlying200 (by kernel_rfl) g cur.size (by have TC :w.drew.heap[g]? =some (.cells cur 5 fr):=hg;simp [World.shape?,TC]) l h0 hn hm ?_;intro j x hx;have TC :w.drew.heap[g]? =some (.cells cur 5 fr):=hg;have:=hc j x hx;rw [show (⟨g,0,none⟩:Addr).add j= ⟨g,j,none⟩ from by cases j<;>simp [Addr.add],Lib.cell_of_heap TC];exact this
 go_enter Tryz.func76,Tryz.f76
 go_wp2
 go_region
 all_goals (go_wp2;go_ret;exact⟨rfl,rfl⟩)
set_option maxHeartbeats 1000000 in
theorem Tryz.Gk (b:Nat) (w:World) (h1:w.cell? ⟨b,1,none⟩=some (.slice none 0 0)):
  Calls Tryz.prog 76 #[.pointer (some ⟨b,0,none⟩)] w fun e w' =>e= .returned (.string ⟨#[]⟩)∧w' =w.drew:=by
 have c1:w.drew.cell? ⟨b,1,none⟩=some (.slice none 0 0):=h1;have Zd: (Builtin.unsafeSliceData_ #[82] 200 #[.slice none 0 0]).run Tryz.prog w.drew= .ok (.pointer none) w.drew:=rfl;have Ze: ∀ (W:World) (q:Option Addr),(Builtin.unsafeString_ #[200,3] 9 #[.pointer q,.int .i64 0]).run Tryz.prog W= .ok (.string .empty) W:=fun W q=>Lib.run_unsafeString_none W _ _ _ q
 go_enter Tryz.func76,Tryz.f76
 go_wp2
 go_region
 all_goals (go_wp2;go_ret;exact⟨rfl,rfl⟩)
end
end Go.Proofs
namespace Go.Proofs.YtpcgccdmmoggmaaGreatDoor
open Go Go.Vc Go.Proofs
section
variable {H H0 H' :ai} {R:Value→ai→Prop} {L:List It} {b:Nat} {out:List UInt8}
def BO (H0 H:ai) (b:Nat) (out:List UInt8) (L:List It):Prop:= ∃bp bv,(bp= .pointer none∨bp=at_ b 0)∧aK bv=true∧ar H0 H (.box b [bp,bv] 153:: .aA (mW bv out)::L)
theorem BO.new (o:ar H0 H (.box b [.pointer none,.slice none 0 0] 153::L)):BO H0 H b [] L:=
 ⟨_,_,.inl rfl,rfl,(o.add (Ext.refl _) (i:= .aA (mW (.slice none 0 0) [])) (.inl ⟨rfl,rfl⟩) (by intro k hk;simp [It.cN,mW,aS] at hk)).eR (by repeat(first|exact bd.refl|exact bw.here|apply bd.cons|apply bw.there))⟩
theorem BO.ext (d:BO H0 H b out L):Ext H0 H:=let ⟨_,_,_,_,o⟩:=d;o.ext
theorem BO.more (d:BO H0 H b out L) (hx:Ext H H'):BO H0 H' b out L:=let ⟨_,_,h1,h2,o⟩:=d; ⟨_,_,h1,h2,o.more hx⟩
theorem Pe {bp bv:Value} (rX:bp= .pointer none∨bp=at_ b 0) (o:ar H0 H (.box b [bp,bv] 153::L))
  (h: ∀H',ar H0 H' (.box b [at_ b 0,bv] 153::L)→R (.tuple #[]) H'):ab 128 #[at_ b 0] H R:=by
 have h1:=o.fZ (b:=b) (cs:= [bp,bv]) (t:=153) (by repeat(first|exact af8|apply af7));intro wd hw;subst hw;have hc:=Lib.cell_of_heap h1 0;rcases rX with rfl|rfl
 ·have jM:aF wd.heap (at_ b 0) (at_ b 0) fun _ H' =>R (.tuple #[]) H' :=o.bF (f:=0) (by repeat(first|exact af8|apply af7)) (by simp) rfl (by repeat(first|exact aV.here|apply aV.there)) (fun H' o' _=>h H' o')
  have:=tA jM;refine(Tryz.u_ b wd hc ?_ (Lib.frozen_of_heap h1 0)).mono fun e w' ⟨he,mn⟩=> ⟨_,he,?_,?_⟩
  ·simp [World.shape?,h1]
  ·subst mn;exact⟨rfl,rfl,rfl,fun _=>by first|exact aga _|exact agG _⟩
  ·subst mn;exact this
 ·exact(Tryz.pO b 0 wd hc).mono fun e w' ⟨he,mn⟩=> ⟨_,he,by subst mn;exact b0.refl _,by subst mn;exact h _ o⟩
theorem Gl {s:List UInt8} (hs:out.length+s.length≤140737488355328) (d:BO H0 H b out L) (h: ∀H',BO H0 H' b (out++s) L→R (.tuple #[i64 s.length,.nilIface]) H'):ab 75 #[at_ b 0,str s] H R:=by
 obtain⟨bp,bv,rX,zh,o⟩:=d;refine fU.vc _ _ _ _ ?_;refine Pe rX o fun H1 o=>?_;rw [au,ae,al];refine o.aw (f:=0+1) (w:=bv) (by repeat(first|exact af8|apply af7)) rfl ?_;refine Da (new:=s) o (by repeat(first|exact bw.here|apply bw.there)) (by simp [iJ,bu]) (by simp [cellsOf,bu]) hs fun v' H2 o=>?_;have h1:=Db o (by repeat(first|exact af8|apply af7));rw [au,ae,al];refine o.bF (f:=0+1) (by repeat(first|exact af8|apply af7)) (by simp) h1 (by repeat(first|exact aV.here|apply aV.there)) fun H3 o _=>?_;refine aJ ?_;exact h H3 ⟨_,v',.inr rfl,h1,o.eR (by repeat(first|exact bd.refl|exact bw.here|apply bd.cons|apply bw.there))⟩
theorem BV (hs:out.length≤140737488355328) (d:BO H0 H b out L) (h: ∀H' bp a c,ar H0 H' (.box b [bp,.slice a out.length c] 153::L)→R (str out) H'):ab 76 #[at_ b 0] H R:=by
 obtain⟨bp,bv,rX,zh,o⟩:=d;have h1:=o.fZ (b:=b) (cs:= [bp,bv]) (t:=153) (by repeat(first|exact af8|apply af7));intro wd hw;subst hw;have hc:wd.cell? ⟨b,1,none⟩=some bv:=Lib.cell_of_heap h1 1;rcases o.aA (T:=mW bv out) (by repeat(first|exact af8|apply af7)) with ⟨rfl,rfl⟩ | ⟨h0,g,cap,sp,fr,rfl,hg,hf,x_⟩
 ·refine(Tryz.Gk b wd hc).mono fun e w' ⟨he,mn⟩=> ⟨_,he,by subst mn;exact⟨rfl,rfl,rfl,fun _=>by first|exact aga _|exact agG _⟩,?_⟩
  subst mn;exact h _ bp _ _ o.lW
 ·have R2:out.length≠0:=by simpa using h0
  have No: (wd.drew.freeze ⟨g,0,none⟩ out.length).heap=wd.heap.modify g fun
    | .cells c elem (lo,hi)=> .cells c elem (if lo==hi then (0,0+out.length) else (min lo 0,max hi (0+out.length)))
    |o=>o:=by
   unfold World.freeze;rw [if_neg R2]
   rfl
  refine(Tryz.DA b g cap _ fr out wd hc hg h0 (by omega) (by omega) (by simp) ?_).mono fun e w' ⟨he,mn⟩=> ⟨_,he,?_,?_⟩
  ·intro j x hx
   have hj:= (agD.1 hx).1;rw [agO,agM (by simpa using hj),agu,hx];rfl
  ·subst mn
   unfold World.freeze;rw [if_neg R2];exact⟨rfl,rfl,rfl,fun _=>by first|exact aga _|exact agG _⟩
  ·subst mn
   have o2:ar H0 (wd.drew.freeze ⟨g,0,none⟩ out.length).heap (.box b [bp,.slice (some ⟨g,0,none⟩) out.length cap] 153:: .aA OG::L):=by
    rw [No];refine o.eX (i:= .aA (mW (.slice (some ⟨g,0,none⟩) out.length cap) out)) (i' := .aA OG) (by repeat(first|exact aV.here|apply aV.there)) (by simp) (fun k hk df=>?_) trivial (fun k hk=>hk.elim);rw [ah6,if_neg];intro e;exact df (by simp [It.cN,mW,aS,e])
   exact h _ bp _ _ o2.lW
theorem TX {bp:Value} {n:Nat} {a:Option Addr} {c:Nat} (o:ar H0 H (.box b [bp,.slice a n c] 153::L)) (h:R (i64 n) H):ab 100 #[at_ b 0] H R:=by
 refine qI.vc _ _ _ ?_;rw [au,ae,al];exact o.aw (f:=0+1) (w:= .slice a n c) (by repeat(first|exact af8|apply af7)) rfl h
end
section
variable {H H0 H' :ai} {R:Value→ai→Prop} {L:List It} {s:List UInt8}
abbrev Fp:=Fl × List UInt8
def dw (x:Fp) (a:Nat):Hd:= ⟨x.1.nm,x.1.t,x.2.length,x.1.iO.length,cS 0 x.1.iO,a,decide (x.1.iO= [])⟩
def gV (x:Fp):List UInt8:=eM (dw x 0)++ (x.2++dK (dw x 0))
def bh (l:List Fp):List UInt8:= (l.map gV).flatten
def cm:Nat→List Fp→List Hd
 |_,[]=> []
 |a,x::r=>dw x a::cm (a+ (gV x).length) r
def eC (l:List Hd):List UInt8:= (l.map fJ).flatten
def q_ (l:List Fp):List UInt8:=eC (cm 0 l)++oP l.length (eC (cm 0 l)).length (bh l).length
def kD (l:List Fp):List UInt8:=bh l++q_ l
def nc (l:List Hd):List Value:=jr Hd.cells l
theorem nd (l:List Hd): (nc l).length=l.length*12:=u9 xx
theorem kR (l m:List Fp):bh (l++m)=bh l++bh m:=by simp [bh]
theorem qy (x:Fp):bh [x]=gV x:=by simp [bh]
theorem zQ (l m:List Hd):eC (l++m)=eC l++eC m:=by simp [eC]
theorem Gm (x:Hd):eC [x]=fJ x:=by simp [eC]
theorem ia: ∀ (a:Nat) (l:List Fp),(cm a l).length=l.length
 |_,[]=>rfl
 |a,x::r=>by rw [cm,agi,ia,agi]
theorem nf: ∀ (a:Nat) (l m:List Fp),cm a (l++m)=cm a l++cm (a+ (bh l).length) m
 |a,[],m=>rfl
 |a,x::r,m=>by
  rw [ahd,cm,nf,cm,ahd]
  congr 2
  have: (bh (x::r)).length= (gV x).length+ (bh r).length:=by simp [bh]
  rw [this,←ahR]
theorem eN {α:Type} {l:List α} {k:Nat} (h:k<l.length):l.take (k+1)=l.take k++ [l[k]]:=by rw [agz,agb h];rfl
theorem xy: ∀ {a:Nat} {l:List Fp} {k:Nat} (h:k<l.length) (h' :k< (cm a l).length),(cm a l)[k]=dw l[k] (a+ (bh (l.take k)).length)
 |a,x::r,0,h,h' =>rfl
 |a,x::r,k+1,h,h' =>by
  have h1:k<r.length:=by simpa using h
  have e: (bh ((x::r).take (k+1))).length= (gV x).length+ (bh (r.take k)).length:=by simp [bh]
  simp only [cm,List.getElem_cons_succ];rw [xy h1,e,ahR]
structure eP (l:List Fp):Prop where
 Ro:jt (l.map Prod.fst)
 pk: ∀x∈l,x.2.length≤6000∧(x.1.iO= []→x.2= [])
theorem eP.len {l:List Fp} (g:eP l):l.length≤5:=by have:=g.Ro.len;rwa [agw] at this
theorem eP.sm {l:List Fp} (g:eP l) {x:Fp} (hx:x∈l) {a:Nat} (ha:a≤100000000):N2 (dw x a) where
 nm:=g.Ro.UP.nm _ (agP.2 ⟨x.1,agP.2 ⟨x,hx,rfl⟩,rfl⟩)
 t:=g.Ro.tm _ (agP.2 ⟨x,hx,rfl⟩)
 p:=by show x.2.length≤_;have:= (g.pk x hx).1;omega
 z:=by show x.1.iO.length≤_;have:=g.Ro.iO _ (agP.2 ⟨x,hx,rfl⟩);omega
 u:=u0 _ _
 a:=ha
 k:=fun h=>by
  have h1:x.1.iO= []:=of_decide_eq_true h;exact⟨by show x.2.length=0;rw [(g.pk x hx).2 h1];rfl,by show x.1.iO.length=0;rw [h1];rfl⟩
theorem nY (h:Hd): (dK h).length≤16:=by
 unfold dK
 split<;>simp [ay]
theorem eP.UQ {l:List Fp} (g:eP l) {x:Fp} (hx:x∈l): (gV x).length≤6146∧(eM (dw x 0)).length≤130:=by
 have h1:= (g.pk x hx).1;have h2:=nY (dw x 0);have h3:= (g.sm hx (a:=0) (by omega)).nm.len;have h4: (eM (dw x 0)).length≤130:=by rw [rQ];omega
 refine⟨?_,h4⟩;unfold gV;simp only [af9];omega
theorem eP.take {l:List Fp} (g:eP l) (k:Nat):eP (l.take k):=
 ⟨by rw [ai0];exact g.Ro.take k,fun x hx=>g.pk x (ag3 hx)⟩
theorem Gn {l:List Fp} (g:eP l): (bh l).length≤6146*l.length:=by
 have: ∀m:List Fp,(∀x∈m,x∈l)→(bh m).length≤6146*m.length:=by
  intro m
  induction m with
  |nil=>intro _;simp [bh]
  |cons x m ih=>
   intro hm;have h1:= (g.UQ (hm x af8)).1;have h2:=ih fun y hy=>hm y (af7 _ hy);have: (bh (x::m)).length= (gV x).length+ (bh m).length:=by simp [bh]
   rw [agi];omega
 exact this l fun _ h=>h
theorem eP.I7 {l:List Fp} (g:eP l) (k:Nat): (bh (l.take k)).length≤30730:=by
 have h1:=Gn (g.take k);have h2:= (g.take k).len;omega
theorem tN {l:List Fp} (g:eP l): ∀k,k≤l.length→(eC (cm 0 (l.take k))).length≤146*k
 |0,_=>by simp [cm,eC]
 |k+1,h=>by
  have ih:=tN g k (by omega);rw [eN (by omega),nf,zQ,af9];have h1:= (g.sm (x:=l[k]) (agj _) (a:=0) (by omega)).nm.len;have: (eC (cm (0+ (bh (l.take k)).length) [l[k]])).length≤146:=by
   rw [cm,cm,Gm,jb];show 46+ (dw l[k] 0).nm.length≤146;omega
  omega
theorem Mc {v:Value} {l:List Fp} (g:eP l) (hs:Sl H v 12 (nc (cm 0 l))) (h: ∀H',Ext H H' →R (str (q_ l)) H'):ab 45 #[v] H R:=by
 have dI: (nc (cm 0 l)).length=l.length*12:=by rw [nd,ia]
 have TY:=g.len;refine IX.vc _ _ _ ?_;refine(ar.start (H:=H)).box fun b H1 o _=>?_;have d:BO H H1 b [] []:=BO.new o;refine hs.len dI (by decide) ?_;refine⟨fun a i H' => ∃k:Nat,i= .int .i64 (k:Int)∧a= .int .u64 ((bh (l.take k)).length:Int)∧k≤l.length∧BO H H' b (eC (cm 0 (l.take k))) [],fun _ i _=>match i with| .int _ x=> (l.length - x).toNat|_=>0,⟨0,rfl,rfl,by omega,d⟩,?_⟩;clear o d;rintro _ _ _ H2 ⟨k,rfl,rfl,hk,d⟩;rw [aN];refine av (fun hc=>?_) (fun hc=>?_)
 ·have fG:k<l.length:=by omega
  have Sm:k< (cm 0 l).length:=by rw [ia];exact fG
  have rp:=hs.ext d.ext;have he:=g.I7 k;have dX:=tN g k hk;refine rp.at_ dI (by decide) (by omega) (by omega) fun p hp=>?_;rw [af_] at hp;refine hp.fE rp (ws:= (cm 0 l)[k].cells) (fA xx Sm) rfl ?_;rw [xy fG Sm,ags];have sm:=g.sm (x:=l[k]) (agj _) (a:= (bh (l.take k)).length) (by omega);obtain⟨x,hx⟩: ∃x,dw l[k] (bh (l.take k)).length=x:= ⟨_,rfl⟩;have e1:x.a= (bh (l.take k)).length:=by rw [←hx];rfl
  have e2:x.p=l[k].2.length:=by rw [←hx];rfl
  have e3:eM x=eM (dw l[k] 0):=by rw [←hx];rfl
  have e4:dK x=dK (dw l[k] 0):=by rw [←hx];rfl
  have e5:eC (cm 0 (l.take (k+1)))=eC (cm 0 (l.take k))++fJ x:=by
   rw [eN fG,nf,zQ,cm,cm,Gm,ags,hx]
  have e6: (bh (l.take (k+1))).length=x.a+ (eM x).length+x.p+ (dK x).length:=by
   rw [eN fG,kR,qy,af9,e1,e2,e3,e4];unfold gV;simp only [af9];omega
  have Um :=g.I7 (k+1);rw [e6] at Um;rw [hx] at sm ⊢;have hcx: (fJ x).length≤146:=by rw [jb];have:=sm.nm.len;omega
  obtain⟨bp,bv,XJ,SF,o⟩:=d;refine o.box fun c H3 o _=>?_;refine o.br (by repeat(first|exact af8|apply af7)) rfl rfl (zO x) (by repeat(first|exact aV.here|apply aV.there)) fun H4 o _=>?_;refine o.bf (b:=c) (by repeat(first|exact af8|apply af7)) rfl ?_;refine nP sm fun H5 uP=>?_;have o:=o.more uP;refine gI ?_;rw [show (!true)=false from rfl,aj];refine ax ?_;refine o.aw (b:=c) (f:=0+10) (w:= .int .u64 (x.a:Int)) (by repeat(first|exact af8|apply af7)) rfl ?_;refine o.bf (b:=c) (by repeat(first|exact af8|apply af7)) rfl ?_;refine ax ?_;refine o.aw (b:=c) (f:=0+7) (w:= .int .u64 (x.p:Int)) (by repeat(first|exact af8|apply af7)) rfl ?_;refine o.bf (b:=c) (by repeat(first|exact af8|apply af7)) rfl ?_;refine nQ sm fun H6 vS=>?_;have o:=o.more vS;refine⟨o.aw (b:=c) (f:=0+10) (by repeat(first|exact af8|apply af7)) rfl rfl,o.aw (b:=c) (f:=0+7) (by repeat(first|exact af8|apply af7)) rfl rfl,o.bf (b:=c) (by repeat(first|exact af8|apply af7)) rfl rfl,?_⟩;refine aJ ?_;refine b7 ?_;rw [cR (by omega) (by omega),az,cR (by omega) (by omega),az,cR (by omega) (by omega)];refine nR sm fun H7 QQ=>?_;have o:=o.more QQ;refine⟨o.aw (b:=c) (f:=0+10) (by repeat(first|exact af8|apply af7)) rfl rfl,o.aw (b:=c) (f:=0+7) (by repeat(first|exact af8|apply af7)) rfl rfl,?_⟩;refine aJ ?_;refine b7 ?_;rw [cR (by omega) (by omega),az,cR (by omega) (by omega)];refine o.bf (b:=c) (by repeat(first|exact af8|apply af7)) rfl ?_;refine tK sm fun H8 N3=>?_;have o:=o.more N3;have d:BO H H8 b (eC (cm 0 (l.take k))) []:= ⟨bp,bv,XJ,SF,o.arr (by repeat(first|exact cC.nil|exact bw.here|apply cC.cons|apply bw.there))⟩;refine Gl (by omega) d fun H9 d=>?_;rw [az,ba (by omega) (by omega)];refine⟨⟨k+1,rfl,?_,by omega,by rw [e5];exact d⟩,by show (_:Int).toNat< (_:Int).toNat;omega⟩;rw [e6];simp
 ·obtain rfl:k=l.length:=by omega
  have dX:=tN g _ hk;have he:=g.I7 l.length;rw [agr] at d dX he ⊢;refine BV (by omega) d fun H3 bp a c o=>?_;refine hs.len dI (by decide) ?_;refine b7 ?_;rw [cR (by omega) (by omega)];refine TX o ?_;refine b7 ?_;rw [cR (by omega) (by omega)];refine zM (n:=l.length) (z:= (eC (cm 0 l)).length) (a:= (bh l).length) (by omega) (by omega) (by omega) fun H4 oQ=>?_;refine aP (by rw [mX];omega) ?_;exact h H4 (o.ext.trans oQ)
end
section
variable {H H0 H' :ai} {R:Value→ai→Prop} {L:List It} {s:List UInt8}
def DB (b:Nat):jl where
 cN k:=k=b
 holds H:=Sj H b
 frame:=fun h hf=> ⟨(hf b rfl).trans h.fZ⟩
 lt:=fun h hf=>by obtain rfl:=hf;exact bq h.fZ
def Kf (lev:Nat) (x:Fp):Prop:= (x.1.iO= []→x.2= [])∧(x.1.iO≠ []→F_ x.1.iO lev x.2∧run ⟨.hd,toBits x.2,[]⟩= (x.1.iO,⟨.dn,[],x.1.iO⟩,0))∧x.2.length≤6000
theorem Kf.one {lev:Nat} {x y:Fp} (h:Kf lev x) (k:Kf lev y) (e:x.1=y.1):x=y:=by
 obtain⟨f,a⟩:=x;obtain⟨f',b⟩:=y;simp only at e;subst e
 by_cases hd:f.iO= []
 ·exact congrArg _ ((show a= [] from h.1 hd).trans (show b= [] from k.1 hd).symm)
 ·exact congrArg _ (L9 (h.2.1 hd).1 (k.2.1 hd).1)
def XK (fv:Value) (lev:Nat) (tb:Nat) (l:List Fp) (hv:Value) (rest:List UInt8) (tail:Bool):List Value:= [fv,i64 lev,zJ tb,i64 l.length,i64 (bh l).length,hv,str rest,.bool tail]
abbrev Kg (b:Nat) (fv:Value) (fs:List Fl) (lev tb:Nat) (l:List Fp) (hv:Value) (rest:List UInt8) (tail:Bool) (L:List It):List It:=
 .box b (XK fv lev tb l hv rest tail) 175:: .sl fv 8 (kC fs):: .aA (DB tb):: .sl hv 12 (nc (cm 0 l))::L
theorem I8 {b:Nat} {fv:Value} {fs:List Fl} {lev tb:Nat} {l:List Fp} {hv:Value} {rest:List UInt8} {tail:Bool} (hT:Reads H0 ⟨5,0,none⟩ eT) (hG:Reads H0 ⟨0,0,none⟩ ff) (tO:lev≤9) (gf:jt fs) (hl:l.map Prod.fst=fs.take l.length) (hk:l.length<fs.length) (g:eP l) (o:ar H0 H (Kg b fv fs lev tb l hv rest tail L))
  (h: ∀H' pk sD,Kf lev (fs[l.length],pk)→ar H0 H' (Kg b fv fs lev tb (l++ [(fs[l.length],pk)]) sD rest tail L)→R (str (gV (fs[l.length],pk))) H'):ab 198 #[at_ b 0] H R:=by
 have dI:=jc fs;have ME:=gf.len;have BW:=Gn g;have TY:=g.len;obtain⟨f,hf⟩: ∃f,fs[l.length]=f:= ⟨_,rfl⟩;have NS:f.iO.length≤400:=by rw [←hf];exact gf.iO _ (agj _)
 have htm:j0 f.t=true:=by rw [←hf];exact gf.tm _ (agj _)
 have Mz:uO f.nm:=by rw [←hf];exact gf.UP.nm _ (agP.2 ⟨_,agj _,rfl⟩)
 have Sn: ((kC fs).drop (l.length*8)).take 8=f.cells:=by rw [←hf];exact fA ml hk
 rw [hf] at h;refine rZ.vc _ _ _ ?_;refine cJ (ax ?_);refine o.aw (b:=b) (f:=0+0) (w:=fv) (by repeat(first|exact af8|apply af7)) rfl ?_;refine cJ (ax ?_);refine o.aw (b:=b) (f:=0+3) (w:=i64 l.length) (by repeat(first|exact af8|apply af7)) rfl ?_;refine(o.sl (v:=fv) (by repeat(first|exact af8|apply af7))).at_ dI (by decide) (by omega) (by omega) fun p hp=>?_;rw [af_] at hp;refine hp.fE (o.sl (by repeat(first|exact af8|apply af7))) Sn rfl ?_;refine o.box fun b3 H1 o _=>?_;refine⟨o.aw (b:=b) (f:=0+0) (by repeat(first|exact af8|apply af7)) rfl rfl,o.aw (b:=b) (f:=0+3) (by repeat(first|exact af8|apply af7)) rfl rfl,hp.fE (o.sl (by repeat(first|exact af8|apply af7))) Sn rfl rfl,?_⟩;refine o.br (b:=b3) (by repeat(first|exact af8|apply af7)) rfl rfl (Dz f) (by repeat(first|exact aV.here|apply aV.there)) fun H2 o _=>?_;refine cJ (ax ?_);refine o.aw (b:=b) (f:=0+3) (w:=i64 l.length) (by repeat(first|exact af8|apply af7)) rfl ?_;rw [az,ba (by omega) (by omega)];refine cJ (ax ?_);refine o.bF (b:=b) (f:=0+3) (by repeat(first|exact af8|apply af7)) (agm rfl) rfl (by repeat(first|exact aV.here|apply aV.there)) fun H3 o _=>?_;refine ax ?_;refine o.aw (b:=b3) (f:=0+0) (w:=str f.nm) (by repeat(first|exact af8|apply af7)) rfl ?_;refine ax ?_;refine iF (o.fZ (b:=b3) (by repeat(first|exact af8|apply af7))) (ws:=f.t.cells.toList) rfl (by rw [ml];decide) ?_;refine cJ (ax ?_);refine o.aw (b:=b) (f:=0+4) (w:=i64 (bh l).length) (by repeat(first|exact af8|apply af7)) rfl ?_;refine b7 ?_;rw [cR (by omega) (by omega)];refine ax ?_;refine o.aw (b:=b3) (f:=0+7) (w:=str f.iO) (by repeat(first|exact af8|apply af7)) rfl ?_;refine iW ?_;refine aM rfl (agm rfl) ?_;rw [eE];refine⟨rfl,agm rfl,?_⟩;refine aM rfl (agm rfl) ?_;refine aM rfl (agm rfl) ?_;rw [bz];refine o.box fun b4 H4 o _=>?_;refine⟨o.aw (b:=b3) (f:=0+0) (by repeat(first|exact af8|apply af7)) rfl rfl,iF (o.fZ (b:=b3) (by repeat(first|exact af8|apply af7))) (ws:=f.t.cells.toList) rfl (by rw [ml];decide) rfl,o.aw (b:=b) (f:=0+4) (by repeat(first|exact af8|apply af7)) rfl rfl,o.aw (b:=b3) (f:=0+7) (by repeat(first|exact af8|apply af7)) rfl rfl,?_⟩;refine o.br (b:=b4) (vs:= (⟨f.nm,f.t,0,0,0,(bh l).length,decide (f.iO= [])⟩:Hd).cells) (by repeat(first|exact af8|apply af7)) rfl rfl (zO _) (by repeat(first|exact aV.here|apply aV.there)) fun H5 o _=>?_;refine⟨fun v H' => ∃pk,v=str pk∧Kf lev (f,pk)∧ar H0 H' (.box b4 (⟨f.nm,f.t,0,0,cS 0 f.iO,(bh l).length,decide (f.iO= [])⟩:Hd).cells 44:: .box b3 f.cells 48:: .box b [fv,i64 lev,zJ tb,i64 (l.length+1:Nat),i64 (bh l).length,hv,str rest,.bool tail] 175:: .sl fv 8 (kC fs):: .aA (DB tb):: .sl hv 12 (nc (cm 0 l))::L),?_,?_⟩
 ·clear o
  rintro _ _ H6 ⟨pk,rfl,GR,o⟩;have y5:=GR.2.2;refine aJ ?_;refine b7 ?_;rw [cR (by simp only at y5;omega) (by simp only at y5;omega)];refine ax ?_;refine o.aw (b:=b3) (f:=0+7) (w:=str f.iO) (by repeat(first|exact af8|apply af7)) rfl ?_;refine aJ ?_;refine b7 ?_;rw [cR (by omega) (by omega)];refine ax ?_;refine o.bF (b:=b4) (f:=0+7) (by repeat(first|exact af8|apply af7)) (agm rfl) rfl (by repeat(first|exact aV.here|apply aV.there)) fun H7 o _=>?_;refine⟨o.aw (b:=b3) (f:=0+7) (by repeat(first|exact af8|apply af7)) rfl rfl,?_⟩;refine ax ?_;refine o.bF (b:=b4) (f:=0+8) (by repeat(first|exact af8|apply af7)) (agm rfl) rfl (by repeat(first|exact aV.here|apply aV.there)) fun H8 o _=>?_;have o:ar H0 H8 (.box b4 (dw (f,pk) (bh l).length).cells 44:: .box b3 f.cells 48:: .box b [fv,i64 lev,zJ tb,i64 (l.length+1:Nat),i64 (bh l).length,hv,str rest,.bool tail] 175:: .sl fv 8 (kC fs):: .aA (DB tb):: .sl hv 12 (nc (cm 0 l))::L):=o;have g2:eP (l++ [(f,pk)]):=by
   refine⟨?_,fun x hx=>?_⟩
   ·rw [agU,hl,show [(f,pk)].map Prod.fst= [fs[l.length]] by rw [hf];rfl,←eN hk]
    exact gf.take _
   ·rcases agv.1 hx with hx|hx
    ·exact g.pk x hx
    ·obtain rfl:=agH.1 hx
     exact⟨y5,GR.1⟩
  have sm:N2 (dw (f,pk) (bh l).length):=g2.sm (by simp) (by omega);refine cJ (ax ?_);refine o.aw (b:=b) (f:=0+5) (w:=hv) (by repeat(first|exact af8|apply af7)) rfl ?_;refine o.bf (b:=b4) (by repeat(first|exact af8|apply af7)) rfl ?_;refine o.dj (sz:=12) (by decide) rfl rfl fun y H9 o=>?_;refine⟨o.aw (b:=b) (f:=0+5) (by repeat(first|exact af8|apply af7)) rfl rfl,?_⟩;refine o.append (n:=l.length) (m:=1) (by repeat(first|exact bw.here|apply bw.there)) rfl (o.sl (v:=y) (by repeat(first|exact af8|apply af7))) (by rw [nd,ia]) rfl (zO _) (by omega) fun sD Q7 o=>?_;refine cJ (ax ?_);refine o.bF (b:=b) (f:=0+5) (by repeat(first|exact af8|apply af7)) (agm rfl) ((o.sl (v:=sD) (by repeat(first|exact af8|apply af7))).one) (by repeat(first|exact aV.here|apply aV.there)) fun R9 o _=>?_;refine o.bf (b:=b4) (by repeat(first|exact af8|apply af7)) rfl ?_;refine o.bf (b:=b4) (by repeat(first|exact af8|apply af7)) rfl ?_;refine nQ sm fun Sg TU=>?_;have o:=o.more TU;refine⟨o.bf (b:=b4) (by repeat(first|exact af8|apply af7)) rfl rfl,?_⟩;have xn: (eM (dw (f,pk) (bh l).length)).length≤130:=by rw [rQ];show 30+f.nm.length≤130;have:=Mz.len;omega
  have Sd:=nY (dw (f,pk) (bh l).length);refine aP (by simp only at y5;omega) ?_;refine nR sm fun Re TV=>?_;have o:=o.more TV;refine aP (by rw [af9];simp only at y5;omega) ?_;have hE:eM (dw (f,pk) (bh l).length)++pk++dK (dw (f,pk) (bh l).length)=gV (f,pk):=by rw [agc];rfl
  rw [hE];have UO:= (g2.UQ (x:= (f,pk)) (by simp)).1;refine cJ (ax ?_);refine o.aw (b:=b) (f:=0+4) (w:=i64 (bh l).length) (by repeat(first|exact af8|apply af7)) rfl ?_;refine aJ ?_;rw [az,ba (by omega) (by omega)];refine cJ (ax ?_);refine o.bF (b:=b) (f:=0+4) (by repeat(first|exact af8|apply af7)) (agm rfl) rfl (by repeat(first|exact aV.here|apply aV.there)) fun TJ o _=>?_;refine h TJ pk sD GR ?_;have e1:XK fv lev tb (l++ [(f,pk)]) sD rest tail= [fv,i64 lev,zJ tb,i64 (l.length+1:Nat),.int .i64 (((bh l).length:Int)+ (gV (f,pk)).length),sD,str rest,.bool tail]:=by
   unfold XK;rw [kR,qy]
   simp
  have e2:nc (cm 0 (l++ [(f,pk)]))=nc (cm 0 l)++ (dw (f,pk) (bh l).length).cells:=by
   rw [nf,nc,mZ,cm,cm,qx,ags];rfl
  unfold Kg;rw [e1,e2];have o:ar H0 TJ (.sl y 12 (dw (f,pk) (bh l).length).cells:: .box b4 (dw (f,pk) (bh l).length).cells 44:: .box b3 f.cells 48:: .box b [fv,i64 lev,zJ tb,i64 (l.length+1:Nat),.int .i64 (((bh l).length:Int)+ (gV (f,pk)).length),sD,str rest,.bool tail] 175:: .sl fv 8 (kC fs):: .aA (DB tb):: .sl sD 12 (nc (cm 0 l)++ (dw (f,pk) (bh l).length).cells)::L):=o.eR (by repeat(first|exact bd.refl|exact bw.here|apply bd.cons|apply bw.there));exact o.Pc 3
 ·refine ax ?_
  refine o.aw (b:=b4) (f:=0+11) (w:= .bool (decide (f.iO= []))) (by repeat(first|exact af8|apply af7)) rfl ?_;refine gI ?_
  by_cases hd:f.iO= []
  ·rw [decide_eq_true hd,show (!true)=false from rfl,aj]
   refine⟨[],rfl,⟨fun _=>rfl,fun hn=>absurd hd hn,by simp⟩,?_⟩;rw [decide_eq_true hd] at o;rw [show cS 0 f.iO=0 by rw [hd];rfl];exact o
  ·rw [decide_eq_false hd,show (!false)=true from rfl,aD]
   refine ax ?_;refine o.aw (b:=b3) (f:=0+7) (w:=str f.iO) (by repeat(first|exact af8|apply af7)) rfl ?_;refine cJ (ax ?_);refine o.aw (b:=b) (f:=0+1) (w:=i64 lev) (by repeat(first|exact af8|apply af7)) rfl ?_;refine Dv (hT.ext o.ext) (hG.ext o.ext) tO (by omega) fun H6 out hR fY hlen vS=>?_;have o:=o.more vS;refine ag (vs:= [str out,.int .i64 0]) rfl ?_;refine ag (vs:= [str out,.int .i64 0]) rfl ?_;refine cJ (ax ?_);refine o.aw (b:=b) (f:=0+2) (w:=zJ tb) (by repeat(first|exact af8|apply af7)) rfl ?_;refine ax ?_;refine o.aw (b:=b3) (f:=0+7) (w:=str f.iO) (by repeat(first|exact af8|apply af7)) rfl ?_;refine qw (by omega) (o.aA (T:=DB tb) (by repeat(first|exact af8|apply af7))) ?_;refine ax ?_;refine o.bF (b:=b4) (f:=0+9) (by repeat(first|exact af8|apply af7)) (agm rfl) rfl (by repeat(first|exact aV.here|apply aV.there)) fun H7 o _=>?_;refine⟨out,rfl,⟨fun h=>absurd h hd,fun _=> ⟨hR,fY⟩,by show out.length≤6000;omega⟩,?_⟩;rw [decide_eq_false hd] at o;exact o
theorem I9 {b:Nat} {fv:Value} {fs:List Fl} {lev tb:Nat} {l:List Fp} {hv:Value} {rest:List UInt8} {tail:Bool} (hT:Reads H0 ⟨5,0,none⟩ eT) (hG:Reads H0 ⟨0,0,none⟩ ff) (tO:lev≤9) (gf:jt fs) (hl:l.map Prod.fst=fs.take l.length) (hk:l.length<fs.length) (g:eP l) (o:ar H0 H (Kg b fv fs lev tb l hv rest tail L))
  (h: ∀H' pk sD,Kf lev (fs[l.length],pk)→ar H0 H' (Kg b fv fs lev tb (l++ [(fs[l.length],pk)]) sD (gV (fs[l.length],pk)) tail L)→R (.bool true) H'):ab 149 #[at_ b 0] H R:=by
 have TY:=gf.len;refine iy.vc _ _ _ ?_;refine cJ (ax ?_);refine o.aw (b:=b) (f:=0+3) (w:=i64 l.length) (by repeat(first|exact af8|apply af7)) rfl ?_;refine cJ (ax ?_);refine o.aw (b:=b) (f:=0+0) (w:=fv) (by repeat(first|exact af8|apply af7)) rfl ?_;refine(o.sl (v:=fv) (by repeat(first|exact af8|apply af7))).len (jc fs) (by decide) ?_;rw [aN,decide_eq_true (by omega),aD];refine I8 hT hG tO gf hl hk g o fun H1 pk sD hp o=>?_;refine cJ (ax ?_);refine o.bF (b:=b) (f:=0+6) (by repeat(first|exact af8|apply af7)) (agm rfl) rfl (by repeat(first|exact aV.here|apply aV.there)) fun H2 o _=>?_;exact h H2 pk sD hp o
theorem I_ {b:Nat} {fv:Value} {fs:List Fl} {lev tb:Nat} {l:List Fp} {hv:Value} {rest:List UInt8} (gf:jt fs) (hk:l.length=fs.length) (g:eP l) (o:ar H0 H (Kg b fv fs lev tb l hv rest false L))
  (h: ∀H',ar H0 H' (Kg b fv fs lev tb l hv (q_ l) true L)→R (.bool true) H'):ab 149 #[at_ b 0] H R:=by
 have TY:=gf.len;refine iy.vc _ _ _ ?_;refine cJ (ax ?_);refine o.aw (b:=b) (f:=0+3) (w:=i64 l.length) (by repeat(first|exact af8|apply af7)) rfl ?_;refine cJ (ax ?_);refine o.aw (b:=b) (f:=0+0) (w:=fv) (by repeat(first|exact af8|apply af7)) rfl ?_;refine(o.sl (v:=fv) (by repeat(first|exact af8|apply af7))).len (jc fs) (by decide) ?_;rw [aN,decide_eq_false (by omega),aj];refine cJ (ax ?_);refine o.aw (b:=b) (f:=0+7) (w:= .bool false) (by repeat(first|exact af8|apply af7)) rfl ?_;refine gI ?_;rw [show (!false)=true from rfl,aD];refine cJ (ax ?_);refine o.bF (b:=b) (f:=0+7) (by repeat(first|exact af8|apply af7)) (agm rfl) rfl (by repeat(first|exact aV.here|apply aV.there)) fun H1 o _=>?_;refine cJ (ax ?_);refine o.aw (b:=b) (f:=0+5) (w:=hv) (by repeat(first|exact af8|apply af7)) rfl ?_;refine Mc g (o.sl (by repeat(first|exact af8|apply af7))) fun H2 kO=>?_;have o:=o.more kO;refine cJ (ax ?_);refine o.bF (b:=b) (f:=0+6) (by repeat(first|exact af8|apply af7)) (agm rfl) rfl (by repeat(first|exact aV.here|apply aV.there)) fun H3 o _=>?_;exact h H3 o
theorem Ja {b:Nat} {fv:Value} {fs:List Fl} {lev tb:Nat} {l:List Fp} {hv:Value} {rest:List UInt8} (gf:jt fs) (hk:l.length=fs.length) (o:ar H0 H (Kg b fv fs lev tb l hv rest true L))
  (h:R (.bool false) H):ab 149 #[at_ b 0] H R:=by
 have TY:=gf.len;refine iy.vc _ _ _ ?_;refine cJ (ax ?_);refine o.aw (b:=b) (f:=0+3) (w:=i64 l.length) (by repeat(first|exact af8|apply af7)) rfl ?_;refine cJ (ax ?_);refine o.aw (b:=b) (f:=0+0) (w:=fv) (by repeat(first|exact af8|apply af7)) rfl ?_;refine(o.sl (v:=fv) (by repeat(first|exact af8|apply af7))).len (jc fs) (by decide) ?_;rw [aN,decide_eq_false (by omega),aj];refine cJ (ax ?_);refine o.aw (b:=b) (f:=0+7) (w:= .bool true) (by repeat(first|exact af8|apply af7)) rfl ?_;refine gI ?_;rw [show (!true)=false from rfl,aj];exact h
end
section
variable {H H0 H' :ai} {R:Value→ai→Prop} {L:List It} {s:List UInt8}
def vd (fs:List Fl) (lev:Nat) (X:List UInt8):Prop:= ∃l,eP l∧(∀x∈l,Kf lev x)∧l.map Prod.fst=fs∧X=kD l
theorem Kh {lev:Nat}: ∀ {l m:List Fp},(∀x∈l,Kf lev x)→(∀x∈m,Kf lev x)→l.map Prod.fst=m.map Prod.fst→l=m
 | [],[],_,_,_=>rfl
 | [],_::_,_,_,h=>by simp at h
 |_::_,[],_,_,h=>by simp at h
 |x::l,y::m,hl,hm,h=>by
  simp only [aha,ahE] at h;rw [(hl x af8).one (hm y af8) h.1,Kh (fun z hz=>hl z (af7 _ hz)) (fun z hz=>hm z (af7 _ hz)) h.2]
theorem vd.one {fs:List Fl} {lev:Nat} {X Y:List UInt8} (h:vd fs lev X) (k:vd fs lev Y):X=Y:=by
 obtain⟨l,_,h2,h3,rfl⟩:=h;obtain⟨m,_,k2,k3,rfl⟩:=k;rw [Kh h2 k2 (h3.trans k3.symm)]
def nZ (H0 H:ai) (b:Nat) (fs:List Fl) (lev:Nat) (gone:List UInt8) (n:Nat) (L:List It):Prop:=
 ∃fv tb l hv rest tail,eP l∧(∀x∈l,Kf lev x)∧l.map Prod.fst=fs.take l.length∧l.length≤fs.length∧(tail=true→l.length=fs.length)∧
  gone++rest= (if tail=true then kD l else bh l)∧n= (5 - l.length)*7000+ (if tail=true then 0 else 1000)+rest.length∧ar H0 H (Kg b fv fs lev tb l hv rest tail L)
theorem nZ.eX {b:Nat} {fs:List Fl} {lev n:Nat} {gone:List UInt8} {L' :List It} (st:nZ H0 H b fs lev gone n L) (h: ∀fv tb l hv rest tail,ar H0 H (Kg b fv fs lev tb l hv rest tail L)→ar H0 H' (Kg b fv fs lev tb l hv rest tail L')):nZ H0 H' b fs lev gone n L' :=by
 obtain⟨fv,tb,l,hv,rest,tail,h1,h2,h3,h4,h5,h6,h7,o⟩:=st;exact⟨fv,tb,l,hv,rest,tail,h1,h2,h3,h4,h5,h6,h7,h _ _ _ _ _ _ o⟩
theorem Rp (x:Fp):gV x≠ []:=fun h=>by
 have: (gV x).length=0:=by rw [h];rfl
 unfold gV at this;rw [af9,rQ] at this;omega
theorem Pf (l:List Fp):q_ l≠ []:=fun h=>by
 have: (q_ l).length=0:=by rw [h];rfl
 unfold q_ at this;rw [af9,mX] at this;omega
theorem zR {l:List Fp} (g:eP l): (q_ l).length≤752:=by
 have h1:=tN g l.length (aga _);have h2:=g.len;rw [agr] at h1;unfold q_;rw [af9,mX];omega
theorem ve {b:Nat} {fv:Value} {fs:List Fl} {lev tb:Nat} {l:List Fp} {hv:Value} {rest gone:List UInt8} {tail:Bool} {n:Nat} (hp:eP l) (hk: ∀x∈l,Kf lev x) (hl:l.map Prod.fst=fs.take l.length) (hle:l.length≤fs.length) (ht:tail=true→l.length=fs.length)
  (hg:gone++rest= (if tail=true then kD l else bh l)) (hn:n= (5 - l.length)*7000+ (if tail=true then 0 else 1000)+rest.length) (o:ar H0 H (Kg b fv fs lev tb l hv rest tail L)) (hr:rest≠ [])
  (h1: ∀H' Pg n',n' <n→nZ H0 H' b fs lev (gone++Pg) n' L→R (.tuple #[str Pg,.bool true]) H'):
  aB (at_ b 0) fun Yw=>aa 6 Yw fun Yx=>ak H Yx fun x23=>aX x23 fun VB=>jU VB (.int .i64 256) fun UB=>aB (at_ b 0) fun PV=>aa 6 PV fun V7=>ak H V7 fun x29=>a7 x29 none (some UB) fun Zg=>
   aB (at_ b 0) fun x34=>aa 6 x34 fun x35=>ak H x35 fun x36=>a7 x36 (some UB) none fun x38=>aB (at_ b 0) fun x39=>aa 6 x39 fun x40=>aF H x40 x38 fun _ Zf=>R (.tuple #[Zg,(.bool true)]) Zf:=by
 have Xh:0<rest.length:=List.length_pos_iff.2 hr;refine cJ (ax ?_);refine o.aw (b:=b) (f:=0+6) (w:=str rest) (by repeat(first|exact af8|apply af7)) rfl ?_;refine aJ ?_;have hm:jU (.int .i64 (rest.length:Int)) (.int .i64 256)=fun K:Value→Prop=>K (.int .i64 ((min rest.length 256:Nat):Int)):=by
  funext K
  simp only [iV]
  congr 2
  omega
 rw [hm];refine cJ (ax ?_);refine o.aw (b:=b) (f:=0+6) (w:=str rest) (by repeat(first|exact af8|apply af7)) rfl ?_;refine bg (lo:=0) (hi:=min rest.length 256) (.inr ⟨rfl,rfl⟩) (.inl rfl) (by omega) (by omega) ?_;refine cJ (ax ?_);refine o.aw (b:=b) (f:=0+6) (w:=str rest) (by repeat(first|exact af8|apply af7)) rfl ?_;refine bg (lo:=min rest.length 256) (hi:=rest.length) (.inl rfl) (.inr ⟨rfl,rfl⟩) (by omega) (by omega) ?_;refine cJ (ax ?_);refine o.bF (b:=b) (f:=0+6) (by repeat(first|exact af8|apply af7)) (agm rfl) rfl (by repeat(first|exact aV.here|apply aV.there)) fun H1 o _=>?_;have e2: (rest.drop (min rest.length 256)).take (rest.length - min rest.length 256)=rest.drop (min rest.length 256):=agx (by rw [agl];omega);rw [agS,ahb];rw [e2] at o;refine h1 H1 _ _ ?_ ⟨fv,tb,l,hv,rest.drop (min rest.length 256),tail,hp,hk,hl,hle,ht,?_,rfl,o⟩
 ·rw [agl,hn];omega
 ·rw [agc,agE];exact hg
theorem Md {b:Nat} {fs:List Fl} {lev n:Nat} {gone:List UInt8} (hT:Reads H0 ⟨5,0,none⟩ eT) (hG:Reads H0 ⟨0,0,none⟩ ff) (tO:lev≤9) (gf:jt fs) (st:nZ H0 H b fs lev gone n L)
  (h1: ∀H' Pg n',n' <n→nZ H0 H' b fs lev (gone++Pg) n' L→R (.tuple #[str Pg,.bool true]) H')
  (h0: ∀H',vd fs lev gone→nZ H0 H' b fs lev gone n L→R (.tuple #[str [],.bool false]) H'):ab 104 #[at_ b 0] H R:=by
 obtain⟨fv,tb,l,hv,rest,tail,hp,hk,hl,hle,ht,hg,hn,o⟩:=st;have hf5:=gf.len;refine rY.vc _ _ _ ?_;rw [show cu 3 (at_ b 0) (.pointer none)=fun K:Value→Prop=>K (.bool false) by rfl];refine aO ?_;refine cJ (ax ?_);refine o.aw (b:=b) (f:=0+6) (w:=str rest) (by repeat(first|exact af8|apply af7)) rfl ?_;refine iW ?_
 by_cases hr:rest= []
 ·subst hr
  rw [decide_eq_true rfl];refine bB ?_;rw [agy] at hg
  by_cases Sp:l.length<fs.length
  ·have htf:tail=false:=by cases tail;rfl;exact absurd (ht rfl) (by omega)
   subst htf;refine I9 hT hG tO gf hl Sp hp o fun H1 pk sD GR o=>?_;refine gI ?_;intro _ _;rw [show (!true)=false from rfl,aj];have Aq:eP (l++ [(fs[l.length],pk)]):=by
    refine⟨?_,fun x hx=>?_⟩
    ·rw [agU,hl,show [(fs[l.length],pk)].map Prod.fst= [fs[l.length]] from rfl,←eN Sp]
     exact gf.take _
    ·rcases agv.1 hx with hx|hx
     ·exact hp.pk x hx
     ·obtain rfl:=agH.1 hx
      exact⟨GR.2.2,GR.1⟩
   have hE:= (Aq.UQ (x:= (fs[l.length],pk)) (by simp)).1;refine ve (gone:=gone) (n:=_) Aq (fun x hx=>?_) ?_ ?_ (fun h=>by cases h) ?_ rfl o (Rp _) fun H2 Pg n' Vk st=>h1 H2 Pg n' (ahj Vk ?_) st
   ·rcases agv.1 hx with hx|hx
    ·exact hk x hx
    ·obtain rfl:=agH.1 hx;exact GR
   ·rw [agU,hl,af9,show [(fs[l.length],pk)].length=1 from rfl,eN Sp];rfl
   ·rw [af9,show [(fs[l.length],pk)].length=1 from rfl];omega
   ·rw [hg]
    show bh l++gV _=bh (l++_);rw [kR,qy]
   ·rw [hn,af9,show [(fs[l.length],pk)].length=1 from rfl]
    simp only [agt,ahe,if_false];omega
  ·have Sp:l.length=fs.length:=by omega
   cases tail with
   |true=>
    refine Ja gf Sp o ?_;refine gI ?_;intro _ _;rw [show (!false)=true from rfl,aD];refine h0 H ⟨l,hp,hk,by rw [hl,Sp,agr],hg⟩ ⟨fv,tb,l,hv,[],true,hp,hk,hl,hle,ht,by rw [agy];exact hg,hn,o⟩
   |false=>
    refine I_ gf Sp hp o fun H1 o=>?_;refine gI ?_;intro _ _;rw [show (!true)=false from rfl,aj];have OH:=zR hp;refine ve (gone:=gone) (n:=_) hp hk hl hle (fun _=>Sp) ?_ rfl o (Pf _) fun H2 Pg n' Vk st=>h1 H2 Pg n' (ahj Vk ?_) st
    ·rw [hg];rfl
    ·rw [hn]
     simp only [agt,ahe,if_false,if_true];omega
 ·rw [decide_eq_false hr]
  rw [cW];intro _ _;rw [aj];exact ve hp hk hl hle ht hg hn o hr h1
theorem Ph {v:Value} {fs:List Fl} {lev:Nat} (hs:Sl H v 8 (kC fs)) (gf:jt fs) (tO:lev≤9) (h: ∀H' b,nZ H H' b fs lev [] 36000 []→R (.tuple #[at_ b 0,.int .i64 0]) H'):ab 48 #[v,.int .i64 (lev:Int)] H R:=by
 have hf5:=gf.len;refine FW.vc _ _ _ _ ?_;refine Gj hs gf tO fun H1 kr=>?_;refine ag (vs:= [.int .i64 0,.int .i64 0]) rfl ?_;refine ag (vs:= [.int .i64 0,.int .i64 0]) rfl ?_;refine fH ?_;rw [aj];have o:=Gi 8 (by decide) ((ar.start (H:=H)).more kr);refine o.append (n:=0) (m:=fs.length) (by repeat(first|exact bw.here|apply bw.there)) rfl (hs.ext kr) rfl (jc fs) (Mb Dz) (by omega) fun fv H2 o=>?_;refine nX fun H3 tb ht q7 hb3=>?_;have o:=o.add q7 (i:= .aA (DB tb)) ht (by intro k hk;obtain rfl:k=tb:=hk;exact hb3);refine aM (o.sl (v:=fv) (by repeat(first|exact af8|apply af7))).one (agm rfl) ?_;refine aM rfl (agm rfl) ?_;refine aM rfl (agm rfl) ?_;rw [bz];refine o.box fun b H4 o _=>?_;have o:=Gi 12 (by decide) o;refine h H4 b ⟨fv,tb,[],.slice none 0 0,[],false,⟨gf.take 0,(fun x hx=>nomatch hx)⟩,(fun x hx=>nomatch hx),rfl,agK _,(fun h=>nomatch h),rfl,rfl,o.eR (by repeat(first|exact bd.refl|exact bw.here|apply bd.cons|apply bw.there))⟩
theorem Me {b:Nat} (h: ∀H' mb,ar H H' [.box mb [at_ b 0] 111]→R (.func (.func 103) #[] #[at_ mb 0]) H'):ab 49 #[at_ b 0] H R:=by
 refine tG.vc _ _ _ ?_;refine(ar.start (H:=H)).box fun mb H1 o _=>?_;exact h H1 mb o
end
section
variable {H H0 H' :ai} {R:Value→ai→Prop} {L:List It} {s:List UInt8}
structure Ev where
 k:Nat
 h:Hd
 x:List UInt8
def Ev.cells (e:Ev):List Value:=i64 e.k:: (e.h.cells++ [str e.x])
structure Pd where
 tb:Nat
 rest:List UInt8
 st:Nat
 at' :Nat
 en:Nat
 h:Hd
 Ti:Bool
 d:Value
 fS:Nat
 hv:Value
 nv:Value
 tail:List UInt8
 ov:Value
def Pd.cells (p:Pd):List Value:= [zJ p.tb,str p.rest,i64 p.st,i64 p.at',i64 p.en,str p.h.nm,.int .i64 p.h.t.y,.int .i64 p.h.t.m,.int .i64 p.h.t.d,.int .i64 p.h.t.h,.int .i64 p.h.t.n,.int .i64 p.h.t.s,.int .u64 (p.h.p:Int),.int .u64 (p.h.z:Int),.int .u32 (p.h.u:Int),.int .u64 (p.h.a:Int),.bool p.h.k,.bool p.Ti,p.d,i64 p.fS,p.hv,p.nv,str p.tail,p.ov,.int .i64 0]
end
end Go.Proofs.YtpcgccdmmoggmaaGreatDoor
namespace Go.Vc
open Go
section
theorem Pj [Go.Vc.Mode] {P:Program} {F:Fence} {n:Nat} (hd:F.depth=none) (hl:F.plain=Fence.wide) {K:Value→ai→Prop} {o:Oper} {a:Act} {w:World} {N:Act→World→Prop} {Q:Exit→Act→World→Prop} (hs: ∀c,o.op≠ .defer c) (h:after P K w ((execOp a.eval o).run P w)) (hF: ∀v w',b0 w w' →K v w'.heap→N (a.put o.dst v) w'):
  o.wpIn F n P a w N Q:=by
 have MG: ∀f,F.fn f:=fun f=>by
  have:F.plain.fn f:=by rw [hl];trivial
  exact this
 refine⟨fun f _=>MG f,?_⟩;rw [Oper.semAt_eq _ _ _ hs];generalize (execOp a.eval o).run P w=r at h
 cases r with
 |ok x w' =>
  cases x<;>simp only [after] at h
  case value v=>exact hF v w' h.1 h.2
  case skip=>exact hF undef w' h.1 h.2
  case enter f args=>
   refine⟨fun h=> (by rw [hd] at h;cases h),?_⟩;have hc:CallsIn Fence.wide (n - 1) P f args w' (fun| .returned v,Au =>N (a.put o.dst v) Au | .panicked chain,Au =>Q (.panic chain) a Au | .outgrown,_=>LetsOut Q):=by
    refine callsIn_wide.2 ((h.2 w' rfl).mono fun e Au he=>?_);obtain⟨v,rfl,hr,hk⟩:=he;exact hF v Au (h.1.trans hr) hk
   rw [←hl] at hc;exact hc
 |halt x w' =>simp only [after] at h
theorem Gp [Go.Vc.Mode] {P:Program} {F:Fence} {n:Nat} {ops:Array Oper} {o:Oper} {rest:List Oper} {Q:Exit→Act→World→Prop} {a:Act} {w:World} {C:List Nat} (hC:gm P C) (hd:F.depth=none) (hl:F.plain=Fence.wide) (hs: ∀c,o.op≠ .defer c) (hg:o.guard=none) {K:Value→ai→Prop} {r:Prop}
  (e:P7 P (bn a) C o w.heap K=r) (h:r) (hF: ∀v w',b0 w w' →K v w'.heap→wpListIn F n P ops Q rest (a.put o.dst v) w'):wpListIn F n P ops Q (o::rest) a w:=by
 refine wpListIn_plain hg fun N hN=>?_;have hv:=e.mpr h;refine Pj hd hl hs ?_ fun v w' hr hk=>hN _ _ (hF v w' hr hk);rw [ky];unfold P7 at hv;obtain⟨dst,op,ty,pos,af,g⟩:=o
 split at hv
 ·obtain⟨v,fY,hk⟩:=tY (dst:=dst) (ty:=ty) (pos:=pos) (af:=af) (g:=g) hv
  rw [fY w];exact⟨b0.refl w,hk⟩
 ·obtain⟨v,fY,hk⟩:=qd (dst:=dst) (ty:=ty) (pos:=pos) (af:=af) (g:=g) hv
  rw [fY w rfl];exact⟨b0.refl w,hk⟩
 ·exact ua hC hv w rfl
end
end Go.Vc
namespace Go.Proofs.YtpcgccdmmoggmaaGreatDoor
open Go Go.Vc Go.Proofs
section
variable {H H0 H' :ai} {R:Value→ai→Prop} {L:List It} {s:List UInt8}
def ng (r:Nat) (ob:Obj):jl where
 cN k:=k=r
 holds H:=H[r]? =some ob
 frame:=fun h hf=> (hf r rfl).trans h
 lt:=fun h hf=>by obtain rfl:=hf;exact bq h
def Pm (H:ai) (b:Nat):Nat:=match H[b]? with
 |some (.cells cs _ _)=>match (cs[3]? :Option Value),(cs[6]? :Option Value),(cs[7]? :Option Value) with
  |some (.int _ k),some (.string r),some (.bool t)=> (5 - k.toNat)*7000+ (if t=true then 0 else 1000)+r.size
  |_,_,_=>0
 |_=>0
theorem nZ.nN {b:Nat} {fs:List Fl} {lev n:Nat} {gone:List UInt8} (st:nZ H0 H b fs lev gone n L):Pm H b=n:=by
 obtain⟨fv,tb,l,hv,rest,tail,h1,h2,h3,h4,h5,h6,h7,o⟩:=st;have h:=o.fZ (b:=b) (by repeat(first|exact af8|apply af7));unfold Pm;rw [h,h7];simp only [XK]
 rfl
abbrev AX (r0:It) (d mb b ob:Nat) (fK:Value) (bE:List (List UInt8)):List It:= [r0,.aA (ng d (.deferred (some []))),.box mb [at_ b 0] 111,.box ob [fK] 60,.sl fK 1 (cH bE)]
def Pn (H0 H:ai) (b:Nat) (fs:List Fl) (lev:Nat) (gone:List UInt8) (n:Nat) (L:List It) (x:List UInt8) (ok:Bool):Prop:=
 (ok=true∧∃n',n' <n∧nZ H0 H b fs lev (gone++x) n' L)∨(ok=false∧vd fs lev gone∧nZ H0 H b fs lev gone n L)
abbrev zS (l d:Nat) (rec:Loop) (mb b ob:Nat) (fK:Value) (bE:List (List UInt8)):List It:=AX (.aA (ng l (.loop rec))) d mb b ob fK bE
theorem nZ.rec {b l d mb ob:Nat} {rec:Loop} {fK:Value} {bE:List (List UInt8)} {fs:List Fl} {lev n:Nat} {gone:List UInt8} (st:nZ H0 H b fs lev gone n (zS l d rec mb b ob fK bE)):H[l]? =some (.loop rec):=by
 obtain⟨fv,tb,l,hv,rest,tail,h1,h2,h3,h4,h5,h6,h7,o⟩:=st;exact o.aA (T:=ng _ _) (by repeat(first|exact af8|apply af7))
theorem nZ.out {b d mb ob:Nat} {i0:It} {v:Value} {bE:List (List UInt8)} {fs:List Fl} {lev n:Nat} {gone:List UInt8} {K:Value→Prop} (st:nZ H0 H b fs lev gone n (AX i0 d mb b ob v bE)) (hk:K v):ak H (at_ ob 0) K:=by
 obtain⟨fv,tb,l,hv,rest,tail,h1,h2,h3,h4,h5,h6,h7,o⟩:=st;exact o.aw (b:=ob) (f:=0) (by repeat(first|exact af8|apply af7)) rfl hk
theorem nZ.set {b l d mb ob:Nat} {o0 o1:Obj} {fK:Value} {bE:List (List UInt8)} {fs:List Fl} {lev n:Nat} {gone:List UInt8} (st:nZ H0 H b fs lev gone n (AX (.aA (ng l o0)) d mb b ob fK bE)):nZ H0 (H.setIfInBounds l o1) b fs lev gone n (AX (.aA (ng l o1)) d mb b ob fK bE):=
 st.eX fun fv tb _ hv rest tail o=>o.eX (i:= .aA (ng l o0)) (i' := .aA (ng l o1)) (by repeat(first|exact aV.here|apply aV.there)) (by simp) (fun k hk hf=>cD (fun e=>hf e.symm)) (bN (bq (o.aA (T:=ng l o0) (by repeat(first|exact af8|apply af7))))) (fun k hk=> .inl hk)
theorem nZ.TZ {b:Nat} {T:jl} {fs:List Fl} {lev n:Nat} {gone:List UInt8} (st:nZ H0 H b fs lev gone n (.aA T::L)):T.holds H:=by
 obtain⟨fv,tb,l,hv,rest,tail,h1,h2,h3,h4,h5,h6,h7,o⟩:=st;exact o.aA (by repeat(first|exact af8|apply af7))
theorem Po {b l d mb ob lev:Nat} {fs:List Fl} {rec:Loop} {W:World} {n0:Nat} (hT:Reads H0 ⟨5,0,none⟩ eT) (hG:Reads H0 ⟨0,0,none⟩ ff) (tO:lev≤9) (gf:jt fs) (hn:n0≤36000) (st:nZ H0 W.heap b fs lev [] n0 (zS l d rec mb b ob (.slice none 0 0) []))
  (Y: ∀ (W' :World) (gone:List UInt8) bE fK s n,bE.length≤36000→nZ H0 W'.heap b fs lev gone n (zS l d rec mb b ob fK bE)→YieldAt Fence.wide 0 Tryz.prog l #[str s] W' fun e PX =>e= .returned (.bool true)∧Go.Vc.b0 W' PX ∧∃Wu,nZ H0 PX.heap b fs lev gone n (zS l d rec mb b ob Wu (bE++ [s]))):
  CallsIn Fence.wide 0 Tryz.prog 103 #[.func (.yield l) #[] #[],at_ mb 0] W fun e W' => ∃v,e= .returned v∧Go.Vc.b0 W W' ∧∃bE fK n,bE.length≤36000∧vd fs lev bE.flatten∧nZ H0 W'.heap b fs lev bE.flatten n (zS l d rec mb b ob fK bE):=by
 have hN: ∀ (W' :World) gone n fK bE,nZ H0 W'.heap b fs lev gone n (zS l d rec mb b ob fK bE)→CallsIn Fence.wide 0 Tryz.prog 104 #[at_ b 0] W' fun e PX => ∃ (x:List UInt8) (ok:Bool),e= .returned (.tuple #[.string ⟨x.toArray⟩,.bool ok])∧Go.Vc.b0 W' PX ∧Pn H0 PX.heap b fs lev gone n (zS l d rec mb b ob fK bE) x ok:=fun W' gone n fK bE st=>
  (callsIn_wide.2 (Md (R:=fun v H' => ∃ (x:List UInt8) (ok:Bool),v= .tuple #[.string ⟨x.toArray⟩,.bool ok]∧Pn H0 H' b fs lev gone n (zS l d rec mb b ob fK bE) x ok) hT hG tO gf st (fun H' Pg n' hn st=> ⟨Pg,true,rfl,.inl ⟨rfl,n',hn,st⟩⟩) (fun H' ha st=> ⟨[],false,rfl,.inr ⟨rfl,ha,st⟩⟩) W' rfl)).mono fun e w' ⟨v,h1,h2,x,ok,h3,h4⟩=> ⟨x,ok,by rw [h1,h3],h2,h4⟩
 have cM: ∀ (W' :World) gone n fK bE,nZ H0 W'.heap b fs lev gone n (zS l d rec mb b ob fK bE)→W'.cell? ⟨mb,0,none⟩=some (at_ b 0):=fun W' gone n fK bE st=>by
  obtain⟨fv,tb,l,hv,rest,tail,h1,h2,h3,h4,h5,h6,h7,o⟩:=st;exact eZ (o.fZ (b:=mb) (cs:= [at_ b 0]) (by repeat(first|exact af8|apply af7)))
 have c0:=cM _ _ _ _ _ st;refine callsIn_of_wp Tryz.func103 rfl trivial ?_ rfl;simp only [Tryz.ntmps103,ag1,agi,agt,Nat.reduceAdd,Nat.reduceSub,aiR,aiS,aiT,aiU,agn,ahd]
 gi_wp2_with (first| (refine⟨trivial,rfl,?_⟩;gi_at_call 104;refine(hN _ _ _ _ _ st).mono ?_;rintro e W1 ⟨x1,ok1,rfl,wz,rp⟩))
 gi_loopw [3,4] (fun s ok w=>Go.Vc.b0 W w∧∃bE fK x n ZH,s= .string ⟨List.toArray x⟩∧ok= .bool ZH ∧bE.length+n≤36000∧Pn H0 w.heap b fs lev bE.flatten n (zS l d rec mb b ob fK bE) x ZH) (fun s ok w=>2*Pm w.heap b+match ok with| .bool true=>1|_=>0)
 ·exact⟨wz,[],_,x1,n0,ok1,rfl,rfl,by simpa using hn,rp⟩
 ·obtain⟨hrW,bE,fK,x,n,ZH,rfl,rfl,hlen,hN2⟩:=hrel
  rcases hN2 with ⟨rfl,n',Vk,T0⟩ | ⟨rfl,ha,T0⟩
  ·obtain⟨fn1,tm1,as1,bo1,Xn,R5⟩:=Y wr _ bE fK x n' (by omega) T0
   clear Y
   gi_wp2_with (first| (refine⟨rfl,?_⟩;refine R5.mono ?_;clear R5 Xn;rintro e W3 ⟨rfl,Us,Wv,st3⟩;have c3:=cM _ _ _ _ _ st3) | (refine⟨trivial,rfl,?_⟩;gi_at_call 104;refine(hN _ _ _ _ _ st3).mono ?_;rintro e W4 ⟨x4,ok4,rfl,Tq,ZI⟩))
   have ME:bE.flatten++x= (bE++ [x]).flatten:=by simp
   rw [ME] at ZI;refine⟨⟨((hrW.trans Us).trans Tq),bE++ [x],Wv,x4,n',ok4,rfl,rfl,by rw [af9];show _+1+n' ≤_;omega,ZI⟩,?_⟩;rw [T0.nN];rcases ZI with ⟨rfl,n4,hn4,UR⟩ | ⟨rfl,_,UR⟩
   ·rw [UR.nN];show 2*n4+1<2*n' +1;omega
   ·rw [UR.nN];show 2*n' +0<2*n' +1;omega
  ·gi_wp2
   go_end0
   exact⟨_,rfl,hrW,bE,fK,n,by omega,ha,T0⟩
theorem Jb {P:Program} {l:Nat} {fn:FuncId} {tmps:Array Value} {ps:Array Tmp} {assign body:Code} {d:Nat} {W:World} (h1:W.heap[l]? =some (.loop (j8 fn tmps ps assign body d .busy none))):
  (Instr.endRound l none).run P W= .ok (.bool true) (W.putObj l (.loop (j8 fn tmps ps assign body d .ready none))):=run_endRound (P:=P) none h1
attribute [local go_sem] Oper.semAt_some
theorem BX {v:Value} {fs:List Fl} {lev:Nat} (hT:Reads H ⟨5,0,none⟩ eT) (hG:Reads H ⟨0,0,none⟩ ff) (hs:Sl H v 8 (kC fs)) (gf:jt fs) (tO:lev≤9)
  (h: ∀H' sv bE,vd fs lev bE.flatten→bE.length≤36000→ar H H' [.sl sv 1 (cH bE)]→R (.tuple #[sv,.int .i64 0]) H'):ab 18 #[v,.int .i64 (lev:Int)] H R:=by
 intro w hw;subst hw;have hN:CallsIn Fence.wide 0 Tryz.prog 48 #[v,.int .i64 (lev:Int)] w fun e W' => ∃b,e= .returned (.tuple #[at_ b 0,.int .i64 0])∧Go.Vc.b0 w W' ∧nZ w.heap W'.heap b fs lev [] 36000 []:=
  (callsIn_wide.2 (Ph (R:=fun v H' => ∃b,v= .tuple #[at_ b 0,.int .i64 0]∧nZ w.heap H' b fs lev [] 36000 []) hs gf tO (fun H' b st=> ⟨b,rfl,st⟩) w rfl)).mono fun e w' ⟨v,h1,h2,b,h3,h4⟩=> ⟨b,by rw [h1,h3],h2,h4⟩
 have hA: ∀W:World,∀b,CallsIn Fence.wide 0 Tryz.prog 49 #[at_ b 0] W fun e W' => ∃mb,e= .returned (.func (.func 103) #[] #[at_ mb 0])∧Go.Vc.b0 W W' ∧ar W.heap W'.heap [.box mb [at_ b 0] 111]:=fun W b=>
  (callsIn_wide.2 (Me (R:=fun v H' => ∃mb,v= .func (.func 103) #[] #[at_ mb 0]∧ar W.heap H' [.box mb [at_ b 0] 111]) (fun H' mb o=> ⟨mb,rfl,o⟩) W rfl)).mono fun e w' ⟨v,h1,h2,mb,h3,h4⟩=> ⟨mb,by rw [h1,h3],h2,h4⟩
 refine(callsIn_wide (n:=0)).1 ?_;refine callsIn_of_wp_marks Tryz.func18 rfl trivial ?_ rfl;simp only [Tryz.ntmps18,ag1,agi,agt,Nat.reduceAdd,Nat.reduceSub,aiR,aiS,aiT,aiU,agn,ahd]
 gi_wp2_with (first| (refine⟨trivial,rfl,?_⟩;gi_at_call 48;refine hN.mono ?_;clear hN;rintro e W1 ⟨b,rfl,wz,st1⟩) | (refine⟨trivial,rfl,?_⟩;gi_at_call 49;refine(hA _ _).mono ?_;clear hA;rintro e W2 ⟨mb,rfl,Cw,o2⟩))
 obtain⟨ob,SN⟩: ∃ob,ob=W1.heap.size:= ⟨_,rfl⟩;rw [←SN];have Ww:nZ w.heap (W1.alloc (.cells #[.slice none 0 0] 60)).heap b fs lev [] 36000 [.box ob [.slice none 0 0] 60]:=st1.eX fun fv tb l hv rest tail o=>
  (o.add (Ext.refl _).push (i:= .box ob [.slice none 0 0] 60) (by rw [SN];exact World.alloc_heap_new _ _) (by intro k hk;obtain rfl:ob=k:=hk;exact Nat.le_of_eq SN.symm)).eR (by repeat(first|exact bd.refl|exact bw.here|apply bd.cons|apply bw.there))
 clear SN;have T0:nZ w.heap W2.heap b fs lev [] 36000 [.box mb [at_ b 0] 111,.box ob [.slice none 0 0] 60]:=Ww.eX fun fv tb l hv rest tail o=> (o.call o2).eR (by repeat(first|exact bd.refl|exact bw.here|apply bd.cons|apply bw.there));refine yT (gf:=103) (lb:= #[at_ mb 0]) rfl (enters_of Tryz.func103 (by kernel_rfl) rfl) ?_;intro fn W4 YC hL hD oQ Tq;have c4:ar W2.heap W4.heap [.aA (ng (W2.heap.size+1) _),.aA (ng W2.heap.size (.deferred (some [])))]:= ⟨oQ,by
   intro i hi;rcases ago.1 hi with rfl|hi
   ·exact hL
   ·obtain rfl:=agH.1 hi;exact hD,by
   intro i hi k hk;rcases ago.1 hi with rfl|hi
   ·obtain rfl:k=_:=hk;omega
   ·obtain rfl:=agH.1 hi;obtain rfl:k=_:=hk;omega,by
   refine agC.2 ⟨fun j hj k hk Ap=>?_,List.pairwise_singleton _ _⟩;obtain rfl:=agH.1 hj;obtain rfl:k=_:=hk;have:W2.heap.size+1=W2.heap.size:=Ap;omega⟩
 have UR:=T0.eX fun fv tb l hv rest tail o=> (Gi 1 (by decide) (o.call c4)).eR (L' :=Kg b fv fs lev tb l hv rest tail (zS (W2.heap.size+1) W2.heap.size _ mb b ob (.slice none 0 0) [])) (by repeat(first|exact bd.refl|exact bw.here|apply bd.cons|apply bw.there));refine(Po hT hG tO gf (aga _) UR ?_).mono ?_
 ·intro W' gone bE fK s n hlen st
  have Tr :=st.rec;refine yU Tr rfl ?_
  gi_wp2
  refine⟨_,run_beginRound Tr rfl,?_⟩;refine wpIn_block (wpIn_region_lit ?_);generalize hrb:Obj.loop {(j8 _ _ _ _ _ _ .ready none) with state:= .busy}=T1;obtain⟨Wb,XL⟩: ∃Wb,Wb=W'.putObj (W2.heap.size+1) T1:= ⟨_,rfl⟩;have ZJ :Go.Vc.b0 W' Wb:=by rw [XL];exact⟨rfl,rfl,rfl,fun _=>aga _⟩
  have US:nZ w.heap Wb.heap b fs lev gone n (AX (.aA (ng (W2.heap.size+1) T1)) W2.heap.size mb b ob fK bE):=by
   rw [XL];exact st.set
  rw [←XL];clear XL;refine Gp Tryz.mJ rfl rfl (fun c h=>nomatch h) rfl (K:=fun v H' =>v=fK∧H' =Wb.heap) (r:=ak Wb.heap (at_ ob 0) fun v=>v=fK∧Wb.heap=Wb.heap) (by kernel_rfl) (US.out ⟨rfl,rfl⟩) ?_;rintro v0 Wc hrc ⟨T3,hc⟩;subst T3;rw [←hc] at US;refine Gp Tryz.mJ rfl rfl (fun c h=>nomatch h) rfl (K:=fun v H' =>v=str s∧H' =Wc.heap) (r:=str s=str s∧Wc.heap=Wc.heap) (by kernel_rfl) ⟨rfl,rfl⟩ ?_;rintro _ Wd PK ⟨rfl,hd⟩;rw [←hd] at US;obtain⟨r0,PU⟩: ∃r0,r0=It.aA (ng (W2.heap.size+1) T1):= ⟨_,rfl⟩;rw [←PU] at US;refine Gp Tryz.mJ rfl rfl (fun c h=>nomatch h) rfl (K:=fun y H' =>nZ w.heap H' b fs lev gone n (.sl y 1 [str s]::AX r0 W2.heap.size mb b ob v0 bE)) (r:=aY Wd.heap 9 1 [str []] [(0,1,str s)] fun y H' =>nZ w.heap H' b fs lev gone n (.sl y 1 [str s]::AX r0 W2.heap.size mb b ob v0 bE)) (by kernel_rfl) ?_ ?_
  ·obtain⟨fv,tb,l,hv,rest,tail,h1,h2,h3,h4,h5,h6,h7,o⟩:=US
   exact o.dj (sz:=1) (by decide) rfl rfl fun y H' o=> ⟨fv,tb,l,hv,rest,tail,h1,h2,h3,h4,h5,h6,h7,o.eR (by repeat(first|exact bd.refl|exact bw.here|apply bd.cons|apply bw.there))⟩
  clear US;intro y We hre st;refine Gp Tryz.mJ rfl rfl (fun c h=>nomatch h) rfl (K:=fun v' H' =>nZ w.heap H' b fs lev gone n (.sl y 1 [str s]:: [r0,.aA (ng W2.heap.size (.deferred (some []))),.box mb [at_ b 0] 111,.box ob [v0] 60,.sl v' 1 (cH (bE++ [s]))])) (r:=bj We.heap 9 1 16 [str []] v0 y fun v' H' =>nZ w.heap H' b fs lev gone n (.sl y 1 [str s]:: [r0,.aA (ng W2.heap.size (.deferred (some []))),.box mb [at_ b 0] 111,.box ob [v0] 60,.sl v' 1 (cH (bE++ [s]))])) (by kernel_rfl) ?_ ?_
  ·obtain⟨fv,tb,l,hv,rest,tail,h1,h2,h3,h4,h5,h6,h7,o⟩:=st
   refine o.append (n:=bE.length) (m:=1) (by repeat(first|exact bw.here|apply bw.there)) rfl (o.sl (v:=y) (by repeat(first|exact af8|apply af7))) (by rw [eY,agh]) rfl rfl (by omega) fun v' H' o=> ⟨fv,tb,l,hv,rest,tail,h1,h2,h3,h4,h5,h6,h7,?_⟩;rw [nB];exact o.eR (by repeat(first|exact bd.refl|exact bw.here|apply bd.cons|apply bw.there))
  clear st;intro v' Wf hrf st;refine Gp Tryz.mJ rfl rfl (fun c h=>nomatch h) rfl (K:=fun _ H' =>nZ w.heap H' b fs lev gone n (AX r0 W2.heap.size mb b ob v' (bE++ [s]))) (r:=aF Wf.heap (at_ ob 0) v' fun _ H' =>nZ w.heap H' b fs lev gone n (AX r0 W2.heap.size mb b ob v' (bE++ [s]))) (by kernel_rfl) ?_ ?_
  ·obtain⟨fv,tb,l,hv,rest,tail,h1,h2,h3,h4,h5,h6,h7,o⟩:=st
   exact o.bF (b:=ob) (f:=0) (by repeat(first|exact af8|apply af7)) (agm rfl) (o.sl (v:=v') (by repeat(first|exact af8|apply af7))).one (by repeat(first|exact aV.here|apply aV.there)) fun H' o _=> ⟨fv,tb,l,hv,rest,tail,h1,h2,h3,h4,h5,h6,h7,o.arr (by repeat(first|exact cC.nil|exact bw.here|apply cC.cons|apply bw.there))⟩
  clear st;intro _ Wg hrg st;refine wpListIn_nil ?_;rw [PU] at st;have hbz:=st.TZ;simp only [Exit.inBlock];rw [←hrb] at hbz;refine⟨_,_,Jb hbz,rfl,((((((ZJ.trans hrc).trans PK).trans hre).trans hrf).trans hrg).trans ⟨rfl,rfl,rfl,fun _=>aga _⟩),v',?_⟩;exact st.set
 ·rintro e W5 ⟨v5,rfl,Xp,bE,fK,n,hlen,ha,ZK⟩
  have VF:=ZK.rec;refine⟨v5,.ready,none,rfl,VF,by simp,?_⟩;generalize Ck:Obj.loop _=Ir;obtain⟨W6,PZ⟩: ∃W6,W6=W5.putObj (W2.heap.size+1) Ir:= ⟨_,rfl⟩;have ZL:nZ w.heap W6.heap b fs lev bE.flatten n (AX (.aA (ng (W2.heap.size+1) Ir)) W2.heap.size mb b ob fK bE):=by rw [PZ];exact ZK.set
  have YD:Go.Vc.b0 w W6:=by
   have h1:Go.Vc.b0 W1 (W1.alloc (.cells #[.slice none 0 0] 60)):= ⟨rfl,rfl,rfl,fun _=>aga _⟩;have h2:Go.Vc.b0 W5 W6:=by rw [PZ];exact⟨rfl,rfl,rfl,fun _=>aga _⟩
   exact((((wz.trans h1).trans Cw).trans Tq).trans Xp).trans h2
  rw [←PZ];clear PZ ZK Xp VF UR c4 oQ Tq hL hD YC T0 Ww o2 Cw st1 wz Ck;have cO:W6.cell? ⟨ob,0,none⟩=some fK:=by
   obtain⟨fv,tb,l,hv,rest,tail,h1,h2,h3,h4,h5,h6,h7,o⟩:=ZL;exact eZ (o.fZ (b:=ob) (cs:= [fK]) (by repeat(first|exact af8|apply af7)))
  have hD6:W6.heap[W2.heap.size]? =some (.deferred (some [])):=by
   obtain⟨fv,tb,l,hv,rest,tail,h1,h2,h3,h4,h5,h6,h7,o⟩:=ZL;exact o.aA (T:=ng W2.heap.size _) (by repeat(first|exact af8|apply af7))
  gi_wp2
  refine⟨by simp,.inl ⟨_,_,rfl,run_takeDeferred hD6,?_⟩⟩;refine⟨.tuple #[fK,.int .i64 0],results_tmp2 (fn:=Tryz.f18) (t:=4) (u:=5) rfl _ _ _,_,rfl,YD.trans ⟨rfl,rfl,rfl,fun _=>aga _⟩,?_⟩;obtain⟨fv,tb,l,hv,rest,tail,h1,h2,h3,h4,h5,h6,h7,o⟩:=ZL;have o:ar w.heap (W6.heap.setIfInBounds W2.heap.size (.deferred none)) (Kg b fv fs lev tb l hv rest tail [.aA (ng (W2.heap.size+1) Ir),.aA (ng W2.heap.size (.deferred none)),.box mb [at_ b 0] 111,.box ob [fK] 60,.sl fK 1 (cH bE)]):=o.eX (i:= .aA (ng W2.heap.size (.deferred (some [])))) (i' := .aA (ng W2.heap.size (.deferred none))) (by repeat(first|exact aV.here|apply aV.there)) (by simp) (fun k hk hf=>cD (fun e=>hf e.symm)) (bN (bq hD6)) (fun k hk=> .inl hk);exact h _ fK bE ha hlen (o.arr (by repeat(first|exact cC.nil|exact bw.here|apply cC.cons|apply bw.there)))
end
section
variable {H H0 H' :ai} {R:Value→ai→Prop} {L:List It} {s:List UInt8}
theorem DC {l:List Fp} (g:eP l): (kD l).length≤31482:=by
 have h1:=zR g;have h2:=g.I7 l.length;rw [agr] at h2;unfold kD;rw [af9];omega
theorem vd.le {fs:List Fl} {lev:Nat} {X:List UInt8} (h:vd fs lev X):X.length≤31482:=by
 obtain⟨l,g,_,_,rfl⟩:=h;exact DC g
theorem BY {v:Value} {fs:List Fl} {lev:Nat} (hT:Reads H ⟨5,0,none⟩ eT) (hG:Reads H ⟨0,0,none⟩ ff) (hs:Sl H v 8 (kC fs)) (gf:jt fs) (tO:lev≤9)
  (h: ∀H' X,vd fs lev X→Ext H H' →R (.tuple #[str X,.int .i64 0]) H'):ab 8 #[v,.int .i64 (lev:Int)] H R:=by
 refine Dl.vc _ _ _ _ ?_;refine BX hT hG hs gf tO fun H1 sv bE ha hl o=>?_;refine ag (vs:= [sv,.int .i64 0]) rfl ?_;refine ag (vs:= [sv,.int .i64 0]) rfl ?_;refine KL (o.sl (by repeat(first|exact af8|apply af7))) (by omega) (by have:=ha.le;omega) fun H2 kO=>?_;exact h H2 _ ha (o.ext.trans kO)
end
section
variable {H H0 H' :ai} {R:Value→ai→Prop} {L:List It} {s:List UInt8}
structure zT (l:List Fp):Prop where
 ok:eP l
 run: ∀x∈l,x.1.iO≠ []→Go.Proofs.YtpcgccdmmoggmaaGreatDoor.run ⟨.hd,toBits x.2,[]⟩= (x.1.iO,⟨.dn,[],x.1.iO⟩,0)
def nk (l:List Fp) (k:Nat):Nat:= (bh (l.take k)).length
def BZ (l:List Fp):List (List UInt8):= (l.map Prod.fst).map Fl.nm
def qQ (x:Fp):Nat:= (eM (dw x 0)).length
theorem Mf {l:List Fp} {k:Nat} (hk:k<l.length):kD l=bh (l.take k)++ (gV l[k]++ (bh (l.drop (k+1))++q_ l)):=by
 have h:l=l.take k++ (l[k]::l.drop (k+1)):=by rw [←ag4 hk,agE]
 have e:bh l=bh (l.take k)++ (gV l[k]++bh (l.drop (k+1))):=by
  conv=>lhs;rw [h,kR]
  congr 1
 unfold kD;rw [e]
 simp
theorem Gq {l:List Fp} {k:Nat} (hk:k<l.length):nk l (k+1)=nk l k+ (gV l[k]).length:=by
 unfold nk;rw [eN hk,kR,qy,af9]
theorem Rq (l:List Fp):nk l l.length= (bh l).length:=by unfold nk;rw [agr]
theorem Ki (x:Fp): (gV x).length=qQ x+ (x.2.length+ (dK (dw x 0)).length):=by unfold gV qQ;simp only [af9]
end
section
variable {H H0 H' :ai} {R:Value→ai→Prop} {L:List It} {s:List UInt8} {b m k:Nat} {l:List Fp} {E0 E:List Ev} {W:Option (List UInt8)}
def GU:Hd:= ⟨[97],⟨1980,1,1,0,0,0⟩,0,0,0,0,true⟩
end
section
variable {H H0 H' :ai} {R:Value→ai→Prop} {L:List It} {s:List UInt8}
theorem AY {a p:List UInt8} (e:s=a++p) (hs:s.length≤1000000000) (h:R (.bool true) H):ab 136 #[str s,str p] H R:=by
 have hl:=congrArg List.length e;rw [af9] at hl;refine strings_HasSuffix.vc _ _ _ _ ?_;refine stringslite_HasSuffix.vc _ _ _ _ ?_;refine aJ ?_;refine aJ ?_;rw [dP,decide_eq_true (by omega)];refine bB ?_;refine aJ ?_;refine aJ ?_;rw [aZ,show ((s.length:Int) - (p.length:Int))= ((a.length:Nat):Int) by omega,ba (by omega) (by omega)];refine bg (lo:=a.length) (hi:=s.length) (.inl rfl) (.inr ⟨rfl,rfl⟩) (by omega) (aga _) ?_;rw [agx (by rw [agl];omega),e,aiX];refine iW ?_;rw [decide_eq_true rfl];intro _;exact h
theorem zU {a n:Nat} (hs:s.length≤1000000000) (h:a+n≤s.length) (hk:R (.tuple #[str ((s.drop a).take n),.bool true]) H):ab 135 #[str s,.int .u64 (a:Int),.int .u64 (n:Int)] H R:=by
 refine Dp.vc _ _ _ _ _ ?_;refine aJ ?_;refine b7 ?_;rw [cR (by omega) (by omega),a8,decide_eq_false (by omega)];refine aO ?_;rw [aZ,cR (by omega) (by omega),a8,decide_eq_false (by omega)];intro _;rw [aj,az,cR (by omega) (by omega)];have e:a7 (str s) (some (.int .u64 (a:Int))) (some (.int .u64 ((a:Int)+ (n:Int))))=fun K:Value→Prop=>a7 (str s) (some (.int .i64 (a:Int))) (some (.int .i64 ((a+n:Nat):Int))) K:=by
  funext K
  rw [mE,mE,ny,ny,show ((a:Int)+ (n:Int))= ((a+n:Nat):Int) by omega]
 rw [e];refine bg (lo:=a) (hi:=a+n) (.inl rfl) (.inl rfl) (by omega) h ?_;rw [aiF];exact hk
def Gr (n:Nat):List UInt8:=if n>4294967294 then [255,255,255,255] else aQ n 4
def Rr (c z a:Nat):List UInt8:= [80,75,5,6]++ (aQ 0 4++ (aQ (min c 65535) 2++ (aQ (min c 65535) 2++ (Gr z++ (Gr a++aQ 0 2)))))
theorem nh (n:Nat): (Gr n).length=4:=by unfold Gr;split<;>simp [ay]
theorem zV {n:Nat} (hn:n<18446744073709551616) (h: ∀H',Ext H H' →R (str (Gr n)) H'):ab 148 #[.int .u64 (n:Int),.bool (decide (n>4294967294))] H R:=by
 refine yz.vc _ _ _ _ ?_;unfold Gr at h
 by_cases hg:n>4294967294
 ·rw [decide_eq_true hg,aD]
  rw [if_pos hg] at h;exact h H (Ext.refl _)
 ·rw [decide_eq_false hg,aj]
  rw [if_neg hg] at h;exact bJ (n:=n) (k:=4) hn (by decide) (by decide) h
theorem wo (h: ∀H' t,t.length=2→Ext H H' →R (str t) H'):ab 146 #[.bool true] H R:=by
 refine vH.vc _ _ _ ?_;rw [aD];exact bJ (n:=45) (k:=2) (by decide) (by decide) (by decide) fun H' hx=>h H' _ (ay _ _) hx
theorem Rt {c z a:Nat} (hc:c<18446744073709551616) (hz:z<18446744073709551616) (ha:a<18446744073709551616)
  (h: ∀H' t,Ext H H' →(t.length=98→(c>65534∨z>4294967294∨a>4294967294)∧∃p,p.length=76∧t=p++Rr c z a)→R (str t) H'):ab 99 #[.int .u64 (c:Int),.int .u64 (z:Int),.int .u64 (a:Int)] H R:=by
 refine JM.vc _ _ _ _ _ ?_;rw [dP];refine il (d:=decide (z≥4611686018427387904)) (fun _=>by rw [dP];exact⟨by congr 1;exact decide_eq_decide.2 (by omega),rfl⟩) ?_;intro _;refine il (d:=decide (a≥4611686018427387904)) (fun _=>by rw [dP];exact⟨by congr 1;exact decide_eq_decide.2 (by omega),rfl⟩) ?_;intro _;refine cy (fun _=>?_) (fun nt=>?_)
 ·exact h H [] (Ext.refl _) (fun e=>by simp at e)
 ·simp only [ahA,decide_eq_false_iff_not] at nt
  refine⟨fun s H' => ∃q,s=str q∧(q= []∨q.length=76∧(c>65534∨z>4294967294∨a>4294967294))∧Ext H H',?_,?_⟩
  ·rintro _ _ H1 ⟨q,rfl,hq,kr⟩
   have hql:q.length≤76:=by rcases hq with rfl| ⟨hq,_⟩<;>simp_all
   rw [iV,show min (c:Int) 65535= ((min c 65535:Nat):Int) by omega];refine bJ (n:=min c 65535) (k:=2) (by omega) (by decide) (by decide) fun H2 kO=>?_;refine aP (by simp only [agi,agt];omega) ?_;refine bJ (n:=0) (k:=4) (by decide) (by decide) (by decide) fun H3 q7=>?_;refine aP (by simp only [af9,ay,agi,agt];omega) ?_;refine aP (by simp only [af9,ay,agi,agt];omega) ?_;refine aP (by simp only [af9,ay,agi,agt];omega) ?_;rw [a8,show decide ((z:Int)>4294967294)=decide (z>4294967294) from decide_eq_decide.2 (by omega)];refine zV hz fun H4 oQ=>?_;refine aP (by simp only [af9,ay,nh,agi,agt];omega) ?_;rw [a8,show decide ((a:Int)>4294967294)=decide (a>4294967294) from decide_eq_decide.2 (by omega)];refine zV ha fun H5 uP=>?_;refine aP (by simp only [af9,ay,nh,agi,agt];omega) ?_;refine bJ (n:=0) (k:=2) (by decide) (by decide) (by decide) fun H6 vS=>?_;refine aP (by simp only [af9,ay,nh,agi,agt];omega) ?_;refine h H6 _ (((((kr.trans kO).trans q7).trans oQ).trans uP).trans vS) fun hl=>?_;rcases hq with rfl| ⟨hq,hb⟩
   ·simp [ay,nh] at hl
   ·exact⟨hb,q,hq,by unfold Rr;simp only [agc]⟩
  ·rw [a8]
   refine il (d:=decide (z>4294967294)) (fun _=>by rw [a8];exact⟨by congr 1;exact decide_eq_decide.2 (by omega),rfl⟩) ?_;intro _;refine il (d:=decide (a>4294967294)) (fun _=>by rw [a8];exact⟨by congr 1;exact decide_eq_decide.2 (by omega),rfl⟩) ?_;intro _;refine cy (fun hb=>?_) (fun _=> ⟨[],rfl,.inl rfl,Ext.refl _⟩);have hb:c>65534∨z>4294967294∨a>4294967294:=by
    simp only [ahg,decide_eq_true_eq] at hb;omega
   refine bJ (n:=44) (k:=8) (by decide) (by decide) (by decide) fun H1 kr=>?_;refine aP (by simp [ay]) ?_;refine wo fun H2 v1 rp kO=>?_;refine aP (by simp [ay];omega) ?_;refine wo fun H3 v2 EC q7=>?_;refine aP (by simp [ay];omega) ?_;refine bJ (n:=0) (k:=8) (by decide) (by decide) (by decide) fun H4 oQ=>?_;refine aP (by simp [ay];omega) ?_;refine bJ (n:=c) (k:=8) (by omega) (by decide) (by decide) fun H5 uP=>?_;refine aP (by simp [ay];omega) ?_;refine bJ (n:=c) (k:=8) (by omega) (by decide) (by decide) fun H6 vS=>?_;refine aP (by simp [ay];omega) ?_;refine bJ (n:=z) (k:=8) (by omega) (by decide) (by decide) fun H7 QQ=>?_;refine aP (by simp [ay];omega) ?_;refine bJ (n:=a) (k:=8) (by omega) (by decide) (by decide) fun H8 N3=>?_;refine aP (by simp [ay];omega) ?_;refine bJ (n:=0) (k:=4) (by decide) (by decide) (by decide) fun H9 VC=>?_;refine aP (by simp [ay]) ?_;rw [az,show ((a:Int)+ (z:Int))= ((a+z:Nat):Int) by omega,cR (by omega) (by omega)];refine bJ (n:=a+z) (k:=8) (by omega) (by decide) (by decide) fun Q7 O9=>?_;refine aP (by simp [ay]) ?_;refine bJ (n:=1) (k:=4) (by decide) (by decide) (by decide) fun R9 O_=>?_;refine aP (by simp [ay]) ?_;refine aP (by simp [ay];omega) ?_;exact⟨_,rfl,.inr ⟨by simp [ay,rp,EC],hb⟩,((((((((((kr.trans kO).trans q7).trans oQ).trans uP).trans vS).trans QQ).trans N3).trans VC).trans O9).trans O_)⟩
theorem Pp {c z a n z' a' :Nat} (hn:n≤1000) (hz:z' ≤100000000) (ha:a' ≤100000000) (hb:c>65534∨z>4294967294∨a>4294967294):Rr c z a≠oP n z' a' :=by
 intro e;have e0:oP n z' a' = [80,75,5,6]++ (aQ 0 4++ (aQ n 2++ (aQ n 2++ (aQ z' 4++ (aQ a' 4++aQ 0 2))))):=by unfold oP;simp only [agc]
 rw [e0] at e;unfold Rr at e;have e1:=List.append_cancel_left (List.append_cancel_left e);have e2:=aiY e1 (by rw [ay,ay]);have e3:=aiY e2.2 (by rw [ay,ay]);have e4:=aiY e3.2 (by rw [nh,ay]);have e5:=aiY e4.2 (by rw [nh,ay]);have f1:=congrArg ji e2.1;rw [mY,mY] at f1;have f4:=congrArg ji e4.1;have f5:=congrArg ji e5.1;rw [mY] at f4 f5;have Wx: ∀q,q>4294967294→ji (Gr q)=4294967295:=fun q hq=>by unfold Gr;rw [if_pos hq];rfl
 rcases hb with h|h|h
 ·omega
 ·rw [Wx _ h] at f4;omega
 ·rw [Wx _ h] at f5;omega
end
section
variable {H H0 H' :ai} {R:Value→ai→Prop} {L:List It} {s:List UInt8}
theorem gN {n k:Nat} (hk:k≤8) (hn:n<256 ^ k) (h:R (.int .u64 (n:Int)) H):ab 109 #[str (aQ n k)] H R:=by
 refine mM (by rw [ay];omega) ?_;rw [if_pos (by rw [ay];exact hk),mY,agp hn];exact h
theorem gO {x:List UInt8} (hx:x.length≤8) (h: ∀n:Nat,n<18446744073709551616→R (.int .u64 (n:Int)) H):ab 109 #[str x] H R:=by
 refine mM (by omega) ?_;rw [if_pos hx];exact h _ (yn hx)
theorem kE {s:List UInt8} {a n:Nat}: ((s.drop a).take n).length≤n:=by rw [age];omega
theorem Mg {X:List UInt8} {n z a:Nat} (hn:n≤1000) (hz:z≤100000000) (ha:a≤100000000) (e:s=X++oP n z a) (hs:s.length≤1000000)
  (h: ∀H',Ext H H' →R (.tuple #[.agg #[.int .u64 (n:Int),.int .u64 (z:Int),.int .u64 (a:Int)],.bool true]) H'):ab 187 #[str s] H R:=by
 have hl:s.length=X.length+22:=by rw [e,af9,mX]
 have e0:oP n z a= [80,75,5,6]++ (aQ 0 4++ (aQ n 2++ (aQ n 2++ (aQ z 4++ (aQ a 4++aQ 0 2))))):=by unfold oP;simp only [agc]
 have bl:=mX n z a;have b1: ((oP n z a).drop 8).take 2=aQ n 2:=Ge (p:= [80,75,5,6]++aQ 0 4) (r:=aQ n 2++ (aQ z 4++ (aQ a 4++aQ 0 2))) (by rw [e0];simp only [agc]) (by simp [ay]) (by simp [ay]);have b2: ((oP n z a).drop 12).take 4=aQ z 4:=Ge (p:= [80,75,5,6]++aQ 0 4++aQ n 2++aQ n 2) (r:=aQ a 4++aQ 0 2) (by rw [e0];simp only [agc]) (by simp [ay]) (by simp [ay]);have b3: ((oP n z a).drop 16).take 4=aQ a 4:=Ge (p:= [80,75,5,6]++aQ 0 4++aQ n 2++aQ n 2++aQ z 4) (r:=aQ 0 2) (by rw [e0];simp only [agc]) (by simp [ay]) (by simp [ay]);refine FY.vc _ _ _ ?_;refine(ar.start (H:=H)).box fun q H1 o _=>?_;refine aJ ?_;rw [aN,decide_eq_false (by omega),aj];refine aJ ?_;rw [aZ,show ((s.length:Int) - 22)= ((X.length:Nat):Int) by omega,ba (by omega) (by omega)];refine bg (lo:=X.length) (hi:=s.length) (.inl rfl) (.inr ⟨rfl,rfl⟩) (by omega) (aga _) ?_;rw [agx (by rw [agl];omega),show s.drop X.length=oP n z a by rw [e,aiX]];refine⟨fun p H' => ∃pb,p=at_ pb 0∧ar H H' [.box pb [.int .u64 (n:Int),.int .u64 (z:Int),.int .u64 (a:Int)] 266,.box q [.int .u64 0,.int .u64 0,.int .u64 0] 266],?_,?_⟩
 ·clear o
  rintro _ _ H2 ⟨pb,rfl,o⟩;refine⟨fun H' =>ar H H' [.box pb [.int .u64 (n:Int),.int .u64 (z:Int),.int .u64 (a:Int)] 266,.box q [.int .u64 0,.int .u64 0,.int .u64 0] 266],?_,?_⟩
  ·clear o
   rintro _ H3 o;refine o.bf (b:=pb) (by repeat(first|exact af8|apply af7)) rfl ?_;refine ax ?_;refine o.aw (b:=pb) (f:=0+0) (w:= .int .u64 (n:Int)) (by repeat(first|exact af8|apply af7)) rfl ?_;refine ax ?_;refine o.aw (b:=pb) (f:=0+1) (w:= .int .u64 (z:Int)) (by repeat(first|exact af8|apply af7)) rfl ?_;refine ax ?_;refine o.aw (b:=pb) (f:=0+2) (w:= .int .u64 (a:Int)) (by repeat(first|exact af8|apply af7)) rfl ?_;refine zM hn hz ha fun H4 hx=>?_;have o:=o.more hx;refine⟨o.bf (b:=pb) (by repeat(first|exact af8|apply af7)) rfl rfl,?_⟩;refine iW ?_;rw [decide_eq_true rfl];refine o.br (b:=q) (by repeat(first|exact af8|apply af7)) rfl rfl rfl (by repeat(first|exact aV.here|apply aV.there)) fun H5 o _=>?_;refine o.bf (b:=q) (by repeat(first|exact af8|apply af7)) rfl ?_;exact h H5 o.ext
  ·refine aJ ?_
   rw [dP];refine av (fun hc=>?_) (fun _=>o);obtain⟨m,hm⟩: ∃m,s.length - 98=m:= ⟨_,rfl⟩;refine aJ ?_;rw [aZ,show ((s.length:Int) - 98)= ((m:Nat):Int) by omega,ba (by omega) (by omega)];refine bg (lo:=m) (hi:=s.length) (.inl rfl) (.inr ⟨rfl,rfl⟩) (by omega) (aga _) ?_;rw [agx (by rw [agl];omega)];obtain⟨c,vB⟩: ∃c,s.drop m=c:= ⟨_,rfl⟩;have dX:c.length=98:=by rw [←vB,agl];omega
   have hce:c=X.drop m++oP n z a:=by rw [←vB,e,ahk (by omega)]
   rw [vB];refine⟨fun v H' => ∃ (qb c1 z1 a1:Nat),v=at_ qb 0∧c1<18446744073709551616∧z1<18446744073709551616∧a1<18446744073709551616∧ar H H' [.box qb [.int .u64 (c1:Int),.int .u64 (z1:Int),.int .u64 (a1:Int)] 266,.box pb [.int .u64 (n:Int),.int .u64 (z:Int),.int .u64 (a:Int)] 266,.box q [.int .u64 0,.int .u64 0,.int .u64 0] 266],?_,?_⟩
   ·clear o
    rintro _ _ H3 ⟨qb,c1,z1,a1,rfl,ZM,KY,qG,o⟩;refine ax ?_;refine o.aw (b:=qb) (f:=0+0) (w:= .int .u64 (c1:Int)) (by repeat(first|exact af8|apply af7)) rfl ?_;refine ax ?_;refine o.aw (b:=qb) (f:=0+1) (w:= .int .u64 (z1:Int)) (by repeat(first|exact af8|apply af7)) rfl ?_;refine ax ?_;refine o.aw (b:=qb) (f:=0+2) (w:= .int .u64 (a1:Int)) (by repeat(first|exact af8|apply af7)) rfl ?_;refine Rt ZM KY qG fun H4 t hx ht=>?_;have o:=o.more hx;refine aJ ?_;rw [bc];refine dM (d:=false) (fun ZN=>?_) ?_
    ·refine iW ?_
     refine⟨?_,rfl⟩
     congr 1
     refine decide_eq_false fun et=>?_;have ZN:t.length=98:=by have:=of_decide_eq_true ZN;omega
     obtain⟨hb,p,hp,Lq⟩:=ht ZN;rw [et,hce] at Lq;have:= (aiY Lq (by have:=congrArg List.length hce;rw [af9,bl,dX] at this;omega)).2;exact Pp hn hz ha hb this.symm
    ·intro _
     rw [aiQ,aj];exact o.Pc 1
   ·refine bg (lo:=24) (hi:=32) (.inl rfl) (.inl rfl) (by decide) (by omega) ?_
    refine bg (lo:=40) (hi:=48) (.inl rfl) (.inl rfl) (by decide) (by omega) ?_;refine bg (lo:=48) (hi:=56) (.inl rfl) (.inl rfl) (by decide) (by omega) ?_;refine⟨gO kE fun x1 h1=> ⟨gO kE fun x2 h2=> ⟨gO kE fun x3 h3=>c9 rfl rfl rfl (o.box fun qb H4 o _=>o.br (b:=qb) (by repeat(first|exact af8|apply af7)) rfl rfl rfl (by repeat(first|exact aV.here|apply aV.there)) fun H5 o _=> ⟨qb,x1,x2,x3,rfl,h1,h2,h3,o⟩),?_⟩,?_⟩,?_⟩
    ·refine o.box fun qb H4 o _=>gO kE fun x3 h3=>c9 rfl rfl rfl (o.br (b:=qb) (by repeat(first|exact af8|apply af7)) rfl rfl rfl (by repeat(first|exact aV.here|apply aV.there)) fun H5 o _=> ⟨qb,x1,x2,x3,rfl,h1,h2,h3,o⟩)
    ·refine o.box fun qb H4 o _=>gO kE fun x2 h2=>gO kE fun x3 h3=>c9 rfl rfl rfl (o.br (b:=qb) (by repeat(first|exact af8|apply af7)) rfl rfl rfl (by repeat(first|exact aV.here|apply aV.there)) fun H5 o _=> ⟨qb,x1,x2,x3,rfl,h1,h2,h3,o⟩)
    ·refine o.box fun qb H4 o _=>gO kE fun x1 h1=>gO kE fun x2 h2=>gO kE fun x3 h3=>c9 rfl rfl rfl (o.br (b:=qb) (by repeat(first|exact af8|apply af7)) rfl rfl rfl (by repeat(first|exact aV.here|apply aV.there)) fun H5 o _=> ⟨qb,x1,x2,x3,rfl,h1,h2,h3,o⟩)
 ·refine bg (lo:=8) (hi:=10) (.inl rfl) (.inl rfl) (by decide) (by omega) ?_
  refine bg (lo:=12) (hi:=16) (.inl rfl) (.inl rfl) (by decide) (by omega) ?_;refine bg (lo:=16) (hi:=20) (.inl rfl) (.inl rfl) (by decide) (by omega) ?_;rw [show 10 - 8=2 from rfl,show 16 - 12=4 from rfl,b1,b2,b3];have g1:n<256 ^ 2:=by show n<65536;omega
  have g2:z<256 ^ 4:=by show z<4294967296;omega
  have g3:a<256 ^ 4:=by show a<4294967296;omega
  refine⟨gN (by decide) g1 ⟨gN (by decide) g2 ⟨gN (by decide) g3 (c9 rfl rfl rfl (o.box fun pb H4 o _=>o.br (b:=pb) (by repeat(first|exact af8|apply af7)) rfl rfl rfl (by repeat(first|exact aV.here|apply aV.there)) fun H5 o _=> ⟨pb,rfl,o⟩)),?_⟩,?_⟩,?_⟩
  ·refine o.box fun pb H4 o _=>gN (by decide) g3 (c9 rfl rfl rfl (o.br (b:=pb) (by repeat(first|exact af8|apply af7)) rfl rfl rfl (by repeat(first|exact aV.here|apply aV.there)) fun H5 o _=> ⟨pb,rfl,o⟩))
  ·refine o.box fun pb H4 o _=>gN (by decide) g2 (gN (by decide) g3 (c9 rfl rfl rfl (o.br (b:=pb) (by repeat(first|exact af8|apply af7)) rfl rfl rfl (by repeat(first|exact aV.here|apply aV.there)) fun H5 o _=> ⟨pb,rfl,o⟩)))
  ·refine o.box fun pb H4 o _=>gN (by decide) g1 (gN (by decide) g2 (gN (by decide) g3 (c9 rfl rfl rfl (o.br (b:=pb) (by repeat(first|exact af8|apply af7)) rfl rfl rfl (by repeat(first|exact aV.here|apply aV.there)) fun H5 o _=> ⟨pb,rfl,o⟩))))
theorem DD {x:Hd} {iO:List UInt8} (hG:Reads H ⟨4,0,none⟩ ff) (hs:s.length≤6000) (hk:x.k=decide (iO= [])) (fY:iO≠ []→run ⟨.hd,toBits s,[]⟩= (iO,⟨.dn,[],iO⟩,0))
  (h: ∀H',Ext H H' →R (.tuple #[str iO,.int .i64 0]) H'):ab 137 #[str s,x.v] H R:=by
 refine zr.vc _ _ _ _ ?_;refine(ar.start (H:=H)).box fun b H1 o _=>?_;refine ax ?_;refine o.aw (b:=b) (f:=0+11) (w:= .bool x.k) (by repeat(first|exact af8|apply af7)) rfl ?_;rw [hk];refine av (fun hd=>?_) (fun hd=>?_)
 ·rw [hd] at h
  exact h H1 o.ext
 ·have hr:=fY hd
  refine BP hG o (by omega) (fun ot D' H2 Cw lE hx=>?_) (fun ot D' H2 Cw lE hx=>?_) (fun ot D' e H2 Cw he hx=>?_)
  ·rw [hr] at Cw
   cases Cw
   refine ag (vs:= [str iO,_,.int .i64 0]) rfl ?_;refine ag (vs:= [str iO,_,.int .i64 0]) rfl ?_;refine ag (vs:= [str iO,_,.int .i64 0]) rfl ?_;refine⟨fun v H' =>v= .int .i64 0∧Ext H H',?_,?_⟩
   ·rintro _ _ H3 ⟨rfl,q7⟩
    exact h H3 q7
   ·rw [bc,decide_eq_true rfl]
    refine bB ?_;refine qh ?_;intro _;rw [decide_eq_false (by simp [gQ,bG]),aj];exact⟨rfl,hx⟩
  ·rw [hr] at Cw
   cases Cw
   cases lE
  ·rw [hr] at Cw
   simp only [ahr] at Cw;exact absurd Cw.2.2.symm he
theorem Pq (p r:List UInt8):preB p (p++r)=true:=by unfold preB;rw [List.take_left];exact decide_eq_true rfl
theorem Mh {tb k:Nat} {l:List Fp} (g:zT l) (hk:k<l.length) (hG:Reads H ⟨4,0,none⟩ ff) (ht:Sj H tb)
  (h: ∀H',Ext H H' →R (.tuple #[.agg l[k].1.cells.toArray,.int .i64 0]) H'):ab 88 #[zJ tb,str (kD l),(dw l[k] (nk l k)).v] H R:=by
 have hZ:=DC g.ok;have he:=g.ok.I7 k;have UO:= (g.ok.UQ (agj hk)).1;have y5:= (g.ok.pk _ (agj hk)).1;have Sd:=g.ok.Ro.iO _ (agP.2 ⟨_,agj hk,rfl⟩);have Ky:=Mf hk;have rl:=Ki l[k];have Cx:nk l k= (bh (l.take k)).length:=rfl;have sm:N2 (dw l[k] (nk l k)):=g.ok.sm (agj hk) (by omega);have e3:eM (dw l[k] (nk l k))=eM (dw l[k] 0):=rfl;have e4:dK (dw l[k] (nk l k))=dK (dw l[k] 0):=rfl;have Uq:qQ l[k]= (eM (dw l[k] 0)).length:=rfl;have ZO: ((kD l).drop (nk l k)).take (qQ l[k]+l[k].2.length+ (dK (dw l[k] 0)).length)=gV l[k]:=Ge Ky rfl (by rw [rl];omega);have hle:nk l k+ (qQ l[k]+l[k].2.length+ (dK (dw l[k] 0)).length)≤(kD l).length:=by
  have:=congrArg List.length Ky;simp only [af9] at this;omega
 have ZP: ((gV l[k]).drop (qQ l[k])).take ((qQ l[k]+l[k].2.length) - qQ l[k])=l[k].2:=Ge (p:=eM (dw l[k] 0)) (r:=dK (dw l[k] 0)) rfl rfl (by omega);have zG:preB (eM (dw l[k] 0)) (gV l[k])=true:=Pq _ _;have ZQ:gV l[k]= (eM (dw l[k] 0)++l[k].2)++dK (dw l[k] 0):=by unfold gV;rw [agc]
 have fY:=g.run _ (agj hk);obtain⟨x,hx⟩: ∃x,dw l[k] (nk l k)=x:= ⟨_,rfl⟩;have f1:x.nm=l[k].1.nm:=by rw [←hx];rfl
 have f2:x.t=l[k].1.t:=by rw [←hx];rfl
 have f3:x.p=l[k].2.length:=by rw [←hx];rfl
 have f4:x.z=l[k].1.iO.length:=by rw [←hx];rfl
 have f5:x.u=cS 0 l[k].1.iO:=by rw [←hx];rfl
 have f6:x.a=nk l k:=by rw [←hx];rfl
 have f7:x.k=decide (l[k].1.iO= []):=by rw [←hx];rfl
 rw [hx] at sm e3 e4 ⊢;clear hx;refine Dn.vc _ _ _ _ _ ?_;refine(ar.start (H:=H)).box fun b5 H1 o _=>?_;refine o.box fun b6 H2 o _=>?_;have o:ar H H2 [.box b6 _ 48,.box b5 x.cells 44]:=o;refine o.bf (b:=b5) (by repeat(first|exact af8|apply af7)) rfl ?_;refine o.bf (b:=b5) (by repeat(first|exact af8|apply af7)) rfl ?_;refine nQ sm fun H3 q7=>?_;have o:=o.more q7;refine⟨o.bf (b:=b5) (by repeat(first|exact af8|apply af7)) rfl rfl,?_⟩;refine nR sm fun H4 oQ=>?_;have o:=o.more oQ;rw [e3,e4];refine ax ?_;refine o.aw (b:=b5) (f:=0+10) (w:= .int .u64 (x.a:Int)) (by repeat(first|exact af8|apply af7)) rfl ?_;refine aJ ?_;refine b7 ?_;rw [cR (by omega) (by omega)];refine ax ?_;refine o.aw (b:=b5) (f:=0+7) (w:= .int .u64 (x.p:Int)) (by repeat(first|exact af8|apply af7)) rfl ?_;rw [f3,f6,az,cR (by omega) (by omega)];refine aJ ?_;refine b7 ?_;rw [cR (by omega) (by omega),az,cR (by omega) (by omega),←Uq,show ((qQ l[k]:Int)+ (l[k].2.length:Int)+ ((dK (dw l[k] 0)).length:Int))= ((qQ l[k]+l[k].2.length+ (dK (dw l[k] 0)).length:Nat):Int) by omega];refine zU (by omega) hle ?_;rw [ZO];refine ag (vs:= [str (gV l[k]),.bool true]) rfl ?_;refine ag (vs:= [str (gV l[k]),.bool true]) rfl ?_;refine gI ?_;rw [show (!true)=false from rfl];refine aO ?_;refine lz (by omega) (by omega) ?_;rw [zG];refine gI ?_;intro _;refine aO ?_;refine AY ZQ (by omega) ?_;refine gI ?_;intro _;rw [show (!true)=false from rfl,aj];refine aJ ?_;refine aJ ?_;refine aJ ?_;rw [aZ,rl,←Uq,show (((qQ l[k]+ (l[k].2.length+ (dK (dw l[k] 0)).length):Nat):Int) - ((dK (dw l[k] 0)).length:Int))= ((qQ l[k]+l[k].2.length:Nat):Int) by omega,ba (by omega) (by omega)];refine bg (lo:=qQ l[k]) (hi:=qQ l[k]+l[k].2.length) (.inl rfl) (.inl rfl) (by omega) (by omega) ?_;rw [ZP];refine o.bf (b:=b5) (by repeat(first|exact af8|apply af7)) rfl ?_;refine DD (x:=x) (hG.ext o.ext) y5 f7 fY fun H5 uP=>?_;have o:=o.more uP;refine ag (vs:= [str l[k].1.iO,.int .i64 0]) rfl ?_;refine ag (vs:= [str l[k].1.iO,.int .i64 0]) rfl ?_;refine fH ?_;rw [aj];refine aJ ?_;refine b7 ?_;rw [cR (by omega) (by omega)];refine ax ?_;refine o.aw (b:=b5) (f:=0+8) (w:= .int .u64 (x.z:Int)) (by repeat(first|exact af8|apply af7)) rfl ?_;rw [f4,cA,decide_eq_false (by simp),aj];refine ax ?_;refine o.aw (b:=b5) (f:=0+9) (w:= .int .u32 (x.u:Int)) (by repeat(first|exact af8|apply af7)) rfl ?_;refine qw (by omega) (ht.ext o.ext) ?_;refine⟨o.aw (b:=b5) (f:=0+9) (by repeat(first|exact af8|apply af7)) rfl rfl,?_⟩;rw [f5,cA,decide_eq_false (by simp),aj];refine ax ?_;refine o.aw (b:=b5) (f:=0+0) (w:=str x.nm) (by repeat(first|exact af8|apply af7)) rfl ?_;refine ax ?_;refine iF (o.fZ (b:=b5) (by repeat(first|exact af8|apply af7))) (ws:=x.t.cells.toList) rfl (agm rfl) ?_;refine aM rfl (agm rfl) ?_;rw [eE];refine⟨rfl,agm rfl,?_⟩;refine aM rfl (agm rfl) ?_;rw [bz];refine o.br (b:=b6) (vs:= (⟨x.nm,x.t,l[k].1.iO⟩:Fl).cells) (by repeat(first|exact af8|apply af7)) rfl rfl (Dz _) (by repeat(first|exact aV.here|apply aV.there)) fun H6 o _=>?_;refine o.bf (b:=b6) (by repeat(first|exact af8|apply af7)) rfl ?_;rw [f1,f2];exact h H6 o.ext
end
section
variable {H H0 H' :ai} {R:Value→ai→Prop} {L:List It} {s:List UInt8}
theorem Pr {a:Int} {K:Value→Prop} (h:a7 (str s) (some (.int .i64 a)) none K):a7 (str s) (some (.int .u64 a)) none K:=by
 rw [mE,jA] at h ⊢;exact h
theorem Mi {l:List Fp} {k:Nat} (hk:k<l.length):cm (nk l k) (l.drop k)=dw l[k] (nk l k)::cm (nk l (k+1)) (l.drop (k+1)):=by
 rw [ag4 hk,cm,Gq hk]
theorem Gs {l:List Fp} {k:Nat} (hk:k<l.length):eC (cm (nk l k) (l.drop k))=fJ (dw l[k] (nk l k))++eC (cm (nk l (k+1)) (l.drop (k+1))):=by
 rw [Mi hk];rfl
theorem Jc {l:List Fp} (g:eP l) (h: ∀H' v,ar H H' [.sl v 12 (nc (cm 0 l))]→R (.tuple #[v,.int .i64 0]) H'):ab 134 #[str (kD l)] H R:=by
 have hZ:=DC g;have BW:=g.I7 l.length;have dX:=tN g l.length (aga _);have TY:=g.len;rw [agr] at BW dX;have xn:=Rq l;have XM:kD l= (bh l++eC (cm 0 l))++oP l.length (eC (cm 0 l)).length (bh l).length:=by unfold kD q_;rw [agc]
 have hZl: (kD l).length= (bh l).length+ (eC (cm 0 l)).length+22:=by rw [XM,af9,af9,mX]
 have Ru: ((kD l).drop (bh l).length).take (eC (cm 0 l)).length=eC (cm 0 l):=Ge (p:=bh l) (r:=oP l.length (eC (cm 0 l)).length (bh l).length) (by rw [XM,agc]) rfl rfl;have mC: (kD l).drop ((bh l).length+ (eC (cm 0 l)).length)=oP l.length (eC (cm 0 l)).length (bh l).length:=by rw [XM,←af9,aiX]
 refine AT.vc _ _ _ ?_;refine Mg (X:=bh l++eC (cm 0 l)) (by omega) (by omega) (by omega) XM (by omega) fun H1 kr=>?_;refine ag (vs:= [.agg #[.int .u64 (l.length:Int),.int .u64 ((eC (cm 0 l)).length:Int),.int .u64 ((bh l).length:Int)],.bool true]) rfl ?_;refine ag (vs:= [.agg #[.int .u64 (l.length:Int),.int .u64 ((eC (cm 0 l)).length:Int),.int .u64 ((bh l).length:Int)],.bool true]) rfl ?_;refine((ar.start (H:=H)).more kr).box fun q H2 o _=>?_;refine o.br (b:=q) (vs:= [.int .u64 (l.length:Int),.int .u64 ((eC (cm 0 l)).length:Int),.int .u64 ((bh l).length:Int)]) (by repeat(first|exact af8|apply af7)) rfl rfl rfl (by repeat(first|exact aV.here|apply aV.there)) fun H3 o _=>?_;refine ax ?_;refine o.aw (b:=q) (f:=0+2) (w:= .int .u64 ((bh l).length:Int)) (by repeat(first|exact af8|apply af7)) rfl ?_;refine ax ?_;refine o.aw (b:=q) (f:=0+1) (w:= .int .u64 ((eC (cm 0 l)).length:Int)) (by repeat(first|exact af8|apply af7)) rfl ?_;refine zU (by omega) (by omega) ?_;rw [Ru];refine ag (vs:= [str (eC (cm 0 l)),.bool true]) rfl ?_;refine ag (vs:= [str (eC (cm 0 l)),.bool true]) rfl ?_;refine ax ?_;refine o.aw (b:=q) (f:=0+0) (w:= .int .u64 (l.length:Int)) (by repeat(first|exact af8|apply af7)) rfl ?_;refine ax ?_;refine o.aw (b:=q) (f:=0+1) (w:= .int .u64 ((eC (cm 0 l)).length:Int)) (by repeat(first|exact af8|apply af7)) rfl ?_;refine ax ?_;refine o.aw (b:=q) (f:=0+2) (w:= .int .u64 ((bh l).length:Int)) (by repeat(first|exact af8|apply af7)) rfl ?_;refine zM (by omega) (by omega) (by omega) fun H5 uP=>?_;have o:=o.more uP;refine gI ?_;rw [show (!true)=false from rfl];refine aO ?_;refine gI ?_;rw [show (!true)=false from rfl];intro _;refine aO ?_;refine ax ?_;refine o.aw (b:=q) (f:=0+2) (w:= .int .u64 ((bh l).length:Int)) (by repeat(first|exact af8|apply af7)) rfl ?_;refine ax ?_;refine o.aw (b:=q) (f:=0+1) (w:= .int .u64 ((eC (cm 0 l)).length:Int)) (by repeat(first|exact af8|apply af7)) rfl ?_;rw [az,cR (by omega) (by omega),show (((bh l).length:Int)+ ((eC (cm 0 l)).length:Int))= (((bh l).length+ (eC (cm 0 l)).length:Nat):Int) by omega];refine Pr ?_;refine bg (lo:= (bh l).length+ (eC (cm 0 l)).length) (hi:= (kD l).length) (.inl rfl) (.inr ⟨rfl,rfl⟩) (by omega) (aga _) ?_;rw [agx (by rw [agl];omega),mC];refine qh ?_;rw [decide_eq_false (by simp)];intro _;rw [aj];have o:=Gi 12 (by decide) o;refine⟨fun d v a H' => ∃k:Nat,d=str (eC (cm (nk l k) (l.drop k)))∧a= .int .u64 (nk l k:Int)∧k≤l.length∧ar H H' [.sl v 12 (nc (cm 0 (l.take k))),.box q [.int .u64 (l.length:Int),.int .u64 ((eC (cm 0 l)).length:Int),.int .u64 ((bh l).length:Int)] 266],
  fun d _ _ _=>match d with| .string b=>b.size|_=>0,⟨0,rfl,rfl,agK _,o⟩,?_⟩
 clear o;rintro _ _ v _ H6 ⟨k,rfl,rfl,hk,o⟩;have hek:=g.I7 k;have hak:nk l k= (bh (l.take k)).length:=rfl;refine qh ?_;refine av (fun hc=>?_) (fun hc=>?_)
 ·have fG:k<l.length:=by
   rcases ag6 k l.length with h1|h1
   ·exact h1
   ·rw [ah2 h1] at hc
    exact absurd rfl hc
  have sm:N2 (dw l[k] (nk l k)):=g.sm (agj fG) (by omega);have Uy:=Gs fG;have e6:nk l (k+1)=nk l k+ (qQ l[k]+ (l[k].2.length+ (dK (dw l[k] 0)).length)):=by rw [Gq fG,Ki]
  have y5:= (g.pk _ (agj fG)).1;have aeq:= (g.UQ (agj fG)).2;have hd4:=nY (dw l[k] 0);have Uq:qQ l[k]= (eM (dw l[k] 0)).length:=rfl;have e3:eM (dw l[k] (nk l k))=eM (dw l[k] 0):=rfl;have e4:dK (dw l[k] (nk l k))=dK (dw l[k] 0):=rfl;have e5:nc (cm 0 (l.take (k+1)))=nc (cm 0 (l.take k))++ (dw l[k] (nk l k)).cells:=by
   rw [eN fG,nf,nc,mZ,cm,cm,qx,ags];rfl
  have Sq:=jb (dw l[k] (nk l k));have Sd: (eC (cm (nk l k) (l.drop k))).length≤1000:=by
   have h1:eC (cm 0 l)=eC (cm 0 (l.take k))++eC (cm (nk l k) (l.drop k)):=by
    conv=>lhs;rw [←agE k l,nf,zQ,ags]
    rfl
   have:=congrArg List.length h1;rw [af9] at this;omega
  have Wy:=congrArg List.length Uy;rw [af9] at Wy;obtain⟨x,hx⟩: ∃x,dw l[k] (nk l k)=x:= ⟨_,rfl⟩;have f3:x.p=l[k].2.length:=by rw [←hx];rfl
  have f6:x.a=nk l k:=by rw [←hx];rfl
  rw [hx] at sm Uy e3 e4 e5 Sq Wy;clear hx;refine Gh sm Uy (by omega) fun H7 QQ=>?_;have o:=o.more QQ;refine ag (vs:= [x.v,.int .i64 ((46+x.nm.length:Nat):Int)]) rfl ?_;refine ag (vs:= [x.v,.int .i64 ((46+x.nm.length:Nat):Int)]) rfl ?_;refine o.box fun b H8 o _=>?_;refine o.br (b:=b) (vs:=x.cells) (by repeat(first|exact af8|apply af7)) rfl rfl (zO _) (by repeat(first|exact aV.here|apply aV.there)) fun H9 o _=>?_;rw [kp,decide_eq_false (by omega)];refine aO ?_;refine ax ?_;refine o.aw (b:=b) (f:=0+10) (w:= .int .u64 (x.a:Int)) (by repeat(first|exact af8|apply af7)) rfl ?_;rw [f6,cA,decide_eq_false (by simp)];intro _;rw [aj];refine o.bf (b:=b) (by repeat(first|exact af8|apply af7)) rfl ?_;refine ax ?_;refine o.aw (b:=b) (f:=0+7) (w:= .int .u64 (x.p:Int)) (by repeat(first|exact af8|apply af7)) rfl ?_;refine o.bf (b:=b) (by repeat(first|exact af8|apply af7)) rfl ?_;refine nQ sm fun Q7 O9=>?_;have o:=o.more O9;refine⟨o.aw (b:=b) (f:=0+7) (by repeat(first|exact af8|apply af7)) rfl rfl,o.bf (b:=b) (by repeat(first|exact af8|apply af7)) rfl rfl,?_⟩;refine aJ ?_;refine b7 ?_;rw [e3,f3,cR (by omega) (by omega),az,cR (by omega) (by omega)];refine nR sm fun R9 O_=>?_;have o:=o.more O_;rw [e4];refine⟨o.aw (b:=b) (f:=0+7) (w:= .int .u64 (x.p:Int)) (by repeat(first|exact af8|apply af7)) rfl (by rw [f3]),?_⟩;refine aJ ?_;refine b7 ?_;rw [cR (by omega) (by omega),az,cR (by omega) (by omega),az,cR (by omega) (by omega)];refine bg (lo:=46+x.nm.length) (hi:= (eC (cm (nk l k) (l.drop k))).length) (.inl rfl) (.inr ⟨rfl,rfl⟩) (by omega) (aga _) ?_;rw [agx (by rw [agl];omega),Uy,←Sq,aiX];refine o.bf (b:=b) (by repeat(first|exact af8|apply af7)) rfl ?_;refine o.dj (sz:=12) (by decide) rfl rfl fun y Sg o=>?_;refine o.append (n:=k) (m:=1) (by repeat(first|exact bw.here|apply bw.there)) rfl (o.sl (v:=y) (by repeat(first|exact af8|apply af7))) (by rw [nd,ia,age,ag2 (by omega)]) rfl (zO _) (by omega) fun v' Re o=>?_;refine⟨⟨k+1,rfl,by congr 1;omega,by omega,?_⟩,?_⟩
  ·rw [e5]
   exact o.arr (by repeat(first|exact cC.nil|exact bw.here|apply cC.cons|apply bw.there))
  ·show (fL _).length< (fL _).length
   rw [bu,bu];rw [←Uy];omega
 ·have fG:k=l.length:=by
   rcases ag6 k l.length with h1|h1
   ·rw [Gs h1] at hc
    exact absurd (fun h0=>by
     have:=congrArg List.length h0;rw [af9,jb] at this
     simp at this) hc
   ·omega
  subst fG;rw [agr] at o;refine(o.sl (v:=v) (by repeat(first|exact af8|apply af7))).len (n:=l.length) (by rw [nd,ia]) (by decide) ?_;refine b7 ?_;rw [cR (by omega) (by omega)];refine ax ?_;refine o.aw (b:=q) (f:=0+0) (w:= .int .u64 (l.length:Int)) (by repeat(first|exact af8|apply af7)) rfl ?_;rw [cA,decide_eq_false (by simp)];refine aO ?_;refine ax ?_;refine o.aw (b:=q) (f:=0+2) (w:= .int .u64 ((bh l).length:Int)) (by repeat(first|exact af8|apply af7)) rfl ?_;rw [xn,cA,decide_eq_false (by simp)];intro _;rw [aj];exact h H6 v (o.arr (by repeat(first|exact cC.nil|exact bw.here|apply cC.cons|apply bw.there)))
theorem Jd {l:List Fp} (g:eP l) (h: ∀H' v ns,ar H H' [.sl v 12 (nc (cm 0 l))]→R (.tuple #[v,ns,.int .i64 0]) H'):ab 87 #[str (kD l)] H R:=by
 have TY:=g.len;have dI: (nc (cm 0 l)).length=l.length*12:=by rw [nd,ia]
 refine AS.vc _ _ _ ?_;refine Jc g fun H1 v o=>?_;refine ag (vs:= [v,.int .i64 0]) rfl ?_;refine ag (vs:= [v,.int .i64 0]) rfl ?_;refine fH ?_;rw [aj];refine(o.sl (v:=v) (by repeat(first|exact af8|apply af7))).len dI (by decide) ?_;have o:=Gi 1 (by decide) o;refine⟨fun y i H' => ∃k:Nat,i= .int .i64 (k:Int)∧k≤l.length∧ar H H' [.sl y 1 (cH ((BZ l).take k)),.sl v 12 (nc (cm 0 l))],fun _ i _=>match i with| .int _ x=> (l.length - x).toNat|_=>0,⟨0,rfl,agK _,o⟩,?_⟩;clear o;rintro _ ns _ H2 ⟨k,rfl,hk,o⟩;have PW: (BZ l).length=l.length:=by unfold BZ;rw [agw,agw]
 rw [aN];refine av (fun hc=>?_) (fun hc=>?_)
 ·have fG:k<l.length:=by omega
  have Sm:k< (cm 0 l).length:=by rw [ia];exact fG
  refine(o.sl (v:=v) (by repeat(first|exact af8|apply af7))).at_ dI (by decide) (by omega) (by omega) fun p hp=>?_;rw [af_] at hp;refine hp.fE (o.sl (v:=v) (by repeat(first|exact af8|apply af7))) (ws:= (cm 0 l)[k].cells) (fA xx Sm) rfl ?_;rw [xy fG Sm,ags];refine o.box fun b H3 o _=>?_;refine o.br (b:=b) (vs:= (dw l[k] (bh (l.take k)).length).cells) (by repeat(first|exact af8|apply af7)) rfl rfl (zO _) (by repeat(first|exact aV.here|apply aV.there)) fun H4 o _=>?_;refine ax ?_;refine o.aw (b:=b) (f:=0+0) (w:=str l[k].1.nm) (by repeat(first|exact af8|apply af7)) rfl ?_;refine o.dj (sz:=1) (by decide) rfl rfl fun y H5 o=>?_;refine o.append (n:=k) (m:=1) (by repeat(first|exact bw.here|apply bw.there)) rfl (o.sl (v:=y) (by repeat(first|exact af8|apply af7))) (by rw [eY,age];omega) rfl rfl (by omega) fun v' H6 o=>?_;rw [az,ba (by omega) (by omega)];refine⟨⟨k+1,rfl,by omega,?_⟩,by show (_:Int).toNat< (_:Int).toNat;omega⟩;have e:cH ((BZ l).take (k+1))=cH ((BZ l).take k)++ (str l[k].1.nm).cells.toList:=by
   rw [eN (by omega),nB];unfold BZ;rw [ah0,ah0]
   rfl
  rw [e];exact o.arr (by repeat(first|exact cC.nil|exact bw.here|apply cC.cons|apply bw.there))
 ·refine g.Ro.UP.all k _ _ _ (o.sl (v:=ns) (by repeat(first|exact af8|apply af7))) fun H3 hx=>?_
  have o:=o.more hx;refine ag (vs:= [.int .i64 0,.int .i64 0]) rfl ?_;refine ag (vs:= [.int .i64 0,.int .i64 0]) rfl ?_;refine fH ?_;rw [aj];exact h H3 v ns (o.Pc 1)
theorem Mj {l:List Fp} (g:zT l) (hG:Reads H ⟨4,0,none⟩ ff) (h: ∀H' v,ar H H' [.sl v 8 (kC (l.map Prod.fst))]→R (.tuple #[v,.int .i64 0]) H'):ab 39 #[str (kD l)] H R:=by
 have TY:=g.ok.len;have dI: (nc (cm 0 l)).length=l.length*12:=by rw [nd,ia]
 refine FX.vc _ _ _ ?_;refine Jd g.ok fun H1 v ns o=>?_;refine ag (vs:= [v,ns,.int .i64 0]) rfl ?_;refine ag (vs:= [v,ns,.int .i64 0]) rfl ?_;refine ag (vs:= [v,ns,.int .i64 0]) rfl ?_;refine fH ?_;rw [aj];refine nX fun H2 tb ht kr XJ=>?_;have o:=o.add kr (i:= .aA (DB tb)) ht (by intro k hk;obtain rfl:k=tb:=hk;exact XJ);refine(o.sl (v:=v) (by repeat(first|exact af8|apply af7))).len dI (by decide) ?_;have o:=Gi 8 (by decide) o;refine⟨fun y i H' => ∃k:Nat,i= .int .i64 (k:Int)∧k≤l.length∧ar H H' [.sl y 8 (kC ((l.map Prod.fst).take k)),.aA (DB tb),.sl v 12 (nc (cm 0 l))],fun _ i _=>match i with| .int _ x=> (l.length - x).toNat|_=>0,⟨0,rfl,agK _,o⟩,?_⟩;clear o ht kr XJ;rintro _ out _ H2 ⟨k,rfl,hk,o⟩;rw [aN];refine av (fun hc=>?_) (fun hc=>?_)
 ·have fG:k<l.length:=by omega
  have Sm:k< (cm 0 l).length:=by rw [ia];exact fG
  refine(o.sl (v:=v) (by repeat(first|exact af8|apply af7))).at_ dI (by decide) (by omega) (by omega) fun p hp=>?_;rw [af_] at hp;refine hp.fE (o.sl (v:=v) (by repeat(first|exact af8|apply af7))) (ws:= (cm 0 l)[k].cells) (fA xx Sm) rfl ?_;rw [xy fG Sm,ags];refine o.box fun b H3 o _=>?_;refine o.br (b:=b) (vs:= (dw l[k] (bh (l.take k)).length).cells) (by repeat(first|exact af8|apply af7)) rfl rfl (zO _) (by repeat(first|exact aV.here|apply aV.there)) fun H4 o _=>?_;refine o.bf (b:=b) (by repeat(first|exact af8|apply af7)) rfl ?_;refine Mh g fG (hG.ext o.ext) (o.aA (T:=DB tb) (by repeat(first|exact af8|apply af7))) fun H5 uP=>?_;have o:=o.more uP;refine ag (vs:= [.agg l[k].1.cells.toArray,.int .i64 0]) rfl ?_;refine ag (vs:= [.agg l[k].1.cells.toArray,.int .i64 0]) rfl ?_;refine o.box fun c H6 o _=>?_;refine o.br (b:=c) (vs:=l[k].1.cells) (by repeat(first|exact af8|apply af7)) rfl rfl (Dz _) (by repeat(first|exact aV.here|apply aV.there)) fun H7 o _=>?_;refine fH ?_;rw [aj];refine o.bf (b:=c) (by repeat(first|exact af8|apply af7)) rfl ?_;refine o.dj (sz:=8) (by decide) rfl rfl fun y H8 o=>?_;refine o.append (n:=k) (m:=1) (by repeat(first|exact bw.here|apply bw.there)) rfl (o.sl (v:=y) (by repeat(first|exact af8|apply af7))) (by rw [jc,age,agw];omega) rfl (Dz _) (by omega) fun v' H9 o=>?_;rw [az,ba (by omega) (by omega)];refine⟨⟨k+1,rfl,by omega,?_⟩,by show (_:Int).toNat< (_:Int).toNat;omega⟩;have e:kC ((l.map Prod.fst).take (k+1))=kC ((l.map Prod.fst).take k)++l[k].1.cells:=by
   rw [eN (by rw [agw];exact fG),kC,mZ,qx,ah0]
   rfl
  rw [e];exact o.arr (by repeat(first|exact cC.nil|exact bw.here|apply cC.cons|apply bw.there))
 ·have fG:k=l.length:=by omega
  subst fG;rw [agx (by rw [agw];exact aga _)] at o;exact h H2 out (o.arr (by repeat(first|exact cC.nil|exact bw.here|apply cC.cons|apply bw.there)))
theorem Rv {f:Fl} {K:Value→Prop} (h:K (.bool false)):G0 [1,0,0,0,0,0,0,1] (.agg f.cells.toArray) (.agg f.cells.toArray) K:=by
 simp only [G0,Fl.cells,cI,kT,if_true,decide_true,Bool.and_true,ahn];exact h
theorem Je {v w:Value} {fs:List Fl} (hf:fs.length≤5) (hv:Sl H v 8 (kC fs)) (hw:Sl H w 8 (kC fs)) (h:R (.bool true) H):ab 40 #[v,w] H R:=by
 have dI:=jc fs;refine fQ.vc _ _ _ _ ?_;refine hv.len dI (by decide) ?_;refine hw.len dI (by decide) ?_;rw [cA,decide_eq_false (by simp),aj];refine hv.len dI (by decide) ?_;refine⟨fun i H' => ∃k:Nat,i= .int .i64 (k:Int)∧k≤fs.length∧H' =H,fun i _=>match i with| .int _ x=> (fs.length - x).toNat|_=>0,⟨0,rfl,agK _,rfl⟩,?_⟩;rintro _ _ _ ⟨k,rfl,hk,rfl⟩;rw [aN];refine av (fun hc=>?_) (fun hc=>h);have fG:k<fs.length:=by omega
 refine hv.at_ dI (by decide) (by omega) (by omega) fun p hp=>?_;rw [af_] at hp;refine hp.fE hv (ws:=fs[k].cells) (fA ml fG) rfl ?_;refine hw.at_ dI (by decide) (by omega) (by omega) fun p hp=>?_;rw [af_] at hp;refine hp.fE hw (ws:=fs[k].cells) (fA ml fG) rfl ?_;refine Rv ?_;rw [aj,az,ba (by omega) (by omega)];exact⟨⟨k+1,rfl,by omega,rfl⟩,by show (_:Int).toNat< (_:Int).toNat;omega⟩
theorem Ml {v:Value} {l:List Fp} (g:zT l) (hG:Reads H ⟨4,0,none⟩ ff) (hv:Sl H v 8 (kC (l.map Prod.fst))) (h: ∀H',Ext H H' →R (.bool true) H'):ab 10 #[v,str (kD l)] H R:=by
 refine Dm.vc _ _ _ _ ?_;refine Mj g hG fun H1 w o=>?_;refine ag (vs:= [w,.int .i64 0]) rfl ?_;refine ag (vs:= [w,.int .i64 0]) rfl ?_;rw [bc,decide_eq_true rfl];refine bB ?_;refine Je g.ok.Ro.len (o.sl (v:=w) (by repeat(first|exact af8|apply af7))) (hv.ext o.ext) ?_;intro _;exact h H1 o.ext
end
section
variable {l:List Fp} {E:List Ev} {k m:Nat} {W:Option (List UInt8)}
theorem Gt (l:List Fp) {i j:Nat} (h:i≤j):nk l i≤nk l j:=by
 unfold nk;have e:l.take j=l.take i++ (l.take j).drop i:=by
  conv=>lhs;rw [←agE i (l.take j),aiM,ag2 h]
 rw [e,kR,af9];omega
def Jf (l:List Fp) (m k:Nat):Prop:=k≤l.length∧nk l k≤m∧(k<l.length→m<nk l (k+1))
theorem Jf.one {i j:Nat} (h:Jf l m i) (g:Jf l m j):i=j:=by
 obtain⟨a1,a2,a3⟩:=h;obtain⟨b1,b2,b3⟩:=g;rcases aiV i j with h|h|h
 ·have:=a3 (by omega);have:=Gt l (i:=i+1) (j:=j) h;omega
 ·exact h
 ·have:=b3 (by omega);have:=Gt l (i:=j+1) (j:=i) h;omega
end
section
variable {H H0 H' :ai} {R:Value→ai→Prop} {L:List It} {s:List UInt8} {b m k:Nat} {l:List Fp} {E0 E:List Ev} {W:Option (List UInt8)}
theorem zT.take (g:zT l) (k:Nat):zT (l.take k):= ⟨g.ok.take k,fun x hx=>g.run x (ag3 hx)⟩
end
section
theorem B0: ∀ (fuel:Nat) (y d:Int),0≤d→∃ (k:Nat) (e:Int),k≤fuel∧gR fuel y d= (y+k,e)∧d=tL k y+e∧0≤e∧(k<fuel→e<gq (y+k))
 |0,y,d,h=> ⟨0,d,by omega,by simp [gR],by simp [tL],h,by omega⟩
 |fuel+1,y,d,h=>by
  by_cases hc:d<gq y
  ·refine⟨0,d,by omega,?_,by simp [tL],h,fun _=>by simpa using hc⟩
   rw [gR,if_pos hc];simp
  ·obtain⟨k,e,h1,h2,h3,h4,h5⟩:=B0 fuel (y+1) (d - gq y) (by omega)
   refine⟨k+1,e,by omega,?_,?_,h4,fun hk=>?_⟩
   ·rw [gR,if_neg hc,h2,show y+1+ (k:Int)=y+ ((k+1:Nat):Int) by omega]
   ·rw [tL];omega
   ·have:=h5 (by omega)
    rw [show y+1+ (k:Int)=y+ ((k+1:Nat):Int) by omega] at this;exact this
theorem Gu: ∀ (fuel:Nat) (y m d:Int),0≤d→∃ (k:Nat) (e:Int),k≤fuel∧oe fuel y m d= (m+k,e)∧d=Dx k y m+e∧0≤e∧(k<fuel→e<ei y (m+k))
 |0,y,m,d,h=> ⟨0,d,by omega,by simp [oe],by simp [Dx],h,by omega⟩
 |fuel+1,y,m,d,h=>by
  by_cases hc:ei y m≤d
  ·obtain⟨k,e,h1,h2,h3,h4,h5⟩:=Gu fuel y (m+1) (d - ei y m) (by omega)
   refine⟨k+1,e,by omega,?_,?_,h4,fun hk=>?_⟩
   ·rw [oe,if_pos hc,h2,show m+1+ (k:Int)=m+ ((k+1:Nat):Int) by omega]
   ·rw [Dx];omega
   ·have:=h5 (by omega)
    rw [show m+1+ (k:Int)=m+ ((k+1:Nat):Int) by omega] at this;exact this
  ·refine⟨0,d,by omega,?_,by simp [Dx],h,fun _=>by simpa using hc⟩
   rw [oe,if_neg hc];simp
theorem Gv:tL 128 1980=46751:=by decide+kernel
theorem Rw {k:Nat} (hk:k≤128):tL k 1980≤46751:=by
 have key: ∀j:Nat,j≤128→tL (128 - j) 1980+365*j≤46751:=by
  intro j
  induction j with
  |zero=>intro _;rw [show 128 - 0=128 by omega,Gv];decide
  |succ j ih=>
   intro hj;have ih:=ih (by omega);have:=zN (128 - (j+1)) 1980;rw [show 128 - (j+1)+1=128 - j by omega] at this;have:=I4 (1980+ ((128 - (j+1):Nat):Int));omega
 have:=key (128 - k) (by omega);rw [show 128 - (128 - k)=k by omega] at this;omega
theorem Rx {t:T6} (h:1980≤t.y∧t.y≤2107∧1≤t.d∧t.d≤ei t.y t.m∧0≤t.h∧t.h<24∧0≤t.n∧t.n<60∧0≤t.s∧t.s<60∧t.s%2=0):j0 t=true:=by
 simp only [j0,decide_eq_true_eq];rw [ahy h.2.2.2.2.2.2.2.2.1];exact h
theorem T4 {n:Int} (h0:0≤n): (n<2019643200∧∃t,RZ n=some t∧j0 t=true∧Ws t=n∧t.s=n%43200%30*2)∨(2019643200≤n∧RZ n=none):=by
 obtain⟨k,e,hk,hy,hd,Xf,GV⟩:=B0 128 1980 (n/43200) (by omega);rw [RZ,if_neg (by omega),hy]
 dsimp only
 by_cases Ap:k=128
 ·right
  subst Ap;rw [if_pos (by omega)];rw [Gv] at hd;exact⟨by omega,rfl⟩
 ·left
  have GV:=GV (by omega);have hle:=Rw (k:=k+1) (by omega);rw [zN] at hle;rw [if_neg (by omega)];obtain⟨j,f,hj,hm,Ym,hf0,PY⟩:=Gu 11 (1980+k) 1 e Xf;rw [hm]
  dsimp only
  have hf:f<ei (1980+k) (1+j):=by
   by_cases PN:j=11
   ·subst PN
    have:=BU 11 0 (1980+k) 1;rw [show 0+11=11 by omega,EK] at this;simp only [pg] at this;omega
   ·exact PY (by omega)
  refine⟨by omega,_,rfl,Rx ?_,?_,rfl⟩
  ·dsimp only;exact⟨by omega,by omega,by omega,by omega,by omega,by omega,by omega,by omega,by omega,by omega,by omega⟩
  ·simp only [Ws]
   rw [show (1980+ (k:Int) - 1980).toNat=k by omega,show (1+ (j:Int) - 1).toNat=j by omega];omega
end
section
variable {H H0 H' :ai} {R:Value→ai→Prop} {L:List It} {s:List UInt8}
def aFl:Fl:= ⟨[97],⟨1980,1,1,0,0,0⟩,[120]⟩
theorem T5:jt [aFl]:= ⟨VJ,fun f hf=>by obtain rfl:=agH.1 hf;decide,fun f hf=>by obtain rfl:=agH.1 hf;decide⟩
theorem T7 {fs:List Fl} {lev:Nat} {X:List UInt8} (h:vd fs lev X): ∃l,zT l∧l.map Prod.fst=fs∧X=kD l:=by
 obtain⟨l,h1,h2,h3,h4⟩:=h;exact⟨l,⟨h1,fun x hx hd=> ((h2 x hx).2.1 hd).2⟩,h3,h4⟩
theorem AZ (hT:Reads H ⟨5,0,none⟩ eT) (hG:Reads H ⟨0,0,none⟩ ff) (hI:Reads H ⟨4,0,none⟩ ff) (h: ∀H',Ext H H' →R (.bool true) H'):ab 6 #[] H R:=by
 refine qO.vc _ _ ?_;refine aM rfl (agm rfl) ?_;refine aM rfl (agm rfl) ?_;refine aM rfl (agm rfl) ?_;rw [bz];refine aM rfl (agm rfl) ?_;rw [eE];refine⟨rfl,agm rfl,?_⟩;refine aM rfl (agm rfl) ?_;rw [bz];refine(ar.start (H:=H)).dj (sz:=8) (by decide) rfl rfl fun y H1 o=>?_;have hy:Sl H1 y 8 (kC [aFl]):=o.sl (v:=y) (by repeat(first|exact af8|apply af7));refine BY (lev:=6) (hT.ext o.ext) (hG.ext o.ext) hy T5 (by decide) fun H2 X hX kO=>?_;obtain⟨l,g,hl,rfl⟩:=T7 hX;refine ag (vs:= [str (kD l),.int .i64 0]) rfl ?_;refine ag (vs:= [str (kD l),.int .i64 0]) rfl ?_;have o:=o.more kO;refine FZ (hG.ext o.ext) (hI.ext o.ext) fun H3 q7=>?_;have o:=o.more q7;refine bB ?_;rw [bc,decide_eq_true rfl];intro _;refine bB ?_;refine Ml g (hI.ext o.ext) (by rw [hl];exact o.sl (v:=y) (by repeat(first|exact af8|apply af7))) fun H4 oQ=>?_;intro _;exact h H4 (o.ext.trans oQ)
def DE:List (Int × List UInt8)→List Value
 | []=> []
 |p::T=> .int .i64 p.1::str p.2::DE T
theorem Gw: ∀T:List (Int × List UInt8),(DE T).length=T.length*2
 | []=>rfl
 |p::T=>by rw [DE,agi,agi,Gw T,agi];omega
theorem Kj: ∀ (T:List (Int × List UInt8)) (i:Nat) (p:Int × List UInt8),T[i]? =some p→(DE T)[i*2]? =some (.int .i64 p.1)∧(DE T)[i*2+1]? =some (str p.2)
 | [],i,p,h=>by simp at h
 |q::T,0,p,h=>by
  cases h
  exact⟨rfl,rfl⟩
 |q::T,i+1,p,h=>by
  have:=Kj T i p h;rw [DE,show (i+1)*2=i*2+1+1 by omega];exact this
theorem Ps: ∀L:List (List Value),(∀r∈L,r.length=2)→(∀r∈L,rq [.int .i64,.string] fun j=>r[j]?)→∃T:List (Int × List UInt8),T.length=L.length∧DE T=L.flatten∧∀p∈T,(-9223372036854775808≤p.1∧p.1≤9223372036854775807)∧p.2.length≤maxLen
 | [],_,_=> ⟨[],rfl,rfl,by simp⟩
 |r::L,h1,h2=>by
  obtain⟨T,h3,h4,h5⟩:=Ps L (fun r hr=>h1 r (by simp [hr])) (fun r hr=>h2 r (by simp [hr]));have hl:=h1 r (by simp);have hf:=h2 r (by simp)
  match r,hl with
  | [x,y],_=>
   obtain⟨_,g0,z,rfl,hz⟩:=hf 0 _ rfl;obtain⟨_,g1,s,rfl,hs⟩:=hf 1 _ rfl
   simp at g0 g1
   subst g0 g1;refine⟨(z,s)::T,by simp [h3],?_,?_⟩
   ·rw [ag0,←h4];rfl
   ·intro p hp
    rcases ago.1 hp with rfl|hp
    ·exact⟨Vj hz,hs⟩
    ·exact h5 p hp
theorem Jg: ∀k:Fin 5,IntKind.u8.wrap (97+ (k.val:Int))= ((UInt8.ofNat (97+k.val)).toNat:Int):=by decide
theorem DF (k:Nat):jQ (k+1)=jQ k++ [UInt8.ofNat (97+k)]:=by unfold jQ;rw [aiC,agU];rfl
theorem Jh {v:Value} {T:List (Int × List UInt8)} (hS:Sl H v 2 (DE T)) (hlen:T.length≤9223372036854775807) (hT: ∀p∈T,(-9223372036854775808≤p.1∧p.1≤9223372036854775807)∧p.2.length≤maxLen) (h: ∀H' w fs,jt fs→(∃m:Nat,m≤5∧fs.map Fl.nm= (jQ m).map dh)→ar H H' [.sl w 8 (kC fs)]→R w H'):ab 7 #[v] H R:=by
 have w5:maxLen=9223372036854775807:=rfl;have dI:=Gw T;refine uY.vc _ _ _ ?_;have o:=Gi 8 (by decide) (ar.start (H:=H));refine⟨fun y i H' => ∃ (k:Nat) (fs:List Fl),i= .int .i64 (k:Int)∧k≤T.length∧k≤5∧fs.length=k∧fs.map Fl.nm= (jQ k).map dh∧(∀f∈fs,j0 f.t=true∧f.iO.length≤400)∧ar H H' [.sl y 8 (kC fs)],fun _ i _=>match i with| .int _ x=> (5 - x).toNat|_=>0,
  ⟨0,[],rfl,agK _,agK _,rfl,rfl,(fun f hf=>by cases hf),o⟩,?_⟩
 clear o;rintro _ y _ H1 ⟨k,fs,rfl,hk,hk5,ME,Mz,My,o⟩;have ZR:=hS.ext o.ext;refine ZR.len dI (by decide) ?_;rw [aN];refine dM (d:=decide ((k:Int)<5)) (fun _=>by rw [aN];exact⟨rfl,rfl⟩) ?_;intro _;refine cy (fun hc=>?_) (fun hc=>?_)
 ·rw [agk,decide_eq_true_eq,decide_eq_true_eq] at hc
  have Si:k<T.length:=by omega
  obtain⟨p,hp⟩: ∃p,T[k]? =some p:= ⟨T[k],agb Si⟩;obtain⟨at0,SD⟩:=Kj T k p hp;obtain⟨⟨Iy,Aq⟩,VN⟩:=hT p (ag9 hp);refine ZR.at_ dI (by decide) (by omega) (by omega) fun q hq=>?_;refine hq.field (f:=0) fun q2 GX=>?_;refine GX.load ZR (by rw [af_];exact at0) ?_;rw [Hz,jz];refine⟨by decide,?_⟩;obtain⟨n,hn⟩: ∃n,(max p.1 0).tmod 2019643200=n:= ⟨_,rfl⟩;have Bg:0≤n∧n<2019643200:=by
   rw [←hn,ahy (by omega)];exact⟨aio _ (by decide),aiH _ (by decide)⟩
  rw [hn];clear hn;refine Qz (by omega) fun H2 kO=>?_;have o:=o.more kO;obtain⟨t,ht,PT⟩: ∃t,RZ n=some t∧j0 t=true:=by
   rcases T4 Bg.1 with ⟨_,t,h1,h2,_⟩ | ⟨h1,_⟩
   ·exact⟨t,h1,h2⟩
   ·omega
  rw [ht];refine ag (vs:= [t.v,.bool true]) rfl ?_;refine ag (vs:= [t.v,.bool true]) rfl ?_;refine o.box fun b H3 o _=>?_;refine o.br (b:=b) (vs:=t.cells.toList) (by repeat(first|exact af8|apply af7)) rfl rfl rfl (by repeat(first|exact aV.here|apply aV.there)) fun H4 o _=>?_;rw [az,ba (by omega) (by omega)];refine b7 ?_;have Wz:=Jg ⟨k,by omega⟩;simp only at Wz;rw [Wz];refine o.bf (b:=b) (by repeat(first|exact af8|apply af7)) rfl ?_;have UM:=hS.ext o.ext;refine UM.at_ dI (by decide) (by omega) (by omega) fun q3 YJ=>?_;refine YJ.field (f:=1) fun q4 Xq=>?_;refine Xq.load UM (by rw [af_];exact SD) ?_;refine UM.at_ dI (by decide) (by omega) (by omega) fun q5 hq5=>?_;refine hq5.field (f:=1) fun q6 hq6=>?_;refine hq6.load UM (by rw [af_];exact SD) ?_;refine aJ ?_;rw [iV,show min (p.2.length:Int) 400= ((min p.2.length 400:Nat):Int) by omega];refine bg (lo:=0) (hi:=min p.2.length 400) (.inr ⟨rfl,rfl⟩) (.inl rfl) (by omega) (by omega) ?_;rw [agS,ahb];have GU: (p.2.take (min p.2.length 400)).length≤400:=by rw [age];omega
  generalize p.2.take (min p.2.length 400)=iO at GU;obtain⟨c,dX⟩: ∃c,UInt8.ofNat (97+k)=c:= ⟨_,rfl⟩;rw [dX];refine o.dj (sz:=1) (by decide) rfl rfl fun z H5 o=>?_;have hS5:=hS.ext o.ext;refine⟨o.bf (b:=b) (by repeat(first|exact af8|apply af7)) rfl rfl,Xq.load hS5 (by rw [af_];exact SD) rfl,hq6.load hS5 (by rw [af_];exact SD) rfl,?_⟩;have hz:Sl H5 z 1 ([c].map bX):=o.sl (v:=z) (by repeat(first|exact af8|apply af7));refine hz.str ?_;refine aP (agm rfl) ?_;refine aM rfl (agm rfl) ?_;rw [eE];refine⟨rfl,agm rfl,?_⟩;refine aM rfl (agm rfl) ?_;rw [bz];refine o.dj (sz:=8) (by decide) rfl rfl fun z2 H6 o=>?_;refine o.append (n:=k) (m:=1) (by repeat(first|exact bw.here|apply bw.there)) rfl (o.sl (v:=z2) (by repeat(first|exact af8|apply af7))) (by rw [jc,ME]) rfl (Dz ⟨dh c,t,iO⟩) (by omega) fun v' H7 o=>?_;rw [az,ba (by omega) (by omega)];refine⟨⟨k+1,fs++ [⟨dh c,t,iO⟩],rfl,by omega,by omega,by rw [af9,ME];rfl,by rw [agU,Mz,DF,agU,dX];rfl,fun f hf=>?_,?_⟩,by show (_:Int).toNat< (_:Int).toNat;omega⟩
  ·rcases agv.1 hf with hf|hf
   ·exact My f hf
   ·obtain rfl:=agH.1 hf
    exact⟨PT,GU⟩
  ·have e9:kC (fs++ [⟨dh c,t,iO⟩])=kC fs++ (⟨dh c,t,iO⟩:Fl).cells:=by unfold kC;rw [mZ,qx]
   rw [e9];exact o.arr (by repeat(first|exact cC.nil|exact bw.here|apply cC.cons|apply bw.there))
 ·exact h H1 y fs ⟨by rw [Mz];exact Fi k hk5,fun f hf=> (My f hf).1,fun f hf=> (My f hf).2⟩ ⟨k,hk5,Mz⟩ o
end
section
variable {H:ai} {R:Value→ai→Prop} {v:Value}
theorem tP {P:Program} {C:List Nat} {g:Nat} {first cap:Array Value} {args:List Value} {K:Value→ai→Prop} (hm:jT g C=true) (h:fP P g (first.toList++args++cap.toList).toArray H K):jk P C (.func (.func g) first cap) args H K:=by
 show (bif jT g C then fP P g (first.toList++args++cap.toList).toArray H K else False);rw [hm];exact h
theorem Pt {v:Value} {l:List Value} {K:Value→Prop} {k:Nat} (h:kI H v 1 l) (fG:k≤l.length) (hk: ∀v',kI H v' 1 (l.take k)→aS v' =aS v→K v'):fg 1 v none (some (.int .i64 (k:Int))) K:=by
 rcases h with ⟨rfl,rfl⟩ | ⟨b,n,cap,sp,rfl,⟨t,fr,hb,hf⟩,hl,hc⟩
 ·rw [gH,dc]
  have:k=0:=by simpa using fG
  subst this;exact⟨by decide,by decide,hk _ (.inl ⟨by simp,rfl⟩) rfl⟩
 ·rw [af9] at hc
  rw [gH,dc];refine⟨by omega,by omega,?_⟩;have e: (if cap=0 then (some ⟨b,0,none⟩:Option Addr) else Option.map (fun x:Addr=>x.add (0*1)) (some (⟨b,0,none⟩:Addr)))=some ⟨b,0,none⟩:=by
   split
   ·rfl
   ·simp [Addr.add]
  rw [e,af_];refine hk _ (.inr ⟨b,k,cap,l.drop k++sp,by simp,⟨⟨t,fr,?_,hf⟩,?_,?_⟩⟩) rfl
  ·rw [←agc,agE];exact hb
  ·rw [age];omega
  ·rw [←agc,agE,af9];exact hc
theorem zW {H0:ai} {L L' :List It} {v z:Value} {l:List Value} {k:Nat} {K:Value→ai→Prop} (o:ar H0 H L) (dz:It.sl v 1 l∈L) (fG:k<l.length) (hz:aK z=true)
  (jC:aV (.sl v 1 l) (.sl v 1 (iI l k (List.replicate (l.length - k) z))) L L') (hk: ∀H',ar H0 H' L' →K (.tuple #[]) H'):fg 1 v (some (.int .i64 (k:Int))) none fun y=>si H [z] y K:=by
 obtain⟨KY,ho⟩:=o.ok _ dz;rcases ho with ⟨h,rfl⟩ | ⟨b,n,cap,sp,rfl,⟨t,fr,hb,hf⟩,hl,hc⟩
 ·simp at fG
 ·rw [af9] at hc
  have hn:l.length=n:=by omega
  rw [gH,jA];refine⟨by omega,by omega,?_⟩;rw [if_neg (by omega),af_,ahD];have hp:At (.slice (some ⟨b,0,none⟩) n cap) k (.pointer (some ((⟨b,0,none⟩:Addr).add k))):= ⟨_,n,cap,rfl,rfl⟩;obtain⟨a,H',ha,hs,o',kg⟩:=o.put (new:=List.replicate (l.length - k) z) hp dz (by rw [agF];omega) (by rw [ahu];intro x hx;rw [List.mem_replicate] at hx;rw [hx.2];exact hz) jC;simp only [Value.pointer.injEq,agf] at ha;show (match eA H ((⟨b,0,none⟩:Addr).add (k*1)) 0 (eJ [z] (n - k)) with|some H' =>K (.tuple #[]) H' |none=>False);rw [agh,ya,ha,←hn,hs];exact hk H' o'
variable {H0:ai} {L M:List It} {l:List Int} {i:Int} {ib:Nat} {ti:TypeId}
theorem zX {k:Int} (o:ar H0 H L) (hb:It.box ib [.int .i64 i] ti∈L) (h:R (.bool (decide (k=i))) H):ab 200 #[.int .i64 k,.pointer (some ⟨ib,0,none⟩)] H R:=by
 refine ru.vc _ _ _ _ ?_;refine o.aw hb rfl ?_;rw [bc];exact h
theorem Gx (o:ar H0 H L) (dz:It.sl v 1 (aH l)∈L) (hb:It.box ib [.int .i64 i] ti∈L) (hlen:l.length≤1000000) (nt:i∉l→R (.int .i64 (-1)) H) (rL: ∀k:Nat,k<l.length→l[k]? =some i→(∀z∈l.take k,z≠i)→R (.int .i64 (k:Int)) H):
  ab 240 #[v,.func (.func 200) #[] #[.pointer (some ⟨ib,0,none⟩)]] H R:=by
 have dI: (aH l).length=l.length*1:=by rw [aL];omega
 refine dq.vc _ _ _ _ ?_;refine(o.sl dz).len dI (by decide) ?_;refine⟨fun i2 H' => ∃k:Nat,i2= .int .i64 k∧k≤l.length∧(∀z∈l.take k,z≠i)∧H=H',fun i _=>match i with| .int _ x=> (10000000 - x).toNat|_=>0,⟨0,rfl,by omega,by simp,rfl⟩,?_⟩;rintro _ _ _ ⟨k,rfl,hk,gl,rfl⟩;rw [aN];refine av (fun hc=>?_) (fun hc=>?_)
 ·have dV:k<l.length:=by omega
  refine(o.sl dz).at_ dI (by decide) (by omega) (by omega) fun p hp=>?_;refine hp.load (o.sl dz) (w:= .int .i64 l[k]) (by rw [af_,agh,bM dV]) ?_;refine tP (by kernel_rfl) ?_;refine zX o hb ?_;refine av (fun he=>?_) (fun he=>?_)
  ·exact rL k dV (by rw [agb dV,he]) gl
  ·rw [az,ba (n:= (k:Int)+1) (by omega) (by omega)]
   refine⟨⟨k+1,rfl,by omega,fun z hz=>?_,rfl⟩,by show (_:Int).toNat< (_:Int).toNat;omega⟩;rw [agz,agb dV] at hz;rcases agv.1 hz with g|g
   ·exact gl z g
   ·simp at g;rw [g];exact he
 ·have:k=l.length:=by omega
  rw [this,agr] at gl;exact nt fun h=>gl i h rfl
def others (l:List Int) (i:Int):List Int:=l.filter fun z=>decide (z≠i)
theorem zY {l:List Int} (h: ∀z∈l,z≠i):others l i=l:=List.filter_eq_self.2 fun z hz=>decide_eq_true (h z hz)
theorem wq {l:List Int} {k:Nat} (h:k<l.length):others (l.take (k+1)) i=others (l.take k) i++ (if l[k]=i then [] else [l[k]]):=by
 unfold others;rw [agz,agb h,aiO]
 congr 1
 show List.filter _ [l[k]]=_;rw [ain,ajd]
 by_cases he:l[k]=i
 ·rw [if_pos he,decide_eq_false (fun g=>g he)];rfl
 ·rw [if_neg he,decide_eq_true he];rfl
theorem B3 (o:ar H0 H L) (dz:bw (.sl v 1 (aH l)) L M) (hb:It.box ib [.int .i64 i] ti∈M) (hlen:l.length≤1000000) (hk: ∀y H',ar H0 H' (.sl y 1 (aH (others l i))::M)→R y H'):
  ab 199 #[v,.func (.func 200) #[] #[.pointer (some ⟨ib,0,none⟩)]] H R:=by
 have dI: (aH l).length=l.length*1:=by rw [aL];omega
 have o:=o.front dz;refine kA.vc _ _ _ _ ?_;refine Gx o (by repeat(first|exact af8|apply af7)) (af7 _ hb) hlen (fun nt=>?_) (fun k fG SM zG=>?_)
 ·rw [bc,decide_eq_true (by rfl),aD]
  refine hk v H ?_;rw [zY (fun z hz e=>nt (by rw [←e];exact hz))];exact o
 rw [bc,decide_eq_false (by omega),aj,az,ba (n:= (k:Int)+1) (by omega) (by omega)];have ZS:others (l.take (k+1)) i=l.take k:=by
  obtain⟨g1,g2⟩:=agD.1 SM;rw [wq g1,if_pos g2,agy,zY zG]
 refine⟨fun i5 j6 H' => ∃ (j:Nat) (x:List Int),j6= .int .i64 (j:Int)∧j≤l.length∧i5= .int .i64 ((others (l.take j) i).length:Int)∧(others (l.take j) i).length<j∧x.length=l.length∧x.take (others (l.take j) i).length=others (l.take j) i∧x.drop j=l.drop j∧ar H0 H' (.sl v 1 (aH x)::M),fun _ j _=>match j with| .int _ x=> (10000000 - x).toNat|_=>0,⟨k+1,l,by simp,by omega,by rw [ZS,age];congr 1;omega,by rw [ZS,age];omega,rfl,by rw [ZS,age,ag2 (by omega)],rfl,o⟩,?_⟩;clear o;rintro _ _ _ H4 ⟨j,x,rfl,hj,rfl,cF,JQ,kr,kO,o⟩;have ZT: (aH x).length=l.length*1:=by rw [aL,JQ];omega
 refine(o.sl (v:=v) (by repeat(first|exact af8|apply af7))).len ZT (by decide) ?_;rw [aN];refine av (fun hc=>?_) (fun hc=>?_)
 ·have Aw:j<l.length:=by omega
  have hxj:x[j]? =some l[j]:=by
   have:=congrArg (fun y=>y[0]?) kO;simp only [ag7,agL] at this;rw [this,agb Aw]
  have PR:x.drop (j+1)=l.drop (j+1):=by
   rw [←ahc,←ahc,kO]
  have R1:=wq (i:=i) Aw;refine⟨fun i5 H' => ∃x:List Int,i5= .int .i64 ((others (l.take (j+1)) i).length:Int)∧(others (l.take (j+1)) i).length<j+1∧x.length=l.length∧x.take (others (l.take (j+1)) i).length=others (l.take (j+1)) i∧x.drop (j+1)=l.drop (j+1)∧ar H0 H' (.sl v 1 (aH x)::M),?_,?_⟩
  ·rintro _ _ H5 ⟨x2,rfl,g1,g2,g3,g4,o⟩
   rw [az,ba (n:= (j:Int)+1) (by omega) (by omega)];exact⟨⟨j+1,x2,by simp,by omega,rfl,g1,g2,g3,g4,o⟩,by show (_:Int).toNat< (_:Int).toNat;omega⟩
  refine(o.sl (v:=v) (by repeat(first|exact af8|apply af7))).at_ ZT (by decide) (by omega) (by omega) fun p hp=>?_;refine hp.load (o.sl (v:=v) (by repeat(first|exact af8|apply af7))) (w:= .int .i64 l[j]) (by rw [af_,agh];unfold aH;rw [agu,hxj];rfl) ?_;refine tP (by kernel_rfl) ?_;refine zX o (af7 _ hb) ?_;rw [db];refine cy (fun df=>?_) (fun he=>?_)
  ·have df:l[j]≠i:=by simpa using df
   rw [if_neg df] at R1;generalize hF:others (l.take j) i=F at*;rw [R1];have hFl:F.length<x.length:=by omega
   refine(o.sl (v:=v) (by repeat(first|exact af8|apply af7))).at_ ZT (by decide) (by omega) (by omega) fun p hp=>?_;refine o.store hp (by repeat(first|exact af8|apply af7)) (by rw [aL];omega) rfl (by repeat(first|exact aV.here|apply aV.there)) fun H5 o _=>?_;rw [af_,agh,iD] at o;rw [az,ba (n:= (F.length:Int)+1) (by omega) (by omega)];refine⟨x.set F.length l[j],by simp,by simp;omega,by rw [ag8];exact JQ,?_,?_,o⟩
   ·rw [af9,aii,agz,ahC hFl,ajv (aga _),kr]
    rfl
   ·rw [List.drop_set_of_lt (by omega)];exact PR
  ·have he:l[j]=i:=by simpa using he
   rw [if_pos he,agy] at R1;rw [R1];exact⟨x,rfl,by omega,JQ,kr,PR,o⟩
 ·have Aw:j=l.length:=by omega
  subst Aw;rw [agr] at kr cF;rw [agr];generalize hF:others l i=F at*;refine zW o (k:=F.length) (by repeat(first|exact af8|apply af7)) (by rw [aL];omega) rfl (by repeat(first|exact aV.here|apply aV.there)) fun H5 o=>?_;have y5: (iI (aH x) F.length (List.replicate ((aH x).length - F.length) (Value.int .i64 0))).length=l.length:=by rw [xY,aL,JQ]
  refine Pt (o.own (v:=v) (by repeat(first|exact af8|apply af7))) (by rw [y5];omega) fun y hy hby=>?_;have e: (iI (aH x) F.length (List.replicate ((aH x).length - F.length) (Value.int .i64 0))).take F.length=aH F:=by
   have Cy:aH x= (aH x).take F.length++ (aH x).drop F.length:= (agE _ _).symm;have P3: ((aH x).take F.length).length=F.length:=by rw [age,aL];omega
   have e2:=mF (List.replicate ((aH x).length - F.length) (Value.int .i64 0)) ((aH x).take F.length) ((aH x).drop F.length) (by rw [agF,agl];omega);rw [P3,agE] at e2;rw [e2,agc,ahl (by omega),agx (by omega),rG,kr]
  rw [e] at hy;refine hk y H5 ?_;exact o.eX (i' := .sl y 1 (aH F)) aV.here (aga _) (fun k _ _=>rfl) ⟨by decide,hy⟩ (fun k hk=> .inl (by show aS v=some k;rw [←hby];exact hk))
end
end Go.Proofs.YtpcgccdmmoggmaaGreatDoor
namespace Go.Vc
open Go
section
theorem Gy {z n:Int} (hn:0<n):0≤(z.tmod n+n).tmod n∧(z.tmod n+n).tmod n<n:=by
 have h1: -n<z.tmod n:=by
  have:=Int.lt_tmod_of_pos z hn;omega
 have h2:=Int.tmod_lt_of_pos z hn;rw [ahy (by omega)];exact⟨aio _ (by omega),aiH _ hn⟩
theorem Ji {z n:Int} (hn:0<n): -n<z.tmod n∧z.tmod n<n:= ⟨by have:=Int.lt_tmod_of_pos z hn;omega,Int.tmod_lt_of_pos z hn⟩
end
end Go.Vc
