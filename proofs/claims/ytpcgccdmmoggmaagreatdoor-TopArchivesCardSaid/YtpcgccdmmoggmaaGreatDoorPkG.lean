/- Part 7 of the proof of RowTopArchives: what it is built on, in the order of its needs. -/
import Derived.Test.YtpcgccdmmoggmaaGreatDoorPkF
set_option linter.unusedSimpArgs false
set_option linter.unusedVariables false
namespace Go.Proofs.YtpcgccdmmoggmaaGreatDoor
open Go Go.Vc Go.Proofs
section
set_option maxHeartbeats 4000000
set_option maxRecDepth 100000
variable [Go.Vc.Mode] (H0:ag) (R:Value→ag→Prop)
theorem p_.vc (a b c:Value) (h:
 bD H0 23 b fun b d=>ab 6 #[] d fun d e=>d_ d fun d=>aq d (R (.bool false) e) (ab 7 #[a] e fun a d=> ∃ (e:Value→ag→Prop) (f:Value→ag→Nat),e (.int .i64 0) d∧∀ (_:Env) (d:Value) (g:ag),e d g→b_ d (.int .i64 2) fun h=>aq h (eJ 2 1 b d fun b=>ao g b fun b=>cK .and b (.int .i64 15) fun b=>aB b (.int .i64 10) fun b=>jU b (.int .i64 10) fun b=>ab 8 #[a,b] g fun b h=>ar 0 b fun i=>ar 1 b fun b=>ab 9 #[i] h fun h j=>ar 0 h fun k=>ar 1 h fun h=>eW 0 b (.int .i64 0) fun b=>ej b (fun b=>d_ h fun h=>b h j) j fun b h=> ∀_:Env,ej b (fun b=>bK k fun j=>bK a fun l=>eW 0 j l fun j=>b j h) h fun b h=> ∀_:Env,ej b (fun b=>ab 10 #[a,i] h fun j l=>d_ j fun j=>b j l) h fun b h=> ∀_:Env,aq b (R (.bool false) h) (ab 11 #[] h fun b h=>cK .and c (.int .i64 127) fun c=>aB (.int .i64 1) c fun c=> ∃ (j:Value→Value→ag→Prop) (l:Value→Value→ag→Nat),j (.slice none 0 0) (.int .i64 0) h∧∀ (_:Env) (h m:Value) (n:ag),j h m n→aT i fun o=>b_ m o fun o=>aq o (aB m c fun o=>aT i fun p=>jA o p fun o=>bd i (some m) (some o) fun i=>ab 12 #[b,i] n fun i o=>ar 0 i fun p=>ar 1 i fun i=>eW 0 i (.int .i64 0) fun i=>aq i (R (.bool false) o) (bK p fun i=> ∃ (q:Value→Value→ag→Prop) (r:Value→Value→ag→Nat),q h (.int .i64 0) o∧∀ (_:Env) (o s:Value) (t:ag),q o s t→b_ s i fun i=>aq i (aK 14 p s fun i=>aF t 14 i fun i=>bD t 46 (.agg #[(.int .i64 0),(str []),(.int .i64 0),(.int .i64 0),(.int .i64 0),(.int .i64 0),(.int .i64 0),(.int .i64 0),(.int .u64 0),(.int .u64 0),(.int .u32 0),(.int .u64 0),(.bool false),(str [])]) fun p u=>aH u 14 p i fun _ i=>aa 0 p fun u=>ao i u fun u=>cd 0 u (.int .i64 1) fun v=>aq v (aa 1 p fun v=>aa 0 v fun v=>ao i v fun v=>aa 1 p fun w=>aa 1 w fun w=>aF i 6 w fun w=>aW [(str []),(.int .i64 0),(.int .i64 0),(.int .i64 0),(.int .i64 0),(.int .i64 0),(.int .i64 0),(str [])] [(0,1,v),(1,6,w)] fun v=>aU i 48 1 [(str []),(.int .i64 0),(.int .i64 0),(.int .i64 0),(.int .i64 0),(.int .i64 0),(.int .i64 0),(str [])] [(0,8,v)] fun v w=>a7 w 48 8 80 [(str []),(.int .i64 0),(.int .i64 0),(.int .i64 0),(.int .i64 0),(.int .i64 0),(.int .i64 0),(str [])] o v fun v w=>aB s (.int .i64 1) fun x=>q v x w∧r v x w<r o s t) (cd 0 u (.int .i64 2) fun u=>aq u (bK o fun u=>bR u (.int .i64 1) fun u=>aK 8 o u fun v=>aa 7 v fun v=>ao i v fun v=>aa 13 p fun p=>ao i p fun p=>aB v p fun p=>aK 8 o u fun u=>aa 7 u fun u=>aI i u p fun _ p=>aB s (.int .i64 1) fun u=>q o u p∧r o u p<r o s t) (aB s (.int .i64 1) fun p=>q o p i∧r o p i<r o s t))) (aB m c fun c=>j o c t∧l o c t<l h m n))) (ab 13 #[b] n fun b c=>d_ b fun b=>ej b (fun b=>bK h fun i=>bK a fun j=>eW 0 i j fun i=>b i c) c fun b c=> ∀_:Env,aq b (R (.bool false) c) (∃ (b:Value→ag→Prop) (i:Value→ag→Nat),b (.int .i64 0) c∧∀ (_:Env) (c:Value) (j:ag),b c j→bK a fun l=>b_ c l fun l=>aq l (aK 8 h c fun h=>aF j 8 h fun h=>aK 8 a c fun l=>aF j 8 l fun l=>FL [1,0,0,0,0,0,0,1] h l fun h=>ej h (fun h=>aK 8 k c fun l=>aa 0 l fun l=>ao j l fun l=>aK 8 a c fun m=>aa 0 m fun m=>ao j m fun m=>eW 1 l m fun l=>h l j) j fun h l=> ∀_:Env,ej h (fun h=>aK 8 k c fun k=>aa 7 k fun k=>ao l k fun k=>aK 8 a c fun a=>aa 7 a fun a=>ao l a fun a=>eW 1 k a fun a=>h a l) l fun a h=> ∀_:Env,aq a (R (.bool false) h) (aB c (.int .i64 1) fun a=>b a h∧i a h<i c j)) (aB d (.int .i64 1) fun a=>e a j∧f a j<f d g))))) (R (.bool true) g))):ab 3 #[a,b,c] H0 R:=bI 0x101a3939001a504a01b2f42e22e52d01b1a41921a04121168bfffffff533fffffff51123111211389fff531fff5112311216850012004b23630054a3581eb01e06302d1761a001a50190544324041334929001d0411121011211001d252a1b952a62a4a6300531a481990501e3019f01e2763a001a52a328a630054a379680121070650101e2761a34a1a2a001a502a041e41d21d51c0574626550234223041337a1da630052a32af4111a10640181761a33a001a52a32a Tryz.func3 h
theorem sD.vc (h:
 aW [(.int .i64 0),(.int .i64 0),(.int .i64 0),(.int .i64 0),(.int .i64 0),(.int .i64 0)] [(0,1,(.int .i64 1980)),(1,1,(.int .i64 1)),(2,1,(.int .i64 1))] fun a=>aW [(str []),(.int .i64 0),(.int .i64 0),(.int .i64 0),(.int .i64 0),(.int .i64 0),(.int .i64 0),(str [])] [(0,1,(str [97])),(1,6,a),(7,1,(str [120]))] fun a=>aU H0 48 1 [(str []),(.int .i64 0),(.int .i64 0),(.int .i64 0),(.int .i64 0),(.int .i64 0),(.int .i64 0),(str [])] [(0,8,a)] fun a b=>ab 8 #[a,(.int .i64 6)] b fun b c=>ar 0 b fun d=>ar 1 b fun b=>ab 28 #[] c fun c e=>bE c (fun c=>cd 0 b (.int .i64 0) fun b=>c b e) e fun b c=> ∀_:Env,bE b (fun b=>ab 10 #[a,d] c fun a d=>b a d) c fun a b=> ∀_:Env,R a b):ab 6 #[] H0 R:=bI 0x1001a519036452554022412204137a4a1a Tryz.func6 h
theorem wX.vc (a:Value) (h:
 ∃ (b:Value→Value→ag→Prop) (c:Value→Value→ag→Nat),b (.slice none 0 0) (.int .i64 0) H0∧∀ (_:Env) (d e:Value) (f:ag),b d e f→bK a fun g=>b_ e g fun g=>bE g (fun g=>b_ e (.int .i64 5) fun h=>g h f) f fun g h=> ∀_:Env,aq g (aK 2 a e fun g=>aa 0 g fun g=>ao h g fun g=>IU g (.int .i64 0) fun g=>jU g (.int .i64 2019643200) fun g=>ab 29 #[g] h fun g i=>ar 0 g fun j=>ar 1 g fun _=>bD i 40 (.agg #[(.int .i64 0),(.int .i64 0),(.int .i64 0),(.int .i64 0),(.int .i64 0),(.int .i64 0)]) fun g i=>aH i 6 g j fun _ i=>aB (.int .i64 97) e fun j=>bf .u8 j fun j=>aF i 6 g fun k=>aK 2 a e fun l=>aa 1 l fun l=>ao i l fun m=>aK 2 a e fun a=>aa 1 a fun a=>ao i a fun n=>aT n fun o=>jA o (.int .i64 400) fun o=>bd m none (some o) fun o=>aU i 5 1 [(.int .u8 0)] [(0,1,j)] fun i j=> (aF j 6 g fun g=>g=k)∧(ao j l fun g=>g=m)∧(ao j a fun a=>a=n)∧fR j i fun a=>aB a (str [47,102,105,108,101]) fun a=>aW [(str []),(.int .i64 0),(.int .i64 0),(.int .i64 0),(.int .i64 0),(.int .i64 0),(.int .i64 0),(str [])] [(0,1,a),(1,6,k),(7,1,o)] fun a=>aU j 48 1 [(str []),(.int .i64 0),(.int .i64 0),(.int .i64 0),(.int .i64 0),(.int .i64 0),(.int .i64 0),(str [])] [(0,8,a)] fun a g=>a7 g 48 8 80 [(str []),(.int .i64 0),(.int .i64 0),(.int .i64 0),(.int .i64 0),(.int .i64 0),(.int .i64 0),(str [])] d a fun a g=>aB e (.int .i64 1) fun i=>b a i g∧c a i g<c d e f) (R d h)):ab 7 #[a] H0 R:=bI 0x102a39042d4254291c73411e744041217fffffe53fffc885111168888500111c88500011111003921ea63005070254425041336831131761a31a1a Tryz.func7 h
theorem vp.vc (h:
 bD H0 141 (.agg #[(.slice none 0 0),(.int .u64 0),(.int .i64 0)]) fun a b=>aW [(.int .u8 0),(.int .i64 0),(.int .i64 0)] [(0,1,(.int .u8 97))] fun c=>aU b 145 1 [(.int .u8 0),(.int .i64 0),(.int .i64 0)] [(0,3,c)] fun b c=>ab 69 #[a,(.int .i64 2),(.bool true),(str [97]),b] c fun b c=>ab 70 #[a] c fun _ c=>ab 72 #[a] c fun a c=>ab 71 #[a] c fun a c=>ar 0 a fun d=>ar 1 a fun e=>ar 2 a fun a=>cd 0 b (.int .i64 0) fun b=>bE b (fun b=>cd 0 a (.int .i64 0) fun a=>b a c) c fun a b=> ∀_:Env,bE a (fun a=>cd 1 d (str [97]) fun c=>a c b) b fun a b=> ∀_:Env,bE a (fun a=>cd 1 e (str []) fun c=>a c b) b fun a b=> ∀_:Env,R a b):ab 28 #[] H0 R:=bI 0x1001e51d021b41a21a5190274626550234223041319a1a4a1a1a Tryz.func28 h
theorem E6.vc (a b:Value) (h:
 ab 18 #[a,b] H0 fun a b=>ar 0 a fun c=>ar 1 a fun a=>ab 30 #[c,(str [])] b fun b c=>R (.tuple #[b,a]) c):ab 8 #[a,b] H0 R:=bI 0x105a18a2a Tryz.func8 h
theorem Cx.vc (a b:Value) (h:
 b_ b (.int .i64 0) fun c=>ej c (fun c=>ef b (.int .i64 9) fun b=>c b H0) H0 fun b c=> ∀_:Env,aq b (R (.tuple #[(.int .i64 0),(.int .i64 1)]) c) (bK a fun b=> ∃ (d:Value→Value→ag→Prop) (e:Value→Value→ag→Nat),d (.slice none 0 0) (.int .i64 0) c∧∀ (_:Env) (c f:Value) (g:ag),d c f g→b_ f b fun b=>aq b (aK 8 a f fun b=>aF g 8 b fun b=>bD g 48 (.agg #[(str []),(.int .i64 0),(.int .i64 0),(.int .i64 0),(.int .i64 0),(.int .i64 0),(.int .i64 0),(str [])]) fun h i=>aH i 8 h b fun _ b=>aa 0 h fun h=>ao b h fun h=>aU b 9 1 [(str [])] [(0,1,h)] fun b h=>a7 h 9 1 16 [(str [])] c b fun b h=>aB f (.int .i64 1) fun i=>d b i h∧e b i h<e c f g) (ab 93 #[c] g fun b c=>ar 0 b fun d=>ar 1 b fun b=>eW 0 b (.int .i64 0) fun e=>aq e (R (.tuple #[d,b]) c) (bK a fun b=> ∃ (d:Value→ag→Prop) (e:Value→ag→Nat),d (.int .i64 0) c∧∀ (_:Env) (c:Value) (f:ag),d c f→b_ c b fun b=>aq b (aK 8 a c fun b=>aF f 8 b fun b=>bD f 48 (.agg #[(str []),(.int .i64 0),(.int .i64 0),(.int .i64 0),(.int .i64 0),(.int .i64 0),(.int .i64 0),(str [])]) fun g h=>aH h 8 g b fun _ b=>aa 1 g fun g=>aF b 6 g fun g=>ab 94 #[g] b fun b g=>d_ b fun b=>aq b (R (.tuple #[c,(.int .i64 13)]) g) (aB c (.int .i64 1) fun b=>d b g∧e b g<e c f)) (bK a fun b=> ∃ (c:Value→Value→ag→Prop) (d:Value→Value→ag→Nat),c (.int .i64 0) (.int .i64 0) f∧∀ (_:Env) (e f:Value) (g:ag),c e f g→b_ f b fun b=>aq b (aK 8 a f fun a=>aF g 8 a fun a=>bD g 48 (.agg #[(str []),(.int .i64 0),(.int .i64 0),(.int .i64 0),(.int .i64 0),(.int .i64 0),(.int .i64 0),(str [])]) fun b h=>aH h 8 b a fun _ a=>aa 7 b fun b=>ao a b fun b=>aT b fun b=>aB e b fun b=>ef b (.int .i64 1099511627776) fun h=>aq h (R (.tuple #[f,(.int .i64 11)]) a) (aB f (.int .i64 1) fun h=>c b h a∧d b h a<d e f g)) (R (.tuple #[(.int .i64 0),(.int .i64 0)]) g)))))):ab 44 #[a,b] H0 R:=bI 0x102a29003a52a6a6a6300531a1d5a2714305c01d2763a31a29003a54a6a6300531a1a481514305d1763a3004a52a7a329694a6300531a191f01063029062763a31a002a5050234223041332a Tryz.func44 h
theorem HF.vc (a b:Value) (h:
 ab 44 #[a,b] H0 fun c d=>ar 0 c fun _=>ar 1 c fun c=>eW 0 c (.int .i64 0) fun e=>aq e (R (.tuple #[(.pointer none),c]) d) (a7 d 48 8 80 [(str []),(.int .i64 0),(.int .i64 0),(.int .i64 0),(.int .i64 0),(.int .i64 0),(.int .i64 0),(str [])] (.slice none 0 0) a fun a c=>ab 41 #[] c fun c d=>aW [(.slice none 0 0),(.int .i64 0),(.pointer none),(.int .i64 0),(.int .i64 0),(.slice none 0 0),(str []),(.bool false)] [(0,1,a),(1,1,b),(2,1,c)] fun a=>bD d 175 a fun a b=>R (.tuple #[a,(.int .i64 0)]) b)):ab 48 #[a,b] H0 R:=bI 0x1018a003a52a18a32a Tryz.func48 h
theorem vr.vc (a:Value) (h:
 bD H0 111 a fun a b=>R (.func (.func 103) #[] #[a]) b):ab 49 #[a] H0 R:=bI 0x102a2a Tryz.func49 h
theorem tR.vc (a:Value) (h:
 cd 3 a (.pointer none) fun b=>ej b (fun b=>aG a fun c=>aa 6 c fun c=>ao H0 c fun c=>cd 1 c (str []) fun c=>bE c (fun c=>ab 149 #[a] H0 fun d e=>d_ d fun d=>c d e) H0 fun c d=> ∀_:Env,b c d) H0 fun b c=> ∀_:Env,aq b (R (.tuple #[(str []),(.bool false)]) c) (aG a fun b=>aa 6 b fun b=>ao c b fun b=>aT b fun b=>jA b (.int .i64 256) fun b=>aG a fun d=>aa 6 d fun d=>ao c d fun d=>bd d none (some b) fun d=>aG a fun e=>aa 6 e fun e=>ao c e fun e=>bd e (some b) none fun b=>aG a fun a=>aa 6 a fun a=>aI c a b fun _ a=>R (.tuple #[d,(.bool true)]) a)):ab 104 #[a] H0 R:=bI 0x103a1aa7a7a002a501d01c03194182634223041332a Tryz.func104 h
theorem jG.vc (a:Value) (h:
 aG a fun b=>aa 3 b fun b=>ao H0 b fun b=>aG a fun c=>aa 0 c fun c=>ao H0 c fun c=>bK c fun c=>b_ b c fun b=>aq b (ab 198 #[a] H0 fun b c=>aG a fun d=>aa 6 d fun d=>aI c d b fun _ b=>R (.bool true) b) (aG a fun b=>aa 7 b fun b=>ao H0 b fun b=>d_ b fun b=>aq b (aG a fun b=>aa 7 b fun b=>aI H0 b (.bool true) fun _ b=>aG a fun c=>aa 5 c fun c=>ao b c fun c=>ab 45 #[c] b fun b c=>aG a fun a=>aa 6 a fun a=>aI c a b fun _ a=>R (.bool true) a) (R (.bool false) H0))):ab 149 #[a] H0 R:=bI 0x101a01a1994a56a69501b04121111011101b23631a Tryz.func149 h
theorem tS.vc (a:Value) (h:
 aG a fun b=>aa 0 b fun b=>ao H0 b fun c=>aG a fun d=>aa 3 d fun d=>ao H0 d fun e=>aK 8 c e fun f=>aF H0 8 f fun g=>bD H0 48 (.agg #[(str []),(.int .i64 0),(.int .i64 0),(.int .i64 0),(.int .i64 0),(.int .i64 0),(.int .i64 0),(str [])]) fun h i=> (ao i b fun b=>b=c)∧(ao i d fun b=>b=e)∧(aF i 8 f fun b=>b=g)∧aH i 8 h g fun _ b=>aG a fun c=>aa 3 c fun c=>ao b c fun c=>aB c (.int .i64 1) fun c=>aG a fun d=>aa 3 d fun d=>aI b d c fun _ b=>aa 0 h fun c=>ao b c fun d=>aa 1 h fun e=>aF b 6 e fun f=>aG a fun g=>aa 4 g fun g=>ao b g fun i=>bf .u64 i fun j=>aa 7 h fun k=>ao b k fun l=>cd 1 l (str []) fun m=>aW [(str []),(.int .i64 0),(.int .i64 0),(.int .i64 0),(.int .i64 0),(.int .i64 0),(.int .i64 0),(.int .u64 0),(.int .u64 0),(.int .u32 0),(.int .u64 0),(.bool false)] [(0,1,d),(1,6,f),(10,1,j),(11,1,m)] fun j=>bD b 44 (.agg #[(str []),(.int .i64 0),(.int .i64 0),(.int .i64 0),(.int .i64 0),(.int .i64 0),(.int .i64 0),(.int .u64 0),(.int .u64 0),(.int .u32 0),(.int .u64 0),(.bool false)]) fun b m=> (ao m c fun c=>c=d)∧(aF m 6 e fun c=>c=f)∧(ao m g fun c=>c=i)∧(ao m k fun c=>c=l)∧aH m 12 b j fun _ c=> ∃d:Value→ag→Prop,(∀ (_:Env) (e:Value) (f:ag),d e f→aT e fun g=>bf .u64 g fun g=>aa 7 h fun i=>ao f i fun j=>aT j fun k=>bf .u64 k fun k=>aa 7 b fun l=>aI f l g fun _ f=> (ao f i fun g=>g=j)∧aa 8 b fun g=>aI f g k fun _ f=>aG a fun g=>aa 5 g fun g=>ao f g fun i=>aF f 12 b fun j=>aU f 44 1 [(str []),(.int .i64 0),(.int .i64 0),(.int .i64 0),(.int .i64 0),(.int .i64 0),(.int .i64 0),(.int .u64 0),(.int .u64 0),(.int .u32 0),(.int .u64 0),(.bool false)] [(0,12,j)] fun f j=> (ao j g fun g=>g=i)∧a7 j 44 12 104 [(str []),(.int .i64 0),(.int .i64 0),(.int .i64 0),(.int .i64 0),(.int .i64 0),(.int .i64 0),(.int .u64 0),(.int .u64 0),(.int .u32 0),(.int .u64 0),(.bool false)] i f fun f g=>aG a fun i=>aa 5 i fun i=>aI g i f fun _ f=>aF f 12 b fun g=>aF f 12 b fun i=>ab 96 #[g] f fun f g=> (aF g 12 b fun j=>j=i)∧aB f e fun e=>ab 97 #[i] g fun f g=>aB e f fun e=>aG a fun f=>aa 4 f fun f=>ao g f fun f=>aT e fun i=>aB f i fun f=>aG a fun i=>aa 4 i fun i=>aI g i f fun _ f=>R e f)∧aa 11 b fun e=>ao c e fun e=>d_ e fun e=>aq e (aa 7 h fun e=>ao c e fun e=>aG a fun f=>aa 1 f fun f=>ao c f fun f=>ab 239 #[e,f] c fun e f=>ar 0 e fun g=>ar 1 e fun _=>aG a fun a=>aa 2 a fun a=>ao f a fun a=>aa 7 h fun e=>ao f e fun e=>ab 57 #[a,e] f fun a e=>aa 9 b fun b=>aI e b a fun _ a=>d g a) (d (str []) c)):ab 198 #[a] H0 R:=bI 0x102a1aa0354354111452505122b5020101823047441616041121fe510111001b23021944118118041217511101101b2300190411210111019201b047ff531121110101b2353a2c3f05205141a01e51a73141d11d042021101111010101f2318a01b5197331a11a042012111011101c231a Tryz.func198 h
theorem wY.vc (a:Value) (h:
 ab 31 #[a] H0 fun b c=>ar 0 b fun d=>ar 1 b fun e=>ar 2 b fun f=>ar 3 b fun b=>d_ b fun b=>ej b (fun b=>aT a fun g=>bf .u64 g fun g=>ef f g fun g=>b g c) c fun b c=> ∀_:Env,ej b (fun b=>aT a fun g=>bf .u64 g fun g=>bR g f fun g=>ef e g fun g=>b g c) c fun b c=> ∀_:Env,ej b (fun b=>ab 32 #[d,e,f] c fun g h=>aT g fun g=>aT a fun i=>aB f e fun j=>bf .i64 j fun j=>bR i j fun i=>eW 0 g i fun g=>b g h) c fun b c=> ∀_:Env,aq b (R (.tuple #[(.slice none 0 0),(.bool false)]) c) (bf .i64 f fun b=> ∃ (g:Value→Value→Value→ag→Prop) (h:Value→Value→Value→ag→Nat),g (.slice none 0 0) b (.int .i64 0) c∧∀ (_:Env) (b c i:Value) (j:ag),g b c i j→aB f e fun k=>bf .i64 k fun k=>b_ c k fun k=>aq k (aB f e fun k=>bf .i64 k fun k=>bd a none (some k) fun k=>ab 33 #[k,c] j fun k l=>ar 0 k fun m=>ar 1 k fun k=>bD l 88 (.agg #[(str []),(.int .i64 0),(.int .i64 0),(.int .i64 0),(.int .i64 0),(.int .i64 0),(.int .i64 0),(.int .u64 0),(.int .u64 0),(.int .u32 0),(.int .u64 0),(.bool false)]) fun l n=>aH n 12 l m fun _ m=>cd 0 k (.int .i64 0) fun n=>ej n (fun n=>aa 10 l fun o=>ao m o fun o=>bf .u64 i fun p=>eW 0 o p fun o=>n o m) m fun m n=> ∀_:Env,aq m (R (.tuple #[(.slice none 0 0),(.bool false)]) n) (aB c k fun k=>aF n 12 l fun m=>aF n 12 l fun o=>ab 34 #[m] n fun m n=> (aF n 12 l fun p=>p=o)∧ab 35 #[o] n fun n o=>aa 7 l fun p=>ao o p fun p=>aT a fun q=>bf .u64 q fun q=>ef p q fun p=>ej p (fun p=>aT m fun q=>aB i q fun q=>aa 7 l fun r=>ao o r fun r=>bf .i64 r fun r=>aB q r fun q=>aT n fun r=>aB q r fun q=>bf .i64 f fun r=>ef q r fun q=>p q o) o fun o p=> ∀_:Env,aq o (R (.tuple #[(.slice none 0 0),(.bool false)]) p) (aT m fun o=>aB i o fun o=>aa 7 l fun q=>ao p q fun q=>bf .i64 q fun q=>aB o q fun o=>aT n fun q=>aB o q fun o=>bd a (some i) (some o) fun a=>aT a fun o=>aB i o fun o=>aT m fun q=>bd a none (some q) fun q=>eW 1 q m fun q=>ej q (fun q=>aT a fun r=>aT n fun s=>bR r s fun r=>bd a (some r) none fun r=>eW 1 r n fun r=>q r p) p fun p q=> ∀_:Env,aq p (R (.tuple #[(.slice none 0 0),(.bool false)]) q) (aT m fun m=>aT a fun p=>aT n fun n=>bR p n fun n=>bd a (some m) (some n) fun a=>aa 11 l fun m=>ao q m fun m=>ab 36 #[a,m] q fun a m=>ar 0 a fun n=>ar 1 a fun a=>d_ a fun a=>ej a (fun a=>aT n fun p=>bf .u64 p fun p=>aa 8 l fun q=>ao m q fun q=>eW 0 p q fun p=>a p m) m fun a m=> ∀_:Env,ej a (fun a=>aa 9 l fun p=>ao m p fun q=>ab 37 #[(.int .u32 0),n] m fun r s=> (ao s p fun p=>p=q)∧eW 0 r q fun p=>a p s) m fun a m=> ∀_:Env,aq a (R (.tuple #[(.slice none 0 0),(.bool false)]) m) (∃ (a:Value→ag→Prop) (p:Value→ag→Nat),a (.int .i64 0) m∧∀ (_:Env) (m:Value) (q:ag),a m q→bK b fun r=>b_ m r fun r=>aq r (aK 8 b m fun r=>aa 0 r fun r=>ao q r fun r=>aa 0 l fun s=>ao q s fun s=>cd 1 r s fun r=>ej r (fun r=>aK 8 b m fun s=>aa 0 s fun s=>ao q s fun s=>aa 0 l fun t=>ao q t fun t=>ab 38 #[s,t] q fun s t=>r s t) q fun r s=> ∀_:Env,ej r (fun r=>aa 0 l fun t=>ao s t fun t=>aK 8 b m fun u=>aa 0 u fun u=>ao s u fun u=>ab 38 #[t,u] s fun t u=>r t u) s fun r s=> ∀_:Env,aq r (R (.tuple #[(.slice none 0 0),(.bool false)]) s) (aB m (.int .i64 1) fun r=>a r s∧p r s<p m q)) (aa 0 l fun a=>ao q a fun a=>aa 1 l fun l=>aF q 6 l fun l=>aW [(str []),(.int .i64 0),(.int .i64 0),(.int .i64 0),(.int .i64 0),(.int .i64 0),(.int .i64 0),(str [])] [(0,1,a),(1,6,l),(7,1,n)] fun a=>aU q 51 1 [(str []),(.int .i64 0),(.int .i64 0),(.int .i64 0),(.int .i64 0),(.int .i64 0),(.int .i64 0),(str [])] [(0,8,a)] fun a l=>a7 l 51 8 80 [(str []),(.int .i64 0),(.int .i64 0),(.int .i64 0),(.int .i64 0),(.int .i64 0),(.int .i64 0),(str [])] b a fun a l=>g a k o l∧h a k o l<h b c i j)))))) (bK b fun a=>bf .u64 a fun a=>cd 0 a d fun a=>bE a (fun a=>aB f e fun d=>bf .i64 d fun d=>cd 0 c d fun c=>a c j) j fun a c=> ∀_:Env,bE a (fun a=>bf .i64 f fun d=>cd 0 i d fun d=>a d c) c fun a c=> ∀_:Env,R (.tuple #[b,a]) c))):ab 9 #[a] H0 R:=bI 0x10022c42b041f41e21e51d067462704131a939002a503b0182b42a22a5290181941821904121139ffffff531ffffff51111217ff5112311210112003c23630054a3492cc01e12302a1761a3002a502801f51e11c121d41b51a21a5190634223041213fff511112175111110292330290423ffff531121021f8510101002923002a502801974627041335a1fa002a502d01e74627041330334211125051120106234a002a50180534223041331ea60056a32cc5a1a412321817634a1a002a504801d2b42a22a529071a4192195180534223041331ba2a Tryz.func9 h
theorem wZ.vc (a:Value) (h:
 ∃b:ag→Prop,(∀ (_:Env) (c:ag),b c→aT a fun d=>b_ d (.int .i64 22) fun d=>aq d (R (.tuple #[(.int .u64 0),(.int .u64 0),(.int .u64 0),(.bool false)]) c) (aT a fun d=>bR d (.int .i64 22) fun d=>bd a (some d) none fun d=>ab 77 #[d,(.int .i64 8),(.int .i64 2)] c fun c e=>ab 77 #[d,(.int .i64 12),(.int .i64 4)] e fun e f=>ab 77 #[d,(.int .i64 16),(.int .i64 4)] f fun f g=>ab 32 #[c,e,f] g fun g h=>cd 1 g d fun d=>R (.tuple #[c,e,f,d]) h))∧aT a fun c=>jz c (.int .i64 98) fun c=>aq c (aT a fun c=>bR c (.int .i64 98) fun c=>bd a (some c) none fun a=>ab 77 #[a,(.int .i64 24),(.int .i64 8)] H0 fun c d=>ab 77 #[a,(.int .i64 40),(.int .i64 8)] d fun d e=>ab 77 #[a,(.int .i64 48),(.int .i64 8)] e fun e f=>ab 32 #[c,d,e] f fun f g=>cd 1 f a fun a=>aq a (R (.tuple #[c,d,e,(.bool true)]) g) (b g)) (b H0)):ab 31 #[a] H0 R:=bI 0x101da19a6a004a53a30007a56a19a6a53a2e4722044a Tryz.func31 h
theorem vt.vc (a b:Value) (h:
 bD H0 88 (.agg #[(str []),(.int .i64 0),(.int .i64 0),(.int .i64 0),(.int .i64 0),(.int .i64 0),(.int .i64 0),(.int .u64 0),(.int .u64 0),(.int .u32 0),(.int .u64 0),(.bool false)]) fun c d=>aB b (.int .i64 46) fun e=>aT a fun f=>ef e f fun e=>ej e (fun e=>aB b (.int .i64 4) fun f=>bd a (some b) (some f) fun f=>eW 1 f (str [80,75,1,2]) fun f=>e f d) d fun d e=> ∀_:Env,aq d (aW [(str []),(.int .i64 0),(.int .i64 0),(.int .i64 0),(.int .i64 0),(.int .i64 0),(.int .i64 0),(.int .u64 0),(.int .u64 0),(.int .u32 0),(.int .u64 0),(.bool false)] [] fun d=>aH e 12 c d fun _ d=>aF d 12 c fun f=>R (.tuple #[f,(.int .i64 0)]) d) (bd a (some b) none fun a=>ab 77 #[a,(.int .i64 28),(.int .i64 2)] e fun b d=>bf .i64 b fun b=>ab 77 #[a,(.int .i64 30),(.int .i64 2)] d fun d e=>bf .i64 d fun d=>aB (.int .i64 46) b fun f=>aB f d fun f=>aT a fun g=>ef f g fun f=>aq f (aW [(str []),(.int .i64 0),(.int .i64 0),(.int .i64 0),(.int .i64 0),(.int .i64 0),(.int .i64 0),(.int .u64 0),(.int .u64 0),(.int .u32 0),(.int .u64 0),(.bool false)] [] fun f=>aH e 12 c f fun _ f=>aF f 12 c fun g=>R (.tuple #[g,(.int .i64 0)]) f) (ab 77 #[a,(.int .i64 14),(.int .i64 2)] e fun e f=>bf .i64 e fun e=>ab 77 #[a,(.int .i64 12),(.int .i64 2)] f fun f g=>bf .i64 f fun f=> ∃h:Value→ag→Prop,(∀ (_:Env) (i:Value) (j:ag),h i j→aB (.int .i64 46) b fun k=>aB k (.int .i64 4) fun k=> ∃l:Value→ag→Prop,(∀ (_:Env) (m:Value) (n:ag),l m n→∃o:ag→Prop,(∀ (_:Env) (p:ag),o p→aF p 12 i fun q=>ab 81 #[q] p fun p q=>cd 1 p (str []) fun r=>ej r (fun r=>aT p fun s=>aB (.int .i64 46) b fun t=>aB t d fun t=>eW 0 s t fun s=>r s q) q fun q r=> ∀_:Env,ej q (fun q=>aT p fun s=>bd a none (some s) fun s=>eW 1 s p fun p=>q p r) r fun p q=> ∀_:Env,aq p (aW [(str []),(.int .i64 0),(.int .i64 0),(.int .i64 0),(.int .i64 0),(.int .i64 0),(.int .i64 0),(.int .u64 0),(.int .u64 0),(.int .u32 0),(.int .u64 0),(.bool false)] [] fun p=>aH q 12 c p fun _ p=>aF p 12 c fun r=>R (.tuple #[r,(.int .i64 0)]) p) (aF q 12 i fun p=>aB (.int .i64 46) b fun r=>aB r d fun r=>aH q 12 c p fun _ p=>aF p 12 c fun c=>R (.tuple #[c,r]) p))∧aa 10 i fun c=>ao n c fun c=>cd 0 c (.int .u64 4294967295) fun c=>bE c (fun c=>aB m (.int .i64 8) fun p=>aB (.int .i64 46) b fun q=>aB q d fun q=>oZ p q fun p=>c p n) n fun c n=> ∀_:Env,aq c (ab 77 #[a,m,(.int .i64 8)] n fun c m=>aa 10 i fun p=>aI m p c fun _ c=>o c) (o n))∧aa 7 i fun c=>ao j c fun c=>cd 0 c (.int .u64 4294967295) fun c=>bE c (fun c=>jz d (.int .i64 20) fun d=>c d j) j fun c d=> ∀_:Env,aq c (ab 77 #[a,k,(.int .i64 8)] d fun c j=>aB k (.int .i64 8) fun m=>ab 77 #[a,m,(.int .i64 8)] j fun j m=>aa 8 i fun n=>aI m n c fun _ c=>aa 7 i fun i=>aI c i j fun _ c=>aB k (.int .i64 16) fun i=>l i c) (l k d))∧aB (.int .i64 46) b fun b=>bd a (some (.int .i64 46)) (some b) fun b=>k_ e (.int .i64 512) fun c=>aB (.int .i64 1980) c fun c=>k_ e (.int .i64 32) fun d=>jU d (.int .i64 16) fun d=>jU e (.int .i64 32) fun e=>k_ f (.int .i64 2048) fun i=>k_ f (.int .i64 32) fun j=>jU j (.int .i64 64) fun j=>jU f (.int .i64 32) fun f=>kB f (.int .i64 2) fun f=>aW [(.int .i64 0),(.int .i64 0),(.int .i64 0),(.int .i64 0),(.int .i64 0),(.int .i64 0)] [(0,1,c),(1,1,d),(2,1,e),(3,1,i),(4,1,j),(5,1,f)] fun c=> (ab 77 #[a,(.int .i64 20),(.int .i64 4)] g fun d e=> (ab 77 #[a,(.int .i64 24),(.int .i64 4)] e fun f i=> (ab 77 #[a,(.int .i64 16),(.int .i64 4)] i fun j k=>bf .u32 j fun j=> (ab 77 #[a,(.int .i64 42),(.int .i64 4)] k fun l m=> (ab 77 #[a,(.int .i64 10),(.int .i64 2)] m fun n o=>cd 0 n (.int .u64 0) fun n=>aW [(str []),(.int .i64 0),(.int .i64 0),(.int .i64 0),(.int .i64 0),(.int .i64 0),(.int .i64 0),(.int .u64 0),(.int .u64 0),(.int .u32 0),(.int .u64 0),(.bool false)] [(0,1,b),(1,6,c),(7,1,d),(8,1,f),(9,1,j),(10,1,l),(11,1,n)] fun n=>bD o 88 (.agg #[(str []),(.int .i64 0),(.int .i64 0),(.int .i64 0),(.int .i64 0),(.int .i64 0),(.int .i64 0),(.int .u64 0),(.int .u64 0),(.int .u32 0),(.int .u64 0),(.bool false)]) fun o p=>aH p 12 o n fun _ n=>h o n)∧(bD m 88 (.agg #[(str []),(.int .i64 0),(.int .i64 0),(.int .i64 0),(.int .i64 0),(.int .i64 0),(.int .i64 0),(.int .u64 0),(.int .u64 0),(.int .u32 0),(.int .u64 0),(.bool false)]) fun m n=>ab 77 #[a,(.int .i64 10),(.int .i64 2)] n fun n o=>cd 0 n (.int .u64 0) fun n=>aW [(str []),(.int .i64 0),(.int .i64 0),(.int .i64 0),(.int .i64 0),(.int .i64 0),(.int .i64 0),(.int .u64 0),(.int .u64 0),(.int .u32 0),(.int .u64 0),(.bool false)] [(0,1,b),(1,6,c),(7,1,d),(8,1,f),(9,1,j),(10,1,l),(11,1,n)] fun l=>aH o 12 m l fun _ l=>h m l))∧(bD k 88 (.agg #[(str []),(.int .i64 0),(.int .i64 0),(.int .i64 0),(.int .i64 0),(.int .i64 0),(.int .i64 0),(.int .u64 0),(.int .u64 0),(.int .u32 0),(.int .u64 0),(.bool false)]) fun k l=>ab 77 #[a,(.int .i64 42),(.int .i64 4)] l fun l m=>ab 77 #[a,(.int .i64 10),(.int .i64 2)] m fun m n=>cd 0 m (.int .u64 0) fun m=>aW [(str []),(.int .i64 0),(.int .i64 0),(.int .i64 0),(.int .i64 0),(.int .i64 0),(.int .i64 0),(.int .u64 0),(.int .u64 0),(.int .u32 0),(.int .u64 0),(.bool false)] [(0,1,b),(1,6,c),(7,1,d),(8,1,f),(9,1,j),(10,1,l),(11,1,m)] fun j=>aH n 12 k j fun _ j=>h k j))∧(bD i 88 (.agg #[(str []),(.int .i64 0),(.int .i64 0),(.int .i64 0),(.int .i64 0),(.int .i64 0),(.int .i64 0),(.int .u64 0),(.int .u64 0),(.int .u32 0),(.int .u64 0),(.bool false)]) fun i j=>ab 77 #[a,(.int .i64 16),(.int .i64 4)] j fun j k=>bf .u32 j fun j=>ab 77 #[a,(.int .i64 42),(.int .i64 4)] k fun k l=>ab 77 #[a,(.int .i64 10),(.int .i64 2)] l fun l m=>cd 0 l (.int .u64 0) fun l=>aW [(str []),(.int .i64 0),(.int .i64 0),(.int .i64 0),(.int .i64 0),(.int .i64 0),(.int .i64 0),(.int .u64 0),(.int .u64 0),(.int .u32 0),(.int .u64 0),(.bool false)] [(0,1,b),(1,6,c),(7,1,d),(8,1,f),(9,1,j),(10,1,k),(11,1,l)] fun f=>aH m 12 i f fun _ f=>h i f))∧(bD e 88 (.agg #[(str []),(.int .i64 0),(.int .i64 0),(.int .i64 0),(.int .i64 0),(.int .i64 0),(.int .i64 0),(.int .u64 0),(.int .u64 0),(.int .u32 0),(.int .u64 0),(.bool false)]) fun e f=>ab 77 #[a,(.int .i64 24),(.int .i64 4)] f fun f i=>ab 77 #[a,(.int .i64 16),(.int .i64 4)] i fun i j=>bf .u32 i fun i=>ab 77 #[a,(.int .i64 42),(.int .i64 4)] j fun j k=>ab 77 #[a,(.int .i64 10),(.int .i64 2)] k fun k l=>cd 0 k (.int .u64 0) fun k=>aW [(str []),(.int .i64 0),(.int .i64 0),(.int .i64 0),(.int .i64 0),(.int .i64 0),(.int .i64 0),(.int .u64 0),(.int .u64 0),(.int .u32 0),(.int .u64 0),(.bool false)] [(0,1,b),(1,6,c),(7,1,d),(8,1,f),(9,1,i),(10,1,j),(11,1,k)] fun d=>aH l 12 e d fun _ d=>h e d))∧(bD g 88 (.agg #[(str []),(.int .i64 0),(.int .i64 0),(.int .i64 0),(.int .i64 0),(.int .i64 0),(.int .i64 0),(.int .u64 0),(.int .u64 0),(.int .u32 0),(.int .u64 0),(.bool false)]) fun d e=>ab 77 #[a,(.int .i64 20),(.int .i64 4)] e fun e f=>ab 77 #[a,(.int .i64 24),(.int .i64 4)] f fun f g=>ab 77 #[a,(.int .i64 16),(.int .i64 4)] g fun g i=>bf .u32 g fun g=>ab 77 #[a,(.int .i64 42),(.int .i64 4)] i fun i j=>ab 77 #[a,(.int .i64 10),(.int .i64 2)] j fun a j=>cd 0 a (.int .u64 0) fun a=>aW [(str []),(.int .i64 0),(.int .i64 0),(.int .i64 0),(.int .i64 0),(.int .i64 0),(.int .i64 0),(.int .u64 0),(.int .u64 0),(.int .u32 0),(.int .u64 0),(.bool false)] [(0,1,b),(1,6,c),(7,1,e),(8,1,f),(9,1,g),(10,1,i),(11,1,a)] fun a=>aH j 12 d a fun _ a=>h d a)))):ab 33 #[a,b] H0 R:=bI 0x107a003a502a061c41b21b51a073422304133a3059501b074432404131f1da1040391ba506024432404132919b01c201c144a04b533f43d523a43852e54a504b533f43d523a43854a504b533f43d523a44a504b533f43d54a504b533f44a5053f433d5323a4338532e533e53c53952f52e0420211eff8888888502ff88888885013f8888888507888888850103ffffe85110110101011011021004c2494f01b201b1418a003a57a318a4a003a501c0664526041332a Tryz.func33 h
theorem vu.vc (a b:Value) (h:
 aq b (cd 1 a (str []) fun b=>R (.tuple #[(str []),b]) H0) (ab 85 #[a] H0 fun b c=>ar 0 b fun d=>ar 1 b fun e=>ar 2 b fun b=>cd 0 b (.int .i64 0) fun b=>bE b (fun b=>aB e (.int .i64 7) fun e=>k_ e (.int .i64 8) fun e=>aT a fun a=>cd 0 e a fun a=>b a c) c fun a b=> ∀_:Env,R (.tuple #[d,a]) b)):ab 36 #[a,b] H0 R:=bI 0x10021b41a0644324041319a004a51a32a Tryz.func36 h
theorem w4.vc (a b c:Value) (h:
 aB b c fun c=>bd a (some b) (some c) fun a=>ab 130 #[a] H0 fun a b=>R a b):ab 77 #[a,b,c] H0 R:=bI 0x1018a1a Tryz.func77 h
theorem E7.vc (a b:Value) (h:
 ab 39 #[b] H0 fun b c=>ar 0 b fun d=>ar 1 b fun b=>cd 0 b (.int .i64 0) fun b=>bE b (fun b=>ab 40 #[d,a] c fun a d=>b a d) c fun a b=> ∀_:Env,R a b):ab 10 #[a,b] H0 R:=bI 0x100756033422304137a1a Tryz.func10 h
theorem HG.vc (a:Value) (h:
 ab 87 #[a] H0 fun b c=>ar 0 b fun d=>ar 1 b fun _=>ar 2 b fun b=>eW 0 b (.int .i64 0) fun e=>aq e (R (.tuple #[(.slice none 0 0),b]) c) (ab 41 #[] c fun b c=>bK d fun e=> ∃ (f:Value→Value→ag→Prop) (g:Value→Value→ag→Nat),f (.slice none 0 0) (.int .i64 0) c∧∀ (_:Env) (c h:Value) (i:ag),f c h i→b_ h e fun e=>aq e (aK 12 d h fun d=>aF i 12 d fun d=>bD i 44 (.agg #[(str []),(.int .i64 0),(.int .i64 0),(.int .i64 0),(.int .i64 0),(.int .i64 0),(.int .i64 0),(.int .u64 0),(.int .u64 0),(.int .u32 0),(.int .u64 0),(.bool false)]) fun e j=>aH j 12 e d fun _ d=>aF d 12 e fun e=>ab 88 #[b,a,e] d fun a b=>ar 0 a fun d=>ar 1 a fun a=>bD b 48 (.agg #[(str []),(.int .i64 0),(.int .i64 0),(.int .i64 0),(.int .i64 0),(.int .i64 0),(.int .i64 0),(str [])]) fun b e=>aH e 8 b d fun _ d=>eW 0 a (.int .i64 0) fun e=>aq e (R (.tuple #[(.slice none 0 0),a]) d) (aF d 8 b fun a=>aU d 48 1 [(str []),(.int .i64 0),(.int .i64 0),(.int .i64 0),(.int .i64 0),(.int .i64 0),(.int .i64 0),(str [])] [(0,8,a)] fun a b=>a7 b 48 8 80 [(str []),(.int .i64 0),(.int .i64 0),(.int .i64 0),(.int .i64 0),(.int .i64 0),(.int .i64 0),(str [])] c a fun a b=>aB h (.int .i64 1) fun d=>f a d b∧g a d b<g c h i)) (R (.tuple #[c,(.int .i64 0)]) i))):ab 39 #[a] H0 R:=bI 0x103a2959003a52a31aa4a6300531a2a1c21041240280182763a31a2a003a52a319a2a Tryz.func39 h
theorem Cy.vc (a:Value) (h:
 ab 134 #[a] H0 fun a b=>ar 0 a fun c=>ar 1 a fun a=>eW 0 a (.int .i64 0) fun d=>aq d (R (.tuple #[(.slice none 0 0),(.slice none 0 0),a]) b) (bK c fun a=> ∃ (d:Value→Value→ag→Prop) (e:Value→Value→ag→Nat),d (.slice none 0 0) (.int .i64 0) b∧∀ (_:Env) (b f:Value) (g:ag),d b f g→b_ f a fun a=>aq a (aK 12 c f fun a=>aF g 12 a fun a=>bD g 44 (.agg #[(str []),(.int .i64 0),(.int .i64 0),(.int .i64 0),(.int .i64 0),(.int .i64 0),(.int .i64 0),(.int .u64 0),(.int .u64 0),(.int .u32 0),(.int .u64 0),(.bool false)]) fun h i=>aH i 12 h a fun _ a=>aa 0 h fun h=>ao a h fun h=>aU a 9 1 [(str [])] [(0,1,h)] fun a h=>a7 h 9 1 16 [(str [])] b a fun a h=>aB f (.int .i64 1) fun i=>d a i h∧e a i h<e b f g) (ab 93 #[b] g fun a d=>ar 0 a fun _=>ar 1 a fun a=>eW 0 a (.int .i64 0) fun e=>aq e (R (.tuple #[(.slice none 0 0),(.slice none 0 0),a]) d) (R (.tuple #[c,b,(.int .i64 0)]) d)))):ab 87 #[a] H0 R:=bI 0x105a004a52a7a329694a6300531a191c0107301e072763a31a004a52a37a3a Tryz.func87 h
theorem E8.vc (a b c:Value) (h:
 bD H0 44 c fun c d=>bD d 48 (.agg #[(str []),(.int .i64 0),(.int .i64 0),(.int .i64 0),(.int .i64 0),(.int .i64 0),(.int .i64 0),(str [])]) fun d e=>aF e 12 c fun f=>aF e 12 c fun g=>ab 96 #[f] e fun e f=> (aF f 12 c fun h=>h=g)∧ab 97 #[g] f fun f g=>aa 10 c fun h=>ao g h fun h=>aT e fun i=>bf .u64 i fun i=>aa 7 c fun j=>ao g j fun j=>aB i j fun i=>aT f fun j=>bf .u64 j fun j=>aB i j fun i=>ab 135 #[b,h,i] g fun b g=>ar 0 b fun h=>ar 1 b fun b=>d_ b fun b=>ej b (fun b=>ab 106 #[h,e] g fun i j=>d_ i fun i=>b i j) g fun b g=> ∀_:Env,ej b (fun b=>ab 136 #[h,f] g fun i j=>d_ i fun i=>b i j) g fun b g=> ∀_:Env,aq b (aW [(str []),(.int .i64 0),(.int .i64 0),(.int .i64 0),(.int .i64 0),(.int .i64 0),(.int .i64 0),(str [])] [] fun b=>aH g 8 d b fun _ b=>aF b 8 d fun i=>R (.tuple #[i,(.int .i64 3)]) b) (aT e fun b=>aT h fun e=>aT f fun f=>bR e f fun e=>bd h (some b) (some e) fun b=>aF g 12 c fun e=>ab 137 #[b,e] g fun b e=>ar 0 b fun f=>ar 1 b fun b=>eW 0 b (.int .i64 0) fun g=>aq g (aW [(str []),(.int .i64 0),(.int .i64 0),(.int .i64 0),(.int .i64 0),(.int .i64 0),(.int .i64 0),(str [])] [] fun g=>aH e 8 d g fun _ g=>aF g 8 d fun h=>R (.tuple #[h,b]) g) (aT f fun b=>bf .u64 b fun b=>aa 8 c fun g=>ao e g fun g=>eW 0 b g fun b=>aq b (aW [(str []),(.int .i64 0),(.int .i64 0),(.int .i64 0),(.int .i64 0),(.int .i64 0),(.int .i64 0),(str [])] [] fun b=>aH e 8 d b fun _ b=>aF b 8 d fun g=>R (.tuple #[g,(.int .i64 8)]) b) (aa 9 c fun b=>ao e b fun g=>ab 57 #[a,f] e fun a e=> (ao e b fun b=>b=g)∧eW 0 a g fun a=>aq a (aW [(str []),(.int .i64 0),(.int .i64 0),(.int .i64 0),(.int .i64 0),(.int .i64 0),(.int .i64 0),(str [])] [] fun a=>aH e 8 d a fun _ a=>aF a 8 d fun b=>R (.tuple #[b,(.int .i64 7)]) a) (aa 0 c fun a=>ao e a fun a=>aa 1 c fun b=>aF e 6 b fun b=>aW [(str []),(.int .i64 0),(.int .i64 0),(.int .i64 0),(.int .i64 0),(.int .i64 0),(.int .i64 0),(str [])] [(0,1,a),(1,6,b),(7,1,f)] fun a=>aH e 8 d a fun _ a=>aF a 8 d fun b=>R (.tuple #[b,(.int .i64 0)]) a))))):ab 88 #[a,b,c] H0 R:=bI 0x1018a003a502544121234204121020072303a57a04a53a630280421ffff53112021f8510101002823003a501d0419418218570434223041332ba0334211125051120106233a Tryz.func88 h
theorem Cz.vc (a:Value) (h:
 ab 187 #[a] H0 fun b c=>ar 0 b fun d=>ar 1 b fun b=>bD c 266 (.agg #[(.int .u64 0),(.int .u64 0),(.int .u64 0)]) fun c e=>aH e 3 c d fun _ d=>aa 2 c fun e=>ao d e fun e=>aa 1 c fun f=>ao d f fun f=>ab 135 #[a,e,f] d fun d e=>ar 0 d fun f=>ar 1 d fun d=>aa 0 c fun g=>ao e g fun g=>aa 1 c fun h=>ao e h fun h=>aa 2 c fun i=>ao e i fun i=>ab 99 #[g,h,i] e fun e g=>d_ b fun b=>ej b (fun b=>d_ d fun d=>b d g) g fun b d=> ∀_:Env,ej b (fun b=>aa 2 c fun g=>ao d g fun g=>aa 1 c fun h=>ao d h fun h=>aB g h fun g=>bd a (some g) none fun a=>eW 1 a e fun a=>b a d) d fun a b=> ∀_:Env,aq a (R (.tuple #[(.slice none 0 0),(.int .i64 3)]) b) (∃ (a:Value→Value→Value→ag→Prop) (d:Value→Value→Value→ag→Nat),a f (.slice none 0 0) (.int .u64 0) b∧∀ (_:Env) (b e f:Value) (g:ag),a b e f g→eW 1 b (str []) fun h=>aq h (ab 188 #[b] g fun h i=>ar 0 h fun j=>ar 1 h fun h=>bD i 44 (.agg #[(str []),(.int .i64 0),(.int .i64 0),(.int .i64 0),(.int .i64 0),(.int .i64 0),(.int .i64 0),(.int .u64 0),(.int .u64 0),(.int .u32 0),(.int .u64 0),(.bool false)]) fun i k=>aH k 12 i j fun _ j=>oZ h (.int .i64 0) fun k=>ej k (fun k=>aa 10 i fun l=>ao j l fun l=>eW 0 l f fun l=>k l j) j fun j k=> ∀_:Env,aq j (R (.tuple #[(.slice none 0 0),(.int .i64 3)]) k) (aF k 12 i fun j=>aa 7 i fun l=>ao k l fun m=>aF k 12 i fun n=>ab 96 #[j] k fun j k=> (ao k l fun o=>o=m)∧(aF k 12 i fun o=>o=n)∧aT j fun j=>bf .u64 j fun j=>aB j m fun j=>ab 97 #[n] k fun k n=> (ao n l fun l=>l=m)∧aT k fun k=>bf .u64 k fun k=>aB j k fun j=>aB f j fun j=>bd b (some h) none fun h=>aF n 12 i fun i=>aU n 44 1 [(str []),(.int .i64 0),(.int .i64 0),(.int .i64 0),(.int .i64 0),(.int .i64 0),(.int .i64 0),(.int .u64 0),(.int .u64 0),(.int .u32 0),(.int .u64 0),(.bool false)] [(0,12,i)] fun i k=>a7 k 44 12 104 [(str []),(.int .i64 0),(.int .i64 0),(.int .i64 0),(.int .i64 0),(.int .i64 0),(.int .i64 0),(.int .u64 0),(.int .u64 0),(.int .u32 0),(.int .u64 0),(.bool false)] e i fun i k=>a h i j k∧d h i j k<d b e f g)) (bK e fun a=>bf .u64 a fun a=>aa 0 c fun b=>ao g b fun b=>eW 0 a b fun a=>ej a (fun a=>aa 2 c fun b=>ao g b fun b=>eW 0 f b fun b=>a b g) g fun a b=> ∀_:Env,aq a (R (.tuple #[(.slice none 0 0),(.int .i64 3)]) b) (R (.tuple #[e,(.int .i64 0)]) b)))):ab 134 #[a] H0 R:=bI 0x103a002a501b047462704133594a051a46119175234186221185254204127ffe51148e501fe510111001f23002a50704342230413318a60052a34b4e3202124120627631a1a002a5028019746265502342230413318a1ba18a2a Tryz.func134 h
theorem E9.vc (a b c:Value) (h:
 aT a fun d=>bf .u64 d fun d=>ef b d fun e=>ej e (fun e=>bR d b fun d=>ef c d fun d=>e d H0) H0 fun d e=> ∀_:Env,aq d (R (.tuple #[(str []),(.bool false)]) e) (aB b c fun c=>bd a (some b) (some c) fun a=>R (.tuple #[a,(.bool true)]) e)):ab 135 #[a,b,c] H0 R:=bI 0x1018a002a50190544324041334a2a Tryz.func135 h
theorem Bi.vc (a b:Value) (h:
 bD H0 44 b fun b c=>aa 11 b fun b=>ao c b fun b=>aq b (R (.tuple #[(str []),(.int .i64 0)]) c) (ab 71 #[a] c fun a b=>ar 0 a fun c=>ar 1 a fun d=>ar 2 a fun a=> ∃e:Value→ag→Prop,(∀ (_:Env) (f:Value) (g:ag),e f g→R (.tuple #[c,f]) g)∧cd 0 a (.int .i64 0) fun c=>bE c (fun c=>eW 1 d (str []) fun d=>c d b) b fun b c=> ∀_:Env,aq b (e (.int .i64 3) c) (e a c))):ab 137 #[a,b] H0 R:=bI 0x104a0195050234223041351801820181419a002a52a33a Tryz.func137 h
theorem HH.vc (a:Value) (h:
 bD H0 266 (.agg #[(.int .u64 0),(.int .u64 0),(.int .u64 0)]) fun b c=>aT a fun d=>b_ d (.int .i64 22) fun d=>aq d (aW [(.int .u64 0),(.int .u64 0),(.int .u64 0)] [] fun d=>aH c 3 b d fun _ d=>aF d 3 b fun e=>R (.tuple #[e,(.bool false)]) d) (aT a fun d=>bR d (.int .i64 22) fun d=>bd a (some d) none fun d=> ∃e:Value→ag→Prop,(∀ (_:Env) (f:Value) (g:ag),e f g→∃h:ag→Prop,(∀ (_:Env) (i:ag),h i→aF i 3 f fun j=>aa 0 f fun k=>ao i k fun k=>aa 1 f fun l=>ao i l fun l=>aa 2 f fun m=>ao i m fun m=>ab 99 #[k,l,m] i fun i k=> (aF k 3 f fun f=>f=j)∧cd 1 i d fun f=>aH k 3 b j fun _ i=>aF i 3 b fun j=>R (.tuple #[j,f]) i)∧aT a fun f=>jz f (.int .i64 98) fun f=>aq f (aT a fun f=>bR f (.int .i64 98) fun f=>bd a (some f) none fun a=> ∃f:Value→ag→Prop,(∀ (_:Env) (i:Value) (j:ag),f i j→aa 0 i fun k=>ao j k fun k=>aa 1 i fun l=>ao j l fun l=>aa 2 i fun m=>ao j m fun m=>ab 99 #[k,l,m] j fun j k=>aT j fun l=>cd 0 l (.int .i64 98) fun l=>bE l (fun l=>cd 1 j a fun j=>l j k) k fun j k=> ∀_:Env,aq j (aF k 3 i fun i=>aH k 3 b i fun _ i=>aF i 3 b fun b=>R (.tuple #[b,(.bool true)]) i) (h k))∧bd a (some (.int .i64 24)) (some (.int .i64 32)) fun b=>bd a (some (.int .i64 40)) (some (.int .i64 48)) fun i=>bd a (some (.int .i64 48)) (some (.int .i64 56)) fun a=> (ab 109 #[b] g fun j k=> (ab 109 #[i] k fun l m=> (ab 109 #[a] m fun n o=>aW [(.int .u64 0),(.int .u64 0),(.int .u64 0)] [(0,1,j),(1,1,l),(2,1,n)] fun n=>bD o 266 (.agg #[(.int .u64 0),(.int .u64 0),(.int .u64 0)]) fun o p=>aH p 3 o n fun _ n=>f o n)∧(bD m 266 (.agg #[(.int .u64 0),(.int .u64 0),(.int .u64 0)]) fun m n=>ab 109 #[a] n fun n o=>aW [(.int .u64 0),(.int .u64 0),(.int .u64 0)] [(0,1,j),(1,1,l),(2,1,n)] fun l=>aH o 3 m l fun _ l=>f m l))∧(bD k 266 (.agg #[(.int .u64 0),(.int .u64 0),(.int .u64 0)]) fun k l=>ab 109 #[i] l fun l m=>ab 109 #[a] m fun m n=>aW [(.int .u64 0),(.int .u64 0),(.int .u64 0)] [(0,1,j),(1,1,l),(2,1,m)] fun j=>aH n 3 k j fun _ j=>f k j))∧(bD g 266 (.agg #[(.int .u64 0),(.int .u64 0),(.int .u64 0)]) fun j k=>ab 109 #[b] k fun b k=>ab 109 #[i] k fun i k=>ab 109 #[a] k fun a k=>aW [(.int .u64 0),(.int .u64 0),(.int .u64 0)] [(0,1,b),(1,1,i),(2,1,a)] fun a=>aH k 3 j a fun _ a=>f j a)) (h g))∧bd d (some (.int .i64 8)) (some (.int .i64 10)) fun a=>bd d (some (.int .i64 12)) (some (.int .i64 16)) fun b=>bd d (some (.int .i64 16)) (some (.int .i64 20)) fun d=> (ab 109 #[a] c fun f g=> (ab 109 #[b] g fun h i=> (ab 109 #[d] i fun j k=>aW [(.int .u64 0),(.int .u64 0),(.int .u64 0)] [(0,1,f),(1,1,h),(2,1,j)] fun j=>bD k 266 (.agg #[(.int .u64 0),(.int .u64 0),(.int .u64 0)]) fun k l=>aH l 3 k j fun _ j=>e k j)∧(bD i 266 (.agg #[(.int .u64 0),(.int .u64 0),(.int .u64 0)]) fun i j=>ab 109 #[d] j fun j k=>aW [(.int .u64 0),(.int .u64 0),(.int .u64 0)] [(0,1,f),(1,1,h),(2,1,j)] fun h=>aH k 3 i h fun _ h=>e i h))∧(bD g 266 (.agg #[(.int .u64 0),(.int .u64 0),(.int .u64 0)]) fun g h=>ab 109 #[b] h fun h i=>ab 109 #[d] i fun i j=>aW [(.int .u64 0),(.int .u64 0),(.int .u64 0)] [(0,1,f),(1,1,h),(2,1,i)] fun f=>aH j 3 g f fun _ f=>e g f))∧(bD c 266 (.agg #[(.int .u64 0),(.int .u64 0),(.int .u64 0)]) fun c f=>ab 109 #[a] f fun a f=>ab 109 #[b] f fun b f=>ab 109 #[d] f fun d f=>aW [(.int .u64 0),(.int .u64 0),(.int .u64 0)] [(0,1,a),(1,1,b),(2,1,d)] fun a=>aH f 3 c a fun _ a=>e c a))):ab 187 #[a] H0 R:=bI 0x1003194017118570423ff57fe501fe510101001c230003a5070344324041318a01b5218455251a501b52184551a501b521841a50418435532532642342042012102101101c2193c07207146a53a492b220330401b5218455251a501b52184551a501b521841a50418435532532642342042012102101101c2191c05205146a003a53a32a Tryz.func187 h
theorem NM.vc (h:
 ab 41 #[] H0 fun a b=>aW [(.pointer none),(str []),(.int .i64 0),(.int .i64 0),(.int .i64 0),(str []),(.int .i64 0),(.int .i64 0),(.int .i64 0),(.int .i64 0),(.int .i64 0),(.int .i64 0),(.int .u64 0),(.int .u64 0),(.int .u32 0),(.int .u64 0),(.bool false),(.bool false),(.pointer none),(.int .i64 0),(.slice none 0 0),(.slice none 0 0),(str []),(.slice none 0 0),(.int .i64 0)] [(0,1,a)] fun a=>bD b 105 a fun a b=>R a b):ab 11 #[] H0 R:=bI 0x104a1a Tryz.func11 h
theorem vv.vc (a b:Value) (h:
 cd 3 a (.pointer none) fun c=>aq c (R (.tuple #[(.slice none 0 0),(.int .i64 1)]) H0) (aG a fun c=>aa 24 c fun c=>ao H0 c fun c=>eW 0 c (.int .i64 0) fun c=>aq c (aG a fun c=>aa 24 c fun c=>ao H0 c fun c=>R (.tuple #[(.slice none 0 0),c]) H0) (aG a fun c=>aa 23 c fun c=>aI H0 c (.slice none 0 0) fun _ c=>aG a fun d=>aa 1 d fun d=>ao c d fun d=>aB d b fun b=>aG a fun d=>aa 1 d fun d=>aI c d b fun _ b=> ∃ (c:ag→Prop) (d:ag→Nat),c b∧∀ (_:Env) (b:ag),c b→ab 42 #[a] b fun e f=>cd 0 e (.int .i64 0) fun g=>aq g (c f∧d f<d b) (cd 0 e (.int .i64 2) fun b=>aq b (aG a fun b=>aa 23 b fun b=>ao f b fun b=>R (.tuple #[b,(.int .i64 0)]) f) (aG a fun b=>aa 24 b fun b=>aI f b e fun _ b=>aG a fun a=>aa 23 a fun a=>ao b a fun a=>R (.tuple #[a,e]) b))))):ab 12 #[a,b] H0 R:=bI 0x107a5a06a52a052a61a3a62b2e24207619a4a00060420111062355a3002a52a32a Tryz.func12 h
theorem tT.vc (a:Value) (h:
 eW 3 a (.pointer none) fun b=>bE b (fun b=>aG a fun c=>aa 2 c fun c=>ao H0 c fun c=>cd 0 c (.int .i64 4) fun c=>b c H0) H0 fun b c=> ∀_:Env,bE b (fun b=>aG a fun a=>aa 24 a fun a=>ao c a fun a=>cd 0 a (.int .i64 0) fun a=>b a c) c fun a b=> ∀_:Env,R a b):ab 13 #[a] H0 R:=bI 0x1002851f051a419219518053422304131a Tryz.func13 h
theorem fO.vc (a:Value) (h:
 aG a fun b=>aa 2 b fun b=>ao H0 b fun b=>cd 0 b (.int .i64 0) fun c=>aq c (ab 89 #[a] H0 fun c d=>R c d) (cd 0 b (.int .i64 1) fun c=>aq c (ab 90 #[a] H0 fun c d=>R c d) (cd 0 b (.int .i64 2) fun c=>aq c (ab 91 #[a] H0 fun c d=>R c d) (cd 0 b (.int .i64 3) fun b=>aq b (ab 92 #[a] H0 fun b c=>R b c) (aG a fun a=>aa 1 a fun a=>ao H0 a fun a=>eW 1 a (str []) fun a=>aq a (R (.int .i64 12) H0) (R (.int .i64 2) H0)))))):ab 42 #[a] H0 R:=bI 0x101a001a55a3003a52a03a52a03a52a03a52a64a31a Tryz.func42 h
theorem Kw.vc (a:Value) (h:
 bD H0 153 (.agg #[(.pointer none),(.slice none 0 0)]) fun b c=>bK a fun d=> ∃ (e:Value→Value→ag→Prop) (f:Value→Value→ag→Nat),e (.int .u64 0) (.int .i64 0) c∧∀ (_:Env) (c g:Value) (h:ag),e c g h→b_ g d fun d=>aq d (aK 12 a g fun d=>aF h 12 d fun d=>bD h 44 (.agg #[(str []),(.int .i64 0),(.int .i64 0),(.int .i64 0),(.int .i64 0),(.int .i64 0),(.int .i64 0),(.int .u64 0),(.int .u64 0),(.int .u32 0),(.int .u64 0),(.bool false)]) fun i j=>aH j 12 i d fun _ d=>aF d 12 i fun j=>ab 95 #[j] d fun d j=>d_ d fun d=>aq d (R (str []) j) (aa 10 i fun d=>ao j d fun k=>aF j 12 i fun l=>aa 7 i fun m=>ao j m fun n=>aF j 12 i fun o=>ab 96 #[l] j fun j l=> (ao l d fun p=>p=k)∧(ao l m fun p=>p=n)∧(aF l 12 i fun p=>p=o)∧aT j fun j=>bf .u64 j fun j=>aB k j fun j=>aB j n fun j=>ab 97 #[o] l fun l o=> (ao o d fun d=>d=k)∧(ao o m fun d=>d=n)∧aT l fun d=>bf .u64 d fun d=>aB j d fun d=>aF o 12 i fun i=>ab 98 #[i] o fun i j=>ab 75 #[b,i] j fun _ i=>aB g (.int .i64 1) fun j=>e d j i∧f d j i<f c g h)) (ab 76 #[b] h fun d e=>bK a fun a=>bf .u64 a fun a=>ab 100 #[b] e fun b e=>bf .u64 b fun b=>ab 99 #[a,b,c] e fun a b=>aB d a fun a=>R a b)):ab 45 #[a] H0 R:=bI 0x101aa2939041c418121b11953441a1813311a52743041211289c5021021110102823001a53a34a6300531a392010102404042763a31a1a1a Tryz.func45 h
theorem ki.vc (a:Value) (h:
 aG a fun b=>aa 1 b fun b=>ao H0 b fun b=>ab 138 #[b] H0 fun b c=>ar 0 b fun d=>ar 1 b fun b=>bD c 44 (.agg #[(str []),(.int .i64 0),(.int .i64 0),(.int .i64 0),(.int .i64 0),(.int .i64 0),(.int .i64 0),(.int .u64 0),(.int .u64 0),(.int .u32 0),(.int .u64 0),(.bool false)]) fun c e=>aH e 12 c d fun _ d=>b_ b (.int .i64 0) fun e=>aq e (aG a fun e=>aa 20 e fun e=>ao d e fun e=>ab 45 #[e] d fun e f=>aG a fun g=>aa 2 g fun g=>aI f g (.int .i64 3) fun _ f=>aG a fun g=>aa 22 g fun g=>aI f g e fun _ e=>R (.int .i64 0) e) (cd 0 b (.int .i64 0) fun e=>aq e (R (.int .i64 2) d) (aG a fun e=>aa 21 e fun e=>ao d e fun f=>aa 0 c fun g=>ao d g fun g=>aU d 9 1 [(str [])] [(0,1,g)] fun d g=> (ao g e fun e=>e=f)∧a7 g 9 1 16 [(str [])] f d fun d e=>ab 93 #[d] e fun d e=>ar 0 d fun _=>ar 1 d fun d=>eW 0 d (.int .i64 0) fun f=>aq f (R d e) (aG a fun d=>aa 21 d fun d=>ao e d fun f=>aa 0 c fun g=>ao e g fun g=>aU e 9 1 [(str [])] [(0,1,g)] fun e g=> (ao g d fun d=>d=f)∧a7 g 9 1 16 [(str [])] f e fun d e=>aG a fun f=>aa 21 f fun f=>aI e f d fun _ d=>aF d 12 c fun e=>ab 139 #[e] d fun d e=>aG a fun f=>aa 17 f fun f=>aI e f d fun _ d=>aG a fun e=>aa 3 e fun e=>ao d e fun f=>bf .u64 f fun g=>aa 8 c fun h=>aI d h (.int .u64 0) fun _ d=> (ao d e fun e=>e=f)∧aa 10 c fun e=>aI d e g fun _ d=>aF d 12 c fun e=>aG a fun f=>aa 5 f fun f=>aH d 12 f e fun _ d=>ab 140 #[a,b] d fun _ b=>aG a fun d=>aa 23 d fun d=>ao b d fun e=>aF b 12 c fun f=>aW [(.int .i64 0),(str []),(.int .i64 0),(.int .i64 0),(.int .i64 0),(.int .i64 0),(.int .i64 0),(.int .i64 0),(.int .u64 0),(.int .u64 0),(.int .u32 0),(.int .u64 0),(.bool false),(str [])] [(0,1,(.int .i64 1)),(1,12,f)] fun f=>aU b 46 1 [(.int .i64 0),(str []),(.int .i64 0),(.int .i64 0),(.int .i64 0),(.int .i64 0),(.int .i64 0),(.int .i64 0),(.int .u64 0),(.int .u64 0),(.int .u32 0),(.int .u64 0),(.bool false),(str [])] [(0,14,f)] fun b f=> (ao f d fun d=>d=e)∧a7 f 46 14 128 [(.int .i64 0),(str []),(.int .i64 0),(.int .i64 0),(.int .i64 0),(.int .i64 0),(.int .i64 0),(.int .i64 0),(.int .u64 0),(.int .u64 0),(.int .u32 0),(.int .u64 0),(.bool false),(str [])] e b fun b d=>aG a fun e=>aa 23 e fun e=>aI d e b fun _ b=>aa 11 c fun c=>ao b c fun c=>aq c (ab 141 #[a] b fun _ c=>R (.int .i64 0) c) (ab 123 #[] b fun b c=>aG a fun d=>aa 2 d fun d=>aI c d (.int .i64 1) fun _ c=>aG a fun d=>aa 18 d fun d=>aI c d b fun _ b=>aG a fun a=>aa 19 a fun a=>aI b a (.int .i64 0) fun _ a=>R (.int .i64 0) a))))):ab 89 #[a] H0 R:=bI 0x101a1da001a2a52a30418441717041123fe5110111001c233a5a0274316160412101111019236a0418441717041123fe5110111001c23002a52a0774316160423fff53111211011101e233001a53a01a1da53a631ba1a Tryz.func89 h
end
section
set_option maxRecDepth 100000
variable {H H0 H' :ag} {R:Value→ag→Prop} {v:Value} {L:List It} {b:Nat} {B:List Bool}
theorem Steps.W {D D' :DM} {o:List UInt8} (h:Steps D o D') (hl:ji D.st):D'.W=D.W++o∧ji D'.st:=by
 induction h with
 |refl=>exact⟨by simp,hl⟩
 |step hs _ ih=>
  have hi:=rp hl (.inl hs);have:=ih hi.2.2;exact⟨by rw [this.1,hi.1,ai0],this.2⟩
theorem Tx {x y z:List Int} {E:List Ex} {c:Nat} {G:List Tok} {V:List UInt8} {r:List Bool} (d:xQ x y z E c) (p8:pX x 256) (hx:qz x) (hy:qz y) (hG: ∀t∈G,ve x y t) (ht:pY G [] V) (hr:r.length<8):
  run ⟨.hd,true::false::true:: (rh x y z E c++gh x y G)++r,[]⟩= (V,⟨.dn,[],V⟩,0):=by
 have s1:=Ha d (l:=true) (C:=gh x y G++r) (W:= []);obtain⟨o,s2⟩:=nz hx hy p8 (C:=r) (l:=true) ht hG;have iT:=Steps.step s1 s2;have rS:dJ r= []:=by unfold dJ;rw [ajg hr,ajY]
 have hw:= (Steps.W iT trivial).1;have he:ib true r V= ⟨.dn,[],V⟩:=by unfold ib;rw [if_pos rfl,rS]
 rw [he] at iT hw;have e:true::false::true:: (rh x y z E c++gh x y G)++r=true::false::true:: (rh x y z E c++ (gh x y G++r)):=by simp
 rw [e];have:=iT.fin rfl;rw [this];have hw:V= []++ ([]++o):=hw;simp only [aje] at hw ⊢;rw [←hw]
def Kx:Tok:= ⟨97,0,0⟩
theorem HI (hG:Reads H ⟨0,0,none⟩ fY) (hI:Reads H ⟨4,0,none⟩ fY) (h: ∀H',Ext H H' →R (.bool true) H'):ab 28 #[] H R:=by
 refine vp.vc _ _ ?_;refine(au.start (H:=H)).box fun b H1 o _=>?_;have o:au H H1 (.aE (lD (wp b 141) (.slice none 0 0) []):: []):=Qs o;refine aR rfl (by decide) ?_;rw [br];refine o.cy (sz:=3) (by decide) rfl rfl fun lv H2 o=>?_;have o:au H H2 (.sl lv 3 (dw [Kx]):: .aE (lD (wp b 141) (.slice none 0 0) []):: []):=o;have o:=o.Ah (L' := .aE (lD (wp b 141) (.slice none 0 0) []):: .sl lv 3 (dw [Kx]):: []) (by repeat(first|exact fK.refl|exact dD.here|apply fK.cons|apply dD.there));refine DB (b:=wp b 141) (G:= [Kx]) (s:= [97]) (l:=true) hG (by decide) (by repeat(first|exact aiX|apply aiW)) (by decide) (fun t ht=>by rw [ajE.1 ht];rfl) (by decide) o fun H3 Tw x y z E c d _ p8 hx hy Sb o=>?_;have Dy:=Bh d;have EX: (gh x y [Kx]).length≤30:=by
  unfold gh;rw [akx,amF,ajl,aiV];have h1:=iR hx 256;have h2:=iR hx 97;have e:qv x y Kx=cT (natL x) 97:=rfl;rw [e];omega
 rw [aje] at o;have hBl: (true::false::true:: (rh x y z E c++gh x y [Kx])).length≤30000:=by simp only [ai6,aiV];omega
 have eB:=fun {r:List Bool} (hr:r.length<8)=>Tx (V:= [97]) (r:=r) d p8 hx hy Sb ⟨⟨rfl,by decide⟩,rfl⟩ hr;generalize true::false::true:: (rh x y z E c++gh x y [Kx])=BB at o hBl eB;refine nD (vk o (by repeat(first|exact aiX|apply aiW))) (by omega) fun H4 Sc w c4=>?_;have o:=nE o w c4 cx.here (by repeat(first|exact aiX|apply aiW));obtain⟨r,HJ,Z9⟩:=Dx BB;have yM:=vj BB;have hpm: (kr BB).length%8=0:=by omega
 refine rk (vk o (by repeat(first|exact aiX|apply aiW))) fun H5 Z8 w c5=>?_;have o:=nE o w c5 cx.here (by repeat(first|exact aiX|apply aiW));have hs:toBits (bm (kr BB))=BB++r:=by rw [mJ ((kr BB).length/8) _ (by omega),HJ]
 have iJ: (bm (kr BB)).length≤100000000:=by
  rw [lp ((kr BB).length/8) _ rfl,HJ,aiV];omega
 have eB:=eB Z9;rw [←hs] at eB;have fin: ∀ (o' :List UInt8) (D' :DM) (e:Int),run ⟨.hd,toBits (bm (kr BB)),[]⟩= (o',D',e)→o' = [97]∧D' = ⟨.dn,[],[97]⟩∧e=0:=fun o' D' e he=>by
  rw [eB] at he
  cases he;exact⟨rfl,rfl,rfl⟩
 refine DA hI o iJ (fun o' D' H6 he zX pc=>?_) (fun o' D' H6 he zX _=>?_) (fun o' D' e H6 he cQ _=>?_)
 ·obtain⟨rfl,rfl,_⟩:=fin _ _ _ he
  refine ai (vs:= [str [97],str (bm _),.int .i64 0]) rfl ?_;refine ai (vs:= [str [97],str (bm _),.int .i64 0]) rfl ?_;refine ai (vs:= [str [97],str (bm _),.int .i64 0]) rfl ?_;have hz: ∀n,bm (List.take n (dJ []))= []:=fun n=>by rw [show dJ []= [] from rfl,amf];rfl
  rw [aZ,decide_eq_true rfl];refine bs ?_;rw [aZ,decide_eq_true rfl];intro _;refine bs ?_;refine eO ?_;rw [decide_eq_true rfl];intro _;refine bs ?_;refine eO ?_;rw [decide_eq_true (hz _)];intro _;exact h H6 pc
 ·obtain⟨_,rfl,_⟩:=fin _ _ _ he
  exact absurd zX (by decide)
 ·obtain⟨_,_,rfl⟩:=fin _ _ _ he
  exact absurd rfl cQ
end
section
set_option maxRecDepth 100000
theorem rr (n:Nat): ∀k,toBits (aA n k)=a_ n (8*k)
 |0=>rfl
 |k+1=>by
  rw [rX,cG,rr n k,ta,show 8* (k+1)=8*k+8 by omega,jO]
  congr 1
  rw [UInt8.toNat_ofNat_of_lt' (by show _<256;omega),show (256:Nat)=2 ^ 8 from rfl,mc,show (2:Nat) ^ (8*k)= (2 ^ 8) ^ k by rw [Nat.pow_mul]]
theorem zm (l:List UInt8): (toBits l).length%8=0:=by rw [bj];omega
noncomputable def iz (s:List UInt8) (p:Nat):List UInt8 × DM × Int:=run ⟨.hd,toBits (s.take p),[]⟩
theorem w5 (s:List UInt8):iz s 0= ([],⟨.hd,[],[]⟩,0):=Dl
theorem HK {s:List UInt8} {p:Nat} (h:s.length≤p):iz s p=run ⟨.hd,toBits s,[]⟩:=by unfold iz;rw [ajf h]
theorem LU {s:List UInt8} (h: (run ⟨.hd,toBits s,[]⟩).2.2=0) (p:Nat): (iz s p).2.2=0:=by
 by_cases h0: (iz s p).2.2=0
 ·exact h0
 ·have:= (zb (C:=toBits (s.drop p)) (zm _) _ ⟨.hd,toBits (s.take p),[]⟩ (alY _) trivial).2 h0
  have e:DM.add ⟨.hd,toBits (s.take p),[]⟩ (toBits (s.drop p))= ⟨.hd,toBits s,[]⟩:=by
   unfold DM.add;rw [←cG,ajp]
  rw [e] at this;exact absurd (this.1.symm.trans h) h0
theorem w6 {s:List UInt8} (h: (run ⟨.hd,toBits s,[]⟩).2.2=0) (p q:Nat):iz s (p+q)= ((iz s p).1++ (run ((iz s p).2.1.add (toBits ((s.drop p).take q)))).1,(run ((iz s p).2.1.add (toBits ((s.drop p).take q)))).2):=by
 have h0:=LU h p;have:= (zb (C:=toBits ((s.drop p).take q)) (zm _) _ ⟨.hd,toBits (s.take p),[]⟩ (alY _) trivial).1 h0;have e:DM.add ⟨.hd,toBits (s.take p),[]⟩ (toBits ((s.drop p).take q))= ⟨.hd,toBits (s.take (p+q)),[]⟩:=by
  unfold DM.add;rw [←cG,←List.take_add]
 rw [e] at this;exact this
theorem HL (s:List UInt8) (p:Nat): (iz s p).2.1.W= (iz s p).1∧(iz s p).2.1.W.length+258* (iz s p).2.1.B.length≤258* (8*s.length)∧ji (iz s p).2.1.st:=by
 have:=E3 _ ⟨.hd,toBits (s.take p),[]⟩ (alY _) trivial;refine⟨this.1,?_,this.2.2⟩;have h2:=this.2.1;rw [show (DM.mk .hd (toBits (s.take p)) []).B.length=8* (s.take p).length from bj _,ai2] at h2;have: (DM.mk .hd (toBits (s.take p)) []).W.length=0:=rfl;unfold iz;omega
end
section
set_option maxRecDepth 100000
theorem QR {sy di:List Int} (yI:qz sy) (CV:qz di) {t:Tok} (hg:fL t=true): (qv sy di t).length≤50:=by
 unfold qv
 split
 ·have:=iR yI t.b.toNat;omega
 ·rcases jQ hg with ⟨h,_⟩ | ⟨h1,h2,h3,h4⟩
  ·contradiction
  obtain⟨s,e,x,es,el,eb,he5,nS⟩:=LO h1 h2;obtain⟨d,f,z,ed,edl,edb,YH,abz⟩:=LP h3 h4;have Hg:=iR yI (jn t.n).toNat;have Lo:=iR CV (jD t.d).toNat;rw [eb,edb];simp only [aiV,aX];omega
theorem DC {sy di:List Int} (yI:qz sy) (CV:qz di) {G:List Tok} (hg: ∀t∈G,fL t=true): (gh sy di G).length≤50*G.length+15:=by
 have h1: (G.flatMap (qv sy di)).length≤50*G.length:=zk fun t ht=>QR yI CV (hg t ht);have h2:=iR yI 256;unfold gh;rw [aiV];omega
def V0 (n:Nat) (l:Bool) (X:List Bool) (W V:List UInt8):Prop:= ∀C:List Bool,(n+X.length+C.length) %8=0→∃o,Steps ⟨.hd,X++C,W⟩ o (ib l C V)
def HM (B:List Bool) (W:List UInt8):Prop:= ∀C:List Bool,(B.length+C.length) %8=0→∃o,Steps ⟨.hd,B++C,[]⟩ o ⟨.hd,C,W⟩
theorem HM.nil:HM [] []:=fun C _=> ⟨_,Steps.refl⟩
theorem HM.add {B X:List Bool} {W V:List UInt8} (h:HM B W) (k:V0 B.length false X W V):HM (B++X) V:=fun C hC=>by
 rw [aiV] at hC;obtain⟨o1,s1⟩:=h (X++C) (by rw [aiV];omega);obtain⟨o2,s2⟩:=k C hC;rw [ai0];exact⟨_,s1.trans s2⟩
theorem HM.fin {B X:List Bool} {W V:List UInt8} {r:List Bool} (h:HM B W) (k:V0 B.length true X W V) (hr:r.length<8) (h8: (B++X++r).length%8=0):run ⟨.hd,B++X++r,[]⟩= (V,⟨.dn,[],V⟩,0):=by
 rw [aiV,aiV] at h8;obtain⟨o1,s1⟩:=h (X++r) (by rw [aiV];omega);obtain⟨o2,s2⟩:=k r h8;have iT:=s1.trans s2;have rS:dJ r= []:=by unfold dJ;rw [ajg hr,ajY]
 have hw:= (Steps.W iT trivial).1;have he:ib true r V= ⟨.dn,[],V⟩:=by unfold ib;rw [if_pos rfl,rS]
 rw [he] at iT hw;rw [ai0];have:=iT.fin rfl;rw [this];have hw:V= []++ (o1++o2):=hw;simp only [aje] at hw;rw [←hw]
theorem Ty {n:Nat} {l:Bool} {G:List Tok} {W V:List UInt8} (hG: ∀t∈G,ve gm nc t) (p8:pX gm 256) (ht:pY G W V):V0 n l (l::true::false::gh gm nc G) W V:=fun C _=>by
 obtain⟨o,s⟩:=nz y_ za p8 (C:=C) (l:=l) ht hG;exact⟨_,Steps.step (J8 (l:=l) (C:=gh gm nc G++C)) s⟩
theorem Tz {n:Nat} {x y z:List Int} {E:List Ex} {c:Nat} {l:Bool} {G:List Tok} {W V:List UInt8} (d:xQ x y z E c) (hx:qz x) (hy:qz y) (hG: ∀t∈G,ve x y t) (p8:pX x 256) (ht:pY G W V):V0 n l (l::false::true:: (rh x y z E c++gh x y G)) W V:=fun C _=>by
 obtain⟨o,s⟩:=nz hx hy p8 (C:=C) (l:=l) ht hG;have e:l::false::true:: (rh x y z E c++gh x y G)++C=l::false::true:: (rh x y z E c++ (gh x y G++C)):=by simp
 rw [e];exact⟨_,Steps.step (Ha d (l:=l) (C:=gh x y G++C) (W:=W)) s⟩
def NN (l:Bool) (r:List Bool) (s:List UInt8):List Bool:=l::false::false:: (r++ (a_ s.length 16++a_ (65535 - s.length) 16++toBits s))
theorem Ky {n:Nat} {l:Bool} {r:List Bool} {s W:List UInt8} (hs:s.length<65536) (hr:r.length<8) (hn: (n+3+r.length) %8=0):V0 n l (NN l r s) W (W++s):=fun C hC=>by
 have iJ:=bj s;unfold NN at hC ⊢;simp only [ai6,aiV,aX,iJ] at hC;have hC8:C.length%8=0:=by omega
 have rS:dJ (r++ (a_ s.length 16++a_ (65535 - s.length) 16++ (toBits s++C)))=a_ s.length 16++a_ (65535 - s.length) 16++ (toBits s++C):=by
  unfold dJ;rw [show (r++ (a_ s.length 16++a_ (65535 - s.length) 16++ (toBits s++C))).length%8=r.length by simp only [aiV,aX,iJ];omega,ale rfl]
 have s1:=G2 (l:=l) (W:=W) hs rS;have s2:=Nc (l:=l) (W:=W) (s:=s) hC8;have e:l::false::false:: (r++ (a_ s.length 16++a_ (65535 - s.length) 16++toBits s))++C=l::false::false:: (r++ (a_ s.length 16++a_ (65535 - s.length) 16++ (toBits s++C))):=by simp
 rw [e];exact⟨_,Steps.step s1 (Steps.one s2)⟩
theorem vw {s:Nat} (h:s<288):pX gm s:= ⟨by rw [show gm.length=288 by decide+kernel];exact h,(Nf ⟨s,h⟩).2⟩
theorem NO {s:Nat} (h:s<32):pX nc s:= ⟨by rw [show nc.length=32 by decide+kernel];exact h,(J9 ⟨s,h⟩).2⟩
theorem HN {t:Tok} (hg:fL t=true):ve gm nc t:=by
 unfold ve
 split
 ·have:=t.b.toNat_lt
  exact vw (by omega)
 ·rcases jQ hg with ⟨h,_⟩ | ⟨h1,h2,h3,h4⟩
  ·contradiction
  have f:=pN h1 h2;have g:=pO h3 h4;exact⟨vw (by omega),NO (by omega)⟩
end
section
set_option maxRecDepth 100000
variable {H H0 H' :ag} {R:Value→ag→Prop} {v:Value} {L:List It} {zs:List Int} {b:WP} {B:List Bool}
theorem yP (o:au H0 H L) (h: ∀H' M cb p q rest,It.box cb (p::q::rest) 232∈M→fX M gm p→fX M nc q→au H0 H' (M++L)→R (.pointer (some ⟨cb,0,none⟩)) H'):ab 119 #[] H R:=by
 refine wh.vc _ _ ?_;refine dU rfl rfl ?_;refine dU rfl rfl ?_;refine dU rfl rfl ?_;refine dU rfl rfl ?_;simp only [da,br,fG,b7,cR,ajU,ajS,ai6,ai_,Nat.reduceAdd,Nat.reduceLeDiff,true_and];refine⟨rfl,rfl,rfl,rfl,?_⟩;refine⟨fun l u H' => ∃i:Nat,u=i64 i∧i≤4∧au H0 H' (.sl l 1 (aP (gm.take (fixUp i)))::L),fun _ u _=>match u with| .int _ i=> (4 - i).toNat|_=>0,⟨0,rfl,by omega,o.M9⟩,?_⟩;rintro _ l2 _ H3 ⟨i,rfl,hi,o⟩;rw [aO];refine av (fun hc=>?_) (fun hc=>?_)
 ·have M_:i<4:=by omega
  obtain⟨e1,e2,e3,e4⟩:=GX ⟨i,M_⟩
  dsimp only at e1 e2 e3 e4
  have hx: ∀K:Value→Prop,K (.agg #[i64 (Vw i),i64 (fixUp (i+1))])→lf 4 2 (.agg [Value.int .i64 8,.int .i64 144,.int .i64 9,.int .i64 256,.int .i64 7,.int .i64 280,.int .i64 8,.int .i64 288].toArray) (i64 i) K:=by
   intro K hK;refine⟨by omega,by omega,?_⟩;rw [aiY]
   match i,M_ with
   |0,_=>exact hK
   |1,_=>exact hK
   |2,_=>exact hK
   |3,_=>exact hK
  refine hx _ ?_;refine GW o (by rw [e2];exact e3) e4 fun l H4 o=>?_;rw [e2,e1] at o;rw [ay,aJ];exact⟨⟨i+1,rfl,by omega,o⟩,by show (_:Int).toNat< (_:Int).toNat;omega⟩
 have M_:i=4:=by omega
 subst M_;rw [show gm.take (fixUp 4)=gm by decide+kernel] at o;refine⟨fun d u H' => ∃i:Nat,u=i64 i∧i≤32∧au H0 H' (.sl d 1 (aP (List.replicate i 5)):: .sl l2 1 (aP gm)::L),fun _ u _=>match u with| .int _ i=> (32 - i).toNat|_=>0,⟨0,rfl,by omega,o.M9⟩,?_⟩;rintro _ d3 _ H4 ⟨i,rfl,hi,o⟩;rw [aO];refine av (fun hc=>?_) (fun hc=>?_)
 ·refine o.cy (by decide) rfl rfl fun y H5 o=>?_
  refine o.app (v:=d3) (x:=y) (by repeat(first|exact dD.here|apply dD.there)) (o.cf) (by rfl) (by rw [aV,ajB];show 2* (i+1)*8≤_;omega) fun y2 H6 o=>?_;rw [pV,←ald] at o;rw [ay,aJ];exact⟨⟨i+1,rfl,by omega,o.nw⟩,by show (_:Int).toNat< (_:Int).toNat;omega⟩
 have Vx:i=32:=by omega
 subst Vx;refine o.box fun cb H5 o _=>?_;have o:au H0 H5 (.box cb [.pointer none,.pointer none,.pointer none,.slice none 0 0,.int .i64 0,.int .i64 0,.int .i64 0] 232:: .sl d3 1 (aP (List.replicate 32 5)):: .sl l2 1 (aP gm)::L):=o;refine ir (zs:=gm) o (o.cf (v:=l2)) (by decide+kernel) (fun H5 hw=>absurd AP hw) fun H6 M p _ hp o=>?_;refine ai (vs:= [p,.int .i64 0]) rfl ?_;refine ai (vs:= [p,.int .i64 0]) rfl ?_;rw [aD,ae,ax];have o:=o.mid;have um:=hp;obtain⟨_,cb1,lv1,wv1,sv1,hpe,_⟩:=um;refine o.eV (b:=cb) (f:=0+0) (x:=p) (by repeat(first|exact aiX|apply aiW)) (by decide) (by rw [hpe];rfl) (by repeat(first|exact cx.here|apply cx.there)) fun H7 o _=>?_;have o:au H0 H7 (.box cb [p,.pointer none,.pointer none,.slice none 0 0,.int .i64 0,.int .i64 0,.int .i64 0] 232:: (M++ .sl d3 1 (aP (List.replicate 32 5)):: .sl l2 1 (aP gm)::L)):=o;have o:=o.pick (List.Sublist.cons_cons _ (akI (ako M) (List.Sublist.cons_cons _ (aki _ L))));refine ir (zs:=nc) o (o.sl (v:=d3) (aiW _ (akJ _ (by repeat(first|exact aiX|apply aiW))))) (by decide+kernel) (fun H5 hw=>absurd AQ hw) fun H8 M2 q _ hq o=>?_;refine ai (vs:= [q,.int .i64 0]) rfl ?_;refine ai (vs:= [q,.int .i64 0]) rfl ?_;rw [aD,ae,ax];have o:=o.mid;have zg:=hq;obtain⟨_,cb2,lv2,wv2,sv2,QI,_⟩:=zg;refine o.eV (b:=cb) (f:=0+1) (x:=q) (by repeat(first|exact aiX|apply aiW)) (by simp) (by rw [QI];rfl) (by repeat(first|exact cx.here|apply cx.there)) fun H9 o _=>?_;have o:au H0 H9 (.box cb [p,q,.pointer none,.slice none 0 0,.int .i64 0,.int .i64 0,.int .i64 0] 232:: (M2++ (M++ .sl d3 1 (aP (List.replicate 32 5))::L))):=o;have o:=o.pick (List.Sublist.cons_cons _ (akI (ako M2) (akI (ako M) (aki _ L))));have e:It.box cb [p,q,.pointer none,.slice none 0 0,.int .i64 0,.int .i64 0,.int .i64 0] 232:: (M2++ (M++L))= (It.box cb [p,q,.pointer none,.slice none 0 0,.int .i64 0,.int .i64 0,.int .i64 0] 232:: (M2++M))++L:=by simp
 rw [e] at o;exact h H9 _ cb p q _ (by repeat(first|exact aiX|apply aiW)) hp.app.cons hq.nH.cons o
theorem V1 (l:Bool):a_ (2+ (if l then 1 else 0)) 3= [l,true,false]:=by cases l<;>rfl
theorem V2 (l:Bool):a_ (0+ (if l then 1 else 0)) 3= [l,false,false]:=by cases l<;>rfl
theorem NP {G:List Tok} {lv dv:Value} {s:List UInt8} {l:Bool} (iJ:s.length≤65535) (hl:It.sl lv 3 (dw G)∈L) (hlen:G.length≤65535) (hg: ∀t∈G,fL t=true) (eU:B.length≤400000000)
  (o:au H0 H (.aE (lD b dv B)::L))
  (h: ∀H' jV,au H0 H' (.aE (lD b jV (B++ (l::true::false::gh gm nc G)))::L)→R (.int .i64 0) H'):
  ab 69 #[b.at,.int .i64 1,.bool l,str s,lv] H R:=by
 refine q_.vc _ _ _ _ _ _ _ ?_;rw [fC];refine aM ?_;refine vo (kind:=1) (by decide) iJ (o.sl (v:=lv) (aiW _ hl)) hlen hg fun H1 jg=>?_;rw [dq];intro _;show aq (.bool false) _ _;rw [ak,cP,cF (by decide) (by decide),fB];refine⟨by decide,?_⟩;have o1:=o.more jg;refine⟨fun hd H' =>hd= .int .u64 ((2+ (if l then 1 else 0):Nat):Int)∧H1=H',?_,?_⟩
 ·rintro _ _ _ ⟨rfl,rfl⟩
  refine p7 (n:=2+ (if l then 1 else 0)) (k:=3) (by split<;>omega) (by decide) (by omega) o1 fun H3 Tw o=>?_;rw [aZ,qO,ak,aZ,decide_eq_true rfl,aL];refine yP o fun H4 M cb p q rest yL hp hq o=>?_;have o:=o.perm (L' := .aE (lD b Tw (B++a_ (2+ (if l then 1 else 0)) 3)):: (M++L)) alD.symm;refine x9 (sy:=gm) (di:=nc) (akJ _ hl) (akq _ yL) hp.nH hq.nH (vw (by decide)) (fun t ht=> ⟨hg t ht,HN (hg t ht)⟩) hlen (by rw [aiV,aX];omega) o fun H6 Uu o=>?_;refine h H6 Uu ?_;rw [V1] at o;simp only [ai0,ake,aje] at o ⊢;exact o.pick (List.Sublist.cons_cons _ (ak0 M L))
 ·rw [show IntKind.u64.wrap (1*2 ^ (min (1:Int).toNat IntKind.u64.bits))=2 from rfl]
  cases l
  ·rw [ak];exact⟨rfl,rfl⟩
  ·rw [aL,cu];exact⟨rfl,rfl⟩
def HO (n:Nat):List Bool:=List.replicate ((8 - n%8) %8) false
theorem vA (n:Nat): (HO n).length<8∧(n+ (HO n).length) %8=0:=by
 unfold HO;rw [ajB];omega
theorem V3 {X:List Bool} (h:X.length%8=0):kr X=X:=by
 unfold kr;rw [h]
 simp
theorem E_ {G:List Tok} {lv dv:Value} {s:List UInt8} {l:Bool} (iJ:s.length≤65535) (hl:It.sl lv 3 (dw G)∈L) (hlen:G.length≤65535) (hg: ∀t∈G,fL t=true) (eU:B.length≤400000000)
  (o:au H0 H (.aE (lD b dv B)::L))
  (h: ∀H' jV,au H0 H' (.aE (lD b jV (B++NN l (HO (B.length+3)) s))::L)→R (.int .i64 0) H'):
  ab 69 #[b.at,.int .i64 0,.bool l,str s,lv] H R:=by
 refine q_.vc _ _ _ _ _ _ _ ?_;rw [fC];refine aM ?_;refine vo (kind:=0) (by decide) iJ (o.sl (v:=lv) (aiW _ hl)) hlen hg fun H1 jg=>?_;rw [dq];intro _;show aq (.bool false) _ _;rw [ak,cP,cF (by decide) (by decide),fB];refine⟨by decide,?_⟩;have o1:=o.more jg;refine⟨fun hd H' =>hd= .int .u64 ((0+ (if l then 1 else 0):Nat):Int)∧H1=H',?_,?_⟩
 ·rintro _ _ _ ⟨rfl,rfl⟩
  refine p7 (n:=0+ (if l then 1 else 0)) (k:=3) (by split<;>omega) (by decide) (by omega) o1 fun H3 Tw o=>?_;rw [aZ,decide_eq_true rfl,aL,V2] at*;have QS: (B++ [l,false,false]).length=B.length+3:=by rw [aiV];rfl
  refine nD (vk o (by repeat(first|exact aiX|apply aiW))) (by omega) fun H4 Sc w c4=>?_;have o:=nE o w c4 cx.here (by repeat(first|exact aiX|apply aiW));have HJ:kr (B++ [l,false,false])= (B++ [l,false,false])++HO (B.length+3):=by unfold kr HO;rw [QS]
  have yM:=vj (B++ [l,false,false]);have Z9:= (vA (B.length+3)).1;have hlp: (kr (B++ [l,false,false])).length=B.length+3+ (HO (B.length+3)).length:=by rw [HJ,aiV];omega
  refine aC ?_;refine a8 ?_;rw [cF (by omega) (by omega)];refine bZ (n:=s.length) (k:=2) (by omega) (by decide) (by decide) fun H5 nS=>?_;refine aC ?_;rw [bq,show (65535:Int) - (s.length:Int)= ((65535 - s.length:Nat):Int) by omega,aJ];refine a8 ?_;rw [cF (by omega) (by omega)];refine bZ (n:=65535 - s.length) (k:=2) (by omega) (by decide) (by decide) fun H6 pc=>?_;refine aQ (by rw [az,az];omega) ?_;refine aQ (by rw [aiV,az,az];omega) ?_;have o:= (o.more nS).more pc;refine NA (vk o (by repeat(first|exact aiX|apply aiW))) (by simp only [aiV,az,hlp];omega) fun H7 dv7 w c7=>?_;have o:=nE o w c7 cx.here (by repeat(first|exact aiX|apply aiW));rw [V3 yM.1,HJ,cG,cG,rr,rr] at o;refine h H7 dv7 ?_;unfold NN;simp only [ai0,ake,aje] at o ⊢;exact o
 ·rw [show IntKind.u64.wrap (0*2 ^ (min (1:Int).toNat IntKind.u64.bits))=0 from rfl]
  cases l
  ·rw [ak];exact⟨rfl,rfl⟩
  ·rw [aL,cu];exact⟨rfl,rfl⟩
inductive Bj (n:Nat) (l:Bool) (s:List UInt8) (G:List Tok):Nat→List Bool→Prop
 |stored:Bj n l s G 0 (NN l (HO (n+3)) s)
 |fixed:Bj n l s G 1 (l::true::false::gh gm nc G)
 |dyn {x y z:List Int} {E:List Ex} {c:Nat}:NJ G x y z E c→Bj n l s G 2 (l::false::true:: (rh x y z E c++gh x y G))
theorem Bj.one {n k:Nat} {l:Bool} {s:List UInt8} {G:List Tok} {X Y:List Bool} (h:Bj n l s G k X) (g:Bj n l s G k Y):X=Y:=by
 cases h with
 |stored=>cases g;rfl
 |fixed=>cases g;rfl
 |dyn h=>cases g with
  |dyn g=>obtain⟨rfl,rfl,rfl,rfl,rfl⟩:=h.one g;rfl
theorem DD {G:List Tok} {lv dv:Value} {s W V:List UInt8} {kind:Nat} {l:Bool} (hk:kind<3) (hG:Reads H0 ⟨0,0,none⟩ fY) (iJ:s.length≤65535) (hl:It.sl lv 3 (dw G)∈L) (hlen:G.length≤65535) (eU:B.length≤400000000)
  (hV0:kind=0→V=W++s) (hg: ∀t∈G,fL t=true) (hV:kind≠0→pY G W V)
  (o:au H0 H (.aE (lD b dv B)::L))
  (h: ∀H' jV X,Bj B.length l s G kind X→V0 B.length l X W V→X.length≤21000+50*G.length+8*s.length→au H0 H' (.aE (lD b jV (B++X))::L)→R (.int .i64 0) H'):
  ab 69 #[b.at,.int .i64 (kind:Int),.bool l,str s,lv] H R:=by
 match kind,hk with
 |0,_=>
  refine E_ iJ hl hlen hg eU o fun H' jV o=>h H' jV _ .stored ?_ ?_ o
  ·rw [hV0 rfl];exact Ky (by omega) (vA _).1 (vA _).2
  ·have:= (vA (B.length+3)).1
   unfold NN;simp only [ai6,aiV,aX,bj];omega
 |1,_=>
  refine NP iJ hl hlen hg eU o fun H' jV o=>h H' jV _ .fixed (Ty (fun t ht=>HN (hg t ht)) (vw (by decide)) (hV (by decide))) ?_ o;have:=DC y_ za hg;simp only [ai6];omega
 |2,_=>
  refine DB hG iJ hl hlen hg eU o fun H' jV x y z E c d dx p8 hx hy Sb o=>h H' jV _ (.dyn dx) (Tz d hx hy Sb p8 (hV (by decide))) ?_ o;have h1:=DC hx hy hg;have h2:=Bh d;simp only [ai6,aiV];omega
end
section
set_option maxRecDepth 100000
def eI (T:List UInt8) (i:Nat):Nat:= ((T.getD i 0).toNat*1024 ^^^ (T.getD (i+1) 0).toNat*32 ^^^ (T.getD (i+2) 0).toNat) %32768
def lF (T:List UInt8) (k i:Nat):Nat→Nat
 |0=>0
 |m+1=>if T.getD k 0=T.getD i 0 then lF T (k+1) (i+1) m+1 else 0
theorem HP (T:List UInt8): ∀ (m k i:Nat),lF T k i m≤m
 |0,_,_=>aiZ _
 |m+1,k,i=>by
  unfold lF
  split
  ·have:=HP T m (k+1) (i+1);omega
  ·omega
theorem Bk (T:List UInt8): ∀ (m k i p:Nat),p<lF T k i m→T.getD (k+p) 0=T.getD (i+p) 0
 |0,k,i,p,h=>by unfold lF at h;omega
 |m+1,k,i,p,h=>by
  unfold lF at h
  split at h
  ·rename_i he
   cases p with
   |zero=>exact he
   |succ p=>
    have:=Bk T m (k+1) (i+1) p (by omega);rw [show k+ (p+1)=k+1+p by omega,show i+ (p+1)=i+1+p by omega];exact this
  ·omega
theorem HQ (T:List UInt8): ∀ (m k i:Nat),lF T k i m<m→T.getD (k+lF T k i m) 0≠T.getD (i+lF T k i m) 0
 |0,k,i,h=>by unfold lF at h;omega
 |m+1,k,i,h=>by
  unfold lF at h ⊢
  split at h
  ·rename_i he
   rw [if_pos he];have:=HQ T m (k+1) (i+1) (by omega);rw [show k+ (lF T (k+1) (i+1) m+1)=k+1+lF T (k+1) (i+1) m by omega,show i+ (lF T (k+1) (i+1) m+1)=i+1+lF T (k+1) (i+1) m by omega];exact this
  ·rename_i he
   rw [if_neg he];exact he
def sE (T:List UInt8) (k i:Nat):Nat:=lF T k i (min 258 (T.length - i))
theorem zn (T:List UInt8) (k i:Nat):sE T k i≤258∧sE T k i≤T.length - i:=by
 have:=HP T (min 258 (T.length - i)) k i;unfold sE;omega
def dV (T:List UInt8):Nat→Nat→Nat
 |0,_=>0
 |e+1,h=>if e+3≤T.length∧eI T e=h then e+1 else dV T e h
theorem mT (T:List UInt8) (h:Nat): ∀e,dV T e h≤e
 |0=>aiZ _
 |e+1=>by
  unfold dV
  split
  ·omega
  ·have:=mT T h e;omega
theorem Bl (T:List UInt8) (h:Nat): ∀e,0<dV T e h→dV T e h - 1+3≤T.length∧eI T (dV T e h - 1)=h
 |0,h0=>by unfold dV at h0;omega
 |e+1,h0=>by
  unfold dV at h0 ⊢
  split
  ·rename_i hc;exact hc
  ·rename_i hc
   rw [if_neg hc] at h0;exact Bl T h e h0
def lT (T:List UInt8) (i k eZ:Nat):Nat:=if eZ<sE T (k - 1) i then sE T (k - 1) i else eZ
def ru (T:List UInt8) (i k eZ jj:Nat):Nat:=if eZ<sE T (k - 1) i then i - (k - 1) else jj
def mU (T:List UInt8) (depth i:Nat):Nat→Nat→Nat→Nat→Nat→Nat × Nat
 |0,_,_,eZ,jj=> (eZ,jj)
 |c+1,n,k,eZ,jj=>if 0<k∧n<depth∧i - (k - 1)≤32768 then
   (if lT T i k eZ=258 then (lT T i k eZ,ru T i k eZ jj)
   else mU T depth i c (n+1) (dV T (k - 1) (eI T (k - 1))) (lT T i k eZ) (ru T i k eZ jj))
  else (eZ,jj)
theorem HR {T:List UInt8} {depth i c n k eZ jj:Nat} (h:0<k∧n<depth∧i - (k - 1)≤32768) (h2:lT T i k eZ≠258):mU T depth i (c+1) n k eZ jj=mU T depth i c (n+1) (dV T (k - 1) (eI T (k - 1))) (lT T i k eZ) (ru T i k eZ jj):=by
 show (if 0<k∧n<depth∧i - (k - 1)≤32768 then _ else _)=_;rw [if_pos h,if_neg h2]
theorem Bm {T:List UInt8} {depth i c n k eZ jj:Nat} (h:0<k∧n<depth∧i - (k - 1)≤32768) (h2:lT T i k eZ=258):mU T depth i (c+1) n k eZ jj= (lT T i k eZ,ru T i k eZ jj):=by
 show (if 0<k∧n<depth∧i - (k - 1)≤32768 then _ else _)=_;rw [if_pos h,if_pos h2]
theorem Bn {T:List UInt8} {depth i c n k eZ jj:Nat} (h: ¬ (0<k∧n<depth∧i - (k - 1)≤32768)):mU T depth i (c+1) n k eZ jj= (eZ,jj):=by
 show (if 0<k∧n<depth∧i - (k - 1)≤32768 then _ else _)=_;rw [if_neg h]
def dN (T:List UInt8) (depth i:Nat):Nat × Nat:=if T.length<i+3 then (0,0) else if (mU T depth i (i+1) 0 (dV T i (eI T i)) 0 0).1<3 then (0,0) else mU T depth i (i+1) 0 (dV T i (eI T i)) 0 0
def Is (T:List UInt8) (i n d:Nat):Prop:=1≤d∧d≤i∧d≤32768∧n=sE T (i - d) i
theorem HS {T:List UInt8} {depth i:Nat}: ∀c n k eZ jj,k≤i→(eZ=0∨Is T i eZ jj)→(mU T depth i c n k eZ jj).1=0∨Is T i (mU T depth i c n k eZ jj).1 (mU T depth i c n k eZ jj).2
 |0,n,k,eZ,jj,hk,h=>h
 |c+1,n,k,eZ,jj,hk,h=>by
  by_cases hc:0<k∧n<depth∧i - (k - 1)≤32768
  ·have F4:lT T i k eZ=0∨Is T i (lT T i k eZ) (ru T i k eZ jj):=by
    unfold lT ru
    by_cases hb:eZ<sE T (k - 1) i
    ·rw [if_pos hb,if_pos hb]
     right
     refine⟨by omega,by omega,hc.2.2,?_⟩;rw [show i - (i - (k - 1))=k - 1 by omega]
    ·rw [if_neg hb,if_neg hb];exact h
   by_cases TA:lT T i k eZ=258
   ·rw [Bm hc TA];exact F4
   ·rw [HR hc TA]
    exact HS c _ _ _ _ (by have:=mT T (eI T (k - 1)) (k - 1);omega) F4
  ·rw [Bn hc];exact h
theorem HT {T:List UInt8} {depth i:Nat} (h: (dN T depth i).1≠0):3≤(dN T depth i).1∧Is T i (dN T depth i).1 (dN T depth i).2:=by
 unfold dN at h ⊢
 split
 ·rename_i hc;rw [if_pos hc] at h;exact absurd rfl h
 ·rename_i hc
  rw [if_neg hc] at h
  split
  ·rename_i h3;rw [if_pos h3] at h;exact absurd rfl h
  ·rename_i h3
   refine⟨by omega,?_⟩;rcases HS (T:=T) (depth:=depth) (i:=i) (i+1) 0 (dV T i (eI T i)) 0 0 (mT T _ i) (.inl rfl) with h0|h0
   ·omega
   ·exact h0
end
section
set_option maxRecDepth 100000
variable {H H0:ag} {R:Value→ag→Prop} {v:Value} {L:List It} {T:List UInt8} {fb at_ dp e:Nat}
theorem LV {a b:Nat} (ha:a<4611686018427387904) (hb:b<4611686018427387904):bitsOf .xor .i64 (a:Int) (b:Int)= ((a ^^^ b:Nat):Int):=by
 have cL:a ^^^ b<2 ^ 62:=akE (by simpa using ha) (by simpa using hb);have e: ((BitVec.ofInt 64 (a:Int)) ^^^ (BitVec.ofInt 64 (b:Int))).toNat=a ^^^ b:=by
  rw [alM,ajT,ajT,ajH,ajH,ajg (by omega),ajg (by omega)]
 show IntKind.i64.wrap ((((BitVec.ofInt 64 (a:Int)) ^^^ (BitVec.ofInt 64 (b:Int))).toNat:Nat):Int)=_;rw [e,aJ]
abbrev NQ (b:Nat):Value:= .pointer (some ⟨b,0,none⟩)
def tU (l:List Nat):List Value:=l.map fun n:Nat=> .int .i64 (n:Int)
theorem HU (l:List Nat): (tU l).length=l.length:=by simp [tU]
theorem QT {l:List Nat} {i:Nat} (h:i<l.length): (tU l)[i]? =some (.int .i64 (l.getD i 0:Int)):=by
 unfold tU;rw [aji,ai1 h,ai3,ai1 h];rfl
theorem QU (l:List Nat) (i n:Nat): (tU l).set i (.int .i64 (n:Int))=tU (l.set i n):=by unfold tU;rw [List.map_set]
def CA (r:Nat) (m:Int→Option Value):eX where
 dF k:=k=r
 holds H:=eh (rP .i64) H r m
 frame:=fun h hf=>h.ym (hf r rfl)
 lt:=fun h hf=>by subst hf;exact h.lt
def CB (T:List UInt8) (e:Nat):Int→Option Value:=fun k=>if 0≤k∧0<dV T e k.toNat then some (.int .i64 (dV T e k.toNat:Int)) else none
theorem LW (T:List UInt8) (e h:Nat): (CB T e (h:Int)).getD (.int .i64 0)= .int .i64 (dV T e h:Int):=by
 unfold CB;rw [aiY]
 by_cases hc:0<dV T e h
 ·rw [if_pos ⟨by omega,hc⟩];rfl
 ·rw [if_neg (fun g=>hc g.2),show dV T e h=0 by omega];rfl
theorem QV (T:List UInt8):CB T 0=fun _=>none:=by
 funext k
 unfold CB dV;rw [if_neg (by omega)]
theorem Bo {T:List UInt8} {e:Nat} (h:e+3≤T.length) (x:Nat):dV T (e+1) x=if x=eI T e then e+1 else dV T e x:=by
 show (if e+3≤T.length∧eI T e=x then e+1 else dV T e x)=_
 by_cases hx:x=eI T e
 ·rw [if_pos ⟨h,hx.symm⟩,if_pos hx]
 ·rw [if_neg (fun g=>hx g.2.symm),if_neg hx]
theorem NR {T:List UInt8} {e:Nat} (h: ¬e+3≤T.length) (x:Nat):dV T (e+1) x=dV T e x:=by
 show (if e+3≤T.length∧eI T e=x then e+1 else dV T e x)=_;rw [if_neg (fun g=>h g.1)]
theorem QW {T:List UInt8} {e:Nat} (h:e+3≤T.length):uu (rP .i64) (CB T e) (eI T e:Int) (some (.int .i64 ((e+1:Nat):Int)))=CB T (e+1):=by
 funext k
 by_cases hk:k= (eI T e:Int)
 ·subst hk
  rw [od];unfold CB;rw [aiY,Bo h,if_pos rfl,if_pos ⟨by omega,by omega⟩]
 ·rw [lZ _ hk]
  unfold CB;rw [Bo h]
  by_cases h0:0≤k
  ·rw [if_neg (show ¬k.toNat=eI T e by omega)]
  ·rw [if_neg (fun g=>h0 g.1),if_neg (fun g=>h0 g.1)]
theorem TB {T:List UInt8} {e:Nat} (h: ¬e+3≤T.length):CB T (e+1)=CB T e:=by
 funext k
 unfold CB;rw [NR h]
def qx (T:List UInt8) (e:Nat):List Nat:= (List.range T.length).map fun j=>if j<e∧j+3≤T.length then dV T j (eI T j) else 0
theorem vB (T:List UInt8) (e:Nat): (qx T e).length=T.length:=by simp [qx]
theorem QY {T:List UInt8} {e j:Nat} (h:j<e) (h2:j+3≤T.length): (qx T e).getD j 0=dV T j (eI T j):=by
 unfold qx;rw [ai3,aji,aka (by omega)];show (if j<e∧j+3≤T.length then dV T j (eI T j) else 0)=_;rw [if_pos ⟨h,h2⟩]
theorem NS {T:List UInt8} {e:Nat} (h:e+3≤T.length): (qx T e).set e (dV T e (eI T e))=qx T (e+1):=by
 apply aj4;intro i;rw [amI,vB];unfold qx
 by_cases hi:e=i
 ·subst hi
  rw [if_pos rfl,if_pos (by omega),aji,aka (by omega)];show _=some (if e<e+1∧e+3≤T.length then dV T e (eI T e) else 0);rw [if_pos ⟨by omega,h⟩]
 ·rw [if_neg hi]
  by_cases hl:i<T.length
  ·rw [aji,aji,aka hl]
   show some (if i<e∧i+3≤T.length then dV T i (eI T i) else 0)=some (if i<e+1∧i+3≤T.length then dV T i (eI T i) else 0);have MV: (i<e∧i+3≤T.length)↔(i<e+1∧i+3≤T.length):=by omega
   simp only [MV]
  ·rw [ajm (by simp;omega),ajm (by simp;omega)]
theorem QZ {T:List UInt8} {e:Nat} (h: ¬e+3≤T.length):qx T (e+1)=qx T e:=by
 unfold qx;refine akm fun i _=>?_;have MV: (i<e+1∧i+3≤T.length)↔(i<e∧i+3≤T.length):=by omega
 simp only [MV]
abbrev V4 (fb:Nat) (T:List UInt8) (at_ r:Nat) (pv:Value) (dp:Nat):It:= .box fb [str T,.int .i64 (at_:Int),.map (some r),pv,.int .i64 (dp:Int)] 406
def FS (H0 H:ag) (fb:Nat) (T:List UInt8) (at_ dp e:Nat) (L:List It):Prop:= ∃r pv,au H0 H (V4 fb T at_ r pv dp:: .aE (CA r (CB T e)):: .sl pv 1 (tU (qx T e))::L)
theorem FS.ext (f:FS H0 H fb T at_ dp e L):Ext H0 H:=by obtain⟨_,_,o⟩:=f;exact o.ext
theorem FS.more {H' :ag} (f:FS H0 H fb T at_ dp e L) (hx:Ext H H'):FS H0 H' fb T at_ dp e L:=by
 obtain⟨r,pv,o⟩:=f;exact⟨r,pv,o.more hx⟩
theorem Bp {i r:Nat} {pv:Value} (o:au H0 H L) (fH:V4 fb T at_ r pv dp∈L) (hi:i+3≤T.length) (hl:T.length≤1000000) (h:R (.int .i64 (eI T i:Int)) H):ab 322 #[NQ fb,.int .i64 (i:Int)] H R:=by
 refine uU.vc _ _ _ _ ?_;have h0:= (T.getD i 0).toNat_lt;have h1:= (T.getD (i+1) 0).toNat_lt;have h2:= (T.getD (i+2) 0).toNat_lt;rw [aD,ae,ax];refine o.dc (f:=0+0) fH rfl ?_;rw [cc];refine⟨by omega,by rw [bB];omega,?_⟩;rw [bB,aiY,cP,ff (n:= (((T.getD i 0).toNat:Nat):Int)) (by omega) (by omega),fB];refine⟨by decide,?_⟩;rw [show (((T.getD i 0).toNat:Nat):Int)*2 ^ (min (Int.toNat 10) IntKind.i64.bits)= (((T.getD i 0).toNat*1024:Nat):Int) from by
  rw [show min (Int.toNat 10) IntKind.i64.bits=10 from rfl];omega,aJ,ay,show (i:Int)+1= ((i+1:Nat):Int) by omega,aJ,cc]
 refine⟨by omega,by rw [bB];omega,?_⟩;rw [bB,aiY,cP,ff (n:= (((T.getD (i+1) 0).toNat:Nat):Int)) (by omega) (by omega),fB];refine⟨by decide,?_⟩;rw [show (((T.getD (i+1) 0).toNat:Nat):Int)*2 ^ (min (Int.toNat 5) IntKind.i64.bits)= (((T.getD (i+1) 0).toNat*32:Nat):Int) from by
  rw [show min (Int.toNat 5) IntKind.i64.bits=5 from rfl];omega,aJ,cu,LV (by omega) (by omega),ay,show (i:Int)+2= ((i+2:Nat):Int) by omega,aJ,cc]
 refine⟨by omega,by rw [bB];omega,?_⟩;rw [bB,aiY,cP,ff (n:= (((T.getD (i+2) 0).toNat:Nat):Int)) (by omega) (by omega),cu];have hx: (T.getD i 0).toNat*1024 ^^^ (T.getD (i+1) 0).toNat*32<2 ^ 20:=akE (by omega) (by omega);rw [LV (by omega) (by omega),cu,nh (k:=15) (m:=32767) (by decide) rfl];exact h
theorem ry (f:FS H0 H fb T at_ dp e L) (hl:T.length≤1000000) (he:e≤T.length) (h: ∀H',FS H0 H' fb T at_ dp (e+1) L→R (.tuple #[]) H'):ab 319 #[NQ fb,.int .i64 (e:Int)] H R:=by
 obtain⟨r,pv,o⟩:=f;refine tA.vc _ _ _ _ ?_;rw [ay,ff (n:= (e:Int)+3) (by omega) (by omega),aD,ae,ax];refine o.aw (b:=fb) (f:=0+0) ?_;refine aC ?_;rw [bc];refine av (fun hc=>?_) (fun hc=>?_)
 ·have cQ: ¬e+3≤T.length:=by omega
  exact h H ⟨r,pv,by rw [TB cQ,QZ cQ];exact o⟩
 ·have YV:e+3≤T.length:=by omega
  refine Bp (fb:=fb) (r:=r) (pv:=pv) (at_:=at_) (dp:=dp) o (by repeat(first|exact aiX|apply aiW)) YV hl ?_;rw [aD,ae,ax];refine o.aw (b:=fb) (f:=0+3) ?_;rw [aD,ae,ax];refine o.aw (b:=fb) (f:=0+2) ?_;refine eh.lookup (κ:=rP .i64) (o.dS (T:=CA r (CB T e))) (k:= (eI T e:Int)) ?_;rw [cond_false,LW];have yM: (tU (qx T e)).length=T.length*1:=by rw [HU,vB,ai5]
  refine(o.cf (v:=pv)).gG yM fun p hp=>?_;refine o.store hp (by repeat(first|exact aiX|apply aiW)) (by rw [yM];omega) rfl (by repeat(first|exact cx.here|apply cx.there)) fun H1 o _=>?_;rw [aiY,ai5,QU,NS YV] at o;rw [aD,ae,ax];refine o.aw (b:=fb) (f:=0+2) ?_;rw [ay,show (e:Int)+1= ((e+1:Nat):Int) by omega,aJ];refine eh.set (κ:=rP .i64) (o.dS (T:=CA r (CB T e))) (k:= (eI T e:Int)) fun H2 hm hs cQ=>?_;rw [QW YV] at hm;exact h H2 ⟨r,pv,o.jC (i:= .aE (CA r (CB T e))) (i' := .aE (CA r (CB T (e+1)))) (by repeat(first|exact cx.here|apply cx.there)) (by omega) (fun k _ hf=>cQ k hf) hm (fun k hk=> .inl hk)⟩
theorem NT {k i r:Nat} {pv:Value} (o:au H0 H L) (fH:V4 fb T at_ r pv dp∈L) (hk:k≤i) (hi:i≤T.length) (hl:T.length≤1000000) (h:R (.int .i64 (sE T k i:Int)) H):ab 323 #[NQ fb,.int .i64 (k:Int),.int .i64 (i:Int)] H R:=by
 refine su.vc _ _ _ _ _ ?_;rw [aD,ae,ax];refine o.dc (f:=0+0) fH rfl ?_;refine aC ?_;rw [bq,show (T.length:Int) - (i:Int)= ((T.length - i:Nat):Int) by omega,aJ,kF,show min (258:Int) ((T.length - i:Nat):Int)= ((min 258 (T.length - i):Nat):Int) by omega];refine⟨fun n H' => ∃q:Nat,n= .int .i64 q∧q≤sE T k i∧H=H',fun n _=>match n with| .int _ x=>1000 - x.toNat|_=>0,⟨0,rfl,by omega,rfl⟩,?_⟩;rintro _ _ _ ⟨q,rfl,hq,rfl⟩;have hle:=zn T k i;rw [aO];refine dC (d:=decide (T.getD (k+q) 0=T.getD (i+q) 0)) (fun hc=>?_) ?_
 ·rw [decide_eq_true_eq] at hc
  rw [aD,ae,ax];refine o.dc (f:=0+0) fH rfl ?_;rw [ay,show (k:Int)+ (q:Int)= ((k+q:Nat):Int) by omega,aJ,cc];refine⟨by omega,by rw [bB];omega,?_⟩;rw [bB,aiY,aD,ae,ax];refine o.dc (f:=0+0) fH rfl ?_;rw [ay,show (i:Int)+ (q:Int)= ((i+q:Nat):Int) by omega,aJ,cc];refine⟨by omega,by rw [bB];omega,?_⟩;rw [bB,aiY,aZ];refine⟨?_,rfl⟩
  congr 1
  rw [decide_eq_decide]
  constructor
  ·intro g
   exact UInt8.toNat_inj.1 (by omega)
  ·intro g;rw [g]
 intro _;refine cN (fun hc=>?_) (fun hc=>?_)
 ·rw [aja,decide_eq_true_eq,decide_eq_true_eq] at hc
  have hqm:q<min 258 (T.length - i):=by omega
  rw [ay,ff (n:= (q:Int)+1) (by omega) (by omega)];refine⟨⟨q+1,rfl,?_,rfl⟩,by show 1000 - ((q:Int)+1).toNat<1000 - (q:Int).toNat;omega⟩
  by_cases cL:q<sE T k i
  ·omega
  ·have QI:sE T k i=q:=by omega
   have:=HQ T (min 258 (T.length - i)) k i (by show sE T k i<_;omega);rw [show lF T k i (min 258 (T.length - i))=q from QI] at this;exact absurd hc.2 this
 ·have QI:q=sE T k i:=by
   by_cases cL:q<sE T k i
   ·have:=Bk T (min 258 (T.length - i)) k i q cL
    rw [this,decide_eq_true rfl,Bool.and_true,decide_eq_false_iff_not] at hc;omega
   ·omega
  rw [QI];exact h
theorem sQ (f:FS H0 H fb T at_ dp e L) (hl:T.length≤1000000) (he:e≤T.length) (h:R (.tuple #[.int .i64 ((dN T dp e).1:Int),.int .i64 ((dN T dp e).2:Int)]) H):ab 320 #[NQ fb,.int .i64 (e:Int)] H R:=by
 obtain⟨r,pv,o⟩:=f;refine q7.vc _ _ _ _ ?_;rw [ay,ff (n:= (e:Int)+3) (by omega) (by omega),aD,ae,ax];refine o.aw (b:=fb) (f:=0+0) ?_;refine aC ?_;rw [bc];refine av (fun hc=>?_) (fun hc=>?_)
 ·unfold dN at h
  rw [if_pos (by omega)] at h;exact h
 have YV:e+3≤T.length:=by omega
 have YW:dN T dp e=if (mU T dp e (e+1) 0 (dV T e (eI T e)) 0 0).1<3 then (0,0) else mU T dp e (e+1) 0 (dV T e (eI T e)) 0 0:=by
  unfold dN;rw [if_neg (by omega)]
 rw [YW] at h;rw [aD,ae,ax];refine o.aw (b:=fb) (f:=0+2) ?_;refine Bp (fb:=fb) (r:=r) (pv:=pv) (at_:=at_) (dp:=dp) o (by repeat(first|exact aiX|apply aiW)) YV hl ?_;refine⟨o.aw (b:=fb) (f:=0+2) rfl,?_⟩;refine eh.lookup (κ:=rP .i64) (o.dS (T:=CA r (CB T e))) (k:= (eI T e:Int)) ?_;rw [LW];have yM: (tU (qx T e)).length=T.length*1:=by rw [HU,vB,ai5]
 generalize hW:mU T dp e (e+1) 0 (dV T e (eI T e)) 0 0=W at*;refine⟨fun b d H' =>b= .int .i64 (W.1:Int)∧d= .int .i64 (W.2:Int)∧H=H',?_,?_⟩
 ·rintro _ _ _ _ ⟨rfl,rfl,rfl⟩
  rw [aO];refine av (fun hc=>?_) (fun hc=>?_)
  ·rw [if_pos (by omega)] at h;exact h
  ·rw [if_neg (by omega)] at h;exact h
 refine⟨fun b d k n H' => ∃ (eZ jj kk nn c:Nat),b= .int .i64 (eZ:Int)∧d= .int .i64 (jj:Int)∧k= .int .i64 (kk:Int)∧n= .int .i64 (nn:Int)∧kk≤c∧kk≤e∧(0<kk→kk - 1+3≤T.length)∧nn+kk≤e∧eZ≤258∧jj≤e∧mU T dp e c nn kk eZ jj=W∧H=H',fun _ _ k _ _=>match k with| .int _ x=>x.toNat|_=>0,
  ⟨0,0,dV T e (eI T e),0,e+1,rfl,rfl,rfl,rfl,by have:=mT T (eI T e) e;omega,mT _ _ _,fun g=> (Bl T _ _ g).1,by have:=mT T (eI T e) e;omega,by omega,by omega,hW,rfl⟩,?_⟩
 rintro _ _ _ _ _ _ ⟨eZ,jj,k,n,c,rfl,rfl,rfl,rfl,Z_,hke,Uy,ZX,hb,hd,hw,rfl⟩;rw [bc];refine dC (d:=decide ((n:Int)< (dp:Int))) (fun _=>?_) ?_
 ·rw [aD,ae,ax]
  refine o.aw (b:=fb) (f:=0+4) ?_;rw [aO];exact⟨rfl,rfl⟩
 intro _;refine dC (d:=decide ((e:Int) - ((k:Int) - 1)≤32768)) (fun _=>?_) ?_
 ·rw [bq,aJ,bq,aJ,gZ]
  exact⟨rfl,rfl⟩
 intro _;refine cN (fun hc=>?_) (fun hc=>?_)
 ·rw [aja,aja,decide_eq_true_eq,decide_eq_true_eq,decide_eq_true_eq] at hc
  have Ug:0<k:=by omega
  obtain⟨c,rfl⟩: ∃c',c=c' +1:= ⟨c - 1,by omega⟩;have JO:0<k∧n<dp∧e - (k - 1)≤32768:= ⟨Ug,by omega,by omega⟩;have hlen:=zn T (k - 1) e;refine⟨fun b d H' =>b= .int .i64 (lT T e k eZ:Int)∧d= .int .i64 (ru T e k eZ jj:Int)∧H=H',?_,?_⟩
  ·rintro _ _ _ _ ⟨rfl,rfl,rfl⟩
   rw [aZ];refine av (fun TA=>?_) (fun TA=>?_)
   ·rw [Bm JO (by omega)] at hw
    rw [←hw];exact⟨rfl,rfl,rfl⟩
   ·rw [HR JO (by omega)] at hw
    rw [aD,ae,ax];refine o.aw (b:=fb) (f:=0+3) ?_;rw [bq,show (k:Int) - 1= ((k - 1:Nat):Int) by omega,aJ];have Uy:=Uy Ug;refine(o.cf (v:=pv)).gG yM fun p hp=>?_;refine hp.load (o.cf (v:=pv)) (by rw [aiY,ai5];exact QT (by rw [vB];omega)) ?_;rw [QY (by omega) Uy,ay,ff (n:= (n:Int)+1) (by omega) (by omega)];have Xb:=mT T (eI T (k - 1)) (k - 1);refine⟨⟨lT T e k eZ,ru T e k eZ jj,dV T (k - 1) (eI T (k - 1)),n+1,c,rfl,rfl,rfl,rfl,by omega,by omega,fun g=> (Bl T _ _ g).1,by omega,?_,?_,hw,rfl⟩,by show ((dV T (k - 1) (eI T (k - 1)):Nat):Int).toNat< (k:Int).toNat;omega⟩
    ·unfold lT;split<;>omega
    ·unfold ru;split<;>omega
  ·rw [bq,show (k:Int) - 1= ((k - 1:Nat):Int) by omega,aJ]
   refine NT (fb:=fb) (r:=r) (pv:=pv) (at_:=at_) (dp:=dp) o (by repeat(first|exact aiX|apply aiW)) (by omega) he hl ?_;rw [bc];refine av (fun cL=>?_) (fun cL=>?_)
   ·rw [bq,show (k:Int) - 1= ((k - 1:Nat):Int) by omega,aJ,bq,show (e:Int) - ((k - 1:Nat):Int)= ((e - (k - 1):Nat):Int) by omega,aJ]
    unfold lT ru;rw [if_pos (by omega),if_pos (by omega)];exact⟨rfl,rfl,rfl⟩
   ·unfold lT ru
    rw [if_neg (by omega),if_neg (by omega)];exact⟨rfl,rfl,rfl⟩
 ·have YX:mU T dp e c n k eZ jj= (eZ,jj):=by
   cases c with
   |zero=>rfl
   |succ c=>
    refine Bn fun g=>?_;rw [nR,nR,nR] at hc
    cases hc
  rw [YX] at hw;rw [←hw];exact⟨rfl,rfl,rfl⟩
theorem Kz {A s:List UInt8} {d:Nat} (o:au H0 H L) (hl:A.length+s.length≤900000) (hd:d≤1073741824)
  (h: ∀H' fb,FS H0 H' fb (A.drop (A.length - 32768)++s) (A.drop (A.length - 32768)).length d (A.drop (A.length - 32768)).length L→R (NQ fb) H'):ab 315 #[str A,str s,.int .i64 (d:Int)] H R:=by
 refine yH.vc _ _ _ _ _ ?_;refine aC ?_;rw [bq,ff (n:= (A.length:Int) - 32768) (by omega) (by omega),Jp,show max ((A.length:Int) - 32768) 0= ((A.length - 32768:Nat):Int) by omega];refine ba (lo:=A.length - 32768) (hi:=A.length) (.inl rfl) (.inr ⟨rfl,rfl⟩) (by omega) (by omega) ?_;rw [ajf (by rw [ai4];exact aiZ _)];have hBl: (A.drop (A.length - 32768)).length≤A.length:=by rw [ai4];omega
 generalize A.drop (A.length - 32768)=B at*;refine aQ (by omega) ?_;refine aC ?_;have Up: (B++s).length≤1000000:=by rw [aiV];omega
 have hBT:B.length≤(B++s).length:=by rw [aiV];omega
 generalize B++s=T at*;refine qM (rP .i64) fun H1 hm hx qm=>?_;have o:=o.add hx (i:= .aE (CA H.size (CB T 0))) (by rw [QV];exact hm) (by intro k hk;obtain rfl:k=H.size:=hk;exact aiZ _);refine aR rfl (by decide) ?_;refine aR rfl (by simp) ?_;refine aR rfl (by simp) ?_;refine aR rfl (by simp) ?_;rw [br];refine o.box fun fb H2 o _=>?_
 change au H0 H2 (V4 fb T B.length H.size (.slice none 0 0) d::_) at o
 rw [aD,ae,ax];refine o.aw (b:=fb) (f:=0+0) ?_;refine aC ?_;refine o.qh (by omega) (by omega) (by omega) fun pv H3 o=>?_;rw [aiY] at o;rw [aD,ae,ax];refine o.eV (b:=fb) (f:=0+3) (by repeat(first|exact aiX|apply aiW)) (by simp) (o.cf (v:=pv)).one (by repeat(first|exact cx.here|apply cx.there)) fun H4 o _=>?_;refine aC ?_;have VE:List.replicate T.length (Value.int .i64 0)=tU (qx T 0):=by
  unfold tU qx;rw [alg];apply aj4;intro i;rw [akU,aji]
  by_cases hi:i<T.length
  ·rw [if_pos hi,aka hi]
   show _=some (Value.int .i64 (((if i<0∧i+3≤T.length then dV T i (eI T i) else 0):Nat):Int));rw [if_neg (by omega)];rfl
  ·rw [if_neg hi,ajm (by rw [amB];omega)];rfl
 rw [VE] at o;have f:FS H0 H4 fb T B.length d 0 L:= ⟨H.size,pv,o.cY⟩;clear o;refine⟨fun i H' => ∃j:Nat,i= .int .i64 j∧j≤B.length∧FS H0 H' fb T B.length d j L,fun i _=>match i with| .int _ x=>B.length - x.toNat|_=>0,⟨0,rfl,by omega,f⟩,?_⟩;clear f;rintro _ _ H5 ⟨j,rfl,hj,f⟩;rw [aO];refine av (fun hc=>?_) (fun hc=>?_)
 ·refine ry f Up (by omega) fun H6 f=>?_
  rw [ay,ff (n:= (j:Int)+1) (by omega) (by omega)];exact⟨⟨j+1,rfl,by omega,f⟩,by show B.length - ((j:Int)+1).toNat<B.length - (j:Int).toNat;omega⟩
 ·have hjB:j=B.length:=by omega
  subst hjB;exact h H5 fb f
end
section
set_option maxRecDepth 100000
variable {T:List UInt8}
abbrev jX (x:UInt8):Tok:= ⟨x,0,0⟩
abbrev Bq (n d:Nat):Tok:= ⟨0,(n:Int),(d:Int)⟩
def takeN (T:List UInt8) (dp:Nat) (lazy:Bool) (i:Nat):Nat:=if 0< (dN T dp i).1∧lazy=true∧(dN T dp i).1<258∧(dN T dp i).1< (dN T dp (i+1)).1 then 0 else (dN T dp i).1
theorem Q0 (T:List UInt8) (dp:Nat) (lazy:Bool) (i:Nat):takeN T dp lazy i=0∨takeN T dp lazy i= (dN T dp i).1:=by
 unfold takeN
 by_cases h:0< (dN T dp i).1∧lazy=true∧(dN T dp i).1<258∧(dN T dp i).1< (dN T dp (i+1)).1
 ·rw [if_pos h];exact .inl rfl
 ·rw [if_neg h];exact .inr rfl
def jS (T:List UInt8) (dp:Nat) (lazy:Bool):Nat→Nat→List Tok
 |0,_=> []
 |c+1,i=>if i<T.length then (if takeN T dp lazy i=0 then jX (T.getD i 0)::jS T dp lazy c (i+1) else Bq (takeN T dp lazy i) (dN T dp i).2::jS T dp lazy c (i+takeN T dp lazy i)) else []
theorem iv {dp:Nat} {lazy:Bool} {c i:Nat} (h:T.length≤i):jS T dp lazy c i= []:=by
 cases c with
 |zero=>rfl
 |succ c=>
  show (if i<T.length then _ else [])= [];rw [if_neg (by omega)]
theorem mj {dp:Nat} {lazy:Bool} {c i:Nat} (h:i<T.length) (h0:takeN T dp lazy i=0):jS T dp lazy (c+1) i=jX (T.getD i 0)::jS T dp lazy c (i+1):=by
 show (if i<T.length then _ else [])=_;rw [if_pos h,if_pos h0]
theorem ml {dp:Nat} {lazy:Bool} {c i:Nat} (h:i<T.length) (h0:takeN T dp lazy i≠0):jS T dp lazy (c+1) i=Bq (takeN T dp lazy i) (dN T dp i).2::jS T dp lazy c (i+takeN T dp lazy i):=by
 show (if i<T.length then _ else [])=_;rw [if_pos h,if_neg h0]
theorem zo {dp:Nat} {lazy:Bool} {i:Nat} (h:takeN T dp lazy i≠0):takeN T dp lazy i= (dN T dp i).1∧3≤takeN T dp lazy i∧takeN T dp lazy i≤258∧i+takeN T dp lazy i≤T.length∧1≤(dN T dp i).2∧(dN T dp i).2≤i∧(dN T dp i).2≤32768∧∀p,p<takeN T dp lazy i→T.getD (i - (dN T dp i).2+p) 0=T.getD (i+p) 0:=by
 have e:takeN T dp lazy i= (dN T dp i).1:=by
  rcases Q0 T dp lazy i with g|g
  ·exact absurd g h
  ·exact g
 obtain⟨g3,g1,g2,g4,g5⟩:=HT (T:=T) (depth:=dp) (i:=i) (by omega);have hle:=zn T (i - (dN T dp i).2) i;refine⟨e,by omega,by omega,by omega,g1,g2,g4,fun p hp=>?_⟩;refine Bk T (min 258 (T.length - i)) _ _ p ?_;show p<sE T (i - (dN T dp i).2) i;omega
theorem kR {dp:Nat} {lazy:Bool}: ∀ (c c' i:Nat),T.length - i≤c→T.length - i≤c' →jS T dp lazy c i=jS T dp lazy c' i
 |0,c',i,h1,h2=>by rw [iv (by omega),iv (by omega)]
 |c+1,0,i,h1,h2=>by rw [iv (by omega),iv (by omega)]
 |c+1,c' +1,i,h1,h2=>by
  by_cases hi:i<T.length
  ·by_cases h0:takeN T dp lazy i=0
   ·rw [mj hi h0,mj hi h0,kR c c' (i+1) (by omega) (by omega)]
   ·rw [ml hi h0,ml hi h0,kR c c' (i+takeN T dp lazy i) (by omega) (by omega)]
  ·rw [iv (by omega),iv (by omega)]
theorem Br (x:UInt8):fL (jX x)=true:=rfl
theorem HV {n d:Nat} (h1:3≤n) (h2:n≤258) (h3:1≤d) (h4:d≤32768):fL (Bq n d)=true:=by
 unfold fL;show (if (n:Int)=0 then _ else decide ((((0:UInt8).toNat:Nat):Int)=0∧3≤(n:Int)∧(n:Int)≤258∧1≤(d:Int)∧(d:Int)≤32768))=true;rw [if_neg (by omega),decide_eq_true_eq];exact⟨rfl,by omega,by omega,by omega,by omega⟩
theorem tV {i:Nat} (h:i<T.length):T.take i++ [T.getD i 0]=T.take (i+1):=by
 rw [ajr,ai3,ai1 h];rfl
theorem Bt: ∀ (n i d:Nat),1≤d→d≤i→i+n≤T.length→(∀p,p<n→T.getD (i - d+p) 0=T.getD (i+p) 0)→cU n (T.take i) d=T.take (i+n)
 |0,i,d,_,_,_,_=>rfl
 |n+1,i,d,h1,h2,h3,h4=>by
  have h0:=h4 0 (by omega);have hl: (T.take i).length=i:=by rw [ai2];omega
  have hg: (T.take i).getD ((T.take i).length - d) 0=T.getD i 0:=by
   rw [hl,ai3,akw,if_pos (by omega),←ai3];exact h0
  rw [cU,hg,tV (by omega),Bt n (i+1) d h1 (by omega) (by omega) (fun p hp=>by
   have:=h4 (p+1) (by omega);rw [show i+1 - d+p=i - d+ (p+1) by omega,show i+1+p=i+ (p+1) by omega];exact this)]
  rw [show i+1+n=i+ (n+1) by omega]
theorem Bu {x:UInt8} {r:List Tok} {b:List UInt8}:fu (jX x::r) b=fu r (b++ [x]):=by
 rw [fu,if_pos ⟨Br x,by show (0:Int)≤_;omega⟩,if_pos (show (jX x).n=0 from rfl)]
 rfl
theorem KA {n d:Nat} {r:List Tok} {b:List UInt8} (h1:3≤n) (h2:n≤258) (h3:1≤d) (h4:d≤32768) (h5:d≤b.length):fu (Bq n d::r) b=fu r (cU n b d):=by
 rw [fu,if_pos ⟨HV h1 h2 h3 h4,by show (d:Int)≤_;omega⟩,if_neg (show ¬ ((n:Int)=0) by omega)]
 rfl
theorem rz {dp:Nat} {lazy:Bool}: ∀ (c i:Nat),i≤T.length→T.length - i≤c→fu (jS T dp lazy c i) (T.take i)=some T
 |0,i,hi,hc=>by
  show some (T.take i)=some T;rw [ajf (by omega)]
 |c+1,i,hi,hc=>by
  by_cases hl:i<T.length
  ·by_cases h0:takeN T dp lazy i=0
   ·rw [mj hl h0,Bu,tV hl]
    exact rz c (i+1) (by omega) (by omega)
   ·obtain⟨_,h1,h2,h3,h4,h5,h6,h7⟩:=zo h0
    rw [ml hl h0,KA h1 h2 h4 h6 (by rw [ai2];omega),Bt _ _ _ h4 h5 h3 h7];exact rz c _ h3 (by omega)
  ·rw [iv (by omega),ajf (by omega)];rfl
theorem rA {dp:Nat} {lazy:Bool}: ∀ (c i:Nat),T.length - i≤c→(jS T dp lazy c i).length≤T.length - i
 |0,i,hc=>ajj _
 |c+1,i,hc=>by
  by_cases hl:i<T.length
  ·by_cases h0:takeN T dp lazy i=0
   ·have:=rA (dp:=dp) (lazy:=lazy) c (i+1) (by omega)
    rw [mj hl h0,ai6];omega
   ·obtain⟨_,h1,h2,h3,h4,h5,h6,h7⟩:=zo h0
    have:=rA (dp:=dp) (lazy:=lazy) c (i+takeN T dp lazy i) (by omega);rw [ml hl h0,ai6];omega
  ·rw [iv (by omega)];exact ajj _
theorem tW {dp:Nat} {lazy:Bool}: ∀ (c i:Nat),∀t∈jS T dp lazy c i,fL t=true∧t.d≤32768
 |0,i,t,ht=>by cases ht
 |c+1,i,t,ht=>by
  by_cases hl:i<T.length
  ·by_cases h0:takeN T dp lazy i=0
   ·rw [mj hl h0] at ht
    rcases ajd.1 ht with rfl|ht
    ·exact⟨Br _,by show (0:Int)≤32768;decide⟩
    ·exact tW c _ t ht
   ·obtain⟨_,h1,h2,h3,h4,h5,h6,h7⟩:=zo h0
    rw [ml hl h0] at ht;rcases ajd.1 ht with rfl|ht
    ·exact⟨HV h1 h2 h4 h6,by show ((dN T dp i).2:Int)≤32768;omega⟩
    ·exact tW c _ t ht
  ·rw [iv (by omega)] at ht;cases ht
theorem yd: ∀ (n:Nat) (p b:List UInt8) (d:Nat),1≤d→d≤b.length→cU n (p++b) d=p++cU n b d
 |0,p,b,d,_,_=>rfl
 |n+1,p,b,d,h1,h2=>by
  have hg: (p++b).getD ((p++b).length - d) 0=b.getD (b.length - d) 0:=by
   rw [ai3,ai3,aiV,ajP (by omega)]
   congr 2
   omega
  rw [cU,hg,ai0,yd n p _ d h1 (by rw [aiV];omega),cU]
theorem nM: ∀ (l:List Tok) (p b x:List UInt8),fu l b=some x→fu l (p++b)=some (p++x)
 | [],p,b,x,h=>by
  unfold fu at h ⊢
  cases h;rfl
 |t::r,p,b,x,h=>by
  unfold fu at h ⊢
  by_cases hc:fL t=true∧t.d≤(b.length:Int)
  ·rw [if_pos hc] at h
   rw [if_pos ⟨hc.1,by rw [aiV];omega⟩]
   by_cases h0:t.n=0
   ·rw [if_pos h0] at h ⊢
    rw [h0] at h ⊢;have h:fu r (b++ [t.b])=some x:=h;show fu r (p++b++ [t.b])=some (p++x);rw [ai0];exact nM r p _ x h
   ·rw [if_neg h0] at h ⊢
    have hg:=jQ hc.1;rw [yd _ _ _ _ (by omega) (by omega)];exact nM r p _ x h
  ·rw [if_neg hc] at h;cases h
end
section
set_option maxRecDepth 100000
variable {H H0:ag} {R:Value→ag→Prop} {v:Value} {L:List It} {T:List UInt8} {fb at_ dp e:Nat}
theorem ab3 (sz:Nat) (hz:0<sz) (o:au H0 H L):au H0 H (.sl (.slice none 0 0) sz []::L):=
 o.add (Ext.refl _) (i:= .sl (.slice none 0 0) sz []) ⟨hz,.inl ⟨rfl,rfl⟩⟩ (by intro k hk;exact absurd hk (by simp [It.dF,aY]))
theorem Bv (l:List Tok) (t:Tok):dw (l++ [t])=dw l++t.cells:=by simp [dw]
theorem Fa {lazy:Bool} (f:FS H0 H fb T at_ dp at_ L) (hl:T.length≤1000000) (ha:at_≤T.length) (h: ∀H' y L',au H0 H' (.sl y 3 (dw (jS T dp lazy T.length at_))::L')→R y H'):ab 316 #[NQ fb,.bool lazy] H R:=by
 refine ss.vc _ _ _ _ ?_;obtain⟨r,pv,o⟩:=f;rw [aD,ae,ax];refine o.aw (b:=fb) (f:=0+1) ?_;have o:=ab3 3 (by decide) o;have f:FS H0 H fb T at_ dp at_ (.sl (.slice none 0 0) 3 (dw [])::L):= ⟨r,pv,o.cY⟩;refine⟨fun out i H' => ∃ (k:Nat) (pre:List Tok) (L' :List It),i= .int .i64 (k:Int)∧at_≤k∧k≤T.length∧FS H0 H' fb T at_ dp k (.sl out 3 (dw pre)::L')∧pre++jS T dp lazy T.length k=jS T dp lazy T.length at_∧pre.length≤k,fun _ i _=>match i with| .int _ x=>T.length - x.toNat|_=>0,⟨at_,[],L,rfl,aiZ _,ha,f,rfl,by simp⟩,?_⟩;clear f o;rintro _ out _ H1 ⟨k,pre,L',rfl,hak,Uy,f,Bw,yM⟩;obtain⟨r,pv,o⟩:=f;rw [aD,ae,ax];refine o.aw (b:=fb) (f:=0+0) ?_;refine aC ?_;rw [aO];refine av (fun hc=>?_) (fun hc=>?_)
 ·have eF:k<T.length:=by omega
  have f:FS H0 H1 fb T at_ dp k (.sl out 3 (dw pre)::L'):= ⟨r,pv,o⟩;have hL:=zn T (k - (dN T dp k).2) k;refine sQ f hl Uy ?_;refine ai rfl ?_;refine ai rfl ?_;have ad0: (dN T dp k).1≤258:=by
   by_cases h0: (dN T dp k).1=0
   ·omega
   ·obtain⟨_,_,_,_,g⟩:=HT h0;omega
  refine ry f hl Uy fun H2 f=>?_;have YY: (dw pre).length=pre.length*3:=iX pre;refine⟨fun n H' =>n= .int .i64 (takeN T dp lazy k:Int)∧FS H0 H' fb T at_ dp (k+1) (.sl out 3 (dw pre)::L'),?_,?_⟩
  ·clear f o
   rintro _ _ H3 ⟨rfl,f⟩;obtain⟨r,pv,o⟩:=f;rw [aZ];refine av (fun h0=>?_) (fun h0=>?_)
   ·have h0:takeN T dp lazy k=0:=by omega
    have hft:jS T dp lazy T.length k=jX (T.getD k 0)::jS T dp lazy T.length (k+1):=by
     rw [kR T.length ((T.length - 1)+1) k (by omega) (by omega),mj eF h0,kR (T.length - 1) T.length (k+1) (by omega) (by omega)]
    rw [aD,ae,ax];refine o.aw (b:=fb) (f:=0+0) ?_;rw [cc];refine⟨by omega,by rw [bB];omega,?_⟩;rw [bB,aiY];refine aR rfl (by decide) ?_;rw [br];refine o.cy (sz:=3) (by decide) rfl rfl fun y H4 o=>?_;have o:au H0 H4 (.sl y 3 (jX (T.getD k 0)).cells::V4 fb T at_ r pv dp:: .aE (CA r (CB T (k+1))):: .sl pv 1 (tU (qx T (k+1))):: .sl out 3 (dw pre)::L'):=o;refine o.append (v:=out) (n:=pre.length) (m:=1) (by repeat(first|exact dD.here|apply dD.there)) rfl (o.cf (v:=y)) YY rfl rfl (by omega) fun y2 H5 o=>?_;rw [←Bv] at o;rw [ay,ff (n:= (k:Int)+1) (by omega) (by omega)];refine⟨⟨k+1,pre++ [jX (T.getD k 0)],_,rfl,by omega,by omega,⟨r,pv,o.cY⟩,?_,by rw [aiV];show pre.length+1≤_;omega⟩,by show T.length - ((k:Int)+1).toNat<T.length - (k:Int).toNat;omega⟩;rw [←Bw,hft,ai0];rfl
   ·have h0:takeN T dp lazy k≠0:=by omega
    obtain⟨t1,t2,t3,t4,t5,t6,t7,t8⟩:=zo h0;have hft:jS T dp lazy T.length k=Bq (takeN T dp lazy k) (dN T dp k).2::jS T dp lazy T.length (k+takeN T dp lazy k):=by
     rw [kR T.length ((T.length - 1)+1) k (by omega) (by omega),ml eF h0,kR (T.length - 1) T.length _ (by omega) (by omega)]
    refine aR rfl (by decide) ?_;refine aR rfl (by simp) ?_;rw [br];refine o.cy (sz:=3) (by decide) rfl rfl fun y H4 o=>?_;have o:au H0 H4 (.sl y 3 (Bq (takeN T dp lazy k) (dN T dp k).2).cells::V4 fb T at_ r pv dp:: .aE (CA r (CB T (k+1))):: .sl pv 1 (tU (qx T (k+1))):: .sl out 3 (dw pre)::L'):=o;refine o.append (v:=out) (n:=pre.length) (m:=1) (by repeat(first|exact dD.here|apply dD.there)) rfl (o.cf (v:=y)) YY rfl rfl (by omega) fun y2 H5 o=>?_;rw [←Bv] at o;generalize hN:takeN T dp lazy k=N at*;rw [bq,show (N:Int) - 1= ((N - 1:Nat):Int) by omega,aJ];have f:FS H0 H5 fb T at_ dp (k+1+0) (.sl y2 3 (dw (pre++ [Bq N (dN T dp k).2])):: .sl y 3 (Bq N (dN T dp k).2).cells::L'):= ⟨r,pv,o.cY⟩;refine⟨fun i x H' => ∃j:Nat,i= .int .i64 ((k+j:Nat):Int)∧x= .int .i64 (j:Int)∧j≤N - 1∧FS H0 H' fb T at_ dp (k+1+j) (.sl y2 3 (dw (pre++ [Bq N (dN T dp k).2])):: .sl y 3 (Bq N (dN T dp k).2).cells::L'),fun _ x _=>match x with| .int _ x=>N - x.toNat|_=>0,⟨0,rfl,rfl,by omega,f⟩,?_⟩;clear f o;rintro _ _ _ H6 ⟨j,rfl,rfl,hj,f⟩;rw [aO];refine av (fun gE=>?_) (fun gE=>?_)
    ·rw [ay,show ((k+j:Nat):Int)+1= ((k+1+j:Nat):Int) by omega,aJ]
     refine ry f hl (by omega) fun H7 f=>?_;rw [ay,ff (n:= (j:Int)+1) (by omega) (by omega)];exact⟨⟨j+1,by rw [show k+ (j+1)=k+1+j by omega],rfl,by omega,f⟩,by show N - ((j:Int)+1).toNat<N - (j:Int).toNat;omega⟩
    ·have hjN:j=N - 1:=by omega
     rw [ay,show ((k+j:Nat):Int)+1= ((k+N:Nat):Int) by omega,aJ];rw [show k+1+j=k+N by omega] at f;refine⟨⟨k+N,pre++ [Bq N (dN T dp k).2],_,rfl,by omega,by omega,f,?_,by rw [aiV];show pre.length+1≤_;omega⟩,by show T.length - ((k+N:Nat):Int).toNat<T.length - (k:Int).toNat;omega⟩;rw [←Bw,hft,ai0];rfl
  ·rw [bc]
   refine dC (d:=lazy) (fun _=> ⟨rfl,rfl⟩) ?_;intro _;refine dC (d:=decide (((dN T dp k).1:Int)<258)) (fun _=>by rw [aO];exact⟨rfl,rfl⟩) ?_;intro _;refine cN (fun gE=>?_) (fun gE=>?_)
   ·rw [aja,aja,decide_eq_true_eq,decide_eq_true_eq] at gE
    rw [ay,show (k:Int)+1= ((k+1:Nat):Int) by omega,aJ];refine sQ f hl (by omega) ?_;refine ai rfl ?_;refine ai rfl ?_;rw [bc];refine av (fun y6=>?_) (fun y6=>?_)
    ·refine⟨?_,f⟩
     unfold takeN;rw [if_pos ⟨by omega,gE.1.2,by omega,by omega⟩];rfl
    ·refine⟨?_,f⟩
     unfold takeN;rw [if_neg (by omega)]
   ·refine⟨?_,f⟩
    unfold takeN;rw [if_neg];rintro⟨g1,g2,g3,_⟩;rw [nR,g2,nR] at gE
    cases gE
 ·have eF:k=T.length:=by omega
  rw [eF,iv (aiZ _),ajl] at Bw;rw [←Bw] at h;have o:au H0 H1 (.sl out 3 (dw pre)::V4 fb T at_ r pv dp:: .aE (CA r (CB T k)):: .sl pv 1 (tU (qx T k))::L'):=o.cY;exact h H1 out _ o
abbrev ql (A:List UInt8):List UInt8:=A.drop (A.length - 32768)
def qa (l:Nat):Nat:= [0,4,8,16,16,32,64,128,512,1073741824].getD l 0
def gU:List Value:= [0,4,8,16,16,32,64,128,512,1073741824].map fun n:Nat=> .int .i64 (n:Int)
theorem NU (l:Nat):qa l≤1073741824:=by
 unfold qa
 match l with
 |0|1|2|3|4|5|6|7|8|9=>decide
 |l+10=>exact ajj _
theorem ye {l:Nat} (h:l<10):gU[l]? =some (.int .i64 (qa l:Int)):=by
 match l,h with
 |0,_|1,_|2,_|3,_|4,_|5,_|6,_|7,_|8,_|9,_=>rfl
def By (A s:List UInt8) (l:Nat):List Tok:=if l=0 then s.map jX else jS (ql A++s) (qa l) (decide (4≤l)) (ql A++s).length (ql A).length
theorem Bz: ∀ (l:List Tok) (i:Nat) (x:UInt8),i<l.length→(dw l).set (i*3) (bu x)=dw (l.set i ⟨x,(l.getD i ⟨0,0,0⟩).n,(l.getD i ⟨0,0,0⟩).d⟩)
 |t::l,0,x,_=>by
  rw [ak7,ajU,List.getD_cons_zero]
  rfl
 |t::l,i+1,x,h=>by
  rw [ajS,List.getD_cons_succ];show (t.cells++dw l).set ((i+1)*3) (bu x)=t.cells++dw (l.set i _);rw [←Bz l i x (by simpa using h),show (i+1)*3=t.cells.length+i*3 by show (i+1)*3=3+i*3;omega,alK _ _ (by omega),aj7]
theorem Q1 (n:Nat):fS [.int .u8 0,.int .i64 0,.int .i64 0] n=dw (List.replicate n (jX 0)):=by
 induction n with
 |zero=>rfl
 |succ n ih=>
  show [.int .u8 0,.int .i64 0,.int .i64 0]++fS [.int .u8 0,.int .i64 0,.int .i64 0] n= (jX 0).cells++dw (List.replicate n (jX 0));rw [ih];rfl
theorem Fb {A s:List UInt8} {l:Nat} (hG:Reads H ⟨5,0,none⟩ gU) (hl:l≤9) (hlen:A.length+s.length≤900000) (h: ∀H' y L',au H H' (.sl y 3 (dw (By A s l))::L')→R (.tuple #[y,.int .i64 0]) H'):ab 305 #[str A,str s,.int .i64 (l:Int)] H R:=by
 refine Ey.vc _ _ _ _ _ ?_;rw [aO,ei];refine aM ?_;rw [bc,ei];intro _;rw [ak,aZ];unfold By at h;refine av (fun h0=>?_) (fun h0=>?_)
 ·rw [if_pos (by omega)] at h
  refine aC ?_;refine(au.start (H:=H)).make (by decide) (by omega) (by omega) (by omega) fun y H1 o=>?_;have o:au H H1 [.sl y 3 (fS [.int .u8 0,.int .i64 0,.int .i64 0] s.length)]:=by rw [aiY] at o;exact o
  rw [Q1] at o;refine(o.cf (v:=y)).len (n:=s.length) (by rw [iX,ajB]) (by decide) ?_;refine⟨fun i H' => ∃k:Nat,i= .int .i64 (k:Int)∧k≤s.length∧au H H' [.sl y 3 (dw ((s.take k).map jX++List.replicate (s.length - k) (jX 0)))],fun i _=>match i with| .int _ x=>s.length - x.toNat|_=>0,⟨0,rfl,by omega,by simpa using o⟩,?_⟩;clear o;rintro _ _ H2 ⟨k,rfl,hk,o⟩;rw [aO];refine av (fun hc=>?_) (fun hc=>?_)
  ·have II:k<s.length:=by omega
   rw [cc];refine⟨by omega,by rw [bB];omega,?_⟩;rw [bB,aiY];have nT: ((s.take k).map jX++List.replicate (s.length - k) (jX 0)).length=s.length:=by rw [aiV,ajh,ai2,ajB];omega
   refine(o.cf (v:=y)).at_ (n:=s.length) (by rw [iX,nT]) (by decide) (by omega) (by omega) fun p hp=>?_;rw [aiY] at hp;refine hp.field (f:=0) fun q hq=>?_;refine o.store hq (by repeat(first|exact aiX|apply aiW)) (by rw [iX,nT];omega) rfl (by repeat(first|exact cx.here|apply cx.there)) fun H3 o _=>?_;have e: ((s.take k).map jX++List.replicate (s.length - k) (jX 0)).set k (jX (s.getD k 0))= (s.take (k+1)).map jX++List.replicate (s.length - (k+1)) (jX 0):=by
    obtain⟨m,hm⟩: ∃m,s.length - k=m+1:= ⟨s.length - k - 1,by omega⟩;rw [hm,show s.length - (k+1)=m by omega,alK _ _ (by rw [ajh,ai2];omega),ajh,ai2,show k - min k s.length=0 by omega,List.replicate_succ,ajU,←tV II,ajy,ai0]
    rfl
   have W7: ((s.take k).map jX++List.replicate (s.length - k) (jX 0)).getD k ⟨0,0,0⟩=jX 0:=by
    rw [ai3,ajP (by rw [ajh,ai2];omega),akU,if_pos (by rw [ajh,ai2];omega)];rfl
   rw [ajq] at o;have o:au H H3 [.sl y 3 ((dw ((s.take k).map jX++List.replicate (s.length - k) (jX 0))).set (k*3) (bu (s.getD k 0)))]:=o;rw [Bz _ _ _ (by omega),W7] at o;have o:au H H3 [.sl y 3 (dw (((s.take k).map jX++List.replicate (s.length - k) (jX 0)).set k (jX (s.getD k 0))))]:=o;rw [e] at o;rw [ay,ff (n:= (k:Int)+1) (by omega) (by omega)];exact⟨⟨k+1,rfl,by omega,o⟩,by show s.length - ((k:Int)+1).toNat<s.length - (k:Int).toNat;omega⟩
  ·have II:k=s.length:=by omega
   rw [II,ajc,akp,amJ,ajl] at o;exact h H2 y [] o
 ·rw [if_neg (by omega)] at h
  rw [iq];refine⟨by omega,by omega,?_⟩;rw [aiY,ai5];refine hG.loadAt (ye (by omega)) ?_;refine Kz (au.start (H:=H)) hlen (NU l) fun H1 fb f=>?_;have hT: (ql A++s).length≤1000000:=by rw [aiV,ai4];omega
  rw [dH,show (decide ((4:Int)≤(l:Int)))=decide (4≤l) from by rw [decide_eq_decide];omega];exact Fa f hT (by rw [aiV];omega) fun H2 y L' o=>h H2 y L' o
end
section
set_option maxRecDepth 100000
theorem DE: ∀ (s b:List UInt8),fu (s.map jX) b=some (b++s)
 | [],b=>by rw [ajl];rfl
 |x::s,b=>by
  rw [aj3,Bu,DE s,ai0];rfl
theorem KB (A s:List UInt8) (l:Nat):fu (By A s l) A=some (A++s):=by
 unfold By
 by_cases h0:l=0
 ·rw [if_pos h0];exact DE s A
 ·rw [if_neg h0]
  have h:=rz (T:=ql A++s) (dp:=qa l) (lazy:=decide (4≤l)) (ql A++s).length (ql A).length (by rw [aiV];omega) (by omega);rw [alE] at h;have h2:=nM _ (A.take (A.length - 32768)) _ _ h;rw [show A.take (A.length - 32768)++ql A=A from ajp _ _,←ai0,show A.take (A.length - 32768)++ql A=A from ajp _ _] at h2;exact h2
theorem KC (A s:List UInt8) (l:Nat): (By A s l).length≤s.length:=by
 unfold By
 by_cases h0:l=0
 ·rw [if_pos h0,ajh];exact aiZ _
 ·rw [if_neg h0]
  have:=rA (T:=ql A++s) (dp:=qa l) (lazy:=decide (4≤l)) (ql A++s).length (ql A).length (by omega);rw [aiV] at this ⊢;omega
theorem NV (A s:List UInt8) (l:Nat): ∀t∈By A s l,fL t=true∧t.d≤32768:=by
 intro t ht;unfold By at ht
 by_cases h0:l=0
 ·rw [if_pos h0] at ht
  obtain⟨x,_,rfl⟩:=ajw.1 ht;exact⟨Br x,by show (0:Int)≤32768;decide⟩
 ·rw [if_neg h0] at ht
  exact tW _ _ t ht
end
section
set_option maxRecDepth 100000
variable {H H0 H' :ag} {R:Value→ag→Prop} {v:Value} {L:List It} {s:List UInt8} {G:List Tok}
inductive LX (s:List UInt8) (G:List Tok):Nat→Nat→Nat→Prop
 |zero:LX s G 1 (35+8*s.length) 0
 |less {k b d:Nat} {X:List Bool}:LX s G k b d→Bj 0 false s G k X→X.length<b→LX s G (k+1) X.length k
 |more {k b d:Nat} {X:List Bool}:LX s G k b d→Bj 0 false s G k X→¬X.length<b→LX s G (k+1) b d
theorem LX.pos {k b d:Nat} (h:LX s G k b d):1≤k:=by cases h<;>omega
theorem LX.one {k b d:Nat} (h:LX s G k b d): ∀ {b' d' :Nat},LX s G k b' d' →b=b' ∧d=d' :=by
 induction h with
 |zero=>
  intro b' d' g
  cases g with
  |zero=>exact⟨rfl,rfl⟩
  |less g _ _=>have:=g.pos;omega
  |more g _ _=>have:=g.pos;omega
 |less h hX cL ih=>
  intro b' d' g
  cases g with
  |zero=>have:=h.pos;omega
  |less g gX YZ=>obtain rfl:=hX.one gX;exact⟨rfl,rfl⟩
  |more g gX YZ=>
   obtain rfl:=hX.one gX;obtain⟨rfl,rfl⟩:=ih g;exact absurd cL YZ
 |more h hX cL ih=>
  intro b' d' g
  cases g with
  |zero=>have:=h.pos;omega
  |less g gX YZ=>
   obtain rfl:=hX.one gX;obtain⟨rfl,rfl⟩:=ih g;exact absurd YZ cL
  |more g gX YZ=>exact ih g
theorem NW {lv:Value} {kind:Nat} (hk:kind<3) (hG:Reads H0 ⟨0,0,none⟩ fY) (iJ:s.length≤20000) (hl:It.sl lv 3 (dw G)∈L) (hlen:G.length≤20000) (hg: ∀t∈G,fL t=true) (ht:pY G [] s) (o:au H0 H L)
  (h: ∀H' (n:Nat),(kind=0→n=35+8*s.length)→(kind≠0→∃X,Bj 0 false s G kind X∧n=X.length)→n≤3000000→au H0 H' L→R (.tuple #[.int .i64 (n:Int),.bool true]) H'):
  ab 317 #[.int .i64 (kind:Int),str s,lv] H R:=by
 refine Jw.vc _ _ _ _ _ ?_;rw [aZ]
 by_cases h0:kind=0
 ·rw [nR]
  refine bs ?_;refine vo hk (by omega) (o.sl (v:=lv) hl) (by omega) hg fun H1 hx=>?_;intro _;rw [aL];refine aC ?_;rw [gw,aJ,ay,show (35:Int)+8* (s.length:Int)= ((35+8*s.length:Nat):Int) by omega,aJ];exact h H1 _ (fun _=>rfl) (fun g=>absurd h0 g) (by omega) (o.more hx)
 ·rw [ei,dO]
  intro _;rw [ak];refine o.box fun b H2 o _=>?_;have o:=Qs (t:=141) o;refine DD (b:=wp b 141) (W:= []) (V:=s) (l:=false) hk hG (by omega) hl (by omega) (by simp) (fun e=>absurd e h0) hg (fun _=>ht) o fun H3 Tw X hX _ hXl o=>?_;refine NB (vk o (by repeat(first|exact aiX|apply aiW))) ?_;rw [aZ,decide_eq_true rfl,aje];exact h H3 X.length (fun e=>absurd e h0) (fun _=> ⟨X,hX,rfl⟩) (by omega) o.tl
theorem choose_spec {lv:Value} (hG:Reads H0 ⟨0,0,none⟩ fY) (iJ:s.length≤20000) (hl:It.sl lv 3 (dw G)∈L) (hlen:G.length≤20000) (hg: ∀t∈G,fL t=true) (ht:pY G [] s) (o:au H0 H L)
  (h: ∀H' (k b:Nat),k<3→LX s G 3 b k→au H0 H' L→R (.int .i64 (k:Int)) H'):ab 306 #[str s,lv] H R:=by
 refine Em.vc _ _ _ _ ?_;refine⟨fun bv kv x H' => ∃ (b d k:Nat),bv= .int .i64 (b:Int)∧kv= .int .i64 (d:Int)∧x= .int .i64 (k:Int)∧k≤3∧d<3∧b≤3000000∧((k=0∧b=0∧d=0)∨LX s G k b d)∧au H0 H' L,fun _ _ x _=>match x with| .int _ i=> (3 - i).toNat|_=>0,⟨0,0,0,rfl,rfl,rfl,by omega,by omega,by omega,.inl ⟨rfl,rfl,rfl⟩,o⟩,?_⟩;clear o;rintro _ _ _ _ H1 ⟨b,d,k,rfl,rfl,rfl,hk,hd,hb,hc,o⟩;rw [aO];refine av (fun cL=>?_) (fun cL=>?_)
 ·have hk3:k<3:=by omega
  refine NW hk3 hG iJ hl hlen hg ht o fun H2 n Ad Ct hn o=>?_;refine ai (vs:= [.int .i64 (n:Int),.bool true]) rfl ?_;refine ai (vs:= [.int .i64 (n:Int),.bool true]) rfl ?_;rw [dq,aj0,ak];refine⟨fun bv H' => ∃b' :Nat,bv= .int .i64 (b' :Int)∧b' ≤3000007∧((k=0∧b' =n+7)∨(k≠0∧b' =b))∧au H0 H' L,?_,?_⟩
  ·rintro _ _ H3 ⟨b',rfl,R0,xD,o⟩
   rw [aO];refine av (fun h1=>?_) (fun h1=>?_)
   ·rw [ay,aJ]
    refine⟨⟨n,k,k+1,rfl,rfl,rfl,by omega,by omega,hn,.inr ?_,o⟩,by show (_:Int).toNat< (_:Int).toNat;omega⟩;rcases xD with ⟨rfl,rfl⟩ | ⟨h0,rfl⟩
    ·rw [Ad rfl];exact .zero
    ·obtain⟨X,hX,rfl⟩:=Ct h0
     rcases hc with ⟨e,_⟩ |hc
     ·exact absurd e h0
     ·exact .less hc hX (by omega)
   ·rw [ay,aJ]
    rcases xD with ⟨rfl,rfl⟩ | ⟨h0,rfl⟩
    ·omega
    ·obtain⟨X,hX,rfl⟩:=Ct h0
     rcases hc with ⟨e,_⟩ |hc
     ·exact absurd e h0
     ·exact⟨⟨b',d,k+1,rfl,rfl,rfl,by omega,hd,hb,.inr (.more hc hX (by omega)),o⟩,by show (_:Int).toNat< (_:Int).toNat;omega⟩
  ·rw [aZ]
   refine av (fun h0=>?_) (fun h0=>?_)
   ·rw [ay,show (n:Int)+7= ((n+7:Nat):Int) by omega,aJ]
    exact⟨n+7,rfl,by omega,.inl ⟨by omega,rfl⟩,o⟩
   ·exact⟨b,rfl,by omega,.inr ⟨by omega,rfl⟩,o⟩
 ·have e:k=3:=by omega
  subst e;rcases hc with ⟨e,_⟩ |hc
  ·omega
  ·exact h H1 d b hd hc o
def Q2 (s:List UInt8) (l:Nat) (X:List Bool):Prop:= ∃kind b,((l=0∧kind=0)∨(l≠0∧LX s (By [] s l) 3 b kind))∧Bj 0 true s (By [] s l) kind X
theorem Q2.one {l:Nat} {X Y:List Bool} (h:Q2 s l X) (k:Q2 s l Y):X=Y:=by
 obtain⟨a,b,h1,h2⟩:=h;obtain⟨c,d,k1,k2⟩:=k;rcases h1 with ⟨h0,rfl⟩ | ⟨h0,h1⟩<;>rcases k1 with ⟨k0,rfl⟩ | ⟨k0,k1⟩
 ·exact h2.one k2
 ·exact absurd h0 k0
 ·exact absurd k0 h0
 ·obtain⟨rfl,rfl⟩:=h1.one k1;exact h2.one k2
def LY (s:List UInt8) (l:Nat) (out:List UInt8):Prop:= ∃X,Q2 s l X∧out=bm (kr X)
theorem NX {l:Nat} {a b:List UInt8} (h:LY s l a) (k:LY s l b):a=b:=by
 obtain⟨X,h1,rfl⟩:=h;obtain⟨Y,k1,rfl⟩:=k;rw [h1.one k1]
theorem w7: ∀ {G:List Tok} {W V:List UInt8},fu G W=some V→pY G W V
 | [],W,V,h=>ajz h
 |t::G,W,V,h=>by
  rw [fu] at h
  split at h
  ·rename_i hg
   refine⟨hg,?_⟩
   split at h
   ·rename_i h0
    have e:J_ t W=cU t.n.toNat (W++ [t.b]) t.d.toNat:=by unfold J_;rw [if_pos h0]
    rw [e];exact w7 h
   ·rename_i h0
    have e:J_ t W=cU t.n.toNat W t.d.toNat:=by unfold J_;rw [if_neg h0]
    rw [e];exact w7 h
  ·cases h
theorem HW {eb l:Nat} {c:Value} {dv:Value} {t:TypeId} (hT:Reads H0 ⟨5,0,none⟩ gU) (hG:Reads H0 ⟨0,0,none⟩ fY) (hl:l≤9) (hs:s.length≤16384)
  (o:au H0 H (.aE (lD ⟨eb,[i64 l,str [],str s],[c],t⟩ dv [])::L))
  (h: ∀H' jV x y X,Q2 s l X→V0 0 true X [] s→X.length≤21000+58*s.length→au H0 H' (.aE (lD ⟨eb,[i64 l,x,y],[c],t⟩ jV X)::L)→R (.tuple #[]) H'):
  ab 284 #[at_ eb 0,.int .i64 (s.length:Int),.bool true] H R:=by
 refine qs.vc _ _ _ _ _ ?_;rw [aD,ae,ax];refine kY (j:=0+2) o (by repeat(first|exact aiX|apply aiW)) rfl ?_;refine ba (lo:=0) (hi:=s.length) (.inr ⟨rfl,rfl⟩) (.inl rfl) (by omega) (by omega) ?_;rw [ajt,ajO,ajc,aD,ae,ax];refine kY (j:=0+2) o (by repeat(first|exact aiX|apply aiW)) rfl ?_;refine ba (lo:=s.length) (hi:=s.length) (.inl rfl) (.inr ⟨rfl,rfl⟩) (by omega) (by omega) ?_;rw [akp,akD,aD,ae,ax];refine A7 (j:=0+2) (x:=str []) o (by repeat(first|exact aiX|apply aiW)) (by simp) rfl (by repeat(first|exact cx.here|apply cx.there)) fun H1 o=>?_;have o:au H0 H1 (.aE (lD ⟨eb,[i64 l,str [],str []],[c],t⟩ dv [])::L):=o;rw [aD,ae,ax];refine kY (j:=0+1) o (by repeat(first|exact aiX|apply aiW)) rfl ?_;rw [aD,ae,ax];refine kY (j:=0+0) o (by repeat(first|exact aiX|apply aiW)) rfl ?_;refine Fb (hT.ext o.ext) hl (by simp;omega) fun H2 lv L2 o2=>?_;refine ai (vs:= [lv,.int .i64 0]) rfl ?_;refine ai (vs:= [lv,.int .i64 0]) rfl ?_;have Q3:=fun t ht=> (NV [] s l t ht).1;have VF:=KC [] s l;have Q4:=w7 (KB [] s l);have o:=o.call o2;generalize hGG:By [] s l=G at Q3 VF Q4 o;have o:au H0 H2 (.aE (lD ⟨eb,[i64 l,str [],str []],[c],t⟩ dv []):: .sl lv 3 (dw G)::L):= (o.mid (M:= .sl lv 3 (dw G)::L2)).pick (List.Sublist.cons_cons _ (List.Sublist.cons_cons _ (ak0 L2 L)));refine⟨fun kv H' => ∃ (kind b:Nat),kv= .int .i64 (kind:Int)∧kind<3∧((l=0∧kind=0)∨(l≠0∧LX s G 3 b kind))∧au H0 H' (.aE (lD ⟨eb,[i64 l,str [],str []],[c],t⟩ dv []):: .sl lv 3 (dw G)::L),?_,?_⟩
 ·clear o
  rintro _ _ H3 ⟨kind,b,rfl,hk3,Y0,o⟩;rw [aD,ae,ax];refine DD (b:= ⟨eb,[i64 l,str [],str []],[c],t⟩) (W:= []) (V:=s) (l:=true) (G:=G) hk3 hG (by omega) (by repeat(first|exact aiX|apply aiW)) (by omega) (by simp) (fun _=>by simp) Q3 (fun _=>Q4) o fun H4 Sc X hX hB hXl o=>?_;rw [aje] at o;rw [aD,ae,ax];refine kY (j:=0+1) o (by repeat(first|exact aiX|apply aiW)) rfl ?_;refine aQ (by simp;omega) ?_;rw [aje,aD,ae,ax];refine A7 (j:=0+1) (x:=str s) o (by repeat(first|exact aiX|apply aiW)) (by simp) rfl (by repeat(first|exact cx.here|apply cx.there)) fun H5 o=>?_;have o:au H0 H5 (.aE (lD ⟨eb,[i64 l,str s,str []],[c],t⟩ Sc X):: .sl lv 3 (dw G)::L):=o;rw [aD,ae,ax];refine kY (j:=0+1) o (by repeat(first|exact aiX|apply aiW)) rfl ?_;rw [aD,ae,ax];refine kY (j:=0+1) o (by repeat(first|exact aiX|apply aiW)) rfl ?_;refine aC ?_;rw [bq,aJ,Jp,show max ((s.length:Int) - 32768) 0= ((0:Nat):Int) by omega];refine ba (lo:=0) (hi:=s.length) (.inl rfl) (.inr ⟨rfl,rfl⟩) (by omega) (by omega) ?_;rw [ajt,ajO,ajc,aD,ae,ax];refine A7 (j:=0+1) (x:=str s) o (by repeat(first|exact aiX|apply aiW)) (by simp) rfl (by repeat(first|exact cx.here|apply cx.there)) fun H6 o=>?_;have o:au H0 H6 (.aE (lD ⟨eb,[i64 l,str s,str []],[c],t⟩ Sc X):: .sl lv 3 (dw G)::L):=o;exact h H6 Sc (str s) (str []) X ⟨kind,b,by rw [hGG];exact Y0,by rw [hGG];exact hX⟩ hB (by omega) o.nw
 ·rw [aD,ae,ax]
  refine kY (j:=0+0) o (by repeat(first|exact aiX|apply aiW)) rfl ?_;rw [bc];refine av (fun hc=>?_) (fun hc=>?_)
  ·refine choose_spec hG (by omega) (by repeat(first|exact aiX|apply aiW)) (by omega) Q3 Q4 o fun H3 k b hk gE o=>?_
   exact⟨k,b,rfl,hk,.inr ⟨by omega,gE⟩,o⟩
  ·exact⟨0,0,rfl,by omega,.inl ⟨by omega,rfl⟩,o⟩
theorem Fc {l:Nat} (hT:Reads H ⟨5,0,none⟩ gU) (hG:Reads H ⟨0,0,none⟩ fY) (hl:l≤9) (hs:s.length≤16384)
  (h: ∀H' out,LY s l out→run ⟨.hd,toBits out,[]⟩= (s,⟨.dn,[],s⟩,0)→out.length≤2700+8*s.length→Ext H H' →R (.tuple #[str out,.int .i64 0]) H'):ab 239 #[str s,.int .i64 (l:Int)] H R:=by
 refine GC.vc _ _ _ _ ?_;refine GD.vc _ _ _ ?_;rw [aO,ei];refine aM ?_;rw [bc,ei];intro _;rw [ak];refine aR rfl (by decide) ?_;rw [br];refine(au.start (H:=H)).box fun eb H1 o _=>?_;refine ai (vs:= [at_ eb 0,.int .i64 0]) rfl ?_;refine ai (vs:= [at_ eb 0,.int .i64 0]) rfl ?_;refine ep ?_;rw [ak];have o:au H H1 (.box eb [i64 l,str [],str [],.slice none 0 0,.int .u64 0,.int .i64 0,.bool false] 367:: []):=o;refine qp.vc _ _ _ _ ?_;rw [fC,ak,aD,ae,ax];refine o.aw (b:=eb) (f:=0+6) (w:= .bool false) ?_;rw [ak,aD,ae,ax];refine o.aw (b:=eb) (f:=0+2) (w:=str []) ?_;refine aQ (by simp;omega) ?_;rw [aje,aD,ae,ax];refine o.eV (b:=eb) (f:=0+2) (x:=str s) (by repeat(first|exact aiX|apply aiW)) (by simp) rfl (by repeat(first|exact cx.here|apply cx.there)) fun H2 o _=>?_;have o:au H H2 (.box eb ([i64 l,str [],str s]++ [.slice none 0 0,.int .u64 0,.int .i64 0]++ [.bool false]) 367:: []):=o;have o:=Tp o;refine⟨fun H' =>au H H' (.aE (lD ⟨eb,[i64 l,str [],str s],[.bool false],367⟩ (.slice none 0 0) []):: []),fun _=>0,o,?_⟩;clear o;rintro _ H3 o;rw [aD,ae,ax];refine kY (j:=0+2) o (by repeat(first|exact aiX|apply aiW)) rfl ?_;refine aC ?_;rw [bc,ei,ak,aD,ae,ax];refine rk (vk o (by repeat(first|exact aiX|apply aiW))) fun H4 Sc w c=>?_;have o:=nE o w c cx.here (by repeat(first|exact aiX|apply aiW));refine ai (vs:= [str [],.int .i64 0]) rfl ?_;refine ai (vs:= [str [],.int .i64 0]) rfl ?_;have o:au H H4 (.aE (lD ⟨eb,[i64 l,str [],str s],[.bool false],367⟩ Sc []):: []):=o;refine qq.vc _ _ _ ?_;rw [fC,ak,aD,ae,ax];refine Qt (j:=0) (k:=0+6) o (by repeat(first|exact aiX|apply aiW)) rfl rfl ?_;rw [ak,aD,ae,ax];refine NC (j:=0) (k:=0+6) (x:= .bool true) o (by repeat(first|exact aiX|apply aiW)) rfl (by simp) rfl (by repeat(first|exact cx.here|apply cx.there)) fun H5 o=>?_;have o:au H H5 (.aE (lD ⟨eb,[i64 l,str [],str s],[.bool true],367⟩ Sc []):: []):=o;rw [aD,ae,ax];refine kY (j:=0+2) o (by repeat(first|exact aiX|apply aiW)) rfl ?_;refine aC ?_;refine HW hT hG hl hs o fun H6 Uu x y X hX hB hXl o=>?_;have Y1:=vj X;obtain⟨r,HJ,Z9⟩:=Dx X;rw [aD,ae,ax];refine nD (vk o (by repeat(first|exact aiX|apply aiW))) (by omega) fun H7 dv7 w c=>?_;have o:=nE o w c cx.here (by repeat(first|exact aiX|apply aiW));rw [aD,ae,ax];refine rk (vk o (by repeat(first|exact aiX|apply aiW))) fun H8 dv8 w c=>?_;have o:=nE o w c cx.here (by repeat(first|exact aiX|apply aiW));refine ai (vs:= [str (bm (kr X)),.int .i64 0]) rfl ?_;refine ai (vs:= [str (bm (kr X)),.int .i64 0]) rfl ?_;have hlen: (bm (kr X)).length= (kr X).length/8:=lp _ _ rfl;refine aQ (by simp;omega) ?_;have eB:=HM.nil.fin hB Z9 (by rw [aje,←HJ];exact Y1.1);rw [aje,←HJ,←mJ ((kr X).length/8) (kr X) (by omega)] at eB;exact h H8 _ ⟨X,hX,rfl⟩ eB (by rw [aje];omega) o.ext
end
end Go.Proofs.YtpcgccdmmoggmaaGreatDoor
namespace Go.Vc
open Go
section
set_option maxRecDepth 100000
def t1 (s:Nat):Nat:=s/2 ^^^ (bif decide (s%2=1) then 3988292384 else 0)
def tn:Nat→Nat→Nat
 |0,s=>s
 |n+1,s=>tn n (t1 s)
theorem Q5 (a b:Nat): (a ^^^ b) /2=a/2 ^^^ b/2:=by
 have:=Nat.shiftRight_xor_distrib (a:=a) (b:=b) (i:=1)
 simpa [Nat.shiftRight_eq_div_pow] using this
theorem TC (a b:Nat): (a ^^^ b) %2= (a%2+b%2) %2:=by
 have h1: (a ^^^ b).testBit 0= ((a.testBit 0) ^^ (b.testBit 0)):=amc ..;rw [ak9,ak9,ak9] at h1;rcases ak_ a with ha|ha<;>rcases ak_ b with hb|hb<;>rcases ak_ (a ^^^ b) with hc|hc<;>simp [ha,hb,hc] at h1 ⊢
theorem V5 (a b:Nat):t1 (a ^^^ b)=t1 a ^^^ t1 b:=by
 unfold t1;rw [Q5,TC];rcases ak_ a with ha|ha<;>rcases ak_ b with hb|hb<;>simp only [ha,hb,Nat.reduceAdd,Nat.reduceMod,decide_true,cond_true,decide_false,cond_false,Nat.xor_zero,Nat.zero_ne_one]
 ·rw [alf]
 ·rw [alf,Nat.xor_comm (b/2),←alf]
 ·rw [alf (a/2) 3988292384,Nat.xor_comm 3988292384 (b/2 ^^^ 3988292384),alf (b/2),Nat.xor_self,Nat.xor_zero]
theorem Q6: ∀ (n a b:Nat),tn n (a ^^^ b)=tn n a ^^^ tn n b
 |0,_,_=>rfl
 |n+1,a,b=>by rw [tn,V5,Q6 n];rfl
theorem Q7: ∀ (m n s:Nat),tn (m+n) s=tn n (tn m s)
 |0,n,s=>by rw [ajb];rfl
 |m+1,n,s=>by rw [show m+1+n= (m+n)+1 by omega,tn,tn,Q7 m n]
theorem zp (n s:Nat):tn (n+1) s=t1 (tn n s):=Q7 n 1 s
theorem Y2 {s:Nat} (h:s<4294967296):t1 s<4294967296:=by
 have h1:s/2<2 ^ 32:=by omega
 have h2: (bif decide (s%2=1) then 3988292384 else 0)<2 ^ 32:=by cases decide (s%2=1)<;>decide
 exact akE h1 h2
theorem HX: ∀ (n:Nat) {s:Nat},s<4294967296→tn n s<4294967296
 |0,s,h=>h
 |n+1,s,h=>HX n (Y2 h)
theorem V6 (x:Nat):t1 (2*x)=x:=by
 unfold t1;rw [al_ _ (by decide),Nat.mul_mod_right,qO,cond_false,Nat.xor_zero]
theorem Q8: ∀ (k x:Nat),tn k (2 ^ k*x)=x
 |0,x=>by rw [ala,Nat.one_mul];rfl
 |k+1,x=>by rw [tn,ajI,ajQ (2 ^ k) 2,ak5,V6,Q8 k]
def jH (s:Nat) (l:List UInt8):Nat:=l.foldl (fun s b=>tn 8 (s ^^^ b.toNat)) s
def iA (sum:Nat) (l:List UInt8):Nat:=4294967295 - jH (4294967295 - sum) l
theorem nN (s:Nat) (a b:List UInt8):jH s (a++b)=jH (jH s a) b:=by unfold jH;rw [alW]
theorem se: ∀ (l:List UInt8) {s:Nat},s<4294967296→jH s l<4294967296
 | [],s,h=>h
 |b::l,s,h=>by
  have hb:b.toNat<2 ^ 32:=Nat.lt_trans b.toNat_lt (by decide);have:s ^^^ b.toNat<2 ^ 32:=akE (by omega) hb;exact se l (HX 8 (by omega))
theorem TD {n:Nat} (h:n<4294967296):4294967295 - n=4294967295 ^^^ n:=by
 apply amE;intro i;rw [show 4294967295 - n=2 ^ 32 - (n+1) by omega,amT (by omega),amc,show (4294967295:Nat)=2 ^ 32 - 1 by rfl,amU]
 by_cases hi:i<32
 ·simp [hi]
 ·have:n.testBit i=false:=Nat.testBit_lt_two_pow (ajN h (show 2 ^ 32≤2 ^ i from ajk (by decide) (by omega)))
  simp [hi,this]
theorem w8 (s:Nat) (l:List UInt8):iA s l<4294967296:=by unfold iA;omega
theorem TE {n:Nat} (h:n<4294967296):4294967295 - (4294967295 - n)=n:=by omega
theorem sR (s:Nat) (a b:List UInt8):iA (iA s a) b=iA s (a++b):=by
 unfold iA;rw [nN,TE (se a (by omega))]
structure Lin (f:Nat→Nat):Prop where
 xor: ∀a b,f (a ^^^ b)=f a ^^^ f b
 lt: ∀i,i<32→f (2 ^ i)<4294967296
theorem Lin.zero {f:Nat→Nat} (h:Lin f):f 0=0:=by
 have:=h.xor 0 0;rw [Nat.xor_self,Nat.xor_self] at this;exact this
end
end Go.Vc
namespace Go.Proofs.YtpcgccdmmoggmaaGreatDoor
open Go Go.Vc Go.Proofs
section
set_option maxRecDepth 100000
variable {H:ag} {R:Value→ag→Prop}
abbrev n32 (n:Nat):Value:= .int .u32 (n:Int)
theorem V7 {n:Nat}: ((n:Nat):Int).fdiv (2 ^ min (Int.toNat 1) IntKind.u32.bits)= ((n/2 ^ 1:Nat):Int):=ka rfl
theorem V8 {n:Nat}: ((n:Nat):Int).fdiv (2 ^ min (Int.toNat 8) IntKind.u32.bits)= ((n/2 ^ 8:Nat):Int):=ka rfl
theorem Q9 {s:Nat} (h:s%2=1):t1 s=s/2 ^ 1 ^^^ 3988292384:=by unfold t1;rw [decide_eq_true h];rfl
theorem LZ {s:Nat} (h: ¬s%2=1):t1 s=s/2 ^ 1:=by unfold t1;rw [decide_eq_false h];simp
theorem and_one (n:Nat):n &&& 1=n%2:=Nat.and_one_is_mod n
def TF:List Value:= (List.range 256).map fun i=>n32 (tn 8 i)
def l7 (k:Nat):List Value:= (List.range 256).map fun i=>n32 (if i<k then tn 8 i else 0)
structure Uz (H:ag) (b:Nat):Prop where
 lk:H[b]? =some (.cells TF.toArray 170 (0,0))
theorem Uz.ext {H' :ag} {b:Nat} (h:Uz H b) (hx:Ext H H'):Uz H' b:= ⟨hx.lk h.lk⟩
abbrev yQ (b:Nat):Value:= .pointer (some ⟨b,0,none⟩)
theorem Fe:l7 0=List.replicate 256 (n32 0):=by
 apply aj4;intro i;unfold l7
 by_cases hi:i<256
 ·rw [aji,aka hi,akU,if_pos hi];rfl
 ·rw [ajm (by rw [ajh,amB];omega),ajm (by rw [ajB];omega)]
theorem HY {k:Nat} (hk:k<256): (l7 k).set k (n32 (tn 8 k))=l7 (k+1):=by
 apply aj4;intro i;unfold l7
 by_cases hi:i<256
 ·rw [aji,aka hi]
  by_cases h:i=k
  ·subst h
   rw [akG (by simp;exact hi)]
   simp
  ·rw [als (fun e=>h e.symm),aji,aka hi]
   have: (i<k+1)↔i<k:=by omega
   simp [this]
 ·rw [ajm (by simp;omega),ajm (by simp;omega)]
theorem tX (h: ∀H' b,Uz H' b→Ext H H' →H.size≤b→R (yQ b) H'):ab 41 #[] H R:=by
 refine PI.vc _ _ ?_;refine fI fun H1 s1 e1 b1=>?_;refine⟨fun v H' => ∃k:Nat,v= .int .i64 k∧k≤256∧Ext H H' ∧H'[H.size]? =some (.cells (l7 k).toArray 170 (0,0)),fun v _=>match v with| .int _ k=> (256 - k).toNat|_=>0,⟨0,rfl,by omega,e1,?_⟩,?_⟩
 ·rw [b1,Fe];rfl
 rintro _ _ H2 ⟨k,rfl,hk,e2,b2⟩;simp only [ay,iq,ax,ajb,cP,aO];refine av (fun hc=>?_) (fun hc=>?_)
 ·rw [Gd (by omega) (by omega)]
  refine⟨fun v u H' => ∃j:Nat,u= .int .i64 j∧j≤8∧v=n32 (tn j k)∧H2=H',fun v u _=>match u with| .int _ k=> (8 - k).toNat|_=>0,⟨0,rfl,by omega,rfl,rfl⟩,?_⟩;rintro _ _ _ _ ⟨j,rfl,hj,rfl,rfl⟩;have cL:=HX j (s:=k) (by omega);simp only [and_true,ay,lI,Int.reduceLE,cu,true_and,aZ,aO];refine av (fun gE=>?_) (fun gE=>?_)
  ·rw [show (1:Int)= ((1:Nat):Int) from rfl,SP cL (by decide),and_one]
   rw [show ((1:Nat):Int)= (1:Int) from rfl];rw [V7];refine av (fun y6=>?_) (fun y6=>?_)
   ·rw [show (3988292384:Int)= ((3988292384:Nat):Int) from rfl,uz (by omega) (by decide),←Q9 (by omega),aJ]
    exact⟨⟨j+1,rfl,by omega,by rw [zp]⟩,by show (_:Int).toNat< (_:Int).toNat;omega⟩
   ·rw [←LZ (by omega),aJ]
    exact⟨⟨j+1,rfl,by omega,by rw [zp]⟩,by show (_:Int).toNat< (_:Int).toNat;omega⟩
  ·have Oy:j=8:=by omega
   subst Oy;refine⟨by omega,by omega,?_⟩;simp only [aiY,ai5];refine iM b2 (by simp [l7];omega) rfl fun H3 s3 u3=>?_;rw [aJ];refine⟨⟨k+1,rfl,by omega,u3.ext e2 (aiZ _),?_⟩,by show (_:Int).toNat< (_:Int).toNat;omega⟩;rw [u3.at_,alr,HY (by omega)]
 ·have hke:k=256:=by omega
  subst hke;refine h H2 _ ⟨?_⟩ e2 (aiZ _);have:l7 256=TF:=by
   unfold l7 TF;apply akm;intro i hi;rw [if_pos (alv.1 hi)]
  rw [b2,this]
theorem L0 {n:Nat} (h:n<4294967296):bitsOf .xor .u32 4294967295 (n:Int)= ((4294967295 - n:Nat):Int):=by
 rw [show (4294967295:Int)= ((4294967295:Nat):Int) from rfl,uz (by decide) h,TD h]
theorem V9 {a b:Nat} (ha:a<256) (hb:b<256):bitsOf .xor .u8 (a:Int) (b:Int)= ((a ^^^ b:Nat):Int):=by
 have cL:a ^^^ b<2 ^ 8:=akE (by simpa using ha) (by simpa using hb);have e: ((BitVec.ofInt 8 (a:Int)) ^^^ (BitVec.ofInt 8 (b:Int))).toNat=a ^^^ b:=by
  rw [alM,ajT,ajT,ajH,ajH,ajg (by omega),ajg (by omega)]
 show IntKind.u8.wrap ((((BitVec.ofInt 8 (a:Int)) ^^^ (BitVec.ofInt 8 (b:Int))).toNat:Nat):Int)=_;rw [e,wu8 (by omega) (by omega)]
theorem Q_ (s:Nat) (x:UInt8):tn 8 (s%256 ^^^ x.toNat) ^^^ s/2 ^ 8=tn 8 (s ^^^ x.toNat):=by
 have e:s=s%256 ^^^ 2 ^ 8* (s/2 ^ 8):=by
  apply amE;intro i;rw [amc,show (256:Nat)=2 ^ 8 by rfl,Nat.testBit_mod_two_pow,Nat.testBit_two_pow_mul]
  by_cases hi:i<8
  ·simp [hi,show ¬8≤i by omega]
  ·rw [Nat.testBit_div_two_pow]
   simp [hi,show 8≤i by omega]
 have e2:s ^^^ x.toNat= (s%256 ^^^ x.toNat) ^^^ 2 ^ 8* (s/2 ^ 8):=by
  conv=>lhs;rw [e]
  rw [alf,Nat.xor_comm (2 ^ 8* (s/2 ^ 8)),←alf]
 rw [e2,Q6 8 (s%256 ^^^ x.toNat),Q8]
theorem BA {b:Nat} {s:Nat} {l:List UInt8} (hs:s<4294967296) (hl:l.length≤9223372036854775807) (ht:Uz H b) (h:R (n32 (iA s l)) H):ab 63 #[yQ b,n32 s,str l] H R:=by
 refine AA.vc _ _ _ _ _ ?_;simp only [aD,ni,bB,Pm,Int.reduceNeg,fC,ak];rw [show (if IntKind.u32.signed=true then (-1:Int) else IntKind.u32.max)=4294967295 by decide,L0 hs];refine⟨fun v u H' => ∃j:Nat,u= .int .i64 j∧j≤l.length∧v=n32 (jH (4294967295 - s) (l.take j))∧H=H',fun v u _=>match u with| .int _ k=> (l.length - k).toNat|_=>0,⟨0,rfl,by omega,by rw [akD];rfl,rfl⟩,?_⟩;rintro _ _ _ _ ⟨j,rfl,hj,rfl,rfl⟩;have cL:=se (l.take j) (s:=4294967295 - s) (by omega);simp only [and_true,ay,lI,Int.reduceLE,true_and,cc,bB,cP,cu,iq,ax,ajb,Pm,Int.reduceNeg,aO];refine av (fun hc=>?_) (fun hc=>?_)
 ·refine⟨by omega,by omega,?_⟩
  have rO:j<l.length:=by omega
  rw [aiY,ai3,ai1 rO,aj9];have Ra:jH (4294967295 - s) (l.take (j+1))=tn 8 (jH (4294967295 - s) (l.take j) ^^^ (l[j]).toNat):=by
   rw [ajr,ai1 rO,nN];rfl
  generalize jH (4294967295 - s) (l.take j)=f at*;generalize l[j]=x at*;have hx:x.toNat<256:=x.toNat_lt;rw [D9,show ((f:Int) %256)= ((f%256:Nat):Int) by omega,V9 (by omega) hx];have GO:f%256 ^^^ x.toNat<2 ^ 8:=akE (by omega) (by omega);refine⟨by omega,by omega,?_⟩;simp only [aiY,ai5];refine gn ht.lk (v:=n32 (tn 8 (f%256 ^^^ x.toNat))) (by unfold TF;rw [aji,aka (by omega)];rfl) ?_;rw [V8];simp only [cu];rw [uz (HX 8 (by omega)) (by omega),aJ,Q_];exact⟨⟨j+1,rfl,by omega,by rw [Ra]⟩,by show (_:Int).toNat< (_:Int).toNat;omega⟩
 ·have Oy:j=l.length:=by omega
  subst Oy;rw [show (if IntKind.u32.signed=true then (-1:Int) else IntKind.u32.max)=4294967295 by decide,L0 cL];rw [ajc];exact h
theorem DF {b:Nat} {l:List UInt8} (hl:l.length≤9223372036854775807) (ht:Uz H b) (h:R (n32 (iA 0 l)) H):ab 57 #[yQ b,str l] H R:=by
 refine Cs.vc _ _ _ _ ?_;exact BA (s:=0) (by decide) hl ht h
end
section
set_option maxRecDepth 100000
variable {H H0 H' :ag} {R:Value→ag→Prop} {L:List It}
def eu (h:Hd):List UInt8:= [80,75,1,2]++aA 20 2++aA 20 2++bW h++aA h.u 4++aA h.p 4++aA h.z 4++aA h.nm.length 2++aA 0 2++List.replicate 10 0++aA h.a 4++h.nm
theorem gV (h:Hd): (eu h).length=46+h.nm.length:=by unfold eu;simp [az,fk];omega
theorem vC {x:Hd} (g:zf x) (h: ∀H',Ext H H' →R (str (eu x)) H'):ab 98 #[x.v] H R:=by
 have g1:=g.p;have g2:=g.z;have g3:=g.u;have g4:=g.a;have IP:=g.nm.len;have dM:=fk x;refine wA.vc _ _ _ ?_;refine(au.start (H:=H)).box fun b H1 o _=>?_;have o:au H H1 [.box b x.cells 44]:=o;refine o.bh (b:=b) ?_;refine pW g fun H2 ea=>?_;have o:=o.more ea;rw [dq];show aq (.bool false) _ _;rw [ak,ae,ax];refine o.aw (b:=b) (f:=0+10) (w:= .int .u64 (x.a:Int)) ?_;rw [bc,ei];refine⟨fun e H' =>e=str []∧au H H' [.box b x.cells 44],?_,?_⟩
 ·clear o
  rintro _ _ H3 ⟨rfl,o⟩;refine⟨fun e H' =>e=str []∧au H H' [.box b x.cells 44],?_,?_⟩
  ·clear o
   rintro _ _ H4 ⟨rfl,o⟩;refine⟨fun e H' =>e=str []∧au H H' [.box b x.cells 44],?_,?_⟩
   ·clear o
    rintro _ _ H5 ⟨rfl,o⟩;refine o.bh (b:=b) ?_;refine jo g fun H6 pc=>?_;have o:=o.more pc;refine aM ?_;intro _;refine u_ fun H7 B8=>?_;have o:=o.more B8;refine aQ (by simp [az]) ?_;refine aQ (by simp [az]) ?_;refine o.bh (b:=b) ?_;rw [ae,ax];refine o.aw (b:=b) (f:=0+9) (w:= .int .u32 (x.u:Int)) ?_;refine a8 ?_;rw [cF (by omega) (by omega),ae,ax];refine o.aw (b:=b) (f:=0+7) (w:= .int .u64 (x.p:Int)) ?_;refine o.bh (b:=b) ?_;rw [ae,ax];refine o.aw (b:=b) (f:=0+8) (w:= .int .u64 (x.z:Int)) ?_;refine o.bh (b:=b) ?_;rw [ae,ax];refine o.aw (b:=b) (f:=0+0) (w:=str x.nm) ?_;refine aC ?_;refine a8 ?_;rw [cF (by omega) (by omega)];refine aC ?_;refine a8 ?_;rw [cF (n:= ((([]:List UInt8).length:Nat):Int)) (by decide) (by decide),ae,ax];refine o.aw (b:=b) (f:=0+10) (w:= .int .u64 (x.a:Int)) ?_;rw [ae,ax];refine o.aw (b:=b) (f:=0+0) (w:=str x.nm) ?_;refine xP g fun H8 B9=>?_;have o:=o.more B9
    repeat' (first|with_reducible refine And.intro (o.dc (b:=b) (by repeat(first|exact aiX|apply aiW)) rfl rfl) ?_|with_reducible refine And.intro (o.lK (b:=b) (by repeat(first|exact aiX|apply aiW)) rfl rfl) ?_)
    refine aQ (by simp [az,dM]) ?_;refine bZ (n:=x.u) (k:=4) (by omega) (by decide) (by decide) fun H9 J2=>?_;have o:=o.more J2
    repeat' (first|with_reducible refine And.intro (o.dc (b:=b) (by repeat(first|exact aiX|apply aiW)) rfl rfl) ?_|with_reducible refine And.intro (o.lK (b:=b) (by repeat(first|exact aiX|apply aiW)) rfl rfl) ?_)
    refine aQ (by simp [az,dM]) ?_;refine jo g fun B_ w9=>?_;have o:=o.more w9
    repeat' (first|with_reducible refine And.intro (o.dc (b:=b) (by repeat(first|exact aiX|apply aiW)) rfl rfl) ?_|with_reducible refine And.intro (o.lK (b:=b) (by repeat(first|exact aiX|apply aiW)) rfl rfl) ?_)
    refine lz (n:=x.p) (by omega) fun OE KD=>?_;have o:=o.more KD
    repeat' (first|with_reducible refine And.intro (o.dc (b:=b) (by repeat(first|exact aiX|apply aiW)) rfl rfl) ?_|with_reducible refine And.intro (o.lK (b:=b) (by repeat(first|exact aiX|apply aiW)) rfl rfl) ?_)
    refine aQ (by simp [az,dM]) ?_;refine jo g fun Uv V_=>?_;have o:=o.more V_
    repeat' (first|with_reducible refine And.intro (o.dc (b:=b) (by repeat(first|exact aiX|apply aiW)) rfl rfl) ?_|with_reducible refine And.intro (o.lK (b:=b) (by repeat(first|exact aiX|apply aiW)) rfl rfl) ?_)
    refine lz (n:=x.z) (by omega) fun Xs Wa=>?_;have o:=o.more Wa
    repeat' (first|with_reducible refine And.intro (o.dc (b:=b) (by repeat(first|exact aiX|apply aiW)) rfl rfl) ?_|with_reducible refine And.intro (o.lK (b:=b) (by repeat(first|exact aiX|apply aiW)) rfl rfl) ?_)
    refine aQ (by simp [az,dM]) ?_;refine bZ (n:=x.nm.length) (k:=2) (by omega) (by decide) (by decide) fun Tv YJ=>?_;have o:=o.more YJ
    repeat' (first|with_reducible refine And.intro (o.dc (b:=b) (by repeat(first|exact aiX|apply aiW)) rfl rfl) ?_|with_reducible refine And.intro (o.lK (b:=b) (by repeat(first|exact aiX|apply aiW)) rfl rfl) ?_)
    refine aQ (by simp [az,dM]) ?_;refine bZ (n:=0) (k:=2) (by decide) (by decide) (by decide) fun Z5 ab7=>?_;have o:=o.more ab7
    repeat' (first|with_reducible refine And.intro (o.dc (b:=b) (by repeat(first|exact aiX|apply aiW)) rfl rfl) ?_|with_reducible refine And.intro (o.lK (b:=b) (by repeat(first|exact aiX|apply aiW)) rfl rfl) ?_)
    refine aQ (by simp [az,dM]) ?_;refine AT (c:=10) (by decide) fun OF VL=>?_;have o:=o.more VL
    repeat' (first|with_reducible refine And.intro (o.dc (b:=b) (by repeat(first|exact aiX|apply aiW)) rfl rfl) ?_|with_reducible refine And.intro (o.lK (b:=b) (by repeat(first|exact aiX|apply aiW)) rfl rfl) ?_)
    refine aQ (by simp [az,dM]) ?_;refine lz (n:=x.a) (by omega) fun Xm ab8=>?_;have o:=o.more ab8
    repeat' (first|with_reducible refine And.intro (o.dc (b:=b) (by repeat(first|exact aiX|apply aiW)) rfl rfl) ?_|with_reducible refine And.intro (o.lK (b:=b) (by repeat(first|exact aiX|apply aiW)) rfl rfl) ?_)
    refine aQ (by simp [az,dM]) ?_;refine aQ (by simp [az,dM];omega) ?_;refine aQ (by simp [az,dM];omega) ?_;rw [ajl];exact h Xm o.ext
   ·refine fJ ?_
    rw [yZ,ak];exact⟨rfl,o⟩
  ·rw [ak]
   exact⟨rfl,o⟩
 ·refine o.bh (b:=b) ?_
  refine jo g fun H3 nx=>?_;rw [ak];exact⟨rfl,o.more nx⟩
def lN (n z a:Nat):List UInt8:= [80,75,5,6]++aA 0 4++aA n 2++aA n 2++aA z 4++aA a 4++aA 0 2
theorem gC (n z a:Nat): (lN n z a).length=22:=by unfold lN;simp [az]
theorem BC {n z a:Nat} (hn:n≤1000) (hz:z≤100000000) (ha:a≤100000000) (h: ∀H',Ext H H' →R (str (lN n z a)) H'):ab 99 #[.int .u64 (n:Int),.int .u64 (z:Int),.int .u64 (a:Int)] H R:=by
 refine Lv.vc _ _ _ _ _ ?_;rw [dH,ei];refine aM ?_;rw [dH,ei];intro _;refine aM ?_;rw [dH,ei];intro _;rw [ak];refine⟨fun s H' =>s=str []∧Ext H H',?_,?_⟩
 ·rintro _ _ H1 ⟨rfl,jg⟩
  rw [kF,show min (n:Int) 65535= (n:Int) by omega];refine bZ (n:=n) (k:=2) (by omega) (by decide) (by decide) fun H2 ea=>?_;refine aQ (by simp [az]) ?_;refine bZ (n:=0) (k:=4) (by decide) (by decide) (by decide) fun H3 nx=>?_;refine aQ (by simp [az]) ?_;refine aQ (by simp [az]) ?_;refine aQ (by simp [az]) ?_;rw [bc,ei];refine lz (n:=z) (by omega) fun H4 mP=>?_;refine aQ (by simp [az]) ?_;rw [bc,ei];refine lz (n:=a) (by omega) fun H5 nS=>?_;refine aQ (by simp [az]) ?_;refine bZ (n:=0) (k:=2) (by decide) (by decide) (by decide) fun H6 pc=>?_;refine aQ (by simp [az]) ?_;exact h H6 (((((jg.trans ea).trans nx).trans mP).trans nS).trans pc)
 ·rw [bc,ei]
  refine aM ?_;rw [bc,ei];intro _;refine aM ?_;rw [bc,ei];intro _;rw [ak];exact⟨rfl,Ext.refl _⟩
end
section
set_option maxRecDepth 100000
variable {H:ag} {R:Value→ag→Prop}
def vD:Nat→Int→Int
 |0,_=>0
 |k+1,y=>iN y+vD k (y+1)
def Ff:Nat→Int→Int→Int
 |0,_,_=>0
 |k+1,y,m=>eo y m+Ff k y (m+1)
theorem BD: ∀ (k:Nat) (y:Int),vD (k+1) y=vD k y+iN (y+k)
 |0,y=>by simp [vD]
 |k+1,y=>by
  have:=BD k (y+1);rw [vD,this,vD,show y+1+ (k:Int)=y+ ((k+1:Nat):Int) by omega];omega
def Y3 (t:T6):Int:= (t.d - 1+vD (t.y - 1980).toNat 1980+Ff (t.m - 1).toNat t.y 1)*43200+ (t.h*60+t.n)*30+t.s/2
theorem KF (y:Int):365≤iN y∧iN y≤366:=by have:=Gr y;unfold iN;omega
theorem yf (y m:Int):0≤eo y m∧eo y m≤31:=by
 unfold eo
 split
 ·decide
 ·split
  ·split<;>decide
  ·split<;>decide
theorem tY {t:T6} (h:jN t=true):1980≤t.y∧t.y≤2107∧1≤t.m∧t.m≤12∧1≤t.d∧t.d≤eo t.y t.m∧0≤t.h∧t.h<24∧0≤t.n∧t.n<60∧0≤t.s∧t.s<60∧t.s%2=0:=by
 simp only [jN,decide_eq_true_eq] at h;obtain⟨h1,h2,h3,h4,h5,h6,h7,h8,h9,h10,ZW⟩:=h;have hm:1≤t.m∧t.m≤12:=by
  rcases Int.lt_or_le t.m 1 with hl|hl
  ·rw [eo,if_neg (by omega),if_neg (by omega),if_pos (by omega)] at h4;omega
  ·rcases Int.lt_or_le 12 t.m with hl|hl
   ·rw [eo,if_neg (by omega),if_neg (by omega),if_pos (by omega)] at h4;omega
   ·omega
 rw [akh h9] at ZW;exact⟨h1,h2,hm.1,hm.2,h3,h4,h5,h6,h7,h8,h9,h10,ZW⟩
theorem DG: ∀ (k j:Nat) (y m:Int),Ff k y m+qP j y (m+k)=qP (j+k) y m
 |0,j,y,m=>by simp [Ff]
 |k+1,j,y,m=>by
  have:=DG k j y (m+1);rw [Ff,show j+ (k+1)= (j+k)+1 by omega,qP,←this,show m+1+ (k:Int)=m+ ((k+1:Nat):Int) by omega];omega
def T6.Y4 (t:T6):Obj:= .cells t.cells 49 (0,0)
def Rb:List Value:= [.int .i64 31,.int .i64 28,.int .i64 31,.int .i64 30,.int .i64 31,.int .i64 30,.int .i64 31,.int .i64 31,.int .i64 30,.int .i64 31,.int .i64 30,.int .i64 31]
theorem Rc {y m:Int} (h1:1≤m) (h2:m≤12): ∃v,Rb[(m - 1).toNat]? =some (.int .i64 v)∧eo y m= (if m=2∧Gp y=true then v+1 else v)∧28≤v∧v≤31:=by
 have hc:m=1∨m=2∨m=3∨m=4∨m=5∨m=6∨m=7∨m=8∨m=9∨m=10∨m=11∨m=12:=by omega
 rcases hc with rfl|rfl|rfl|rfl|rfl|rfl|rfl|rfl|rfl|rfl|rfl|rfl
 all_goals refine⟨_,rfl,?_,by decide,by decide⟩
 all_goals simp [eo]
theorem Fg {y m:Int} (h: ∀H',Ext H H' →R (.int .i64 (eo y m)) H'):ab 181 #[.int .i64 y,.int .i64 m] H R:=by
 refine uO.vc _ _ _ _ ?_;unfold aU;simp only [bc,gz,ne_eq,Int.reduceEq,not_false_eq_true,aZ,true_and,fx,gr,kE,fF,j7,Ab,bq,mE,ax,ajb,aO,da,dZ,ajA,ai6,ai_,Nat.reduceAdd,Nat.reduceLeDiff,List.bY,b7,ajU,cR,ajS,jl,br,fG];have e1:Ext H (H.push (.cells Rb.toArray 3)):= (Ext.refl H).push;have g1: (H.push (.cells Rb.toArray 3))[H.size]? =some (.cells Rb.toArray 3):=bO;have h:=h _ e1
 change _
 generalize hH:H.push (.cells Rb.toArray 3)=H1 at*;rw [show H.push (Obj.cells #[Value.int .i64 31,.int .i64 28,.int .i64 31,.int .i64 30,.int .i64 31,.int .i64 30,.int .i64 31,.int .i64 31,.int .i64 30,.int .i64 31,.int .i64 30,.int .i64 31] 3)=H1 from hH]
 intros
 refine av (fun hc=>?_) (fun hc=>?_)
 ·have e:eo y m=0:=by
   rw [eo,if_neg (by omega),if_neg (by omega),if_pos (by omega)]
  rw [e] at h;exact h
 rw [aJ];obtain⟨v,hv,hd,UA,qL⟩:=Rc (y:=y) (show 1≤m by omega) (show m≤12 by omega);refine⟨by omega,by omega,?_⟩;rw [ai5];refine gn g1 hv ?_;simp only [ay]
 intros
 refine av (fun gE=>?_) (fun gE=>?_)
 ·rw [aJ]
  rw [hd,if_pos (by simp only [Gp,decide_eq_true_eq];omega)] at h;exact h
 ·rw [hd,if_neg (by simp only [Gp,decide_eq_true_eq];omega)] at h
  exact h
theorem Fh {t:T6} (h: ∀H',Ext H H' →R (.bool (jN t)) H'):ab 132 #[t.v] H R:=by
 refine uN.vc _ _ _ ?_;refine fI fun H1 s1 e1 b1=>?_;have b1:H1[H.size]? =some t.Y4:=b1;simp only [ae,ax,ajq,mC b1,ajn,gZ,ajb,dH,fF,j7,aju]
 intros
 refine⟨fun v H' =>v= .bool (decide (1980≤t.y∧t.y≤2107∧1≤t.m∧t.m≤12∧1≤t.d∧t.d≤eo t.y t.m))∧H'[H.size]? =some t.Y4∧Ext H H',?_,?_,?_⟩
 ·rintro _ H2 ⟨rfl,b2,e2⟩
  simp only [mC b2,aju,ajn,dH,fF,j7,gZ,gz,ne_eq,Int.reduceEq,not_false_eq_true,aZ,true_and]
  intros
  refine Ea ?_ (h H2 e2);rw [jN,ajV];simp only [decide_eq_true_eq]
  constructor
  ·intro h';omega
  ·intro h'
   have:=tY (t:=t) (by simpa [jN] using h');omega
 ·intro hc
  refine⟨?_,b1,e1⟩;simp only [decide_eq_false_iff_not] at hc
  congr 1
  refine(decide_eq_false ?_).symm;intro h';exact hc (by omega)
 ·intro hc
  simp only [decide_eq_true_eq] at hc;refine Fg fun H2 e2=>?_;refine⟨?_,?_⟩
  ·exact gn (e2.lk b1) rfl rfl
  simp only [gZ];refine⟨?_,e2.lk b1,e1.trans e2⟩
  congr 1
  rw [ajV];simp only [decide_eq_true_eq];omega
end
section
set_option maxRecDepth 100000
theorem Re {t:T6} (h:jN t=true):nj t=t.d+32*t.m+512* (t.y - 1980)∧nk t=t.s/2+32*t.n+2048*t.h∧0≤nj t∧nj t<65536∧0≤nk t∧nk t<65536∧Ud (nj t) (nk t)=t:=by
 obtain⟨hy0,Ym,FF,Xe,y5,Pw,hh0,hh1,Ad,Ct,YE,ja,lL⟩:=tY h;have hb:=yf t.y t.m;have e1:nj t=t.d+32*t.m+512* (t.y - 1980):=by
  unfold nj;rw [ff (n:=t.m*2 ^ 5) (by omega) (by omega),Eb (k:=5) (by omega) (by omega) (by omega) (by omega),ff (n:=t.y - 1980) (by omega) (by omega),aJ,Eb (k:=9) (by omega) (by omega) (by omega) (by omega),cF (by omega) (by omega)];omega
 have e2:nk t=t.s/2+32*t.n+2048*t.h:=by
  unfold nk;rw [akr YE,ff (n:=t.s/2) (by omega) (by omega),ff (n:=t.n*2 ^ 5) (by omega) (by omega),Eb (k:=5) (by omega) (by omega) (by omega) (by omega),aJ,Eb (k:=11) (by omega) (by omega) (by omega) (by omega),cF (by omega) (by omega)];omega
 refine⟨e1,e2,by omega,by omega,by omega,by omega,?_⟩;rw [e1,e2];obtain⟨y,m,d,hr,n,s⟩:=t;simp only [Ud,T6.mk.injEq]
 dsimp only at*
 exact⟨by omega,by omega,by omega,by omega,by omega,by omega⟩
end
section
set_option maxRecDepth 100000
variable {H H0 H' :ag} {R:Value→ag→Prop} {L:List It} {s:List UInt8}
theorem _root_.Go.Vc.au.HZ {L' :List It} {K:Value→ag→Prop} (o:au H0 H L) {b f n:Nat} {cs vs:List Value} {t:TypeId} (fH:It.box b cs t∈L) (hv:vs.length=n) (hf:f+n≤cs.length) (hx:vs.all aS=true)
  (mH:cx (.box b cs t) (.box b (lg cs f vs) t) L L') (hk: ∀H',au H0 H' L' →K undef H'):aH H n (.pointer (some ⟨b,f,none⟩)) (.agg vs.toArray) K:=by
 subst hv;have hb:=o.lk fH;have Vf:=sY (o:=f) vs H cs.toArray 0 hb hx (by simpa using hf);simp only [aH,fG,Vf];have u:FG b (.cells (lg cs (f+0) vs).toArray t (0,0)) H (H.setIfInBounds b (.cells (lg cs (f+0) vs).toArray t (0,0))):=FG.set (bz hb);exact⟨by simp,hk _ (o.jC mH u.size (fun k hk cQ=>u.ne k hk (fun e=>cQ e.symm)) u.at_ (fun k hk=> .inl hk))⟩
theorem w_ {s p x r:List UInt8} (h:s=p++ (x++r)) {a n:Nat} (ha:a=p.length) (hn:n=x.length): (s.drop a).take n=x:=by
 subst ha;subst hn;subst h;rw [ale rfl,alU rfl]
theorem BE: ∀ (a b:List UInt8),iE (a++b)=iE a+256 ^ a.length*iE b
 | [],b=>by simp [iE]
 |x::a,b=>by
  rw [ake,iE,iE,BE a b,ai6,ajI,Nat.mul_add,←ak5,ajQ 256 (256 ^ a.length)];omega
theorem lG (n:Nat): ∀k,iE (aA n k)=n%256 ^ k
 |0=>by simp [aA,iE,alN]
 |k+1=>by
  rw [rX,BE,lG n k,az];show n%256 ^ k+256 ^ k* ((UInt8.ofNat (n/256 ^ k%256)).toNat+256*0)=_;rw [UInt8.toNat_ofNat_of_lt' (by show _<256;omega),Nat.mul_zero,ajq,ajI,Nat.mod_mul]
def preB (p s:List UInt8):Bool:=decide (s.take p.length=p)
theorem kj {p:List UInt8} (hs:s.length≤1000000000) (hp:p.length≤1000000000) (h:R (.bool (preB p s)) H):ab 106 #[str s,str p] H R:=by
 refine strings_HasPrefix.vc _ _ _ _ ?_;refine stringslite_HasPrefix.vc _ _ _ _ ?_;refine aC ?_;refine aC ?_;rw [dH]
 by_cases hl:p.length≤s.length
 ·rw [nR]
  refine bs ?_;refine aC ?_;refine ba (lo:=0) (hi:=p.length) (.inr ⟨rfl,rfl⟩) (.inl rfl) (by omega) (by omega) ?_;rw [ajt,ajO];refine eO ?_;intro _;exact h
 ·rw [ei,dO]
  intro _;have e:preB p s=false:=decide_eq_false fun e=>by
   have:=congrArg List.length e;rw [ai2] at this;omega
  rw [e] at h;exact h
theorem xc {a n:Nat} (hs:s.length≤1000000000) (ha:a≤1000000000) (hn:n≤1000000000) (h:R (str ((s.drop a).take n)) H):ab 234 #[str s,.int .i64 (a:Int),.int .i64 (n:Int)] H R:=by
 refine PC.vc _ _ _ _ _ ?_;refine aC ?_;rw [kF,show min (a:Int) (s.length:Int)= ((min a s.length:Nat):Int) by omega,ay,show ((min a s.length:Nat):Int)+ (n:Int)= ((min a s.length+n:Nat):Int) by omega,aJ];refine aC ?_;rw [kF,show min ((min a s.length+n:Nat):Int) (s.length:Int)= ((min (min a s.length+n) s.length:Nat):Int) by omega];refine ba (lo:=min a s.length) (hi:=min (min a s.length+n) s.length) (.inl rfl) (.inl rfl) (by omega) (by omega) ?_;have e: (s.drop (min a s.length)).take (min (min a s.length+n) s.length - min a s.length)= (s.drop a).take n:=by
  by_cases h1:a≤s.length
  ·rw [ajF h1]
   by_cases h2:a+n≤s.length
   ·rw [ajF h2,aj7]
   ·rw [alP (by omega),ajf (by rw [ai4];omega),ajf (by rw [ai4];omega)]
  ·rw [show min a s.length=s.length by omega,ajY,aky (by omega),amf,amf]
 rw [e];exact h
theorem qc {a n:Nat} (hs:s.length≤1000000000) (ha:a≤1000000000) (hn:n≤8) (h:R (.int .u64 ((iE ((s.drop a).take n):Nat):Int)) H):ab 232 #[str s,.int .i64 (a:Int),.int .i64 (n:Int)] H R:=by
 refine Jz.vc _ _ _ _ _ ?_;refine xc hs ha (by omega) ?_;have hl: ((s.drop a).take n).length≤8:=by rw [ai2];omega
 refine Aq (by omega) ?_;rw [if_pos hl];exact h
theorem sT {a n:Nat} {K:Int} {p r:List UInt8} {x k:Nat} (e:s=p++ (aA x k++r)) (ha: (a:Int)=K) (hp:a=p.length) (hn:n=k) (hx:x<256 ^ k) (hs:s.length≤1000000000) (hk:k≤8) (h:R (.int .u64 (x:Int)) H):ab 232 #[str s,.int .i64 K,.int .i64 (n:Int)] H R:=by
 subst hn;have hl:s.length=p.length+ (n+r.length):=by rw [e];simp [az]
 rw [←ha];refine qc hs (by omega) (by omega) ?_;rw [w_ e hp (az _ _).symm,lG,ajg hx];exact h
theorem rB {g:List UInt8} (hs:s.length≤1000000000) (hg:g.length≤100) (h:R (.bool (preB (g.take s.length) s)) H):ab 233 #[str s,str g] H R:=by
 refine JA.vc _ _ _ _ ?_;refine aC ?_;refine xc (a:=0) (by omega) (by omega) hs ?_;rw [ajt];exact kj hs (by rw [ai2];omega) h
theorem NY {b a:Nat} {hd:Hd} {t:T6} {k:Bool} {p r:List UInt8} (hs:s.length≤1000000000) (PK:jN t=true) (e:s=p++ (aA (if k then 0 else 8) 2++ (aA (if k then 0 else 8) 2++ (aA (fy t) 2++ (aA (fq t) 2++r))))) (ha:a=p.length) (o:au H0 H (.box b hd.cells 44::L))
  (h: ∀H',au H0 H' (.box b (Hd.cells ⟨hd.nm,t,hd.p,hd.z,hd.u,hd.a,k⟩) 44::L)→R (.bool true) H'):ab 235 #[at_ b 0,str s,.int .i64 (a:Int)] H R:=by
 obtain⟨d1,d2,d3,d4,d5,d6,d7⟩:=Re PK;obtain⟨c1,_⟩:=AR t;obtain⟨c2,_⟩:=AS t;have hl:s.length=p.length+ (8+r.length):=by rw [e];simp [az];omega
 have hm: (if k then 0 else 8:Nat)<256 ^ 2:=by split<;>decide
 refine Cl.vc _ _ _ _ _ ?_;rw [ay,aJ];refine sT (a:=a+2) (n:=2) (p:=p++aA (if k then 0 else 8) 2) (x:=if k then 0 else 8) (k:=2) (r:=aA (fy t) 2++ (aA (fq t) 2++r)) (by rw [e];simp) (by omega) (by simp [az];omega) rfl hm hs (by decide) ?_;rw [aZ,aD,ae,ax];refine o.cj (b:=b) (f:=0+11) fun H1 o _=>?_;have ek:decide ((((if k then 0 else 8:Nat)):Int)=0)=k:=by cases k<;>rfl
 rw [ek] at o;have o:au H0 H1 (.box b (Hd.cells ⟨hd.nm,hd.t,hd.p,hd.z,hd.u,hd.a,k⟩) 44::L):=o;rw [ay,aJ];refine sT (a:=a+6) (n:=2) (p:=p++aA (if k then 0 else 8) 2++aA (if k then 0 else 8) 2++aA (fy t) 2) (x:=fq t) (k:=2) (r:=r) (by rw [e];simp) (by omega) (by simp [az];omega) rfl (by omega) hs (by decide) ?_;rw [ay,aJ];refine sT (a:=a+4) (n:=2) (p:=p++aA (if k then 0 else 8) 2++aA (if k then 0 else 8) 2) (x:=fy t) (k:=2) (r:=aA (fq t) 2++r) (by rw [e];simp) (by omega) (by simp [az];omega) rfl (by omega) hs (by decide) ?_;refine Gq (by omega) (by omega) fun H2 ea=>?_;have o:=o.more ea;rw [←c1,←c2] at*;have hu:R7 (nj t) (nk t)=true:=by
  unfold R7;rw [d7,PK,decide_eq_true ⟨d4,d6⟩];rfl
 rw [hu,if_pos rfl,d7];refine ai (vs:= [t.v,.bool true]) rfl ?_;refine ai (vs:= [t.v,.bool true]) rfl ?_;refine o.box fun tb H3 o _=>?_;refine o.cz (b:=tb) (vs:=t.cells.toList) fun H4 o _=>?_;refine o.bh (b:=tb) ?_;rw [aD,ae,ax];refine o.HZ (b:=b) (f:=0+1) (n:=6) (vs:=t.cells.toList) (by repeat(first|exact aiX|apply aiW)) rfl (ai7 rfl) rfl (by repeat(first|exact cx.here|apply cx.there)) fun H5 o=>?_;exact h H5 (o.pick (aki _ _))
end
section
set_option maxRecDepth 100000
variable {H H0 H' :ag} {R:Value→ag→Prop} {L:List It} {s:List UInt8}
def Hd.zero:Hd:= ⟨[],T6.zero,0,0,0,0,false⟩
def H_ (sign:List UInt8) (size cC flags g:Nat):Value:= .agg #[str sign,i64 size,i64 cC,i64 flags,.func (.func g) #[] #[]]
theorem zq (x:Hd):x.cells.length=12:=rfl
theorem jT (x:Hd):x.cells.all aS=true:=rfl
theorem NZ {sign:List UInt8} {size cC flags g:Nat} (hs:s.length≤1000000) (hg:sign.length≤100) (hp:preB (sign.take s.length) s=false) (h: ∀H',Ext H H' →R (.tuple #[Hd.zero.v,.int .i64 (-1)]) H'):
  ab 191 #[H_ sign size cC flags g,str s] H R:=by
 refine nJ.vc _ _ _ _ ?_;refine(au.start (H:=H)).box fun fb H1 o _=>?_;have o:au H H1 [.box fb [str sign,i64 size,i64 cC,i64 flags,.func (.func g) #[] #[]] 271]:=o;refine o.box fun rb H2 o _=>?_;have o:au H H2 [.box rb Hd.zero.cells 44,.box fb [str sign,i64 size,i64 cC,i64 flags,.func (.func g) #[] #[]] 271]:=o;rw [ae,ax];refine o.aw (b:=fb) (f:=0+0) (w:=str sign) ?_;refine rB (by omega) hg ?_;rw [hp,dq,aku,aL,br];refine o.cz (b:=rb) (vs:=Hd.zero.cells) fun H3 o _=>?_;refine o.bh (b:=rb) ?_;exact h H3 o.ext
theorem N5 {sign:List UInt8} {size cC flags g n e:Nat} (hs:s.length≤1000000) (hg:sign.length≤100) (hz:size≤100) (hl:cC≤100) (hp:preB (sign.take s.length) s=true) (hn:iE ((s.drop cC).take 2)=n) (he:iE ((s.drop (cC+2)).take 2)=e)
  (cL:s.length<size∨s.length<size+n+e) (h: ∀H',Ext H H' →R (.tuple #[Hd.zero.v,.int .i64 0]) H'):
  ab 191 #[H_ sign size cC flags g,str s] H R:=by
 have Mu:n<65536:=by
  rw [←hn];have:=pE ((s.drop cC).take 2);have h2: ((s.drop cC).take 2).length≤2:=by rw [ai2];omega
  exact ajN this (ajk (n:=256) (by decide) h2)
 have O8:e<65536:=by
  rw [←he];have:=pE ((s.drop (cC+2)).take 2);have h2: ((s.drop (cC+2)).take 2).length≤2:=by rw [ai2];omega
  exact ajN this (ajk (n:=256) (by decide) h2)
 refine nJ.vc _ _ _ _ ?_;refine(au.start (H:=H)).box fun fb H1 o _=>?_;have o:au H H1 [.box fb [str sign,i64 size,i64 cC,i64 flags,.func (.func g) #[] #[]] 271]:=o;refine o.box fun rb H2 o _=>?_;have o:au H H2 [.box rb Hd.zero.cells 44,.box fb [str sign,i64 size,i64 cC,i64 flags,.func (.func g) #[] #[]] 271]:=o;rw [ae,ax];refine o.aw (b:=fb) (f:=0+0) (w:=str sign) ?_;refine rB (by omega) hg ?_;rw [hp,dq,aj0,ak,ae,ax];refine o.aw (b:=fb) (f:=0+2) (w:=i64 cC) ?_;rw [ae,ax];refine o.aw (b:=fb) (f:=0+2) (w:=i64 cC) ?_;rw [ay,show (cC:Int)+2= ((cC+2:Nat):Int) by omega,aJ];refine qc (a:=cC) (n:=2) (by omega) (by omega) (by decide) ?_;rw [hn];refine⟨o.aw (b:=fb) (f:=0+2) rfl,?_⟩;refine a8 ?_;rw [aJ];refine qc (a:=cC+2) (n:=2) (by omega) (by omega) (by decide) ?_;rw [he];refine a8 ?_;rw [aJ];refine aC ?_;rw [ae,ax];refine o.aw (b:=fb) (f:=0+1) (w:=i64 size) ?_;rw [aO];refine gu (d:=decide (s.length<size+n+e)) (fun _=>?_) ?_
 ·refine aC ?_
  rw [ae,ax];refine o.aw (b:=fb) (f:=0+1) (w:=i64 size) ?_;rw [ay,aJ,ay,aJ,aO];refine⟨?_,rfl⟩
  congr 1
  rw [decide_eq_decide];omega
 intro _;have hc: (decide ((s.length:Int)< (size:Int)) ||decide (s.length<size+n+e))=true:=by
  rw [akf,decide_eq_true_eq,decide_eq_true_eq];omega
 rw [hc,aL,br];refine o.cz (b:=rb) (vs:=Hd.zero.cells) fun H3 o _=>?_;refine o.bh (b:=rb) ?_;exact h H3 o.ext
theorem BF {sign X nm:List UInt8} {size cC flags g:Nat} {t:T6} {k:Bool} {y:Hd} {p r p1 r1 p2 r2 p3 r3:List UInt8} (hm:lV g Tryz.C=true) (hs:s.length≤1000000) (hg:sign.length≤100) (hz:size≤100) (hl:cC≤100) (hp:preB (sign.take s.length) s=true)
  (Lg:nm.length≤100) (e1:s=p1++ (aA nm.length 2++r1)) (gH:cC=p1.length) (e2:s=p2++ (aA 0 2++r2)) (um:cC+2=p2.length) (hlen:X.length=size+nm.length) (hX:s=X++r) (e3:s=p3++ (nm++r3)) (Qi:size=p3.length)
  (PK:jN t=true) (et:s=p++ (aA (if k then 0 else 8) 2++ (aA (if k then 0 else 8) 2++ (aA (fy t) 2++ (aA (fq t) 2++ (s.drop (p.length+8))))))) (hf:flags=p.length) (cQ:X≠ [])
  (yL: ∀ (H1:ag) (b:Nat) (M:List It) (K:Value→ag→Prop),au H H1 (.box b (Hd.cells ⟨nm,t,0,0,0,0,k⟩) 44::M)→(∀H2,au H H2 (.box b y.cells 44::M)→K (str X) H2)→ab g #[str s,at_ b 0] H1 K)
  (h: ∀H',Ext H H' →R (.tuple #[y.v,.int .i64 (X.length:Int)]) H'):
  ab 191 #[H_ sign size cC flags g,str s] H R:=by
 have hXl:X.length≤s.length:=by rw [hX,aiV];omega
 have yM:p.length≤s.length:=by
  have:=congrArg List.length et;rw [aiV] at this;omega
 refine nJ.vc _ _ _ _ ?_;refine(au.start (H:=H)).box fun fb H1 o _=>?_;have o:au H H1 [.box fb [str sign,i64 size,i64 cC,i64 flags,.func (.func g) #[] #[]] 271]:=o;refine o.box fun rb H2 o _=>?_;have o:au H H2 [.box rb Hd.zero.cells 44,.box fb [str sign,i64 size,i64 cC,i64 flags,.func (.func g) #[] #[]] 271]:=o;rw [ae,ax];refine o.aw (b:=fb) (f:=0+0) (w:=str sign) ?_;refine rB (by omega) hg ?_;rw [hp,dq,aj0,ak,ae,ax];refine o.aw (b:=fb) (f:=0+2) (w:=i64 cC) ?_;rw [ae,ax];refine o.aw (b:=fb) (f:=0+2) (w:=i64 cC) ?_;rw [ay,show (cC:Int)+2= ((cC+2:Nat):Int) by omega,aJ];refine sT (a:=cC) (n:=2) e1 rfl gH rfl (show nm.length<65536 by omega) (by omega) (by decide) ?_;refine⟨o.aw (b:=fb) (f:=0+2) rfl,?_⟩;refine a8 ?_;rw [aJ];refine sT (a:=cC+2) (n:=2) e2 rfl um rfl (show (0:Nat)<65536 by decide) (by omega) (by decide) ?_;refine a8 ?_;rw [ff (n:= ((0:Nat):Int)) (by decide) (by decide)];refine aC ?_;rw [ae,ax];refine o.aw (b:=fb) (f:=0+1) (w:=i64 size) ?_;rw [aO,ei];refine aM ?_;refine aC ?_;rw [ae,ax];refine o.aw (b:=fb) (f:=0+1) (w:=i64 size) ?_;rw [ay,aJ,ay,aJ,aO,ei];intro _;rw [ak,ae,ax];refine o.aw (b:=fb) (f:=0+1) (w:=i64 size) ?_;refine xc (a:=size) (n:=nm.length) (by omega) (by omega) (by omega) ?_;rw [w_ e3 Qi rfl];refine aR rfl (by decide) ?_;rw [br];refine o.box fun hb H3 o _=>?_;refine o.cz (b:=hb) (vs:=Hd.cells ⟨nm,T6.zero,0,0,0,0,false⟩) fun H4 o _=>?_;rw [ae,ax];refine o.aw (b:=fb) (f:=0+3) (w:=i64 flags) ?_;refine NY (hd:= ⟨nm,T6.zero,0,0,0,0,false⟩) (by omega) PK et hf o fun H5 o=>?_;rw [dq,aj0,ak,ae,ax];refine o.aw (b:=fb) (f:=0+4) (w:= .func (.func g) #[] #[]) ?_;refine rZ hm ?_;refine yL H5 hb _ _ o fun H6 o=>?_;refine eO ?_;rw [decide_eq_false cQ];refine aM ?_;refine aC ?_;rw [ae,ax];refine o.aw (b:=fb) (f:=0+1) (w:=i64 size) ?_;rw [ay,aJ,ay,aJ,fx,ei];intro _;refine aM ?_;refine kj (by omega) (by omega) ?_;have hpx:preB X s=true:=decide_eq_true (by rw [hX,alU rfl]);rw [hpx,dq];intro _;show aq (.bool false) _ _;rw [ak];refine o.bh (b:=hb) ?_;refine aC ?_;refine o.cz (b:=rb) (vs:=y.cells) fun H7 o _=>?_;refine o.bh (b:=rb) ?_;exact h H7 o.ext
end
section
set_option maxRecDepth 100000
variable {H H0 H' :ag} {R:Value→ag→Prop} {L:List It} {s:List UInt8}
def Hd.loc (x:Hd):Hd:= ⟨x.nm,x.t,0,0,0,0,x.k⟩
theorem zf.loc {x:Hd} (g:zf x):zf x.loc:= ⟨g.nm,g.t,ajj _,ajj _,(show (0:Nat)<4294967296 by decide),ajj _,fun _=> ⟨rfl,rfl⟩⟩
theorem KG (x:Hd):bA x.loc=bA x:=rfl
def jr:List UInt8:= [80,75,3,4]
def BG:List UInt8:= [80,75,1,2]
theorem BH (y:Hd) (m:Int)
  (hr: ∀ (H:ag) (R:Value→ag→Prop),(∀H',Ext H H' →R (.tuple #[y.v,.int .i64 m]) H')→ab 191 #[H_ jr 30 26 6 190,str s] H R) (h: ∀H',Ext H H' →R (.tuple #[y.v,.int .i64 m]) H'):ab 138 #[str s] H R:=by
 refine PB.vc _ _ _ ?_;refine(au.start (H:=H)).box fun b H1 o _=>?_;have o:au H H1 [.box b Hd.zero.cells 44]:=o;simp only [da,br,CX,dZ,b7,cR,ajU,ajS,ai6,ai_,Nat.reduceAdd,Nat.reduceLeDiff,true_and];refine⟨rfl,rfl,rfl,rfl,rfl,?_⟩;refine hr H1 _ fun H2 hx=>?_;have o:=o.more hx;refine ai (vs:= [y.v,.int .i64 m]) rfl ?_;refine ai (vs:= [y.v,.int .i64 m]) rfl ?_;refine o.cz (b:=b) (vs:=y.cells) fun H3 o _=>?_;refine o.bh (b:=b) ?_;exact h H3 o.ext
theorem N6 (y:Hd) (m:Int)
  (hr: ∀ (H:ag) (R:Value→ag→Prop),(∀H',Ext H H' →R (.tuple #[y.v,.int .i64 m]) H')→ab 191 #[H_ BG 46 28 8 231,str s] H R) (h: ∀H',Ext H H' →R (.tuple #[y.v,.int .i64 m]) H'):ab 188 #[str s] H R:=by
 refine yz.vc _ _ _ ?_;refine(au.start (H:=H)).box fun b H1 o _=>?_;have o:au H H1 [.box b Hd.zero.cells 44]:=o;simp only [da,br,CX,dZ,b7,cR,ajU,ajS,ai6,ai_,Nat.reduceAdd,Nat.reduceLeDiff,true_and];refine⟨rfl,rfl,rfl,rfl,rfl,?_⟩;refine hr H1 _ fun H2 hx=>?_;have o:=o.more hx;refine ai (vs:= [y.v,.int .i64 m]) rfl ?_;refine ai (vs:= [y.v,.int .i64 m]) rfl ?_;refine o.cz (b:=b) (vs:=y.cells) fun H3 o _=>?_;refine o.bh (b:=b) ?_;exact h H3 o.ext
theorem Ia {p:List UInt8} (r:List UInt8) (h:s=p++r):preB (p.take s.length) s=true:=by
 refine decide_eq_true ?_;subst h;rw [ajf (show p.length≤(p++r).length by simp),alU rfl]
theorem KH {x:Hd} {r:List UInt8} (g:zf x) (e:s=bA x++r) (hs:s.length≤1000000) (h: ∀H',Ext H H' →R (.tuple #[x.loc.v,.int .i64 ((30+x.nm.length:Nat):Int)]) H'):ab 138 #[str s] H R:=by
 have IP:=g.nm.len;have dM:=fk x;have nT:=gR x;refine BH x.loc _ (fun H R h=>?_) h;rw [←nT] at h;have e0:s=jr++aA 20 2++ (aA x.eN 2++ (aA x.eN 2++ (aA (fy x.t) 2++ (aA (fq x.t) 2++ (List.replicate 12 0++aA x.nm.length 2++aA 0 2++x.nm++r))))):=by
  rw [e];unfold bA bW jr;simp [ai0]
 have e8:s.drop ((jr++aA 20 2).length+8)=List.replicate 12 0++aA x.nm.length 2++aA 0 2++x.nm++r:=by
  have e9:s= (jr++aA 20 2++ (aA x.eN 2++ (aA x.eN 2++ (aA (fy x.t) 2++aA (fq x.t) 2))))++ (List.replicate 12 0++aA x.nm.length 2++aA 0 2++x.nm++r):=by rw [e0];simp only [ai0]
  rw [e9,ale (by simp [az])]
 refine BF (t:=x.t) (k:=x.k) (nm:=x.nm) (X:=bA x) (y:=x.loc) (r:=r) (p:=jr++aA 20 2) (p1:=jr++aA 20 2++bW x++List.replicate 12 0) (r1:=aA 0 2++x.nm++r) (p2:=jr++aA 20 2++bW x++List.replicate 12 0++aA x.nm.length 2) (r2:=x.nm++r) (p3:=jr++aA 20 2++bW x++List.replicate 12 0++aA x.nm.length 2++aA 0 2) (r3:=r)
  (by kernel_rfl) hs (by decide) (by decide) (by decide) (Ia (p:=jr) (aA 20 2++bW x++List.replicate 12 0++aA x.nm.length 2++aA 0 2++x.nm++r) (by rw [e];unfold bA jr;simp [ai0])) IP (by rw [e];unfold bA jr;simp [ai0]) (by simp [az,dM,jr]) (by rw [e];unfold bA jr;simp [ai0]) (by simp [az,dM,jr])
  nT e (by rw [e];unfold bA jr;simp [ai0]) (by simp [az,dM,jr]) g.t (by rw [e8];exact e0) (by simp [az,jr]) (fun e=>by rw [e] at nT;simp at nT;omega) (fun H1 b M K o hk=>?_) h
 refine Ck.vc _ _ _ _ ?_;refine⟨fun H' =>au H H' (.box b x.loc.cells 44::M),?_,?_⟩
 ·clear o
  intro _ H2 o;rw [aD];refine o.bh (b:=b) ?_;refine mQ g.loc fun H3 hx=>?_;rw [KG];exact hk H3 (o.more hx)
 ·refine sT (a:=18) (n:=4) (k:=4) (x:=0) (p:=jr++aA 20 2++bW x++List.replicate 4 0) (r:=List.replicate 4 0++aA x.nm.length 2++aA 0 2++x.nm++r) ?_ rfl (by simp [az,dM,jr]) rfl (by decide) (by omega) (by decide) ?_
  ·rw [e]
   have e4: (List.replicate 12 0:List UInt8)=List.replicate 4 0++ (aA 0 4++List.replicate 4 0):=by decide
   unfold bA jr;rw [e4];simp only [ai0]
  ·rw [aZ,qO,ak]
   exact o
theorem N7 {x:Hd} {m:Nat} (g:zf x) (hm:m< (bA x).length) (e:s= (bA x).take m) (h: ∀H',Ext H H' →R (.tuple #[Hd.zero.v,.int .i64 0]) H'):ab 138 #[str s] H R:=by
 have IP:=g.nm.len;have dM:=fk x;have nT:=gR x;have iJ:s.length=m:=by rw [e,ai2];omega
 refine BH Hd.zero _ (fun H R h=>?_) h;have ab9: (bA x).take 4=jr:=by unfold bA jr;simp
 refine N5 (by omega) (by decide) (by decide) (by decide) (decide_eq_true ?_) rfl rfl ?_ h
 ·rw [iJ,←ab9,e,akb,akb]
  congr 1
  simp only [ai2];omega
 ·by_cases h30:m<30
  ·exact .inl (by omega)
  ·refine .inr ?_
   have e1: (s.drop 26).take 2=aA x.nm.length 2:=by
    have:s=jr++aA 20 2++bW x++List.replicate 12 0++ (aA x.nm.length 2++ (s.drop 28)):=by
     have e2:bA x= (jr++aA 20 2++bW x++List.replicate 12 0++aA x.nm.length 2)++ (aA 0 2++x.nm):=by unfold bA jr;simp only [ai0]
     have e3: (jr++aA 20 2++bW x++List.replicate 12 0++aA x.nm.length 2).length=28:=by simp [az,dM,jr]
     have e4:s.take 28=jr++aA 20 2++bW x++List.replicate 12 0++aA x.nm.length 2:=by
      rw [e,akb,show min 28 m=28 by omega,e2,alU e3]
     rw [←ai0,←e4,ajp]
    exact w_ this (by simp [az,dM,jr]) (az _ _).symm
   rw [e1,lG,ajg (show x.nm.length<65536 by omega)];omega
theorem N8 {c:UInt8} {r:List UInt8} (hc:c≠3) (e:s=80::75::c::r) (hs:s.length≤1000000) (h: ∀H',Ext H H' →R (.tuple #[Hd.zero.v,.int .i64 (-1)]) H'):ab 138 #[str s] H R:=by
 refine BH Hd.zero _ (fun H R h=>?_) h;refine NZ hs (by decide) (decide_eq_false fun h3=>?_) h;subst e;have:=congrArg (·[2]?) h3;have hl: (80::75::c::r).length=r.length+3:=rfl;rw [hl] at this
 cases r with
 |nil=>simp [jr] at this;exact hc this
 |cons a r=>simp [jr] at this;exact hc this
theorem Ib {x:Hd} {r:List UInt8} (g:zf x) (e:s=eu x++r) (hs:s.length≤1000000) (h: ∀H',Ext H H' →R (.tuple #[x.v,.int .i64 ((46+x.nm.length:Nat):Int)]) H'):ab 188 #[str s] H R:=by
 have IP:=g.nm.len;have dM:=fk x;have nT:=gV x;have g1:=g.p;have g2:=g.z;have g3:=g.u;have g4:=g.a;refine N6 x _ (fun H R h=>?_) h;rw [←nT] at h;obtain⟨T,hT⟩: ∃T,T=aA x.u 4++aA x.p 4++aA x.z 4++aA x.nm.length 2++aA 0 2++List.replicate 10 0++aA x.a 4++x.nm++r:= ⟨_,rfl⟩;have e0:s=BG++aA 20 2++aA 20 2++ (aA x.eN 2++ (aA x.eN 2++ (aA (fy x.t) 2++ (aA (fq x.t) 2++T)))):=by
  rw [e,hT];unfold eu bW BG;simp only [ai0]
 have e8:s.drop ((BG++aA 20 2++aA 20 2).length+8)=T:=by
  have e9:s= (BG++aA 20 2++aA 20 2++ (aA x.eN 2++ (aA x.eN 2++ (aA (fy x.t) 2++aA (fq x.t) 2))))++T:=by rw [e0];simp only [ai0]
  rw [e9,ale (by simp [az])]
 obtain⟨Q,hQ⟩: ∃Q,Q=BG++aA 20 2++aA 20 2++bW x:= ⟨_,rfl⟩;have Wi:Q.length=16:=by rw [hQ];simp [az,dM,BG]
 have eQ:s=Q++T:=by rw [e,hQ,hT];unfold eu BG;simp only [ai0]
 refine BF (t:=x.t) (k:=x.k) (nm:=x.nm) (X:=eu x) (y:=x) (r:=r) (p:=BG++aA 20 2++aA 20 2) (p1:=Q++aA x.u 4++aA x.p 4++aA x.z 4) (r1:=aA 0 2++List.replicate 10 0++aA x.a 4++x.nm++r) (p2:=Q++aA x.u 4++aA x.p 4++aA x.z 4++aA x.nm.length 2) (r2:=List.replicate 10 0++aA x.a 4++x.nm++r) (p3:=Q++aA x.u 4++aA x.p 4++aA x.z 4++aA x.nm.length 2++aA 0 2++List.replicate 10 0++aA x.a 4) (r3:=r)
  (by kernel_rfl) hs (by decide) (by decide) (by decide) (Ia (p:=BG) (aA 20 2++aA 20 2++bW x++T) (by rw [eQ,hQ];simp only [ai0])) IP (by rw [eQ,hT];simp only [ai0]) (by simp [az,Wi]) (by rw [eQ,hT];simp only [ai0]) (by simp [az,Wi])
  nT e (by rw [eQ,hT];simp only [ai0]) (by simp [az,Wi]) g.t (by rw [e8];exact e0) (by simp [az,BG]) (fun e=>by rw [e] at nT;simp at nT;omega) (fun H1 b M K o hk=>?_) h
 refine yA.vc _ _ _ _ ?_;refine sT (a:=16) (n:=4) (k:=4) (x:=x.u) (p:=Q) (r:=aA x.p 4++aA x.z 4++aA x.nm.length 2++aA 0 2++List.replicate 10 0++aA x.a 4++x.nm++r) (by rw [eQ,hT];simp only [ai0]) rfl Wi.symm rfl (by show _<4294967296;omega) (by omega) (by decide) ?_;refine a8 ?_;rw [Gd (by omega) (by omega),aD,ae,ax];refine o.cj (b:=b) (f:=0+9) fun H2 o _=>?_;refine sT (a:=20) (n:=4) (k:=4) (x:=x.p) (p:=Q++aA x.u 4) (r:=aA x.z 4++aA x.nm.length 2++aA 0 2++List.replicate 10 0++aA x.a 4++x.nm++r) (by rw [eQ,hT];simp only [ai0]) rfl (by simp [az,Wi]) rfl (by show _<4294967296;omega) (by omega) (by decide) ?_;refine sT (a:=24) (n:=4) (k:=4) (x:=x.z) (p:=Q++aA x.u 4++aA x.p 4) (r:=aA x.nm.length 2++aA 0 2++List.replicate 10 0++aA x.a 4++x.nm++r) (by rw [eQ,hT];simp only [ai0]) rfl (by simp [az,Wi]) rfl (by show _<4294967296;omega) (by omega) (by decide) ?_;refine sT (a:=42) (n:=4) (k:=4) (x:=x.a) (p:=Q++aA x.u 4++aA x.p 4++aA x.z 4++aA x.nm.length 2++aA 0 2++List.replicate 10 0) (r:=x.nm++r) (by rw [eQ,hT];simp only [ai0]) rfl (by simp [az,Wi]) rfl (by show _<4294967296;omega) (by omega) (by decide) ?_;rw [aD,ae,ax];refine o.cj (b:=b) (f:=0+7) fun H3 o _=>?_;rw [aD,ae,ax];refine o.cj (b:=b) (f:=0+8) fun H4 o _=>?_;rw [aD,ae,ax];refine o.cj (b:=b) (f:=0+10) fun H5 o _=>?_;have o:au H H5 (.box b x.cells 44::M):=o;rw [aD,ae,ax];refine o.aw (b:=b) (f:=0+0) (w:=str x.nm) ?_;refine aC ?_;rw [ay,aJ,ay,aJ];refine⟨fun a H' =>au H H' (.box b x.cells 44::M),?_,?_⟩
 ·clear o
  intro _ _ H6 o;refine⟨fun H' =>au H H' (.box b x.cells 44::M),?_,?_⟩
  ·clear o
   intro _ H7 o;rw [aD];refine o.bh (b:=b) ?_;refine vC g fun H8 hx=>?_;exact hk H8 (o.more hx)
  ·rw [aD,ae,ax]
   refine o.aw (b:=b) (f:=0+10) (w:= .int .u64 (x.a:Int)) ?_;rw [aZ,ei,ak];exact o
 ·rw [aD,ae,ax]
  refine o.aw (b:=b) (f:=0+7) (w:= .int .u64 (x.p:Int)) ?_;rw [aZ,ei,ak];exact o
end
end Go.Proofs.YtpcgccdmmoggmaaGreatDoor
