/- Part 4 of the proof of RowTopArchives: what it is built on, in the order of its needs. -/
import Derived.Test.YtpcgccdmmoggmaaGreatDoorPkC
set_option linter.unusedSimpArgs false
set_option linter.unusedVariables false
namespace Go.Proofs.YtpcgccdmmoggmaaGreatDoor
open Go Go.Vc Go.Proofs
section
set_option maxHeartbeats 4000000
set_option maxRecDepth 100000
variable [Go.Vc.Mode] (H0:ag) (R:Value→ag→Prop)
theorem utf8_ValidString.vc (a:Value) (h:
 ∃ (b:Value→ag→Prop) (c:Value→ag→Nat),b a H0∧∀ (_:Env) (a:Value) (d:ag),b a d→aT a fun e=>ef e (.int .i64 0) fun e=>aq e (bN a (.int .i64 0) fun e=>b_ e (.int .u8 128) fun f=>aq f (bd a (some (.int .i64 1)) none fun f=>aT f fun g=>ef g (.int .i64 8) fun g=>bE g (fun g=>ab 236 #[f] d fun h i=>cK .and h (.int .u64 9259542123273814144) fun h=>cd 0 h (.int .u64 0) fun h=>g h i) d fun g h=> ∀_:Env,aq g (bd f (some (.int .i64 8)) none fun g=>aT g fun i=>ef i (.int .i64 16) fun i=>bE i (fun i=>bd g (some (.int .i64 8)) none fun j=>ab 236 #[g] h fun k l=>ab 236 #[j] l fun j l=>cK .or k j fun j=>cK .and j (.int .u64 9259542123273814144) fun j=>cd 0 j (.int .u64 0) fun j=>i j l) h fun i j=> ∀_:Env,aq i (bd g (some (.int .i64 16)) none fun i=> ∃ (k:Value→ag→Prop) (l:Value→ag→Nat),k i j∧∀ (_:Env) (i:Value) (m:ag),k i m→aT i fun n=>ef n (.int .i64 32) fun n=>bE n (fun n=>bd i (some (.int .i64 8)) none fun o=>bd i (some (.int .i64 16)) none fun p=>bd i (some (.int .i64 24)) none fun q=>ab 236 #[i] m fun r s=>ab 236 #[o] s fun o s=>cK .or r o fun o=>ab 236 #[p] s fun p r=>ab 236 #[q] r fun q r=>cK .or p q fun p=>cK .or o p fun o=>cK .and o (.int .u64 9259542123273814144) fun o=>cd 0 o (.int .u64 0) fun o=>n o r) m fun n o=> ∀_:Env,aq n (bd i (some (.int .i64 32)) none fun n=>k n o∧l n o<l i m) (b i o∧c i o<c a d)) (b g j∧c g j<c a d)) (b f h∧c f h<c a d)) (eJ 256 1 (.pointer (some ⟨2,0,none⟩)) e fun e=>ao d e fun e=>cK .and e (.int .u8 7) fun f=>bf .i64 f fun f=>nU e (.int .u64 4) fun e=>eJ 16 2 (.pointer (some ⟨3,0,none⟩)) e fun e=>aF d 2 e fun e=>bD d 316 (.agg #[(.int .u8 0),(.int .u8 0)]) fun g h=>aH h 2 g e fun _ e=>cd 0 f (.int .i64 2) fun h=>aq h (aT a fun h=>b_ h (.int .i64 2) fun h=>ej h (fun h=>bN a (.int .i64 1) fun i=>aa 0 g fun j=>ao e j fun j=>b_ i j fun i=>h i e) e fun h i=> ∀_:Env,ej h (fun h=>aa 1 g fun j=>ao i j fun j=>bN a (.int .i64 1) fun k=>b_ j k fun j=>h j i) i fun h i=> ∀_:Env,aq h (R (.bool false) i) (bd a (some (.int .i64 2)) none fun h=>b h i∧c h i<c a d)) (cd 0 f (.int .i64 3) fun h=>aq h (aT a fun h=>b_ h (.int .i64 3) fun h=>ej h (fun h=>bN a (.int .i64 1) fun i=>aa 0 g fun j=>ao e j fun j=>b_ i j fun i=>h i e) e fun h i=> ∀_:Env,ej h (fun h=>aa 1 g fun j=>ao i j fun j=>bN a (.int .i64 1) fun k=>b_ j k fun j=>h j i) i fun h i=> ∀_:Env,ej h (fun h=>bN a (.int .i64 2) fun j=>b_ j (.int .u8 128) fun j=>h j i) i fun h i=> ∀_:Env,ej h (fun h=>bN a (.int .i64 2) fun j=>b_ (.int .u8 191) j fun j=>h j i) i fun h i=> ∀_:Env,aq h (R (.bool false) i) (bd a (some (.int .i64 3)) none fun h=>b h i∧c h i<c a d)) (cd 0 f (.int .i64 4) fun f=>aq f (aT a fun f=>b_ f (.int .i64 4) fun f=>ej f (fun f=>bN a (.int .i64 1) fun h=>aa 0 g fun i=>ao e i fun i=>b_ h i fun h=>f h e) e fun f h=> ∀_:Env,ej f (fun f=>aa 1 g fun g=>ao h g fun g=>bN a (.int .i64 1) fun i=>b_ g i fun g=>f g h) h fun f g=> ∀_:Env,ej f (fun f=>bN a (.int .i64 2) fun h=>b_ h (.int .u8 128) fun h=>f h g) g fun f g=> ∀_:Env,ej f (fun f=>bN a (.int .i64 2) fun h=>b_ (.int .u8 191) h fun h=>f h g) g fun f g=> ∀_:Env,ej f (fun f=>bN a (.int .i64 3) fun h=>b_ h (.int .u8 128) fun h=>f h g) g fun f g=> ∀_:Env,ej f (fun f=>bN a (.int .i64 3) fun h=>b_ (.int .u8 191) h fun h=>f h g) g fun f g=> ∀_:Env,aq f (R (.bool false) g) (bd a (some (.int .i64 4)) none fun f=>b f g∧c f g<c a d)) (R (.bool false) e))))) (R (.bool true) d)):ab 192 #[a] H0 R:=bI 0x101a01a39001a504c034944824853f033c43b23b53a032f42e22e52d032a429229528051b41a21a519054432404111111111111111111111213fff51111211f51111104d23352a39001a503a032f42e22e52d032a429229528051b41a21a51905443240411111111111213fff51111211f51111103b23352a39001a5028051b41a21a5190544324041213fff51111211f51111102923352a61a6a4a4a000039600502c051f41c521845521d421a42644532404111217efff511f56fff511f51211f51111102d2332e59002001763a501c041845526445324041111211f51111101d233a50180444324041333a52a33a60053a32ce10020017631a Tryz.func192 h
theorem tw.vc (a:Value) (h:
 bK a fun b=>dB H0 9 16 [(str [])] b b fun b c=> ∃ (d:Value→Value→ag→Prop) (e:Value→Value→ag→Nat),d (.int .i64 0) (.int .i64 1) c∧∀ (_:Env) (c f:Value) (g:ag),d c f g→oZ f (.int .i64 15) fun h=>aq h (kB c (.int .i64 2) fun h=> ∃ (i:Value→Value→ag→Prop) (j:Value→Value→ag→Nat),i h (.int .i64 0) g∧∀ (_:Env) (h k:Value) (l:ag),i h k l→bK a fun m=>b_ k m fun m=>aq m (∃m:Value→ag→Prop,(∀ (_:Env) (n:Value) (o:ag),m n o→aB k (.int .i64 1) fun p=>i n p o∧j n p o<j h k l)∧aK 1 a k fun a=>ao l a fun a=>cd 0 a f fun a=>aq a (∃ (a:Value→Value→Value→ag→Prop) (i:Value→Value→Value→ag→Nat),a (str []) h (.int .i64 0) l∧∀ (_:Env) (j n o:Value) (p:ag),a j n o p→b_ o f fun q=>aq q (jU n (.int .i64 2) fun q=>aB (.int .i64 48) q fun q=>bf .u8 q fun q=>aU p 5 1 [(.int .u8 0)] [(0,1,q)] fun q r=>fR r q fun q=>aB q j fun q=>k_ n (.int .i64 2) fun s=>aB o (.int .i64 1) fun t=>a q s t r∧i q s t r<i j n o p) (aK 1 b k fun a=>aI p a j fun _ a=>aB h (.int .i64 1) fun i=>m i a)) (m h l)) (aB f (.int .i64 1) fun a=>d h a l∧e h a l<e c f g)) (R b g)):ab 225 #[a] H0 R:=bI 0x102a39390395a393919a630053a31e2e272271761a32a1a56a63b1f2204304140054a349193104301042761a3a630052a34f3542141761a31a4a1a Tryz.func225 h
theorem wE.vc (a b:Value) (h:
 bK a fun c=>ef c (.int .i64 288) fun c=>aq c (R (.int .i64 1) H0) (∃ (c:Value→ag→Prop) (d:Value→ag→Nat),c (.int .i64 0) H0∧∀ (_:Env) (e:Value) (f:ag),c e f→bK a fun g=>b_ e g fun g=>aq g (aK 1 a e fun g=>ao f g fun g=>b_ g (.int .i64 0) fun g=>ej g (fun g=>aK 1 a e fun h=>ao f h fun h=>ef h (.int .i64 15) fun h=>g h f) f fun g h=> ∀_:Env,aq g (R (.int .i64 1) h) (aB e (.int .i64 1) fun g=>c g h∧d g h<d e f)) (∃ (c:Value→Value→Value→Value→ag→Prop) (d:Value→Value→Value→Value→ag→Nat),c (.int .i64 0) (.int .i64 0) (.int .i64 0) (.int .i64 0) f∧∀ (_:Env) (e f g h:Value) (i:ag),c e f g h i→bK a fun j=>b_ h j fun j=>aq j (∃j:Value→Value→Value→ag→Prop,(∀ (_:Env) (k l m:Value) (n:ag),j k l m n→aB h (.int .i64 1) fun o=>c k l m o n∧d k l m o n<d e f g h i)∧aK 1 a h fun c=>ao i c fun c=>cd 0 c (.int .i64 0) fun c=>aq c (j e f g i) (∃ (c:Value→Value→ag→Prop) (d:Value→Value→ag→Nat),c (.int .i64 32768) (.int .i64 0) i∧∀ (_:Env) (k l:Value) (m:ag),c k l m→aK 1 a h fun n=>ao m n fun n=>b_ l n fun n=>aq n (k_ k (.int .i64 2) fun n=>aB l (.int .i64 1) fun o=>c n o m∧d n o m<d k l m) (aB e k fun c=>aB f (.int .i64 1) fun d=>aK 1 a h fun a=>ao m a fun a=>cd 0 a (.int .i64 1) fun a=>aq a (aB g (.int .i64 1) fun a=>j c d a m) (j c d g m)))) (ef e (.int .i64 32768) fun a=>aq a (R (.int .i64 5) i) (b_ e (.int .i64 32768) fun a=>bE a (fun a=>bE b (fun b=>cd 0 f (.int .i64 0) fun c=>ej c (fun c=>cd 0 f (.int .i64 1) fun d=>bE d (fun d=>cd 0 g (.int .i64 1) fun e=>d e i) i fun d e=> ∀_:Env,c d e) i fun c d=> ∀_:Env,b c d) i fun b c=> ∀_:Env,d_ b fun b=>a b c) i fun a b=> ∀_:Env,aq a (R (.int .i64 4) b) (R (.int .i64 0) b)))))):ab 230 #[a,b] H0 R:=bI 0x101a001a502902851f01e01d021b41a23184723544223422304133001a52a33903955a3a4a3939630056a3194811a211a1761a31a0055a363a3b1126326140054a3482d562361761a33a39001a501b05645260413630054a32919142051761a3001a53a31a Tryz.func230 h
theorem uQ.vc (a b:Value) (h:
 ∃ (c:Value→Value→ag→Prop) (d:Value→Value→ag→Nat),c (.bool false) (.int .i64 0) H0∧∀ (_:Env) (e f:Value) (g:ag),c e f g→bK a fun h=>b_ f h fun h=>aq h (∃h:Value→ag→Prop,(∀ (_:Env) (i:Value) (j:ag),h i j→aB f (.int .i64 1) fun k=>c i k j∧d i k j<d e f g)∧aK 1 a f fun a=>ao g a fun a=>cd 1 a (str []) fun c=>aq c (h e g) (aT a fun c=>aT b fun d=>oZ c d fun c=>bE c (fun c=>aT a fun d=>bd b none (some d) fun d=>cd 1 d a fun d=>c d g) g fun c d=> ∀_:Env,aq c (R f d) (aT a fun c=>aT b fun f=>ef c f fun c=>bE c (fun c=>aT b fun f=>bd a none (some f) fun a=>cd 1 a b fun a=>c a d) d fun a b=> ∀_:Env,aq a (h (.bool true) b) (h e b)))) (aq e (R (.int .i64 (-2)) g) (R (.int .i64 (-1)) g))):ab 259 #[a,b] H0 R:=bI 0x101a001a51a339019501c06645260413002a501c0664526041330052a35a64860114305140054a35a41151761a31a1a Tryz.func259 h
theorem qZ.vc (h:
 ∃ (a:Value→Value→ag→Prop) (b:Value→Value→ag→Nat),a (.slice none 0 0) (.int .i64 0) H0∧∀ (_:Env) (c d:Value) (e:ag),a c d e→b_ d (.int .i64 8) fun f=>aq f (aB (.int .i64 257) d fun f=>aB (.int .i64 3) d fun g=>aW [(.int .i64 0),(.int .i64 0),(.int .i64 0)] [(0,1,f),(1,1,g),(2,1,(.int .i64 0))] fun f=>aU e 308 1 [(.int .i64 0),(.int .i64 0),(.int .i64 0)] [(0,3,f)] fun f g=>a7 g 308 3 24 [(.int .i64 0),(.int .i64 0),(.int .i64 0)] c f fun f g=>aB d (.int .i64 1) fun h=>a f h g∧b f h g<b c d e) (∃ (a:Value→Value→Value→Value→ag→Prop) (b:Value→Value→Value→Value→ag→Nat),a c (.int .i64 11) (.int .i64 2) (.int .i64 1) e∧∀ (_:Env) (c d e f:Value) (g:ag),a c d e f g→oZ f (.int .i64 5) fun h=>aq h (∃ (h:Value→Value→Value→ag→Prop) (i:Value→Value→Value→ag→Nat),h c d (.int .i64 0) g∧∀ (_:Env) (j k l:Value) (m:ag),h j k l m→b_ l (.int .i64 4) fun n=>aq n (bK j fun n=>aB (.int .i64 257) n fun n=>aW [(.int .i64 0),(.int .i64 0),(.int .i64 0)] [(0,1,n),(1,1,k),(2,1,f)] fun n=>aU m 308 1 [(.int .i64 0),(.int .i64 0),(.int .i64 0)] [(0,3,n)] fun n o=>a7 o 308 3 24 [(.int .i64 0),(.int .i64 0),(.int .i64 0)] j n fun n o=>aB k e fun p=>aB l (.int .i64 1) fun q=>h n p q o∧i n p q o<i j k l m) (kB e (.int .i64 2) fun h=>aB f (.int .i64 1) fun i=>a j k h i m∧b j k h i m<b c d e f g)) (aW [(.int .i64 0),(.int .i64 0),(.int .i64 0)] [(0,1,(.int .i64 285)),(1,1,(.int .i64 258)),(2,1,(.int .i64 0))] fun a=>aU g 308 1 [(.int .i64 0),(.int .i64 0),(.int .i64 0)] [(0,3,a)] fun a b=>a7 b 308 3 24 [(.int .i64 0),(.int .i64 0),(.int .i64 0)] c a fun a b=>R a b))):ab 226 #[] H0 R:=bI 0x105a393939491aa630052a31f2802010140201013761a3630052a32d1c3101321012761a31a1a39199630052a31b4112111761a31a1a Tryz.func226 h
theorem tx.vc (h:
 aW [(.int .i64 0),(.int .i64 0),(.int .i64 0)] [(0,1,(.int .i64 0)),(1,1,(.int .i64 1)),(2,1,(.int .i64 0))] fun a=>aW [(.int .i64 0),(.int .i64 0),(.int .i64 0)] [(0,1,(.int .i64 1)),(1,1,(.int .i64 2)),(2,1,(.int .i64 0))] fun b=>aW [(.int .i64 0),(.int .i64 0),(.int .i64 0)] [(0,1,(.int .i64 2)),(1,1,(.int .i64 3)),(2,1,(.int .i64 0))] fun c=>aW [(.int .i64 0),(.int .i64 0),(.int .i64 0)] [(0,1,(.int .i64 3)),(1,1,(.int .i64 4)),(2,1,(.int .i64 0))] fun d=>aU H0 308 4 [(.int .i64 0),(.int .i64 0),(.int .i64 0),(.int .i64 0),(.int .i64 0),(.int .i64 0),(.int .i64 0),(.int .i64 0),(.int .i64 0),(.int .i64 0),(.int .i64 0),(.int .i64 0)] [(0,3,a),(3,3,b),(6,3,c),(9,3,d)] fun a b=> ∃ (c:Value→Value→Value→Value→ag→Prop) (d:Value→Value→Value→Value→ag→Nat),c a (.int .i64 5) (.int .i64 2) (.int .i64 1) b∧∀ (_:Env) (a b e f:Value) (g:ag),c a b e f g→oZ f (.int .i64 13) fun h=>aq h (∃ (h:Value→Value→Value→ag→Prop) (i:Value→Value→Value→ag→Nat),h a b (.int .i64 0) g∧∀ (_:Env) (j k l:Value) (m:ag),h j k l m→b_ l (.int .i64 2) fun n=>aq n (bK j fun n=>aW [(.int .i64 0),(.int .i64 0),(.int .i64 0)] [(0,1,n),(1,1,k),(2,1,f)] fun n=>aU m 308 1 [(.int .i64 0),(.int .i64 0),(.int .i64 0)] [(0,3,n)] fun n o=>a7 o 308 3 24 [(.int .i64 0),(.int .i64 0),(.int .i64 0)] j n fun n o=>aB k e fun p=>aB l (.int .i64 1) fun q=>h n p q o∧i n p q o<i j k l m) (kB e (.int .i64 2) fun h=>aB f (.int .i64 1) fun i=>c j k h i m∧d j k h i m<d a b e f g)) (R a g)):ab 227 #[] H0 R:=bI 0x102a3939394919a630052a31e190211302112761a3630052a32c5412311761a31a1a6a1a Tryz.func227 h
theorem GC.vc (a b:Value) (h:
 ab 267 #[b] H0 fun b c=>ar 0 b fun d=>ar 1 b fun b=>eW 0 b (.int .i64 0) fun e=>aq e (R (.tuple #[(str []),b]) c) (ab 268 #[d,a] c fun a b=>ar 0 a fun c=>ar 1 a fun _=>ab 269 #[d] b fun a b=>ar 0 a fun d=>ar 1 a fun _=>aB c d fun a=>R (.tuple #[a,(.int .i64 0)]) b)):ab 239 #[a,b] H0 R:=bI 0x105a7a18a003a52a37a2a Tryz.func239 h
theorem GD.vc (a:Value) (h:
 b_ a (.int .i64 0) fun b=>ej b (fun b=>ef a (.int .i64 9) fun c=>b c H0) H0 fun b c=> ∀_:Env,aq b (R (.tuple #[(.pointer none),(.int .i64 1)]) c) (aW [(.int .i64 0),(str []),(str []),(.slice none 0 0),(.int .u64 0),(.int .i64 0),(.bool false)] [(0,1,a)] fun a=>bD c 367 a fun a b=>R (.tuple #[a,(.int .i64 0)]) b)):ab 267 #[a] H0 R:=bI 0x105a002a5050234223041332a Tryz.func267 h
theorem qp.vc (a b:Value) (h:
 cd 3 a (.pointer none) fun c=>aq c (R (.tuple #[(str []),(.int .i64 1)]) H0) (aG a fun c=>aa 6 c fun c=>ao H0 c fun c=>aq c (R (.tuple #[(str []),(.int .i64 16)]) H0) (aG a fun c=>aa 2 c fun c=>ao H0 c fun c=>aB c b fun b=>aG a fun c=>aa 2 c fun c=>aI H0 c b fun _ b=> ∃ (c:ag→Prop) (d:ag→Nat),c b∧∀ (_:Env) (b:ag),c b→aG a fun e=>aa 2 e fun e=>ao b e fun e=>aT e fun e=>ef e (.int .i64 16384) fun e=>aq e (ab 284 #[a,(.int .i64 16384),(.bool false)] b fun _ e=>c e∧d e<d b) (aG a fun a=>aa 3 a fun a=>ab 72 #[a] b fun a b=>R (.tuple #[a,(.int .i64 0)]) b)))):ab 268 #[a,b] H0 R:=bI 0x106a2960056a372e1076319a002a55a02a53a632a Tryz.func268 h
theorem qq.vc (a:Value) (h:
 cd 3 a (.pointer none) fun b=>aq b (R (.tuple #[(str []),(.int .i64 1)]) H0) (aG a fun b=>aa 6 b fun b=>ao H0 b fun b=>aq b (R (.tuple #[(str []),(.int .i64 16)]) H0) (aG a fun b=>aa 6 b fun b=>aI H0 b (.bool true) fun _ b=>aG a fun c=>aa 2 c fun c=>ao b c fun c=>aT c fun c=>ab 284 #[a,c,(.bool true)] b fun _ b=>aG a fun c=>aa 3 c fun c=>ab 70 #[c] b fun _ b=>aG a fun a=>aa 3 a fun a=>ab 72 #[a] b fun a b=>R (.tuple #[a,(.int .i64 0)]) b))):ab 269 #[a] H0 R:=bI 0x106a4a7a4a002a55a02a53a632a Tryz.func269 h
theorem qs.vc (a b c:Value) (h:
 aG a fun d=>aa 2 d fun d=>ao H0 d fun d=>bd d none (some b) fun d=>aG a fun e=>aa 2 e fun e=>ao H0 e fun e=>bd e (some b) none fun b=>aG a fun e=>aa 2 e fun e=>aI H0 e b fun _ b=>aG a fun e=>aa 1 e fun e=>ao b e fun e=>aG a fun f=>aa 0 f fun f=>ao b f fun f=>ab 305 #[e,d,f] b fun b e=>ar 0 b fun f=>ar 1 b fun _=> ∃b:Value→ag→Prop,(∀ (_:Env) (g:Value) (h:ag),b g h→aG a fun i=>aa 3 i fun i=>ab 69 #[i,g,c,d,f] h fun _ c=>aG a fun g=>aa 1 g fun g=>ao c g fun g=>aB g d fun g=>aG a fun h=>aa 1 h fun h=>aI c h g fun _ c=>aG a fun g=>aa 1 g fun g=>ao c g fun g=>aG a fun h=>aa 1 h fun h=>ao c h fun h=>aT h fun h=>bR h (.int .i64 32768) fun h=>IU h (.int .i64 0) fun h=>bd g (some h) none fun g=>aG a fun h=>aa 1 h fun h=>aI c h g fun _ c=>R (.tuple #[]) c)∧aG a fun a=>aa 0 a fun a=>ao e a fun a=>ef a (.int .i64 0) fun a=>aq a (ab 306 #[d,f] e fun a c=>b a c) (b (.int .i64 0) e)):ab 284 #[a,b,c] H0 R:=bI 0x1028041127ffe511111101110028219a18a04955a73c0192019141a01f0427fff531121110011101f231aa7a Tryz.func284 h
theorem JC.vc (a:Value) (h:
 bK a fun b=> ∃ (c:Value→ag→Prop) (d:Value→ag→Nat),c (.int .i64 0) H0∧∀ (_:Env) (e:Value) (f:ag),c e f→b_ e b fun b=>aq b (aK 1 a e fun a=>ao f a fun a=>eW 0 a (.int .i64 0) fun b=>aq b (R a f) (aB e (.int .i64 1) fun a=>c a f∧d a f<d e f)) (R (.int .i64 0) f)):ab 246 #[a] H0 R:=bI 0x102a29002a53a3a6300531a182020230181763a31a1a Tryz.func246 h
theorem yG.vc (a b:Value) (h:
 ab 272 #[a] H0 fun c d=>ab 272 #[b] d fun d e=>aq c (aq d (R (.int .i64 0) e) (R (.int .i64 (-1)) e)) (aq d (R (.int .i64 1) e) (b_ a b fun c=>aq c (R (.int .i64 (-1)) e) (ef a b fun a=>aq a (R (.int .i64 1) e) (R (.int .i64 0) e))))):ab 247 #[a,b] H0 R:=bI 0x101a001a53a3001a53a3001a51a3001a001a51a351a33a3a1a Tryz.func247 h
theorem cmp_isNaN_int.vc (a:Value) (h:
 eW 0 a a fun a=>R a H0):ab 272 #[a] H0 R:=bI 0x104a1a Tryz.func272 h
theorem uR.vc (a b:Value) (h:
 aT b fun c=> ∃ (d:Value→ag→Prop) (e:Value→ag→Nat),d (.int .i64 0) H0∧∀ (_:Env) (f:Value) (g:ag),d f g→b_ f c fun c=>aq c (bN b f fun b=>ab 257 #[a,b] g fun _ a=>aB f (.int .i64 1) fun b=>d b a∧e b a<e f g) (R (.tuple #[]) g)):ab 253 #[a,b] H0 R:=bI 0x129592a6300531a182042071763a Tryz.func253 h
theorem uS.vc (a b:Value) (h:
 cd 3 a (.pointer none) fun c=>aq c (R (.tuple #[]) H0) (∃c:ag→Prop,(∀ (_:Env) (d:ag),c d→aG a fun e=>aa 1 e fun e=>ao d e fun e=>aB e (.int .i64 1) fun e=>aG a fun f=>aa 1 f fun f=>aI d f e fun _ d=>R (.tuple #[]) d)∧aG a fun d=>aa 0 d fun d=>ao H0 d fun d=>bK d fun d=>b_ d (.int .i64 32768) fun d=>aq d (aG a fun d=>aa 0 d fun d=>ao H0 d fun d=>aU H0 5 1 [(.int .u8 0)] [(0,1,b)] fun e f=>a7 f 5 1 1 [(.int .u8 0)] d e fun d e=>aG a fun f=>aa 0 f fun f=>aI e f d fun _ d=>c d) (aG a fun d=>aa 0 d fun d=>ao H0 d fun d=>aG a fun a=>aa 1 a fun a=>ao H0 a fun a=>jU a (.int .i64 32768) fun a=>aK 1 d a fun a=>aI H0 a b fun _ a=>c a))):ab 257 #[a,b] H0 R:=bI 0x118901c041201111011101c21b956a3a61040052a3 Tryz.func257 h
theorem mK.vc (a b c:Value) (h:
 b_ b (.int .i64 0) fun d=>ej d (fun d=>ef b (.int .i64 258) fun e=>d e H0) H0 fun d e=> ∀_:Env,ej d (fun d=>b_ c (.int .i64 1) fun f=>d f e) e fun d e=> ∀_:Env,ej d (fun d=>ab 299 #[a] e fun f g=>ef c f fun f=>d f g) e fun d e=> ∀_:Env,aq d (R (.tuple #[(str []),(.bool false)]) e) (dB e 5 1 [(.int .u8 0)] b b fun b d=>bK b fun e=> ∃ (f:Value→ag→Prop) (g:Value→ag→Nat),f (.int .i64 0) d∧∀ (_:Env) (d:Value) (h:ag),f d h→b_ d e fun e=>aq e (ab 300 #[a,c] h fun c e=>ar 0 c fun i=>ar 1 c fun _=>aK 1 b d fun c=>aI e c i fun _ c=>aK 1 b d fun e=>ao c e fun e=>ab 257 #[a,e] c fun _ a=>aB d (.int .i64 1) fun c=>f c a∧g c a<g d h) (fR h b fun a=>R (.tuple #[a,(.bool true)]) h))):ab 281 #[a,b,c] H0 R:=bI 0x104a29691aa2a6300531a2a2c019203e1763a33a002a501f041b41a21a5190274626550234223041332a Tryz.func281 h
theorem uT.vc (a:Value) (h:
 cd 3 a (.pointer none) fun b=>aq b (R (.int .i64 0) H0) (aG a fun a=>aa 0 a fun a=>ao H0 a fun a=>bK a fun a=>R a H0)):ab 299 #[a] H0 R:=bI 0x106a001a52a31a Tryz.func299 h
theorem tz.vc (a b:Value) (h:
 b_ b (.int .i64 1) fun c=>ej c (fun c=>ab 299 #[a] H0 fun d e=>ef b d fun d=>c d e) H0 fun c d=> ∀_:Env,aq c (R (.tuple #[(.int .u8 0),(.bool false)]) d) (aG a fun c=>aa 0 c fun c=>ao d c fun c=>aG a fun a=>aa 1 a fun a=>ao d a fun a=>bR a b fun a=>jU a (.int .i64 32768) fun a=>aK 1 c a fun a=>ao d a fun a=>R (.tuple #[a,(.bool true)]) d)):ab 300 #[a,b] H0 R:=bI 0x1001f04111217e850111011101f23002a5070434223041332a Tryz.func300 h
theorem Ey.vc (a b c:Value) (h:
 b_ c (.int .i64 0) fun d=>ej d (fun d=>ef c (.int .i64 9) fun e=>d e H0) H0 fun d e=> ∀_:Env,aq d (R (.tuple #[(.slice none 0 0),(.int .i64 1)]) e) (cd 0 c (.int .i64 0) fun d=>aq d (aT b fun d=>dB e 145 24 [(.int .u8 0),(.int .i64 0),(.int .i64 0)] d d fun d f=>bK d fun g=> ∃ (h:Value→ag→Prop) (i:Value→ag→Nat),h (.int .i64 0) f∧∀ (_:Env) (f:Value) (j:ag),h f j→b_ f g fun g=>aq g (bN b f fun g=>aK 3 d f fun k=>aa 0 k fun k=>aI j k g fun _ g=>aB f (.int .i64 1) fun k=>h k g∧i k g<i f j) (R (.tuple #[d,(.int .i64 0)]) j)) (eJ 10 1 (.pointer (some ⟨5,0,none⟩)) c fun d=>ao e d fun d=>ab 315 #[a,b,d] e fun a b=>jz c (.int .i64 4) fun c=>ab 316 #[a,c] b fun a b=>R (.tuple #[a,(.int .i64 0)]) b))):ab 305 #[a,b,c] H0 R:=bI 0x101ba003a291892a6300531a1a1f01920391763a34a53a02a5065502342230413632a Tryz.func305 h
theorem yH.vc (a b c:Value) (h:
 aT a fun d=>bR d (.int .i64 32768) fun d=>IU d (.int .i64 0) fun d=>bd a (some d) none fun a=>aB a b fun b=>aT a fun d=>qC H0 fun e f=>aW [(str []),(.int .i64 0),(.map none),(.slice none 0 0),(.int .i64 0)] [(0,1,b),(1,1,d),(2,1,e),(4,1,c)] fun b=>bD f 406 b fun b c=>aG b fun d=>aa 0 d fun d=>ao c d fun d=>aT d fun d=>dB c 3 8 [(.int .i64 0)] d d fun c d=>aG b fun e=>aa 3 e fun e=>aI d e c fun _ c=>aT a fun a=> ∃ (d:Value→ag→Prop) (e:Value→ag→Nat),d (.int .i64 0) c∧∀ (_:Env) (c:Value) (f:ag),d c f→b_ c a fun a=>aq a (ab 319 #[b,c] f fun _ a=>aB c (.int .i64 1) fun g=>d g a∧e g a<e c f) (R b f)):ab 315 #[a,b,c] H0 R:=bI 0x102a29392a6300531a63a018204b1763a31aa1aa7a1a Tryz.func315 h
theorem ss.vc (a b:Value) (h:
 aG a fun c=>aa 1 c fun c=>ao H0 c fun c=> ∃ (d:Value→Value→ag→Prop) (e:Value→Value→ag→Nat),d (.slice none 0 0) c H0∧∀ (_:Env) (c f:Value) (g:ag),d c f g→aG a fun h=>aa 0 h fun h=>ao g h fun h=>aT h fun h=>b_ f h fun h=>aq h (ab 320 #[a,f] g fun h i=>ar 0 h fun j=>ar 1 h fun h=>ab 319 #[a,f] i fun _ i=> ∃k:Value→ag→Prop,(∀ (_:Env) (l:Value) (m:ag),k l m→cd 0 l (.int .i64 0) fun n=>aq n (aG a fun n=>aa 0 n fun n=>ao m n fun n=>bN n f fun n=>aW [(.int .u8 0),(.int .i64 0),(.int .i64 0)] [(0,1,n)] fun n=>aU m 145 1 [(.int .u8 0),(.int .i64 0),(.int .i64 0)] [(0,3,n)] fun n o=>a7 o 145 3 24 [(.int .u8 0),(.int .i64 0),(.int .i64 0)] c n fun n o=>aB f (.int .i64 1) fun p=>d n p o∧e n p o<e c f g) (aW [(.int .u8 0),(.int .i64 0),(.int .i64 0)] [(1,1,l),(2,1,h)] fun h=>aU m 145 1 [(.int .u8 0),(.int .i64 0),(.int .i64 0)] [(0,3,h)] fun h m=>a7 m 145 3 24 [(.int .u8 0),(.int .i64 0),(.int .i64 0)] c h fun h m=>bR l (.int .i64 1) fun l=> ∃ (n:Value→Value→ag→Prop) (o:Value→Value→ag→Nat),n f (.int .i64 0) m∧∀ (_:Env) (m p:Value) (q:ag),n m p q→b_ p l fun l=>aq l (aB m (.int .i64 1) fun l=>ab 319 #[a,l] q fun _ r=>aB p (.int .i64 1) fun s=>n l s r∧o l s r<o m p q) (aB m (.int .i64 1) fun l=>d h l q∧e h l q<e c f g)))∧ef j (.int .i64 0) fun d=>bE d (fun d=>d b i) i fun b d=> ∀_:Env,bE b (fun b=>b_ j (.int .i64 258) fun e=>b e d) d fun b d=> ∀_:Env,aq b (aB f (.int .i64 1) fun b=>ab 320 #[a,b] d fun a b=>ar 0 a fun e=>ar 1 a fun _=>ef e j fun a=>aq a (k (.int .i64 0) b) (k j b)) (k j d)) (R c g)):ab 316 #[a,b] H0 R:=bI 0x102a3929393a6300531a71890620189062763a37a003a1ba52a3001953a19a501802645255403522304132a2c1107307143a18a60057a318a4552151765a3031a1a Tryz.func316 h
theorem tA.vc (a b:Value) (h:
 aB b (.int .i64 3) fun c=>aG a fun d=>aa 0 d fun d=>ao H0 d fun d=>aT d fun d=>ef c d fun c=>aq c (R (.tuple #[]) H0) (ab 322 #[a,b] H0 fun c d=>aG a fun e=>aa 3 e fun e=>ao d e fun e=>aG a fun f=>aa 2 f fun f=>ao d f fun f=>jw d 0 (.int .i64 0) false f c fun f=>aK 1 e b fun e=>aI d e f fun _ d=>aG a fun a=>aa 2 a fun a=>ao d a fun a=>aB b (.int .i64 1) fun b=>j0 d 0 a c b fun _ a=>R (.tuple #[]) a)):ab 319 #[a,b] H0 R:=bI 0x118901d04121fc8501110011101d234a00518a3 Tryz.func319 h
theorem q7.vc (a b:Value) (h:
 aB b (.int .i64 3) fun c=>aG a fun d=>aa 0 d fun d=>ao H0 d fun d=>aT d fun d=>ef c d fun c=>aq c (R (.tuple #[(.int .i64 0),(.int .i64 0)]) H0) (aG a fun c=>aa 2 c fun c=>ao H0 c fun d=>ab 322 #[a,b] H0 fun e f=> (ao f c fun c=>c=d)∧jw f 0 (.int .i64 0) false d e fun c=> ∃d:Value→Value→ag→Prop,(∀ (_:Env) (e g:Value) (h:ag),d e g h→b_ e (.int .i64 3) fun i=>aq i (R (.tuple #[(.int .i64 0),(.int .i64 0)]) h) (R (.tuple #[e,g]) h))∧∃ (e:Value→Value→Value→Value→ag→Prop) (g:Value→Value→Value→Value→ag→Nat),e (.int .i64 0) (.int .i64 0) c (.int .i64 0) f∧∀ (_:Env) (c f h i:Value) (j:ag),e c f h i j→ef h (.int .i64 0) fun k=>bE k (fun k=>aG a fun l=>aa 4 l fun l=>ao j l fun l=>b_ i l fun l=>k l j) j fun k l=> ∀_:Env,bE k (fun k=>bR h (.int .i64 1) fun m=>bR b m fun m=>oZ m (.int .i64 32768) fun m=>k m l) l fun k l=> ∀_:Env,aq k (∃k:Value→Value→ag→Prop,(∀ (_:Env) (m n:Value) (o:ag),k m n o→cd 0 m (.int .i64 258) fun p=>aq p (d m n o) (aG a fun p=>aa 3 p fun p=>ao o p fun p=>bR h (.int .i64 1) fun q=>aK 1 p q fun p=>ao o p fun p=>aB i (.int .i64 1) fun q=>e m n p q o∧g m n p q o<g c f h i j))∧bR h (.int .i64 1) fun e=>ab 323 #[a,e,b] l fun a e=>ef a c fun g=>aq g (bR h (.int .i64 1) fun g=>bR b g fun b=>k a b e) (k c f e)) (d c f l))):ab 320 #[a,b] H0 R:=bI 0x104a002a52a3391990052a307953a6a1c4b02163161463005028051b41a21a5190634223041335928462361761a59284621614027431616041268500111019232a002a518a32a Tryz.func320 h
theorem uU.vc (a b:Value) (h:
 aG a fun a=>aa 0 a fun a=>ao H0 a fun a=>bN a b fun c=>bf .i64 c fun c=>kC c (.int .u64 10) fun c=>aB b (.int .i64 1) fun d=>bN a d fun d=>bf .i64 d fun d=>kC d (.int .u64 5) fun d=>cK .xor c d fun c=>aB b (.int .i64 2) fun b=>bN a b fun a=>bf .i64 a fun a=>cK .xor c a fun a=>cK .and a (.int .i64 32767) fun a=>R a H0):ab 322 #[a,b] H0 R:=bI 0x1002c0411217888851002113c85100112002c235a1a Tryz.func322 h
theorem su.vc (a b c:Value) (h:
 aG a fun d=>aa 0 d fun d=>ao H0 d fun d=>aT d fun d=>bR d c fun d=>jA (.int .i64 258) d fun d=> ∃ (e:Value→ag→Prop) (f:Value→ag→Nat),e (.int .i64 0) H0∧∀ (_:Env) (g:Value) (h:ag),e g h→b_ g d fun d=>bE d (fun d=>aG a fun i=>aa 0 i fun i=>ao h i fun i=>aB b g fun b=>bN i b fun b=>aG a fun a=>aa 0 a fun a=>ao h a fun a=>aB c g fun c=>bN a c fun a=>cd 0 b a fun a=>d a h) h fun a b=> ∀_:Env,aq a (aB g (.int .i64 1) fun a=>e a b∧f a b<f g h) (R g b)):ab 323 #[a,b,c] H0 R:=bI 0x102a39600502d0294432404121ff889f568889f531f51111f521c9f531f5111112002e2332f18018201817631a19a1a Tryz.func323 h
end
section
set_option maxRecDepth 100000
variable {H:ag} {R:Value→ag→Prop} {v:Value} {zs:List Int}
def qk (ls:List Nat):Nat:=ls.countP fun k=>decide (k≠0)
theorem tB (a b:List Nat):qk (a++b)=qk a+qk b:=by unfold qk;rw [List.countP_append]
def slackL (ls:List Nat):Bool:=decide (qk ls=0) || (decide (qk ls=1) && decide (dh ls 1=1))
theorem y7 (n:Nat):decide ((n:Int)=1)=decide (n=1):=by rw [ajV,decide_eq_true_eq,decide_eq_true_eq];omega
theorem GF (n:Nat):decide ((n:Int)=0)=decide (n=0):=by rw [ajV,decide_eq_true_eq,decide_eq_true_eq];omega
noncomputable def ia (zs:List Int) (loose:Bool):Int:=
 open Classical in if okZ zs then (if 32768<shareL (natL zs) 15 then 5 else if shareL (natL zs) 15<32768∧(loose && slackL (natL zs))=false then 4 else 0) else 1
theorem Ez {loose:Bool} (h: ¬okZ zs):ia zs loose=1:=by unfold ia;rw [if_neg h]
theorem tC {loose:Bool} (h:okZ zs):ia zs loose=if 32768<shareL (natL zs) 15 then 5 else if shareL (natL zs) 15<32768∧(loose && slackL (natL zs))=false then 4 else 0:=by unfold ia;rw [if_pos h]
theorem Ax {loose:Bool} (hs:Sl H v 1 (aP zs)) (hlen:zs.length≤maxLen) (h:R (.int .i64 (ia zs loose)) H):ab 230 #[v,.bool loose] H R:=by
 have JD:maxLen=9223372036854775807:=rfl;have dg: (aP zs).length=zs.length*1:=by rw [aV];omega
 refine wE.vc _ _ _ _ ?_;refine hs.df dg ?_;rw [bc];refine av (fun hc=>by rw [Ez (fun g=>by have:=g.1;omega)] at h;exact h) (fun hc=>?_);refine⟨fun i H' => ∃k:Nat,i= .int .i64 k∧k≤zs.length∧(∀z∈zs.take k,0≤z∧z≤15)∧H=H',fun i _=>match i with| .int _ x=> (1000 - x).toNat|_=>0,⟨0,rfl,by omega,by simp,rfl⟩,?_⟩;rintro _ _ _ ⟨k,rfl,hk,kp,rfl⟩;refine hs.df dg ?_;rw [aO];refine av (fun eF=>?_) (fun eF=>?_)
 ·have e_:k<zs.length:=by omega
  have PE: ∀ {K:Value→Prop},K (.int .i64 zs[k])→aK 1 v (.int .i64 (k:Int)) fun x=>ao H x K:=fun hK=>
   hs.gG dg fun p hp=>hp.load hs (w:= .int .i64 zs[k]) (by rw [aiY,ai5,cm e_]) hK
  have uv:zs[k]∈zs:=ai9 e_;refine PE ?_;rw [aO];refine gu (d:=decide (15<zs[k])) (fun _=>PE (by rw [bc];exact⟨rfl,rfl⟩)) ?_;intro _;refine cN (fun hb=>?_) (fun hb=>?_)
  ·simp only [akf,decide_eq_true_eq] at hb
   rw [Ez (fun g=>by have:=g.2 _ uv;omega)] at h;exact h
  simp only [aks,decide_eq_false_iff_not] at hb;rw [ay,ff (n:= (k:Int)+1) (by omega) (by omega)];refine⟨⟨k+1,rfl,by omega,?_,rfl⟩,by show (_:Int).toNat< (_:Int).toNat;omega⟩;rw [oq e_];intro z hz;rcases ajo.1 hz with hz|hz
  ·exact kp z hz
  ·rw [ajE.1 hz];omega
 have IL:k=zs.length:=by omega
 subst IL;rw [ajc] at kp;have aaL:okZ zs:= ⟨by omega,kp⟩;rw [tC aaL] at h;clear eF hk;refine⟨fun s al on i H' => ∃k:Nat,i= .int .i64 k∧k≤zs.length∧s= .int .i64 (shareL (natL (zs.take k)) 15:Nat)∧al= .int .i64 (qk (natL (zs.take k)):Nat)∧on= .int .i64 (dh (natL (zs.take k)) 1:Nat)∧H=H',fun _ _ _ i _=>match i with| .int _ x=> (1000 - x).toNat|_=>0,⟨0,rfl,by omega,rfl,rfl,rfl,rfl⟩,?_⟩;rintro _ _ _ _ _ _ ⟨k,rfl,hk,rfl,rfl,rfl,rfl⟩;have iJ:=wD (natL (zs.take k)) 15;rw [eY,ai2] at iJ;have aeX:shareL (natL (zs.take k)) 15≤288*2 ^ 15:=ajv iJ (akl _ (by omega));have ZE:qk (natL (zs.take k))≤288:=by
  have:=akY (p:=fun k:Nat=>decide (k≠0)) (l:=natL (zs.take k));rw [eY,ai2] at this;unfold qk;omega
 have rN:dh (natL (zs.take k)) 1≤288:=by
  have:=akY (p:=fun k:Nat=>decide (k=1)) (l:=natL (zs.take k));rw [eY,ai2] at this;unfold dh;omega
 refine hs.df dg ?_;rw [aO];refine av (fun eF=>?_) (fun eF=>?_)
 ·have e_:k<zs.length:=by omega
  have PE: ∀ {K:Value→Prop},K (.int .i64 zs[k])→aK 1 v (.int .i64 (k:Int)) fun x=>ao H x K:=fun hK=>
   hs.gG dg fun p hp=>hp.load hs (w:= .int .i64 zs[k]) (by rw [aiY,ai5,cm e_]) hK
  have hz:=kp _ (ai9 e_);have W9:=C9 e_;obtain⟨q,hq⟩: ∃q:Nat,zs[k]=q:= ⟨zs[k].toNat,by omega⟩;rw [hq,aiY] at W9;rw [hq] at PE hz;refine⟨fun s al on H' =>s= .int .i64 (shareL (natL (zs.take (k+1))) 15:Nat)∧al= .int .i64 (qk (natL (zs.take (k+1))):Nat)∧on= .int .i64 (dh (natL (zs.take (k+1))) 1:Nat)∧H=H',?_,?_⟩
  ·rintro _ _ _ _ _ ⟨rfl,rfl,rfl,rfl⟩
   rw [ay,ff (n:= (k:Int)+1) (by omega) (by omega)];exact⟨⟨k+1,rfl,by omega,rfl,rfl,rfl,rfl⟩,by show (_:Int).toNat< (_:Int).toNat;omega⟩
  rw [W9,Cp,tB,fh];refine PE ?_;rw [aZ];refine av (fun D5=>?_) (fun D5=>?_)
  ·have:q=0:=by omega
   subst this;exact⟨rfl,rfl,rfl,rfl⟩
  refine⟨fun p i H' => ∃j:Nat,i= .int .i64 j∧j≤q∧p= .int .i64 (2 ^ (15 - j):Nat)∧H=H',fun _ i _=>match i with| .int _ x=> (1000 - x).toNat|_=>0,⟨0,rfl,by omega,rfl,rfl⟩,?_⟩;rintro _ _ _ _ ⟨j,rfl,hj,rfl,rfl⟩;have um:2 ^ (15 - j)≤2 ^ 15:=ajk (by decide) (by omega);refine PE ?_;rw [aO];refine av (fun hjq=>?_) (fun hjq=>?_)
  ·have e:2 ^ (15 - j)=2*2 ^ (15 - (j+1)):=by rw [show 15 - j= (15 - (j+1))+1 by omega,ajI,ajQ]
   rw [iL];refine⟨by decide,?_⟩;rw [e] at um ⊢;generalize hP:2 ^ (15 - (j+1))=P at*;rw [akr (amx _),show ((2*P:Nat):Int) /2= (P:Int) by omega,ff (n:= (P:Int)) (by omega) (by omega),ay,ff (n:= (j:Int)+1) (by omega) (by omega)];exact⟨⟨j+1,rfl,by omega,by rw [hP],rfl⟩,by show (_:Int).toNat< (_:Int).toNat;omega⟩
  have Oy:j=q:=by omega
  subst Oy;have es:shareL [j] 15=2 ^ (15 - j):=by unfold shareL;rw [aj3,List.map_nil,akX,List.sum_nil,if_pos (by omega),ajq]
  have en:qk [j]=1:=by unfold qk;rw [akH,aly,nR];rfl
  rw [es,en];generalize 2 ^ (15 - j)=P at*;rw [ay,ff (n:= ((shareL (natL (zs.take k)) 15:Nat):Int)+ (P:Int)) (by omega) (by omega),ay,ff (n:= ((qk (natL (zs.take k)):Nat):Int)+1) (by omega) (by omega)];refine PE ?_;rw [aZ];refine av (fun h1=>?_) (fun h1=>?_)
  ·have:j=1:=by omega
   subst this;rw [ay,ff (n:= ((dh (natL (zs.take k)) 1:Nat):Int)+1) (by omega) (by omega)];exact⟨rfl,rfl,rfl,rfl⟩
  ·have ec:dh [j] 1=0:=by unfold dh;rw [akH,aly,ei];rfl
   rw [ec];exact⟨rfl,rfl,rfl,rfl⟩
 have IL:k=zs.length:=by omega
 subst IL;rw [ajc] at*;generalize hS:shareL (natL zs) 15=S at*;rw [bc];refine av (fun h5=>?_) (fun h5=>?_)
 ·rw [if_pos (by omega)] at h;exact h
 rw [if_neg (by omega)] at h;rw [aO];refine dC (d:= !(loose && slackL (natL zs))) (fun _=>?_) ?_
 ·refine dC (d:=slackL (natL zs)) (fun _=>?_) ?_
  ·rw [aZ]
   refine gu (d:=decide (qk (natL zs)=1) && decide (dh (natL zs) 1=1)) (fun _=>?_) ?_
   ·rw [aZ]
    refine dC (d:=decide (dh (natL zs) 1=1)) (fun _=>?_) ?_
    ·rw [aZ]
     exact⟨by rw [y7],rfl⟩
    ·intro _
     exact⟨by rw [y7],rfl⟩
   ·intro _
    refine⟨?_,rfl⟩;unfold slackL;rw [GF]
  ·intro _
   rw [dq];exact⟨rfl,rfl⟩
 ·intro _
  refine cN (fun hb=>?_) (fun hb=>?_)
  ·simp only [aja,decide_eq_true_eq,akC] at hb
   rw [if_pos ⟨by omega,hb.2⟩] at h;exact h
  ·rw [if_neg (fun g=>by
    rw [nR,g.2] at hb
    simp at hb)] at h
   exact h
end
section
set_option maxRecDepth 100000
variable {H:ag} {R:Value→ag→Prop} {v:Value} {zs:List Int}
abbrev cn (lv wv:Value) (cs:List Int) (sv:Value):List Value:=lv::wv:: (aP cs++ [sv])
theorem jy {lv wv sv:Value} {cs:List Int} {n:Nat} (h:n<cs.length): (cn lv wv cs sv)[2+n]? =some (.int .i64 cs[n]):=by
 rw [show 2+n=n+1+1 by omega,aju,aju,ajL (by rw [aV];exact h),cm h]
theorem Cr {lv wv sv:Value} {cs:List Int} {n:Nat} {z:Int} (h:n<cs.length): (cn lv wv cs sv).set (2+n) (.int .i64 z)=cn lv wv (cs.set n z) sv:=by
 rw [show 2+n=n+1+1 by omega,ajS,ajS,al4 _ _ (by rw [aV];exact h),jP]
def cI (ls:List Nat):List Int:= (List.range 16).map fun n=>if n=0 then 0 else ((dh ls n:Nat):Int)
theorem dI (ls:List Nat): (cI ls).length=16:=by simp [cI]
theorem gP {ls:List Nat} {n:Nat} (h:n<16): (cI ls)[n]'(by rw [dI];exact h)=if n=0 then 0 else ((dh ls n:Nat):Int):=by simp [cI]
theorem EA {ls:List Nat} {k:Nat} (h0:1≤k) (h1:k≤15):cI (ls++ [k])= (cI ls).set k ((dh ls k:Nat)+1:Int):=by
 apply akA
 ·rw [aj1,dI,dI]
 intro i h2 h3;rw [dI] at h2;rw [gP h2,amy]
 by_cases hi:k=i
 ·subst hi
  rw [if_pos rfl,if_neg (by omega),fh];have:dh [k] k=1:=by unfold dh;rw [akH,aly,decide_eq_true rfl];rfl
  rw [this];omega
 ·rw [if_neg hi,gP h2]
  by_cases h0:i=0
  ·rw [if_pos h0,if_pos h0]
  ·rw [if_neg h0,if_neg h0,fh]
   have:dh [k] i=0:=by unfold dh;rw [akH,aly,decide_eq_false hi];rfl
   rw [this];omega
theorem EB {ls:List Nat}:cI (ls++ [0])=cI ls:=by
 apply akA
 ·rw [dI,dI]
 intro i h2 h3;rw [dI] at h2;rw [gP h2,gP h2]
 by_cases h0:i=0
 ·rw [if_pos h0,if_pos h0]
 ·rw [if_neg h0,if_neg h0,fh]
  have:dh [0] i=0:=by unfold dh;rw [akH,aly,ei];rfl
  rw [this];omega
theorem xB (ls:List Nat) (n:Nat) (hn:n≤15) (hl:ls.length≤288): -10000000≤ky ls n∧ky ls n≤32768:=by
 unfold ky;have h1:fW ls n≤288*2 ^ 15:=by
  rw [tp];exact ajv (wD ls n) (amz hl (ajk (by decide) hn))
 have h2:2 ^ n≤2 ^ 15:=ajk (by decide) hn;generalize 2 ^ n=P at*;omega
theorem MF {H0:ag} {b:Nat} {t:TypeId} {lv wv sv:Value} (hz:okZ zs) (o:au H0 H [.box b (cn lv wv (cI []) sv) t,.sl lv 1 (aP zs)])
  (h: ∀H' r,au H0 H' [.box b (cn lv wv (cI (natL zs)) sv) t,.sl lv 1 (aP zs)]→(if ky (natL zs) 15<0 then r<0 else r=ky (natL zs) 15)→R (.int .i64 r) H'):ab 205 #[.pointer (some ⟨b,0,none⟩)] H R:=by
 have dg: (aP zs).length=zs.length*1:=by rw [aV];omega
 have JE:=hz.1;refine yB.vc _ _ _ ?_;rw [aD,ae];refine o.aw ?_;refine(o.cf (v:=lv)).df dg ?_;refine⟨fun i H' => ∃k:Nat,i= .int .i64 k∧k≤zs.length∧au H0 H' [.box b (cn lv wv (cI (natL (zs.take k))) sv) t,.sl lv 1 (aP zs)],fun i _=>match i with| .int _ x=> (1000 - x).toNat|_=>0,⟨0,rfl,by omega,o⟩,?_⟩;rintro _ _ H1 ⟨k,rfl,hk,o⟩;rw [aO];refine av (fun hc=>?_) (fun hc=>?_)
 ·have e_:k<zs.length:=by omega
  have ZF:=hz.2 _ (ai9 e_);have W9:=C9 e_;obtain⟨q,hq⟩: ∃q:Nat,zs[k]=q:= ⟨zs[k].toNat,by omega⟩;rw [hq,aiY] at W9;refine(o.cf (v:=lv)).gG dg fun p hp=>?_;refine hp.load (o.cf (v:=lv)) (w:= .int .i64 q) (by rw [aiY,ai5,cm e_,hq]) ?_;rw [bc];refine av (fun Jo=>?_) (fun Jo=>?_)
  ·have dM:=dI (natL (zs.take k))
   have rN:dh (natL (zs.take k)) q≤288:=by
    have:=akY (p:=fun j:Nat=>decide (j=q)) (l:=natL (zs.take k));rw [eY,ai2] at this;unfold dh;omega
   rw [aD,ae,ax,iq];refine⟨by omega,by omega,?_⟩;rw [ax,show 0+2+ (q:Int).toNat*1=2+q by omega];refine o.dc (by repeat(first|exact aiX|apply aiW)) (jy (by rw [dM];omega)) ?_;rw [gP (by omega),if_neg (by omega),ay,ff (n:= ((dh (natL (zs.take k)) q:Nat):Int)+1) (by omega) (by omega)];rw [aD,ae,ax,iq];refine⟨by omega,by omega,?_⟩;rw [ax,show 0+2+ (q:Int).toNat*1=2+q by omega];refine o.eV (cs:=cn lv wv (cI (natL (zs.take k))) sv) (by repeat(first|exact aiX|apply aiW)) (by simp [aV,dM];omega) rfl (by repeat(first|exact cx.here|apply cx.there)) fun H2 o _=>?_;rw [Cr (by rw [dM];omega),←EA (by omega) (by omega),←W9] at o;rw [ay,ff (n:= (k:Int)+1) (by omega) (by omega)];exact⟨⟨k+1,rfl,by omega,o⟩,by show (_:Int).toNat< (_:Int).toNat;omega⟩
  ·have W_:q=0:=by omega
   subst W_;rw [←EB,←W9] at o;rw [ay,ff (n:= (k:Int)+1) (by omega) (by omega)];exact⟨⟨k+1,rfl,by omega,o⟩,by show (_:Int).toNat< (_:Int).toNat;omega⟩
 have IL:k=zs.length:=by omega
 rw [IL,ajc] at o;have hlen: (natL zs).length≤288:=by rw [eY];omega
 generalize natL zs=ls at*;refine⟨fun l i H' => ∃n:Nat,i= .int .i64 (n+1:Nat)∧n≤15∧l= .int .i64 (ky ls n)∧0≤ky ls n∧H1=H',fun _ i _=>match i with| .int _ x=> (1000 - x).toNat|_=>0,⟨0,rfl,by omega,rfl,by show (0:Int)≤1;decide,rfl⟩,?_⟩;rintro _ _ _ _ ⟨n,rfl,hn,rfl,SV,rfl⟩;rw [gZ];refine av (fun hc=>?_) (fun hc=>?_)
 ·have PF:n+1≤15:=by omega
  have hr:=xB ls n (by omega) hlen;have yj:=xB ls (n+1) PF hlen;have hs:=Ar ls n;rw [gw,ff (n:=2*ky ls n) (by omega) (by omega)];rw [aD,ae,ax,iq];refine⟨by omega,by omega,?_⟩;rw [ax,show 0+2+ ((n+1:Nat):Int).toNat*1=2+ (n+1) by omega];refine o.dc (by repeat(first|exact aiX|apply aiW)) (jy (by rw [dI];omega)) ?_;rw [gP (by omega),if_neg (by omega),bq,←hs,ff (n:=ky ls (n+1)) (by omega) (by omega),aO];refine av (fun Jd=>?_) (fun Jd=>?_)
  ·exact h H1 _ o (by rw [if_pos (C7 ls Jd PF)];exact Jd)
  ·rw [ay,ff (n:= ((n+1:Nat):Int)+1) (by omega) (by omega)]
   exact⟨⟨n+1,rfl,by omega,rfl,by omega,rfl⟩,by show (_:Int).toNat< (_:Int).toNat;omega⟩
 ·have:n=15:=by omega
  subst this;exact h H1 _ o (by rw [if_neg (by omega)])
theorem PG {H0:ag} {L:List It} {b f n:Nat} {t:TypeId} {pre mid post:List Value} {K:Value→Prop} (o:au H0 H L) (fH:It.box b (pre++mid++post) t∈L) (hf:pre.length=f) (hn:mid.length=n) (hk:K (.agg mid.toArray)):aF H n (.pointer (some ⟨b,f,none⟩)) K:=by
 have hr:Reads H ⟨b,f,none⟩ mid:=fun i w hw=>by
  have vZ:= (ajD.1 hw).1;rw [ax,dP (o.lk fH),ajC,ai0,ajP (by omega),ajL (by omega),show f+i - pre.length=i by omega];exact hw
 exact hr.fZ hn hk
def ou (ls:List Nat):Nat→Nat
 |0=>0
 |n+1=>ou ls n+ (if n=0 then 0 else dh ls n)
theorem C_ (k:Nat) (ls:List Nat): ∀n,ou (k::ls) n=ou ls n+ (if 1≤k∧k<n then 1 else 0)
 |0=>by rw [if_neg (by omega)];rfl
 |n+1=>by
  rw [ou,ou,C_ k ls n,kI]
  by_cases h0:n=0
  ·subst h0;rw [if_pos rfl,if_pos rfl,if_neg (by omega),if_neg (by omega)]
  ·rw [if_neg h0,if_neg h0]
   by_cases hk:k=n
   ·subst hk;rw [if_pos rfl,if_neg (by omega),if_pos (by omega)];omega
   ·rw [if_neg hk]
    by_cases h1:1≤k∧k<n
    ·rw [if_pos h1,if_pos (by omega)];omega
    ·rw [if_neg h1,if_neg (by omega)];omega
theorem Lw: ∀ (ls:List Nat),(∀k∈ls,k≤15)→ou ls 16=qk ls
 | [],_=>rfl
 |k::ls,h=>by
  rw [C_,Lw ls fun x hx=>h x (by simp [hx])];have:=h k (by simp);unfold qk;rw [akH]
  by_cases hk:k=0
  ·subst hk;rfl
  ·rw [if_pos (by omega)];simp [hk]
theorem y8 {ls:List Nat} (hlen:ls.length≤288): ∀k,ou ls k≤k*288
 |0=>aiZ _
 |k+1=>by
  have ih:=y8 hlen k;have hc:dh ls k≤288:=ajv (akY) hlen;rw [ou,ak3]
  by_cases h0:k=0
  ·rw [if_pos h0];exact ajv ih (ali _ _)
  ·rw [if_neg h0];exact Nat.add_le_add ih hc
theorem JF {n:Nat} {l:List Value} {k:IntKind} {i:Int} {x:Value} {K:Value→Prop} (h0:0≤i) (h1:i< (n:Int)) (hx:l[i.toNat]? =some x) (hK:K x):pj n (.agg l.toArray) (.int k i) K:=by
 refine⟨h0,h1,?_⟩;show match l[i.toNat]? with|some v=>K v|none=>False
 rw [hx];exact hK
theorem JG {H0:ag} {b:Nat} {t:TypeId} {lv wv sv:Value} (hz:okZ zs) (o:au H0 H [.box b (cn lv wv (cI (natL zs)) sv) t,.sl lv 1 (aP zs)])
  (h:R (.bool (slackL (natL zs))) H):ab 206 #[.pointer (some ⟨b,0,none⟩)] H R:=by
 have JE:=hz.1;have hlen: (natL zs).length≤288:=by rw [eY];omega
 have hle: ∀k∈natL zs,k≤15:=fun k hk=>by
  obtain⟨z,vN,rfl⟩:=ajw.1 hk;have:=hz.2 z vN;omega
 generalize natL zs=ls at*;refine wC.vc _ _ _ ?_;rw [aD,ae,ax];refine PG (pre:= [lv,wv]) (mid:=aP (cI ls)) (post:= [sv]) o (aiX) rfl (by rw [aV,dI]) ?_;have wF:=y8 hlen;refine⟨fun a i H' => ∃k:Nat,i= .int .i64 k∧k≤16∧a= .int .i64 (ou ls k:Nat)∧H=H',fun _ i _=>match i with| .int _ x=> (1000 - x).toNat|_=>0,⟨0,rfl,by omega,rfl,rfl⟩,?_⟩;rintro _ _ _ _ ⟨k,rfl,hk,rfl,rfl⟩;have F7:=wF k;rw [aO];refine av (fun hc=>?_) (fun hc=>?_)
 ·have MG:k<16:=by omega
  have hc:dh ls k≤288:=ajv (akY) hlen;have sN: ∀ {K:Value→Prop},K (.int .i64 (if k=0 then 0 else ((dh ls k:Nat):Int)))→pj 16 (.agg (aP (cI ls)).toArray) (.int .i64 (k:Int)) K:=fun hK=>
   JF (amx k) (Int.ofNat_lt.2 MG) (by rw [aiY,cm (by rw [dI];exact MG),gP MG]) hK
  refine sN ?_;rw [ay,ay,ff (n:= (k:Int)+1) (by omega) (by omega)];refine⟨⟨k+1,rfl,by omega,?_,rfl⟩,by show (_:Int).toNat< (_:Int).toNat;omega⟩;rw [ou]
  split
  ·rw [aJ];simp
  ·rw [aJ];rfl
 ·have:k=16:=by omega
  subst this;rw [Lw ls hle,aZ,GF];refine gu (d:=decide (qk ls=1) && decide (dh ls 1=1)) (fun _=>?_) (fun _=>h);rw [aZ,y7];refine dC (d:=decide (dh ls 1=1)) (fun _=>?_) (fun _=> ⟨rfl,rfl⟩);rw [aD,ae,ax,iq];refine⟨by decide,by decide,?_⟩;rw [ax];refine o.dc (f:=2+1) (by repeat(first|exact aiX|apply aiW)) (jy (by rw [dI];decide)) ?_;rw [gP (by decide),if_neg (by decide),aZ,y7];exact⟨rfl,rfl⟩
end
section
set_option maxRecDepth 100000
variable {H:ag} {R:Value→ag→Prop} {v:Value} {zs:List Int}
def sO (ls:List Nat) (s:Nat):List Value:= [.int .u64 (eE (fj ls s) (ls.getD s 0):Nat),.int .i64 (ls.getD s 0:Nat)]
def mL (ls:List Nat):List Value:= ((List.range ls.length).map (sO ls)).flatten
theorem JH {ls:List Nat} {s:Nat} (h:ls.getD s 0=0):sO ls s= [.int .u64 0,.int .i64 0]:=by unfold sO;rw [h];rfl
def lq (ls:List Nat) (n x:Nat):List Nat:= (List.range x).filter fun s=>decide (ls.getD s 0=n)
def lr (ls:List Nat):Nat→List Nat
 |0=> []
 |n+1=>lr ls n++ (if n=0 then [] else lq ls n ls.length)
theorem rY {ls:List Nat} {n:Nat}: ∀x,x≤ls.length→(lq ls n x).length=dh (ls.take x) n
 |0,_=>rfl
 |x+1,h=>by
  have hx:x<ls.length:=by omega
  have hg:ls.getD x 0=ls[x]:=by rw [ai3,ai1 hx];rfl
  unfold lq;rw [akF,al8,aiV,oq hx,fh];have ih:=rY (ls:=ls) (n:=n) x (by omega);unfold lq at ih;rw [ih];unfold dh;rw [alG,amA,hg,akH,aly]
  by_cases he:ls[x]=n
  ·rw [decide_eq_true he];rfl
  ·rw [decide_eq_false he];rfl
theorem ox {ls:List Nat}: ∀n,(lr ls n).length=ou ls n
 |0=>rfl
 |n+1=>by
  rw [lr,ou,aiV,ox n]
  by_cases h0:n=0
  ·rw [if_pos h0,if_pos h0];rfl
  ·rw [if_neg h0,if_neg h0,rY _ (aiZ _),ajc]
theorem PH {n:Nat}: ∀ (L:List (List Value)) (i:Nat) (r:List Value),(∀r∈L,r.length=n)→r.length=n→i<L.length→lg L.flatten (i*n) r= (L.set i r).flatten:=fun L i r hl hr hi=>by
 have e:L=L.take i++L[i]::L.drop (i+1):=by rw [←ajJ hi,ajp]
 have hu:L[i].length=n:=hl _ (ai9 hi);have hp: (L.take i).flatten.length=i*n:=by
  rw [n_ (L.take i) (fun x hx=>hl x (aj6 hx)),ai2,ajF (by omega)]
 have e1:L.flatten= (L.take i).flatten++ (L[i]++ (L.drop (i+1)).flatten):=by
  conv=>lhs;rw [e]
  rw [alb,aj_]
 have e2: (L.set i r).flatten= (L.take i).flatten++ (r++ (L.drop (i+1)).flatten):=by
  rw [List.set_eq_take_append_cons_drop,if_pos hi,alb,aj_]
 rw [e1,e2,←hp,n9 r _ _ (by rw [aiV];omega),ai0,ajR (by omega),aky (by omega),aje]
def iO (ls:List Nat) (n x:Nat):List (List Value):= (List.range ls.length).map fun s=>if 1≤ls.getD s 0∧(ls.getD s 0<n∨(ls.getD s 0=n∧s<x)) then sO ls s else [.int .u64 0,.int .i64 0]
theorem me {ls:List Nat} {n x:Nat}: (iO ls n x).length=ls.length:=by simp [iO]
theorem Da {ls:List Nat} {n x:Nat}: ∀r∈iO ls n x,r.length=2:=by
 intro r hr;obtain⟨s,_,rfl⟩:=ajw.1 hr
 split<;>rfl
theorem xC {ls:List Nat} {n x m y:Nat} (h: ∀s,s<ls.length→(1≤ls.getD s 0∧(ls.getD s 0<n∨(ls.getD s 0=n∧s<x))↔1≤ls.getD s 0∧(ls.getD s 0<m∨(ls.getD s 0=m∧s<y)))):iO ls n x=iO ls m y:=by
 unfold iO;refine akm fun s hs=>?_;have:=h s (alv.1 hs)
 by_cases hc:1≤ls.getD s 0∧(ls.getD s 0<n∨(ls.getD s 0=n∧s<x))
 ·rw [if_pos hc,if_pos (this.1 hc)]
 ·rw [if_neg hc,if_neg (fun g=>hc (this.2 g))]
theorem JI {ls:List Nat} {n x:Nat} (h:ls.getD x 0≠n):iO ls n (x+1)=iO ls n x:=xC fun s hs=>by
 constructor
 ·rintro⟨h1,h2| ⟨h2,h3⟩⟩
  ·exact⟨h1,.inl h2⟩
  ·refine⟨h1,.inr ⟨h2,?_⟩⟩
   by_cases he:s=x
   ·subst he;exact absurd h2 h
   ·omega
 ·rintro⟨h1,h2| ⟨h2,h3⟩⟩
  ·exact⟨h1,.inl h2⟩
  ·exact⟨h1,.inr ⟨h2,by omega⟩⟩
theorem Ay {ls:List Nat} {n x i:Nat} (h:i<ls.length): (iO ls n x)[i]? =some (if 1≤ls.getD i 0∧(ls.getD i 0<n∨(ls.getD i 0=n∧i<x)) then sO ls i else [.int .u64 0,.int .i64 0]):=by
 unfold iO;rw [aji,aka h];rfl
theorem MH {ls:List Nat} {n x:Nat} (hx:x<ls.length) (h:ls.getD x 0=n) (hn:1≤n): (iO ls n x).set x (sO ls x)=iO ls n (x+1):=by
 apply aj4;intro i
 by_cases vZ:i<ls.length
 ·rw [Ay vZ]
  by_cases hi:x=i
  ·subst hi
   rw [akG (by rw [me];exact hx),if_pos ⟨by omega,.inr ⟨h,by omega⟩⟩]
  ·rw [als hi,Ay vZ]
   by_cases hc:1≤ls.getD i 0∧(ls.getD i 0<n∨(ls.getD i 0=n∧i<x))
   ·rw [if_pos hc,if_pos ⟨hc.1,hc.2.imp id fun g=> ⟨g.1,by omega⟩⟩]
   ·rw [if_neg hc,if_neg (fun g=>hc ⟨g.1,g.2.imp id fun g=> ⟨g.1,by omega⟩⟩)]
 ·rw [ajm (by rw [aj1,me];omega),ajm (by rw [me];omega)]
theorem JJ {ls:List Nat} {n:Nat}:iO ls n ls.length=iO ls (n+1) 0:=xC fun s hs=>by omega
theorem GG {ls:List Nat}: (iO ls 1 0).flatten=fS [.int .u64 0,.int .i64 0] ls.length:=by
 rw [Gm]
 congr 1
 apply aj4;intro i
 by_cases vZ:i<ls.length
 ·rw [Ay vZ,akU,if_pos vZ,if_neg (by omega)]
 ·rw [ajm (by rw [me];omega),ajm (by rw [ajB];omega)]
theorem MI {ls:List Nat} (h: ∀k∈ls,k≤15): (iO ls 16 0).flatten=mL ls:=by
 unfold iO mL
 congr 1
 refine akm fun s hs=>?_;have iJ:=alv.1 hs;have hg:ls.getD s 0=ls[s]:=by rw [ai3,ai1 iJ];rfl
 have OA:=h _ (ai9 iJ)
 by_cases h0:ls.getD s 0=0
 ·rw [if_neg (by omega),JH h0]
 ·rw [if_pos ⟨by omega,.inl (by omega)⟩]
def nt (l:List Nat):List Value:=l.map fun s=>Value.int .i64 (s:Nat)
theorem Db (l:List Nat): (nt l).length=l.length:=by simp [nt]
theorem wG {ls:List Nat} {n x:Nat} (h:ls.getD x 0=n):lq ls n (x+1)=lq ls n x++ [x]:=by
 unfold lq;rw [akF,al8,alG,amA,decide_eq_true h];rfl
theorem Az {ls:List Nat} {n x:Nat} (h:ls.getD x 0≠n):lq ls n (x+1)=lq ls n x:=by
 unfold lq;rw [akF,al8,alG,amA,decide_eq_false h];simp
theorem EC {ls:List Nat} (h:ls.length≤288) (n:Nat):fW ls n≤288*2 ^ n:=by
 rw [tp];exact ajv (wD ls n) (akl _ h)
theorem Dd {i:Nat} (h:i<zs.length): (natL zs).getD i 0=zs[i].toNat:=by
 rw [ai3,ai1 (by rw [eY];exact h)]
 simp [natL]
theorem GH {H0:ag} {b:Nat} {t:TypeId} {lv:Value} (hz:okZ zs) (o:au H0 H [.box b (cn lv (.slice none 0 0) (cI (natL zs)) (.slice none 0 0)) t,.sl lv 1 (aP zs)])
  (h: ∀H' wv sv,au H0 H' [.box b (cn lv wv (cI (natL zs)) sv) t,.sl lv 1 (aP zs),.sl wv 2 (mL (natL zs)),.sl sv 1 (nt (lr (natL zs) 16))]→R (.tuple #[]) H'):ab 207 #[.pointer (some ⟨b,0,none⟩)] H R:=by
 have dg: (aP zs).length=zs.length*1:=by rw [aV];omega
 have JE:=hz.1;have SX:= @Dd zs;have hlen: (natL zs).length=zs.length:=eY zs;have hle: ∀k∈natL zs,k≤15:=fun k hk=>by
  obtain⟨z,vN,rfl⟩:=ajw.1 hk;have:=hz.2 z vN;omega
 generalize natL zs=ls at*;have qH:=EC (ls:=ls) (by omega);refine uP.vc _ _ _ ?_;rw [aD,ae];refine o.aw ?_;refine(o.cf (v:=lv)).df dg ?_;refine o.make (by decide) (by omega) (by omega) (by omega) fun wv H1 o=>?_;rw [aiY,←hlen,←GG] at o;rw [aD,ae,ax];refine o.eV (f:=0+1) (cs:=cn lv (.slice none 0 0) (cI ls) (.slice none 0 0)) (by repeat(first|exact aiX|apply aiW)) (by simp) (o.cf (v:=wv)).one (by repeat(first|exact cx.here|apply cx.there)) fun H2 o _=>?_;have o:au H0 H2 [.box b (cn lv wv (cI ls) (.slice none 0 0)) t,.sl lv 1 (aP zs),.sl wv 2 (iO ls 1 0).flatten]:=o.h_;have o:=o.add (Ext.refl _) (i:= .sl (.slice none 0 0) 1 []) ⟨by decide,.inl ⟨rfl,rfl⟩⟩ (by intro k hk;exact absurd hk (by simp [It.dF,aY]));have o:au H0 H2 [.box b (cn lv wv (cI ls) (.slice none 0 0)) t,.sl lv 1 (aP zs),.sl wv 2 (iO ls 1 0).flatten,.sl (.slice none 0 0) 1 (nt (lr ls 1))]:=o.h_;refine⟨fun m i H' => ∃n:Nat,i= .int .i64 ((n+1:Nat):Int)∧n≤15∧m= .int .u64 ((fW ls n:Nat):Int)∧∃sv,au H0 H' [.box b (cn lv wv (cI ls) sv) t,.sl lv 1 (aP zs),.sl wv 2 (iO ls (n+1) 0).flatten,.sl sv 1 (nt (lr ls (n+1)))],fun _ i _=>match i with| .int _ x=> (1000 - x).toNat|_=>0,⟨0,rfl,by omega,rfl,_,o⟩,?_⟩;clear o;rintro _ _ _ H3 ⟨n,rfl,hn,rfl,sv,o⟩;rw [gZ];refine av (fun hc=>?_) (fun hc=>?_)
 ·have PF:n+1≤15:=by omega
  have he:=qH n;have um:2 ^ n≤2 ^ 15:=ajk (by decide) hn;generalize 2 ^ n=P at*;rw [fB];refine⟨by decide,?_⟩;rw [show min (1:Int).toNat IntKind.u64.bits=1 from rfl,show ((fW ls n:Nat):Int)*2 ^ 1= ((iw ls (n+1):Nat):Int) by unfold iw;rw [akZ];omega];have c_:iw ls (n+1)=2*fW ls n:=by unfold iw;rw [akZ]
  rw [cF (by omega) (by omega)];rw [aD,ae];refine o.aw ?_;refine(o.cf (v:=lv)).df dg ?_;refine⟨fun m i H' => ∃k:Nat,i= .int .i64 (k:Int)∧k≤zs.length∧m= .int .u64 ((iw ls (n+1)+dh (ls.take k) (n+1):Nat):Int)∧∃sv,au H0 H' [.box b (cn lv wv (cI ls) sv) t,.sl lv 1 (aP zs),.sl wv 2 (iO ls (n+1) k).flatten,.sl sv 1 (nt (lr ls (n+1)++lq ls (n+1) k))],fun _ i _=>match i with| .int _ x=> (1000 - x).toNat|_=>0,⟨0,rfl,by omega,rfl,sv,by rw [show lq ls (n+1) 0= [] from rfl,ajl];exact o⟩,?_⟩;clear o;rintro _ _ _ H4 ⟨k,rfl,hk,rfl,sv,o⟩;rw [aO];refine av (fun hc=>?_) (fun hc=>?_)
  ·have e_:k<zs.length:=by omega
   have dM:dh (ls.take k) (n+1)≤288:=ajv akY (by rw [ai2];omega);have ZF:=hz.2 _ (ai9 e_);refine(o.cf (v:=lv)).gG dg fun p hp=>?_;refine hp.load (o.cf (v:=lv)) (w:= .int .i64 zs[k]) (by rw [aiY,ai5,cm e_]) ?_;rw [aZ,ay,ff (n:= (k:Int)+1) (by omega) (by omega)];have R5:ls[k]? =some zs[k].toNat:=by
    have:=SX e_;rw [ai3,ai1 (by omega)] at this;rw [ai1 (by omega),←this];rfl
   have lR:dh (ls.take (k+1)) (n+1)=dh (ls.take k) (n+1)+ (if ls.getD k 0=n+1 then 1 else 0):=by
    rw [ajr,R5,SX e_,fh,Option.toList,kI]
    simp [dh]
   refine cN (fun hb=>?_) (fun hb=>?_)
   ·have Ye:zs[k]= ((n+1:Nat):Int):=by
     have:=hb
     simp at this
     rw [this];rfl
    have hg:ls.getD k 0=n+1:=by rw [SX e_,Ye];rfl
    rw [if_pos hg] at lR;rw [aD,ae,ax];refine o.aw (f:=0+1) ?_;refine Cq (by omega) (by omega) ?_;refine⟨o.aw (f:=0+1) rfl,?_⟩;refine dU rfl rfl ?_;have ED: (iO ls (n+1) k).flatten.length=zs.length*2:=by rw [n_ _ Da,me,hlen]
    refine(o.cf (v:=wv)).gG ED fun p hp=>?_;refine o.Vn (l:= (iO ls (n+1) k).flatten) hp (by repeat(first|exact aiX|apply aiW)) rfl (by omega) rfl (by repeat(first|exact cx.here|apply cx.there)) fun H5 o _=>?_;rw [aiY,PH _ _ _ Da rfl (by rw [me];omega)] at o;have hw: [Value.int .u64 (eE (iw ls (n+1)+dh (ls.take k) (n+1)) (n+1):Nat),.int .i64 ((n+1:Nat):Int)]=sO ls k:=by
     unfold sO fj sK;rw [hg]
    rw [hw,MH (by omega) hg (by omega)] at o;rw [aD,ae,ax];refine o.aw (f:=0+18) ?_;refine o.cy (sz:=1) (by decide) rfl rfl fun y H6 o=>?_;have qm: (nt (lr ls (n+1)++lq ls (n+1) k)).length≤5000:=by
     rw [Db,aiV,ox,rY _ (by omega)];have:=y8 (ls:=ls) (by omega) (n+1);have h2: (n+1)*288≤15*288:=akl _ PF;exact ajv (Nat.add_le_add (ajv this h2) dM) (by decide)
    refine o.app (by repeat(first|exact dD.here|apply dD.there)) (o.cf (v:=y)) rfl (by show 2* (_+1)*8≤_;omega) fun z H7 o=>?_;rw [aD,ae,ax];refine o.eV (f:=0+18) (cs:=cn lv wv (cI ls) sv) (by repeat(first|exact aiX|apply aiW)) (by simp [aV,dI]) (o.cf (v:=z)).one (by repeat(first|exact cx.here|apply cx.there)) fun H8 o _=>?_;rw [ay,cF (by omega) (by omega),ay,ff (n:= (k:Int)+1) (by omega) (by omega)];refine⟨⟨k+1,rfl,by omega,?_,z,?_⟩,by show (_:Int).toNat< (_:Int).toNat;omega⟩
    ·rw [lR];rfl
    ·rw [wG hg]
     have e:nt (lr ls (n+1)++lq ls (n+1) k)++ [Value.int .i64 (k:Int)]=nt (lr ls (n+1)++ (lq ls (n+1) k++ [k])):=by simp [nt]
     rw [←e];exact o.h_
   ·have Ye:zs[k]≠((n+1:Nat):Int):=by
     intro e;rw [e] at hb
     simp at hb
    have hg:ls.getD k 0≠n+1:=by rw [SX e_];omega
    rw [if_neg hg,ajq] at lR;refine⟨⟨k+1,rfl,by omega,by rw [lR];rfl,sv,?_⟩,by show (_:Int).toNat< (_:Int).toNat;omega⟩;rw [JI hg,Az hg];exact o
  ·have IL:k=zs.length:=by omega
   rw [IL,←hlen,JJ] at o;rw [IL,←hlen,ajc,←tk _ (by omega)];rw [ay,ff (n:= ((n+1:Nat):Int)+1) (by omega) (by omega)];refine⟨⟨n+1,rfl,by omega,rfl,sv,?_⟩,by show (_:Int).toNat< (_:Int).toNat;omega⟩;rw [lr,if_neg (by omega)];exact o
 ·have:n=15:=by omega
  subst this;rw [MI hle] at o;exact h _ _ _ o
end
section
set_option maxHeartbeats 4000000
set_option maxRecDepth 100000
variable [Go.Vc.Mode] (H0:ag) (R:Value→ag→Prop)
theorem q9.vc (a:Value) (h:
 bD H0 88 a fun a b=>aF b 12 a fun c=>ab 82 #[c] b fun b c=>d_ b fun b=>aq b (R (str []) c) (aa 7 a fun b=>ao c b fun b=>aa 8 a fun d=>ao c d fun d=>aa 10 a fun e=>ao c e fun e=> ∃f:Value→Value→Value→Value→ag→Prop,(∀ (_:Env) (g h i j:Value) (k:ag),f g h i j k→∃l:Value→Value→Value→ag→Prop,(∀ (_:Env) (m n o:Value) (p:ag),l m n o p→∃q:Value→ag→Prop,(∀ (_:Env) (r:Value) (s:ag),q r s→∃t:Nat→Value→ag→Prop,(∀ (u:Nat) (v:Value) (w x:ag),Ext w x→t u v w→t u v x)∧(∀ (_:Env) (u:ag),Ext s u→Ext u u∧t 0 m u)∧(∀ (_:Env) (u:Value) (v:ag),Ext s v→t 0 u v→ab 79 #[u] v fun u w=>Ext v w∧t 1 u w)∧(∀ (_:Env) (u:Value) (v:ag),Ext s v→t 1 u v→aB (str [80,75,1,2]) u fun u=>Ext v v∧t 2 u v)∧(∀ (_:Env) (u:ag),Ext s u→Ext u u∧t 3 m u)∧(∀ (_:Env) (m:Value) (u:ag),Ext s u→t 3 m u→ab 79 #[m] u fun m v=>Ext u v∧t 4 m v)∧(∀ (_:Env) (m u:Value) (v:ag),Ext s v→t 2 m v→t 4 u v→aB m u fun m=>Ext v v∧t 5 m v)∧(∀ (_:Env) (m:ag),Ext s m→aF m 12 a fun u=>Ext m m∧t 6 u m)∧(∀ (_:Env) (m:Value) (u:ag),Ext s u→t 6 m u→ab 84 #[m] u fun m v=>Ext u v∧t 7 m v)∧(∀ (_:Env) (m u:Value) (v:ag),Ext s v→t 5 m v→t 7 u v→aB m u fun m=>Ext v v∧t 8 m v)∧(∀ (_:Env) (m:ag),Ext s m→aa 9 a fun u=>Ext m m∧t 9 u m)∧(∀ (_:Env) (m:Value) (u:ag),Ext s u→t 9 m u→ao u m fun m=>Ext u u∧t 10 m u)∧(∀ (_:Env) (m:Value) (u:ag),Ext s u→t 10 m u→bf .u64 m fun m=>Ext u u∧t 11 m u)∧(∀ (_:Env) (m:Value) (u:ag),Ext s u→t 11 m u→ab 80 #[m] u fun m v=>Ext u v∧t 12 m v)∧(∀ (_:Env) (m u:Value) (v:ag),Ext s v→t 8 m v→t 12 u v→aB m u fun m=>Ext v v∧t 13 m v)∧(∀ (_:Env) (m:ag),Ext s m→Ext m m∧t 14 h m)∧(∀ (_:Env) (h:Value) (m:ag),Ext s m→t 14 h m→ab 80 #[h] m fun h u=>Ext m u∧t 15 h u)∧(∀ (_:Env) (h m:Value) (u:ag),Ext s u→t 13 h u→t 15 m u→aB h m fun h=>Ext u u∧t 16 h u)∧(∀ (_:Env) (h:ag),Ext s h→Ext h h∧t 17 i h)∧(∀ (_:Env) (h:Value) (i:ag),Ext s i→t 17 h i→ab 80 #[h] i fun h m=>Ext i m∧t 18 h m)∧(∀ (_:Env) (h i:Value) (m:ag),Ext s m→t 16 h m→t 18 i m→aB h i fun h=>Ext m m∧t 19 h m)∧(∀ (_:Env) (h:ag),Ext s h→aa 0 a fun i=>Ext h h∧t 20 i h)∧(∀ (_:Env) (h:Value) (i:ag),Ext s i→t 20 h i→ao i h fun h=>Ext i i∧t 21 h i)∧(∀ (_:Env) (h:Value) (i:ag),Ext s i→t 21 h i→aT h fun h=>Ext i i∧t 22 h i)∧(∀ (_:Env) (h:Value) (i:ag),Ext s i→t 22 h i→bf .u64 h fun h=>Ext i i∧t 23 h i)∧(∀ (_:Env) (h:Value) (i:ag),Ext s i→t 23 h i→ab 79 #[h] i fun h m=>Ext i m∧t 24 h m)∧(∀ (_:Env) (h i:Value) (m:ag),Ext s m→t 19 h m→t 24 i m→aB h i fun h=>Ext m m∧t 25 h m)∧(∀ (_:Env) (h:ag),Ext s h→Ext h h∧t 26 r h)∧(∀ (_:Env) (h:Value) (i:ag),Ext s i→t 26 h i→aT h fun h=>Ext i i∧t 27 h i)∧(∀ (_:Env) (h:Value) (i:ag),Ext s i→t 27 h i→bf .u64 h fun h=>Ext i i∧t 28 h i)∧(∀ (_:Env) (h:Value) (i:ag),Ext s i→t 28 h i→ab 79 #[h] i fun h m=>Ext i m∧t 29 h m)∧(∀ (_:Env) (h i:Value) (m:ag),Ext s m→t 25 h m→t 29 i m→aB h i fun h=>Ext m m∧t 30 h m)∧(∀ (_:Env) (h:ag),Ext s h→dB h 5 1 [(.int .u8 0)] (.int .i64 10) (.int .i64 10) fun i m=>Ext h m∧t 31 i m)∧(∀ (_:Env) (h:Value) (i:ag),Ext s i→t 31 h i→fR i h fun h=>Ext i i∧t 32 h i)∧(∀ (_:Env) (h i:Value) (m:ag),Ext s m→t 30 h m→t 32 i m→aB h i fun h=>Ext m m∧t 33 h m)∧(∀ (_:Env) (h:ag),Ext s h→Ext h h∧t 34 n h)∧(∀ (_:Env) (h:Value) (i:ag),Ext s i→t 34 h i→ab 80 #[h] i fun h m=>Ext i m∧t 35 h m)∧(∀ (_:Env) (h i:Value) (m:ag),Ext s m→t 33 h m→t 35 i m→aB h i fun h=>Ext m m∧t 36 h m)∧(∀ (_:Env) (h:ag),Ext s h→aa 0 a fun i=>Ext h h∧t 37 i h)∧(∀ (_:Env) (h:Value) (i:ag),Ext s i→t 37 h i→ao i h fun h=>Ext i i∧t 38 h i)∧(∀ (_:Env) (h i:Value) (m:ag),Ext s m→t 36 h m→t 38 i m→aB h i fun h=>Ext m m∧t 39 h m)∧(∀ (_:Env) (h:ag),Ext s h→Ext h h∧t 40 r h)∧(∀ (_:Env) (h i:Value) (m:ag),Ext s m→t 39 h m→t 40 i m→aB h i fun h=>Ext m m∧t 41 h m)∧(∀ (_:Env) (h:Value) (i:ag),Ext s i→t 41 h i→Ext i i∧t 42 h i)∧(∀ (_:Env) (h:Value) (i:ag),Ext s i→t 42 h i→R h i))∧eW 1 o (str []) fun h=>aq h (ab 79 #[(.int .u64 1)] p fun h i=>aT o fun m=>bf .u64 m fun m=>ab 79 #[m] i fun i m=>aB h i fun h=>aB h o fun h=>q h m) (q o p))∧aa 10 a fun h=>ao k h fun h=>ef h (.int .u64 4294967294) fun h=>aq h (aa 10 a fun h=>ao k h fun h=>ab 78 #[h,(.int .i64 8)] k fun h i=>aB j h fun h=>l (.int .u64 45) (.int .u64 4294967295) h i) (l g e j k))∧aF c 12 a fun e=>ab 83 #[e] c fun c e=>aq c (aa 8 a fun c=>ao e c fun c=>aa 7 a fun a=>ao e a fun g=>ab 78 #[c,(.int .i64 8)] e fun c h=> (ao h a fun a=>a=g)∧ab 78 #[g,(.int .i64 8)] h fun a g=>aB c a fun a=>f (.int .u64 45) (.int .u64 4294967295) (.int .u64 4294967295) a g) (f (.int .u64 20) b d (str []) e))):ab 81 #[a] H0 R:=bI 0x105a1591584f204e4c24d104b4924a10483e23f103d3923c13b13a10382b22f12e12d12c102a28229101f1d21e101c1821b11a11910752610422310110105b7fffffffffffff3fffffffffffff07ffffffffffff288888888888807fffffffffff28fdfdddfbbb07ffffffffff2888888888807fffffffff3dfdddfbbb1c8888888848888888801ffffffff7dddfbbb3c8888881c888888488888801ffffff5dfbbb01fffff5fbbb01ffff7bbb3888188803ff1bb03f1b03105b83019952a193a07207140692a53a72a12033120324003544121234204112101101823a52a18190123301232401b041239f518b501010101b23001a53a32a Tryz.func81 h
theorem uV.vc (a:Value) (h:
 bD H0 88 a fun a b=>aa 0 a fun c=>ao b c fun c=>ab 131 #[c] b fun b c=>bE b (fun b=>aa 1 a fun d=>aF c 6 d fun d=>ab 132 #[d] c fun d e=>b d e) c fun b c=> ∀_:Env,bE b (fun b=>aa 7 a fun d=>ao c d fun d=>b_ d (.int .u64 4611686018427387904) fun d=>b d c) c fun b c=> ∀_:Env,bE b (fun b=>aa 8 a fun d=>ao c d fun d=>b_ d (.int .u64 4611686018427387904) fun d=>b d c) c fun b c=> ∀_:Env,bE b (fun b=>aa 10 a fun d=>ao c d fun d=>b_ d (.int .u64 4611686018427387904) fun d=>b d c) c fun b c=> ∀_:Env,bE b (fun b=>aa 11 a fun d=>ao c d fun d=>d_ d fun d=>ej d (fun d=>aa 7 a fun e=>ao c e fun e=>aa 8 a fun a=>ao c a fun a=>aB e a fun a=>cd 0 a (.int .u64 0) fun a=>d a c) c fun a d=> ∀_:Env,b a d) c fun a b=> ∀_:Env,R a b):ab 82 #[a] H0 R:=bI 0x1004c54b04a063c43b243842f22f52e032b42a22a529031e41d21d51c031941821857034432404132a Tryz.func82 h
theorem wH.vc (a:Value) (h:
 bD H0 88 a fun a b=>aa 8 a fun c=>ao b c fun c=>ef c (.int .u64 4294705145) fun c=>ej c (fun c=>aa 7 a fun a=>ao b a fun a=>ef a (.int .u64 4294705145) fun a=>c a b) b fun a b=> ∀_:Env,R a b):ab 83 #[a] H0 R:=bI 0x1001857034432404132a Tryz.func83 h
theorem sA.vc (a:Value) (h:
 bD H0 88 a fun a b=> ∃c:Value→Value→ag→Prop,(∀ (_:Env) (d e:Value) (f:ag),c d e f→∃ (g:Value→Value→ag→Prop) (h:Value→Value→ag→Nat),g (.bool true) (.int .i64 0) f∧∀ (_:Env) (f i:Value) (j:ag),g f i j→aa 0 a fun k=>ao j k fun k=>aT k fun k=>b_ i k fun k=>aq k (bE f (fun k=>aa 0 a fun l=>ao j l fun l=>bN l i fun l=>b_ l (.int .u8 128) fun l=>k l j) j fun k l=> ∀_:Env,aB i (.int .i64 1) fun m=>g k m l∧h k m l<h f i j) (∃g:Value→ag→Prop,(∀ (_:Env) (h:Value) (i:ag),g h i→aa 1 a fun k=>aF i 6 k fun k=>bD i 49 (.agg #[(.int .i64 0),(.int .i64 0),(.int .i64 0),(.int .i64 0),(.int .i64 0),(.int .i64 0)]) fun i l=>aH l 6 i k fun _ k=>aa 5 i fun l=>ao k l fun m=>k_ m (.int .i64 2) fun n=>aa 4 i fun o=>ao k o fun p=>kB (.int .i64 32) p fun q=>aB n q fun n=>aa 3 i fun q=>ao k q fun r=>kB (.int .i64 2048) r fun s=>aB n s fun n=>bf .u64 n fun n=>aa 2 i fun s=>ao k s fun t=>aa 1 i fun u=>ao k u fun v=>kB (.int .i64 32) v fun w=>aB t w fun w=>aa 0 i fun i=>ao k i fun x=>bR x (.int .i64 1980) fun y=>kB (.int .i64 512) y fun y=>aB w y fun w=>bf .u64 w fun w=>ab 79 #[h] k fun h k=> (ao k l fun y=>y=m)∧(ao k o fun y=>y=p)∧(ao k q fun y=>y=r)∧(ao k s fun y=>y=t)∧(ao k u fun y=>y=v)∧(ao k i fun y=>y=x)∧ab 79 #[e] k fun e k=> (ao k l fun l=>l=m)∧(ao k o fun l=>l=p)∧(ao k q fun l=>l=r)∧(ao k s fun l=>l=t)∧(ao k u fun l=>l=v)∧(ao k i fun l=>l=x)∧aB h e fun e=>ab 79 #[n] k fun h k=> (ao k s fun l=>l=t)∧(ao k u fun l=>l=v)∧(ao k i fun i=>i=x)∧aB e h fun e=>ab 79 #[w] k fun h i=>aB e h fun e=>R e i)∧d_ f fun e=>aq e (aB d (.int .u64 2048) fun e=>g e j) (g d j)))∧aa 11 a fun a=>ao b a fun a=>aq a (c (.int .u64 0) (.int .u64 0) b) (c (.int .u64 8) (.int .u64 8) b)):ab 84 #[a] H0 R:=bI 0x10033f42a53a2e2c3291453a2e2c1d1966313a2e2c1d1966111c2b41c542505121fffeffffdf513ffe888888511107e88888851101023fffdf517ffc851103fc85110110120104a234a03952a32d032031439018570524122041630055a31e3152151761a31a02952a1313213142a2a Tryz.func84 h
theorem uW.vc (a b:Value) (h:
 bR (.int .u32 4294967295) a fun a=> ∃ (c:Value→Value→ag→Prop) (d:Value→Value→ag→Nat),c a (.int .i64 0) H0∧∀ (_:Env) (a e:Value) (f:ag),c a e f→aT b fun g=>b_ e g fun g=>aq g (bN b e fun b=>bf .u32 b fun b=>cK .xor a b fun b=>ab 86 #[b] f fun b g=>aB e (.int .i64 1) fun h=>c b h g∧d b h g<d a e f) (bR (.int .u32 4294967295) a fun a=>R a f)):ab 37 #[a,b] H0 R:=bI 0x103a39189630054a31c20400304002761a33a1a Tryz.func37 h
theorem uX.vc (a:Value) (h:
 ∃ (b:Value→Value→ag→Prop) (c:Value→Value→ag→Nat),b a (.int .i64 0) H0∧∀ (_:Env) (a d:Value) (e:ag),b a d e→b_ d (.int .i64 8) fun f=>aq f (∃f:Value→ag→Prop,(∀ (_:Env) (g:Value) (h:ag),f g h→aB d (.int .i64 1) fun i=>b g i h∧c g i h<c a d e)∧jU a (.int .u32 2) fun b=>cd 0 b (.int .u32 1) fun b=>k_ a (.int .u32 2) fun c=>aq b (cK .xor c (.int .u32 3988292384) fun b=>f b e) (f c e)) (R a e)):ab 86 #[a] H0 R:=bI 0x102a3903951a3a4a6740300300140052a31d200202002761a31a Tryz.func86 h
theorem tE.vc (a b:Value) (h:
 aT a fun c=>aT b fun d=>ef c d fun c=>bE c (fun c=>aT b fun d=>bd a none (some d) fun d=>cd 1 d b fun d=>c d H0) H0 fun c d=> ∀_:Env,bE c (fun c=>aT b fun b=>bN a b fun a=>cd 0 a (.int .u8 47) fun a=>c a d) d fun a b=> ∀_:Env,R a b):ab 38 #[a,b] H0 R:=bI 0x1002c52b051e41d21d51c066452604131a Tryz.func38 h
theorem tF.vc (a:Value) (h:
 aT a fun b=>b_ b (.int .i64 1) fun b=>ej b (fun b=>aT a fun c=>ef c (.int .i64 65535) fun c=>b c H0) H0 fun b c=> ∀_:Env,ej b (fun b=>ab 180 #[a] c fun d e=>d_ d fun d=>b d e) c fun b c=> ∀_:Env,aq b (R (.bool false) c) (∃ (b:Value→Value→ag→Prop) (d:Value→Value→ag→Nat),b (str []) (.int .i64 0) c∧∀ (_:Env) (c e:Value) (f:ag),b c e f→aT a fun g=>oZ e g fun g=>aq g (∃g:Value→ag→Prop,(∀ (_:Env) (h:Value) (i:ag),g h i→aB e (.int .i64 1) fun j=>b h j i∧d h j i<d c e f)∧aT a fun b=>b_ e b fun b=>bE b (fun b=>bN a e fun d=>eW 0 d (.int .u8 47) fun d=>b d f) f fun b d=> ∀_:Env,aq b (aB e (.int .i64 1) fun b=>bd a (some e) (some b) fun a=>aB c a fun a=>g a d) (cd 1 c (str []) fun a=>ej a (fun a=>cd 1 c (str [46]) fun b=>a b d) d fun a b=> ∀_:Env,ej a (fun a=>cd 1 c (str [46,46]) fun c=>a c b) b fun a b=> ∀_:Env,aq a (R (.bool false) b) (g (str []) b))) (R (.bool true) f))):ab 131 #[a] H0 R:=bI 0x101a3919001a50190274626550234223041330018a501904544250413363a2c12203140054a3481d222131761a31a001a501c0319418218570344324041331a Tryz.func131 h
theorem uY.vc (a:Value) (h:
 ∃ (b:Value→ag→Prop) (c:Value→ag→Nat),b (.int .i64 0) H0∧∀ (_:Env) (d:Value) (e:ag),b d e→aT a fun f=>b_ d f fun f=>aq f (bN a d fun f=>bf .i64 f fun f=> ∃g:Value→Value→Value→ag→Prop,(∀ (_:Env) (h i j:Value) (k:ag),g h i j k→aB d h fun l=>aT a fun m=>ef l m fun l=>aq l (R (.bool false) k) (∃ (l:Value→Value→ag→Prop) (m:Value→Value→ag→Nat),l i (.int .i64 1) k∧∀ (_:Env) (i k:Value) (n:ag),l i k n→b_ k h fun o=>aq o (aB d k fun o=>bN a o fun a=>bf .i64 a fun a=>b_ a (.int .i64 128) fun o=>ej o (fun o=>jz a (.int .i64 192) fun p=>o p n) n fun o p=> ∀_:Env,aq o (R (.bool false) p) (kB (.int .i64 64) i fun o=>aB o a fun a=>bR a (.int .i64 128) fun a=>aB k (.int .i64 1) fun o=>l a o p∧m a o p<m i k n)) (b_ i j fun a=>ej a (fun a=>ef i (.int .i64 1114111) fun j=>a j n) n fun a j=> ∀_:Env,ej a (fun a=>jz i (.int .i64 55296) fun k=>bE k (fun k=>oZ i (.int .i64 57343) fun l=>k l j) j fun k l=> ∀_:Env,a k l) j fun a j=> ∀_:Env,ej a (fun a=>b_ i (.int .i64 32) fun k=>a k j) j fun a j=> ∀_:Env,ej a (fun a=>cd 0 i (.int .i64 127) fun k=>a k j) j fun a j=> ∀_:Env,ej a (fun a=>cd 0 i (.int .i64 92) fun i=>a i j) j fun a i=> ∀_:Env,aq a (R (.bool false) i) (aB d h fun a=>b a i∧c a i<c d e))))∧b_ f (.int .i64 128) fun a=>aq a (g (.int .i64 1) f (.int .i64 0) e) (jz f (.int .i64 192) fun a=>bE a (fun a=>b_ f (.int .i64 224) fun b=>a b e) e fun a b=> ∀_:Env,aq a (bR f (.int .i64 192) fun a=>g (.int .i64 2) a (.int .i64 128) b) (jz f (.int .i64 224) fun a=>bE a (fun a=>b_ f (.int .i64 240) fun c=>a c b) b fun a b=> ∀_:Env,aq a (bR f (.int .i64 224) fun a=>g (.int .i64 3) a (.int .i64 2048) b) (jz f (.int .i64 240) fun a=>bE a (fun a=>b_ f (.int .i64 248) fun c=>a c b) b fun a b=> ∀_:Env,aq a (bR f (.int .i64 240) fun a=>g (.int .i64 4) a (.int .i64 65536) b) (R (.bool false) b))))) (R (.bool true) e)):ab 180 #[a] H0 R:=bI 0x101a49001a503a023842f22f52e022c42b22b52a022841f21f51e01d021b41a23184727560244324041333969001a5050234223041337a630053a32d59110302401062761a3001a56a301a5950502342230413595050234223041359505023422304134952a3a1a2202325143a5a60054a31cc21031761a31a Tryz.func180 h
theorem ix.vc (a b:Value) (h:
 bK a fun c=>bK b fun d=>eW 0 c d fun c=>aq c (R (.bool false) H0) (bK a fun c=> ∃ (d:Value→ag→Prop) (e:Value→ag→Nat),d (.int .i64 0) H0∧∀ (_:Env) (f:Value) (g:ag),d f g→b_ f c fun c=>aq c (aK 8 a f fun a=>aF g 8 a fun a=>aK 8 b f fun b=>aF g 8 b fun b=>FL [1,0,0,0,0,0,0,1] a b fun a=>aq a (R (.bool false) g) (aB f (.int .i64 1) fun a=>d a g∧e a g<e f g)) (R (.bool true) g))):ab 40 #[a,b] H0 R:=bI 0x101a29001a5019042168500120019232a6300531a1c714201d1763a3001a55a31a Tryz.func40 h
theorem iF.vc (a b:Value) (h:
 ab 201 #[a,b] H0 fun a b=>jz a (.int .i64 0) fun a=>R a b):ab 160 #[a,b] H0 R:=bI 0x105a1a Tryz.func160 h
theorem oy.vc (a:Value) (h:
 bK a fun b=> ∃ (c:Value→Value→ag→Prop) (d:Value→Value→ag→Nat),c (.int .i64 0) (.int .i64 0) H0∧∀ (_:Env) (e f:Value) (g:ag),c e f g→b_ f b fun b=>aq b (aK 1 a f fun b=>ao g b fun b=>bK b fun b=>aB e b fun b=>b_ b (.int .i64 0) fun h=>aq h (False) (aB f (.int .i64 1) fun h=>c b h g∧d b h g<d e f g)) (ab 219 #[(.slice none 0 0),e] g fun b c=>bK a fun d=> ∃ (e:Value→Value→ag→Prop) (f:Value→Value→ag→Nat),e b (.int .i64 0) c∧∀ (_:Env) (b c:Value) (g:ag),e b c g→b_ c d fun d=>aq d (aK 1 a c fun a=>ao g a fun a=>a7 g 3 1 8 [(.int .i64 0)] b a fun a d=>aB c (.int .i64 1) fun h=>e a h d∧f a h d<f b c g) (R b g))):ab 171 #[a] H0 R:=bI 0x102a29493a6300531a72a0106302c062763a33a2902952a5a3a6300531a1b50103307032763a31a1a Tryz.func171 h
theorem jf.vc (a b:Value) (h:
 bK a fun c=> ∃ (d:Value→ag→Prop) (e:Value→ag→Nat),d (.int .i64 0) H0∧∀ (_:Env) (f:Value) (g:ag),d f g→b_ f c fun c=>aq c (aK 3 a f fun a=>aF g 3 a fun a=>ng Tryz.prog Tryz.C b [a] g fun a b=>aq a (R f b) (aB f (.int .i64 1) fun a=>d a b∧e a b<e f g)) (R (.int .i64 (-1)) g)):ab 201 #[a,b] H0 R:=bI 0x101a29002a56a2a6300531a1a21420181763a31a Tryz.func201 h
theorem eK.vc (a b:Value) (h:
 ab 240 #[a,b] H0 fun a b=>jz a (.int .i64 0) fun a=>R a b):ab 203 #[a,b] H0 R:=bI 0x105a1a Tryz.func203 h
theorem pH.vc (a:Value) (h:
 cd 4 a (.slice none 0 0) fun b=>aq b (R (.slice none 0 0) H0) (aU H0 3 0 [] [] fun b c=>a7 c 3 1 8 [(.int .i64 0)] b a fun a b=>R a b)):ab 204 #[a] H0 R:=bI 0x104a001a52a31a Tryz.func204 h
theorem qt.vc (a b:Value) (h:
 ∃c:ag→Prop,(∀ (_:Env) (d:ag),c d→IV a fun e=>bK a fun f=>bR e f fun e=>bR b e fun e=>ef e (.int .i64 0) fun f=>aq f (IV a fun f=>gp 1 a none (some f) fun f=>qD d 3 8 [(.int .i64 0)] f e fun e f=>bK a fun g=>gp 1 e none (some g) fun e=>R e f) (R a d))∧b_ b (.int .i64 0) fun a=>aq a (False) (c H0)):ab 219 #[a,b] H0 R:=bI 0x102a01a952a18a302952a251041a Tryz.func219 h
theorem fo.vc (a b:Value) (h:
 bK a fun c=> ∃ (d:Value→ag→Prop) (e:Value→ag→Nat),d (.int .i64 0) H0∧∀ (_:Env) (f:Value) (g:ag),d f g→b_ f c fun c=>aq c (aK 1 a f fun a=>ao g a fun a=>ng Tryz.prog Tryz.C b [a] g fun a b=>aq a (R f b) (aB f (.int .i64 1) fun a=>d a b∧e a b<e f g)) (R (.int .i64 (-1)) g)):ab 240 #[a,b] H0 R:=bI 0x101a29002a56a2a6300531a1a21420181763a31a Tryz.func240 h
theorem mZ.vc (a b:Value) (h:
 bK a fun c=>bf .u64 c fun d=>ab 271 #[d] H0 fun d e=>ab 270 #[a,(.int .i64 0),c,d,b] e fun _ a=>R (.tuple #[]) a):ab 244 #[a,b] H0 R:=bI 0x1793a Tryz.func244 h
theorem iW.vc (a:Value) (h:
 bK a fun b=> ∃ (c:Value→Value→ag→Prop) (d:Value→Value→ag→Nat),c (.int .i64 0) (.int .i64 0) H0∧∀ (_:Env) (e f:Value) (g:ag),c e f g→b_ f b fun b=>aq b (aK 1 a f fun b=>ao g b fun b=>bK b fun b=>aB e b fun b=>b_ b (.int .i64 0) fun h=>aq h (False) (aB f (.int .i64 1) fun h=>c b h g∧d b h g<d e f g)) (ab 273 #[(.slice none 0 0),e] g fun b c=>bK a fun d=> ∃ (e:Value→Value→ag→Prop) (f:Value→Value→ag→Nat),e b (.int .i64 0) c∧∀ (_:Env) (b c:Value) (g:ag),e b c g→b_ c d fun d=>aq d (aK 1 a c fun a=>ao g a fun a=>a7 g 293 2 32 [(.int .i64 0),(.slice none 0 0)] b a fun a d=>aB c (.int .i64 1) fun h=>e a h d∧f a h d<f b c g) (R b g))):ab 248 #[a] H0 R:=bI 0x102a29493a6300531a72a0106302c062763a33a2902952a5a3a6300531a1b50103307032763a31a1a Tryz.func248 h
theorem nb.vc (a b c d e:Value) (h:
 ∃ (f:Value→Value→Value→Value→Value→ag→Prop) (g:Value→Value→Value→Value→Value→ag→Nat),f b c d (.bool true) (.bool true) H0∧∀ (_:Env) (b c d h i:Value) (j:ag),f b c d h i j→bR c b fun k=>oZ k (.int .i64 12) fun l=>aq l (ab 285 #[a,b,c,e] j fun _ l=>R (.tuple #[]) l) (cd 0 d (.int .i64 0) fun l=>aq l (ab 286 #[a,b,c,e] j fun _ l=>R (.tuple #[]) l) (∃l:Value→ag→Prop,(∀ (_:Env) (m:Value) (n:ag),l m n→ab 288 #[a,b,c,e] n fun n o=>ar 0 n fun p=>ar 1 n fun n=> ∃q:Value→Value→ag→Prop,(∀ (_:Env) (r s:Value) (t:ag),q r s t→∃u:ag→Prop,(∀ (_:Env) (v:ag),u v→ef b (.int .i64 0) fun w=>bE w (fun w=>bR b (.int .i64 1) fun x=>aK 1 a x fun x=>ao v x fun x=>aK 1 a r fun y=>ao v y fun y=>ng Tryz.prog Tryz.C e [x,y] v fun x y=>b_ x (.int .i64 0) fun x=>d_ x fun x=>w x y) v fun v w=> ∀_:Env,aq v (ab 291 #[a,b,c,r,e] w fun v x=>f v c m h i x∧g v c m h i x<g b c d h i j) (ab 292 #[a,b,c,r,e] w fun r v=>ar 0 r fun w=>ar 1 r fun r=>bR w b fun x=>bR c w fun y=>k_ k (.int .i64 8) fun k=>b_ x y fun z=>aq z (jz x k fun x=>ab 270 #[a,b,w,m,e] v fun _ z=>aB w (.int .i64 1) fun A=>f A c m x r z∧g A c m x r z<g b c d h i j) (jz y k fun k=>aB w (.int .i64 1) fun x=>ab 270 #[a,x,c,m,e] v fun _ v=>f b w m k r v∧g b w m k r v<g b c d h i j)))∧bE h (fun f=>f i t) t fun f g=> ∀_:Env,bE f (fun f=>cd 0 s (.int .i64 1) fun i=>f i g) g fun f g=> ∀_:Env,aq f (ab 290 #[a,b,c,e] g fun f i=>aq f (R (.tuple #[]) i) (u i)) (u g))∧cd 0 n (.int .i64 2) fun f=>aq f (ab 289 #[a,b,c,e] o fun _ f=>bR c (.int .i64 1) fun g=>bR p b fun i=>bR g i fun g=>q g (.int .i64 1) f) (q p n o))∧d_ h fun f=>aq f (ab 287 #[a,b,c,e] j fun _ a=>bR d (.int .i64 1) fun b=>l b a) (l d j)))):ab 270 #[a,b,c,d,e] H0 R:=bI 0x1297a4a396a4a53a3a18a2a1ba002a7a502801d342230411121388f537511ef513311102923300055a50702544245302512204131c18c1040197a5a52a1c5811d211d141aa0395a52a184a0320314005a52a3005a52a34a6299621216212761a1a Tryz.func270 h
theorem jm.vc (a b:Value) (h:
 ∃c:ag→Prop,(∀ (_:Env) (d:ag),c d→IV a fun e=>bK a fun f=>bR e f fun e=>bR b e fun e=>ef e (.int .i64 0) fun f=>aq f (IV a fun f=>gp 2 a none (some f) fun f=>qD d 293 32 [(.int .i64 0),(.slice none 0 0)] f e fun e f=>bK a fun g=>gp 2 e none (some g) fun e=>R e f) (R a d))∧b_ b (.int .i64 0) fun a=>aq a (False) (c H0)):ab 273 #[a,b] H0 R:=bI 0x102a01a952a18a302952a251041a Tryz.func273 h
theorem kq.vc (a b c d:Value) (h:
 aB b (.int .i64 1) fun e=> ∃ (f:Value→ag→Prop) (g:Value→ag→Nat),f e H0∧∀ (_:Env) (e:Value) (h:ag),f e h→b_ e c fun c=>aq c (∃ (c:Value→ag→Prop) (i:Value→ag→Nat),c e h∧∀ (_:Env) (j:Value) (k:ag),c j k→ef j b fun b=>bE b (fun b=>aK 1 a j fun l=>ao k l fun l=>bR j (.int .i64 1) fun m=>aK 1 a m fun m=>ao k m fun m=>ng Tryz.prog Tryz.C d [l,m] k fun d l=>b_ d (.int .i64 0) fun d=>b d l) k fun b d=> ∀_:Env,aq b (bR j (.int .i64 1) fun b=>bR j (.int .i64 1) fun l=>aK 1 a l fun l=>ao d l fun l=>aK 1 a j fun m=>ao d m fun m=>aK 1 a j fun n=>aI d n l fun _ l=>aK 1 a b fun a=>aI l a m fun _ a=>bR j (.int .i64 1) fun b=>c b a∧i b a<i j k) (aB e (.int .i64 1) fun a=>f a d∧g a d<g e h)) (R (.tuple #[]) h)):ab 285 #[a,b,c,d] H0 R:=bI 0x1393902a041213ffcb51688850013c85100100002a26300502801c44324041121789f5131f511df53311200292334a1801920191762a630053a358211820181763a Tryz.func285 h
theorem gF.vc (a b:Value) (h:
 ab 312 #[a,b] H0 fun a b=>jz a (.int .i64 0) fun a=>R a b):ab 297 #[a,b] H0 R:=bI 0x105a1a Tryz.func297 h
theorem iy.vc (a b:Value) (h:
 bK a fun c=> ∃ (d:Value→ag→Prop) (e:Value→ag→Nat),d (.int .i64 0) H0∧∀ (_:Env) (f:Value) (g:ag),d f g→b_ f c fun c=>aq c (aK 2 a f fun a=>aF g 2 a fun a=>ng Tryz.prog Tryz.C b [a] g fun a b=>aq a (R f b) (aB f (.int .i64 1) fun a=>d a b∧e a b<e f g)) (R (.int .i64 (-1)) g)):ab 312 #[a,b] H0 R:=bI 0x101a29002a56a2a6300531a1a21420181763a31a Tryz.func312 h
theorem PI.vc (h:
 bD H0 170 (.agg ((List.replicate 256 (.int .u32 0))).toArray) fun a b=> ∃ (c:Value→ag→Prop) (d:Value→ag→Nat),c (.int .i64 0) b∧∀ (_:Env) (b:Value) (e:ag),c b e→b_ b (.int .i64 256) fun f=>aq f (bf .u32 b fun f=> ∃ (g:Value→Value→ag→Prop) (h:Value→Value→ag→Nat),g f (.int .i64 0) e∧∀ (_:Env) (f i:Value) (j:ag),g f i j→b_ i (.int .i64 8) fun k=>aq k (cK .and f (.int .u32 1) fun k=>nU f (.int .u64 1) fun l=>cd 0 k (.int .u32 1) fun k=>aq k (cK .xor l (.int .u32 3988292384) fun k=>aB i (.int .i64 1) fun m=>g k m j∧h k m j<h f i j) (aB i (.int .i64 1) fun k=>g l k j∧h l k j<h f i j)) (eJ 256 1 a b fun g=>aI j g f fun _ f=>aB b (.int .i64 1) fun g=>c g f∧d g f<d b e)) (R a e)):ab 41 #[] H0 R:=bI 0x101a29492903952a3a3a6300531a1a513206032761a33a2a6300531a2e21051761a31a1a Tryz.func41 h
theorem Cs.vc (a b:Value) (h:
 ab 63 #[a,(.int .u32 0),b] H0 fun a b=>R a b):ab 57 #[a,b] H0 R:=bI 0x104a1a Tryz.func57 h
theorem AA.vc (a b c:Value) (h:
 cd 3 a (.pointer none) fun d=>aq d (R (.int .u32 0) H0) (OL b fun b=>aT c fun d=> ∃ (e:Value→Value→ag→Prop) (f:Value→Value→ag→Nat),e b (.int .i64 0) H0∧∀ (_:Env) (b g:Value) (h:ag),e b g h→b_ g d fun d=>aq d (bf .u8 b fun d=>bN c g fun c=>cK .xor d c fun c=>aG a fun a=>eJ 256 1 a c fun a=>ao h a fun a=>nU b (.int .u64 8) fun c=>cK .xor a c fun a=>aB g (.int .i64 1) fun c=>e a c h∧f a c h<f b g h) (OL b fun a=>R a h))):ab 63 #[a,b,c] H0 R:=bI 0x103a2901e04121012157e5385001001e22a6300531a2860501301c012763a33a001a52a31a Tryz.func63 h
theorem q_.vc (a b c d e:Value) (h:
 cd 3 a (.pointer none) fun f=>ej f (fun f=>ab 115 #[b,d,e] H0 fun g h=>d_ g fun g=>f g h) H0 fun f g=> ∀_:Env,aq f (R (.int .i64 1) g) (bf .u64 b fun f=>kC f (.int .u64 1) fun f=> ∃h:Value→ag→Prop,(∀ (_:Env) (i:Value) (j:ag),h i j→ab 116 #[a,i,(.int .i64 3)] j fun _ i=>cd 0 b (.int .i64 0) fun j=>aq j (ab 70 #[a] i fun _ j=>aT d fun k=>bf .u64 k fun k=>ab 118 #[k,(.int .i64 2)] j fun j k=>aT d fun l=>bR (.int .i64 65535) l fun l=>bf .u64 l fun l=>ab 118 #[l,(.int .i64 2)] k fun k l=>aB j k fun j=>aB j d fun d=>ab 117 #[a,d] l fun _ d=>R (.int .i64 0) d) (cd 0 b (.int .i64 1) fun b=>aq b (ab 119 #[] i fun b d=>ab 120 #[b,a,e] d fun _ b=>R (.int .i64 0) b) (ab 121 #[e] i fun b d=>ab 122 #[b,a] d fun _ d=>ab 120 #[b,a,e] d fun _ a=>R (.int .i64 0) a)))∧aq c (cK .or f (.int .u64 1) fun a=>h a g) (h f g))):ab 69 #[a,b,c,d,e] H0 R:=bI 0x101a493a3a4952a1e92a52a61a33a03951a21d01b201b144a001a50180534223041331a Tryz.func69 h
theorem MJ.vc (a b c:Value) (h:
 jz a (.int .i64 0) fun d=>bE d (fun d=>b_ a (.int .i64 3) fun a=>d a H0) H0 fun a d=> ∀_:Env,bE a (fun a=>aT b fun b=>oZ b (.int .i64 65535) fun b=>a b d) d fun a b=> ∀_:Env,bE a (fun a=>bK c fun d=>oZ d (.int .i64 65535) fun d=>a d b) b fun a b=> ∀_:Env,bE a (fun a=>ab 160 #[c,(.func (.func 158) #[] #[])] b fun c d=>d_ c fun c=>a c d) b fun a b=> ∀_:Env,R a b):ab 115 #[a,b,c] H0 R:=bI 0x1002e52d042942822851f031c41b21b51a037462655023422304131a1a Tryz.func115 h
end
section
set_option maxRecDepth 100000
variable {H:ag} {R:Value→ag→Prop} {v:Value} {zs:List Int}
theorem rZ {P:Program} {C:List Nat} {g:Nat} {first cap:Array Value} {args:List Value} {K:Value→ag→Prop} (hm:lV g C=true) (h:jb P g (first.toList++args++cap.toList).toArray H K):ng P C (.func (.func g) first cap) args H K:=by
 show (bif lV g C then jb P g (first.toList++args++cap.toList).toArray H K else False);rw [hm];exact h
def De (zs:List Int):Bool:=zs.all fun z=>decide (0≤z∧z≤15)
theorem wI:De zs=true↔∀z∈zs,0≤z∧z≤15:=by simp [De]
theorem PJ {z:Int} (h:R (.bool (!decide (0≤z∧z≤15))) H):ab 202 #[.int .i64 z] H R:=by
 refine Et.vc _ _ _ ?_;rw [aO];refine gu (d:=decide (15<z)) (fun _=>by rw [bc];exact⟨rfl,rfl⟩) ?_;intro _;have e: (decide (z<0) ||decide (15<z))= !decide (0≤z∧z≤15):=by
  rw [ajV,akf,decide_eq_true_eq,decide_eq_true_eq,akC,decide_eq_false_iff_not];omega
 rw [e];exact h
theorem GI (hs:Sl H v 1 (aP zs)) (hlen:zs.length≤maxLen) (h:R (.bool (!De zs)) H):ab 203 #[v,.func (.func 202) #[] #[]] H R:=by
 have JD:maxLen=9223372036854775807:=rfl;have dg: (aP zs).length=zs.length*1:=by rw [aV];omega
 refine eK.vc _ _ _ _ ?_;refine fo.vc _ _ _ _ ?_;refine hs.df dg ?_;refine⟨fun i H' => ∃k:Nat,i= .int .i64 k∧k≤zs.length∧(∀z∈zs.take k,0≤z∧z≤15)∧H=H',fun i _=>match i with| .int _ x=> (9223372036854775807 - x).toNat|_=>0,⟨0,rfl,by omega,by simp,rfl⟩,?_⟩;rintro _ _ _ ⟨k,rfl,hk,kp,rfl⟩;rw [aO];refine av (fun hc=>?_) (fun hc=>?_)
 ·have e_:k<zs.length:=by omega
  refine hs.gG dg fun p hp=>?_;refine hp.load hs (w:= .int .i64 zs[k]) (by rw [aiY,ai5,cm e_]) ?_;refine rZ (by kernel_rfl) ?_;refine PJ ?_;refine cN (fun hb=>?_) (fun hb=>?_)
  ·have: ¬ (0≤zs[k]∧zs[k]≤15):=by rw [akC,decide_eq_false_iff_not] at hb;exact hb
   show jz _ _ _;rw [dH,nR];have e:De zs=false:=by
    rw [←Bool.not_eq_true,wI];exact fun g=>this (g _ (ai9 e_))
   rw [e] at h;exact h
  ·have hz:0≤zs[k]∧zs[k]≤15:=by simpa using hb
   rw [ay,ff (n:= (k:Int)+1) (by omega) (by omega)];refine⟨⟨k+1,rfl,by omega,fun z vN =>?_,rfl⟩,by show (_:Int).toNat< (_:Int).toNat;omega⟩;rw [oq e_] at vN;rcases ajo.1 vN with g|g
   ·exact kp z g
   ·rw [ajE.1 g];exact hz
 ·have:k=zs.length:=by omega
  rw [this,ajc] at kp;rw [wI.2 kp] at h;show jz _ _ _;rw [dH,qO];exact h
theorem AB (hs:Sl H v 1 (aP zs)) (hlen:zs.length≤1000) (h: ∀y H',au H H' [.sl y 1 (aP zs)]→R y H'):ab 204 #[v] H R:=by
 refine pH.vc _ _ _ ?_;have xD: (∃n c,v= .slice none n c∧zs= [])∨∃a n c,v= .slice (some a) n c:=by
  rcases hs with ⟨rfl,h0⟩ | ⟨a,m,cap,rfl,_⟩
  ·exact .inl ⟨_,_,rfl,by have:=congrArg List.length h0;rw [aV] at this;exact alz.1 this⟩
  ·exact .inr ⟨a,m,cap,rfl⟩
 have sN:aU H 3 0 [] [] fun x5 H_1=>a7 H_1 3 1 8 [(.int .i64 0)] x5 v fun x7 H_2=>R x7 H_2:=by
  refine(au.start (H:=H)).Vm 1 (by decide) fun y H1 o=>?_;refine o.app (by repeat(first|exact dD.here|apply dD.there)) (hs.ext o.ext) MB (by rw [aV];show 2* (0+_)*8≤_;omega) fun z H2 o=>?_;exact h z H2 o
 rcases xD with ⟨n,c,rfl,rfl⟩ | ⟨a,n,c,rfl⟩
 ·rw [U8,aL]
  refine h _ _ ?_;exact au.start.add (Ext.refl _) ⟨by decide,.inl ⟨rfl,rfl⟩⟩ (by intro k hk;exact absurd hk (by simp [It.dF,aY]))
 ·rw [U9,ak]
  exact sN
abbrev pI (zs:List Int) (b:Nat) (lv wv sv:Value):List It:=
 [.box b (cn lv wv (cI (natL zs)) sv) 285,.sl lv 1 (aP zs),.sl wv 2 (mL (natL zs)),.sl sv 1 (nt (lr (natL zs) 16))]
theorem xE (ls:List Nat):ky ls 15=32768 - (shareL ls 15:Nat):=by unfold ky;rw [tp];rfl
theorem MK {loose:Bool} (hs:Sl H v 1 (aP zs)) (hlen:zs.length≤maxLen)
  (sj: ∀H',Ext H H' →ia zs loose≠0→R (.tuple #[.pointer none,.int .i64 (ia zs loose)]) H')
  (Vr: ∀H' b lv wv sv,au H H' (pI zs b lv wv sv)→okZ zs→ia zs loose=0→R (.tuple #[.pointer (some ⟨b,0,none⟩),.int .i64 0]) H'):ab 162 #[v,.bool loose] H R:=by
 have JD:maxLen=9223372036854775807:=rfl;have dg: (aP zs).length=zs.length*1:=by rw [aV];omega
 refine ME.vc _ _ _ _ ?_;refine hs.df dg ?_;rw [bc];refine gu (d:= !De zs) (fun _=>GI hs hlen ⟨rfl,rfl⟩) ?_;intro _;have SY: (decide (288< (zs.length:Int)) || !De zs)=true↔¬okZ zs:=by
  rw [akf,decide_eq_true_eq,akC,←Bool.not_eq_true,wI];unfold okZ
  constructor
  ·rintro(g|g) h
   ·omega
   ·exact g h.2
  ·intro g
   by_cases g1:288< (zs.length:Int)
   ·exact .inl g1
   ·exact .inr fun g2=>g ⟨by omega,g2⟩
 refine cN (fun hb=>?_) (fun hb=>?_)
 ·have h1:=Ez (loose:=loose) (SY.1 hb)
  have:=sj H (Ext.refl H);rw [h1] at this;exact this (by decide)
 have kp:okZ zs:=by
  by_cases g:okZ zs
  ·exact g
  ·rw [SY.2 g] at hb;cases hb
 have GJ:=tC (loose:=loose) kp;have ae0:=kp.1;refine AB hs (by omega) fun lv H1 o=>?_;refine aR (o.cf (v:=lv)).one (by decide) ?_;rw [br];refine o.box fun b H2 o _=>?_
 change au H H2 [.box b (cn lv (.slice none 0 0) (cI []) (.slice none 0 0)) _,_] at o
 refine MF kp o fun H3 r o hr=>?_;rw [xE] at hr;rw [aO];refine av (fun hc=>?_) (fun hc=>?_)
 ·have PK:32768<shareL (natL zs) 15:=by
   split at hr<;>omega
  rw [if_pos PK] at GJ;have:=sj H3 o.ext;rw [GJ] at this;exact this (by decide)
 rw [bc];rw [if_neg (by intro g;rw [if_pos g] at hr;omega)] at hr;refine dC (d:= !(loose && slackL (natL zs))) (fun Jo=>?_) ?_
 ·refine dC (d:=slackL (natL zs)) (fun _=>JG kp o ⟨rfl,rfl⟩) ?_
  intro _;rw [dq];exact⟨rfl,rfl⟩
 intro _;rw [if_neg (show ¬32768<shareL (natL zs) 15 by omega)] at GJ;refine cN (fun hb=>?_) (fun hb=>?_)
 ·rw [aja,decide_eq_true_eq,akC] at hb
  rw [if_pos ⟨by omega,hb.2⟩] at GJ;have:=sj H3 o.ext;rw [GJ] at this;exact this (by decide)
 ·have h0:ia zs loose=0:=by
   rw [GJ,if_neg];rintro⟨g1,g2⟩;rw [g2,nR] at hb
   cases hb
  refine GH kp o fun H4 wv sv o=>?_;exact Vr H4 b lv wv sv o kp h0
end
section
set_option maxRecDepth 100000
variable {H:ag} {R:Value→ag→Prop} {v:Value} {zs:List Int}
def GK (ls:List Nat) (i:Int):Nat × Nat:=if 0≤i∧i<ls.length then (eE (fj ls i.toNat) (ls.getD i.toNat 0),ls.getD i.toNat 0) else (0,0)
theorem AD (ls:List Nat): (mL ls).length=ls.length*2:=by
 unfold mL;rw [n_ (n:=2) _ (by intro r hr;obtain⟨s,_,rfl⟩:=ajw.1 hr;rfl),ajh,amB]
theorem ML {n:Nat} {L:List (List Value)} {i j:Nat} {r:List Value} (hl: ∀r∈L,r.length=n) (hi:L[i]? =some r) (hj:j<n):L.flatten[i*n+j]? =r[j]? :=by
 have vZ:= (ajD.1 hi).1;have hir:= (ajD.1 hi).2;have e:L=L.take i++r::L.drop (i+1):=by rw [←hir,←ajJ vZ,ajp]
 have hp: (L.take i).flatten.length=i*n:=by
  rw [n_ (L.take i) (fun x hx=>hl x (aj6 hx)),ai2,ajF (by omega)]
 have hr:r.length=n:=by rw [←hir];exact hl _ (ai9 vZ)
 rw [e,alb,aj_,ajP (by omega),ajL (by omega)]
 congr 1
 omega
theorem r7 {ls:List Nat} {s j:Nat} (h:s<ls.length) (hj:j<2): (mL ls)[s*2+j]? = (sO ls s)[j]? :=
 ML (by intro r hr;obtain⟨s,_,rfl⟩:=ajw.1 hr;rfl) (by rw [aji,aka h];rfl) hj
theorem MM {H0:ag} {L:List It} {b:Nat} {lv wv sv:Value} {i:Int} (o:au H0 H L) (h1:It.box b (cn lv wv (cI (natL zs)) sv) 285∈L) (h2:It.sl wv 2 (mL (natL zs))∈L) (hlen:zs.length≤288)
  (h:R (.tuple #[.int .u64 (GK (natL zs) i).1,.int .i64 (GK (natL zs) i).2]) H):ab 208 #[.pointer (some ⟨b,0,none⟩),.int .i64 i] H R:=by
 have hl: (natL zs).length≤288:=by rw [eY];exact hlen
 generalize natL zs=ls at*;have EE:=AD ls;refine yC.vc _ _ _ _ ?_;rw [fC];refine aM ?_;rw [aO];intro _;refine gu (d:=decide ((ls.length:Int)≤i)) (fun _=>?_) ?_
 ·rw [aD,ae,ax]
  refine o.dc (f:=0+1) h1 rfl ?_;refine(o.sl h2).df EE ?_;rw [dH];exact⟨rfl,rfl⟩
 intro _;refine cN (fun hb=>?_) (fun hb=>?_)
 ·rw [akf,decide_eq_true_eq,decide_eq_true_eq] at hb
  have e:GK ls i= (0,0):=if_neg (by omega);rw [e] at h;exact h
 ·rw [aks,decide_eq_false_iff_not,decide_eq_false_iff_not] at hb
  have e:GK ls i= (eE (fj ls i.toNat) (ls.getD i.toNat 0),ls.getD i.toNat 0):=if_pos (by omega);rw [e] at h;have hi:i.toNat<ls.length:=by omega
  rw [aD,ae,ax];refine o.dc (f:=0+1) h1 rfl ?_;refine(o.sl h2).gG EE fun p hp=>?_;refine hp.field (f:=0) fun q hq=>?_;refine hq.load (o.sl h2) (by rw [r7 hi (by decide)];rfl) ?_;rw [aD,ae,ax];refine o.dc (f:=0+1) h1 rfl ?_;refine(o.sl h2).gG EE fun p hp=>?_;refine hp.field (f:=1) fun q hq=>?_;refine hq.load (o.sl h2) (by rw [r7 hi (by decide)];rfl) ?_;exact h
theorem MN {H0:ag} {L:List It} {b:Nat} {lv wv sv:Value} (o:au H0 H L) (h1:It.box b (cn lv wv (cI (natL zs)) sv) 285∈L) (h2:It.sl lv 1 (aP zs)∈L) (hlen:zs.length≤288)
  (h: ∀y H',au H H' [.sl y 1 (aP zs)]→R y H'):ab 172 #[.pointer (some ⟨b,0,none⟩)] H R:=by
 refine tt.vc _ _ _ ?_;rw [fC,ak,aD,ae];refine o.dc h1 rfl ?_;exact AB (o.sl h2) (by omega) h
theorem GL (v k:Nat): ∀n,eE v (k+n) %2 ^ n=eE (v/2 ^ k) n
 |0=>by rw [ala,alN];rfl
 |n+1=>by
  have ih:=GL v k n;rw [←akO,eE,eE,←ih,alx,←alc,ajI];have h2:v/2 ^ (k+n) %2<2:=akn _ (by decide);generalize v/2 ^ (k+n) %2=c at*;generalize eE v (k+n)=x at*;generalize 2 ^ n=P at*;have e: (2*x+c) % (2*P)=c+2* (x%P):=by rw [Nat.mod_mul,show (2*x+c) %2=c by omega,show (2*x+c) /2=x by omega]
  rw [ajQ P 2,e];omega
theorem GM {a b:Nat}: ∀ {n:Nat},eE a n=eE b n→a%2 ^ n=b%2 ^ n
 |0,_=>by rw [ala,alN,alN]
 |n+1,h=>by
  rw [eE,eE] at h;have h1:a/2 ^ n%2<2:=akn _ (by decide);have h2:b/2 ^ n%2<2:=akn _ (by decide);have ih:=GM (a:=a) (b:=b) (n:=n) (by omega);rw [Nat.mod_pow_succ,Nat.mod_pow_succ,ih]
  congr 2
  omega
theorem PL {ls:List Nat} (h:shareL ls 15≤32768) {n:Nat} (hn:n≤15):fW ls n≤2 ^ n:=by
 have OA:=xE ls;rcases Int.lt_or_le (ky ls n) 0 with g|g
 ·have:=C7 ls g hn
  omega
 ·unfold ky at g
  omega
theorem uZ {ls:List Nat} (h:shareL ls 15≤32768) (hle: ∀k∈ls,k≤15) {s:Nat} (hs:s<ls.length) (h1:1≤ls.getD s 0):fj ls s<2 ^ ls.getD s 0:=by
 have hg:ls.getD s 0=ls[s]:=by rw [ai3,ai1 hs];rfl
 exact ajN (Eo hs h1) (PL h (by rw [hg];exact hle _ (ai9 hs)))
theorem JK {ls:List Nat} (h:shareL ls 15≤32768) (hle: ∀k∈ls,k≤15) {s t:Nat} (hs:s<ls.length) (ht:t<ls.length) (cQ:s≠t) (h1:1≤ls.getD s 0) (h2:ls.getD s 0≤ls.getD t 0):
  eE (fj ls s) (ls.getD s 0)≠eE (fj ls t) (ls.getD t 0) %2 ^ ls.getD s 0:=by
 intro he;have hc:=uZ h hle hs h1;have hd:=uZ h hle ht (by omega);have e:ls.getD t 0= (ls.getD t 0 - ls.getD s 0)+ls.getD s 0:=by omega
 rw [e,GL] at he;have he:=GM he;rw [ajg hc] at he;have hq:fj ls t/2 ^ (ls.getD t 0 - ls.getD s 0)<2 ^ ls.getD s 0:=by
  rw [Nat.div_lt_iff_lt_mul (ak8 _),←alc,akN,←e];exact hd
 rw [ajg hq] at he;rcases Nat.lt_or_eq_of_le h2 with g|g
 ·exact Er hs ht h1 g he.symm
 ·rw [g,akp,ala,al7] at he
  exact PA hs ht cQ g he
theorem xF (hz:okZ zs): ∀k∈natL zs,k≤15:=fun k hk=>by
 obtain⟨z,vN,rfl⟩:=ajw.1 hk;have:=hz.2 z vN;omega
theorem MO {loose:Bool} (hz:okZ zs) (h:ia zs loose=0):shareL (natL zs) 15≤32768:=by
 rw [tC hz] at h
 split at h
 ·cases h
 ·omega
theorem PM {ls:List Nat} {k:Nat} (h:k<ls.length):GK ls (k:Int)= (eE (fj ls k) (ls.getD k 0),ls.getD k 0):=if_pos (by omega)
theorem l4 {ls:List Nat} (hle: ∀k∈ls,k≤15) (k:Nat):ls.getD k 0≤15:=by
 rcases ajM k ls.length with h|h
 ·have hg:ls.getD k 0=ls[k]:=by rw [ai3,ai1 h];rfl
  rw [hg];exact hle _ (ai9 h)
 ·rw [ai3,ajm h];exact ajj _
end
section
set_option maxRecDepth 100000
variable {H:ag} {R:Value→ag→Prop} {v:Value} {zs:List Int}
def Xa (b:Bool):UInt8:=if b then 49 else 48
def f_ (l:List Bool):List UInt8:=l.map Xa
theorem eP (l:List Bool): (f_ l).length=l.length:=by simp [f_]
theorem SZ (m k:Nat):Value.int .u8 (IntKind.u8.wrap (IntKind.i64.wrap (48+ ((m/2 ^ k%2:Nat):Int))))=bu (Xa (m.testBit k)):=by
 have h2:m/2 ^ k%2<2:=akn _ (by decide);rw [amR];generalize m/2 ^ k%2=x at*
 match x,h2 with
 |0,_=>rfl
 |1,_=>rfl
theorem AE (v n:Nat):a_ v (n+1)=a_ v n++ [v.testBit n]:=by unfold a_;rw [akF,ajy];rfl
theorem mf (c:Nat): ∀n,a_ (eE c n) n= (a_ c n).reverse
 |0=>rfl
 |n+1=>by
  have h2:c/2 ^ n%2<2:=akn _ (by decide);rw [AE c,List.reverse_append,s9,←mf c n,eE];have e1: (2*eE c n+c/2 ^ n%2) /2=eE c n:=by omega
  have e2: (2*eE c n+c/2 ^ n%2).testBit 0=c.testBit n:=by
   rw [ak9,amR]
   congr 1
   have: (2*eE c n+c/2 ^ n%2) %2=c/2 ^ n%2:=by omega
   rw [this]
  rw [e1,e2]
  rfl
def cT (ls:List Nat) (s:Nat):List Bool:=a_ (eE (fj ls s) (ls.getD s 0)) (ls.getD s 0)
theorem MP {H0:ag} {L:List It} {e:TypeId} {x:Value} {u:UInt8} {K:Value→ag→Prop} (o:au H0 H L) (hx:x=bu u) (hk: ∀H',au H0 H' L→K (str [u]) H'):aU H e 1 [.int .u8 0] [(0,1,x)] fun y H' =>fR H' y fun z=>K z H' :=by
 subst hx;refine o.cy (sz:=1) (by decide) rfl rfl fun y H1 o=>?_;exact(o.cf (v:=y)).str (l:= [u]) (hk H1 (o.pick (aki _ _)))
section
variable {α:Type} {f:Nat→α} {z:α} {ls:List Nat} {n x:Nat}
def oD (f:Nat→α) (z:α) (ls:List Nat) (n x:Nat):List α:= (List.range ls.length).map fun s=>if 1≤ls.getD s 0∧(ls.getD s 0<n∨(ls.getD s 0=n∧s<x)) then f s else z
theorem oG: (oD f z ls n x).length=ls.length:=by simp [oD]
theorem AF {m y:Nat} (h: ∀s,s<ls.length→(1≤ls.getD s 0∧(ls.getD s 0<n∨(ls.getD s 0=n∧s<x))↔1≤ls.getD s 0∧(ls.getD s 0<m∨(ls.getD s 0=m∧s<y)))):oD f z ls n x=oD f z ls m y:=by
 unfold oD;refine akm fun s hs=>?_;have:=h s (alv.1 hs)
 by_cases hc:1≤ls.getD s 0∧(ls.getD s 0<n∨(ls.getD s 0=n∧s<x))
 ·rw [if_pos hc,if_pos (this.1 hc)]
 ·rw [if_neg hc,if_neg (fun g=>hc (this.2 g))]
theorem MQ (h:ls.getD x 0≠n):oD f z ls n (x+1)=oD f z ls n x:=AF fun s hs=>by
 constructor
 ·rintro⟨h1,h2| ⟨h2,h3⟩⟩
  ·exact⟨h1,.inl h2⟩
  ·refine⟨h1,.inr ⟨h2,?_⟩⟩
   by_cases he:s=x
   ·subst he;exact absurd h2 h
   ·omega
 ·rintro⟨h1,h2| ⟨h2,h3⟩⟩
  ·exact⟨h1,.inl h2⟩
  ·exact⟨h1,.inr ⟨h2,by omega⟩⟩
theorem EF {i:Nat} (h:i<ls.length): (oD f z ls n x)[i]? =some (if 1≤ls.getD i 0∧(ls.getD i 0<n∨(ls.getD i 0=n∧i<x)) then f i else z):=by
 unfold oD;rw [aji,aka h];rfl
theorem PN (hx:x<ls.length) (h:ls.getD x 0=n) (hn:1≤n): (oD f z ls n x).set x (f x)=oD f z ls n (x+1):=by
 apply aj4;intro i
 by_cases vZ:i<ls.length
 ·rw [EF vZ]
  by_cases hi:x=i
  ·subst hi
   rw [akG (by rw [oG];exact hx),if_pos ⟨by omega,.inr ⟨h,by omega⟩⟩]
  ·rw [als hi,EF vZ]
   by_cases hc:1≤ls.getD i 0∧(ls.getD i 0<n∨(ls.getD i 0=n∧i<x))
   ·rw [if_pos hc,if_pos ⟨hc.1,hc.2.imp id fun g=> ⟨g.1,by omega⟩⟩]
   ·rw [if_neg hc,if_neg (fun g=>hc ⟨g.1,g.2.imp id fun g=> ⟨g.1,by omega⟩⟩)]
 ·rw [ajm (by rw [aj1,oG];omega),ajm (by rw [oG];omega)]
theorem MR:oD f z ls n ls.length=oD f z ls (n+1) 0:=AF fun s hs=>by omega
theorem JL:oD f z ls 1 0=List.replicate ls.length z:=by
 apply aj4;intro i
 by_cases vZ:i<ls.length
 ·rw [EF vZ,akU,if_pos vZ,if_neg (by omega)]
 ·rw [ajm (by rw [oG];omega),ajm (by rw [ajB];omega)]
theorem PO (h: ∀k∈ls,k≤15) (hz: ∀s,ls.getD s 0=0→f s=z):oD f z ls 16 0= (List.range ls.length).map f:=by
 unfold oD;refine akm fun s hs=>?_;have OA:=l4 h s
 by_cases h0:ls.getD s 0=0
 ·rw [if_neg (by omega),hz s h0]
 ·rw [if_pos ⟨by omega,.inl (by omega)⟩]
end
def eL (ls:List Nat):List (List UInt8):= (List.range ls.length).map fun s=>f_ (cT ls s)
theorem MS (n:Nat):List.replicate n (str [])=cD (List.replicate n []):=by simp [cD]
theorem MT (l:List (List UInt8)) (i:Nat) (s:List UInt8): (cD l).set i (str s)=cD (l.set i s):=by unfold cD;rw [List.map_set]
theorem tG (hs:Sl H v 1 (aP zs)) (hz:okZ zs) (h: ∀y H',au H H' [.sl y 1 (cD (eL (natL zs)))]→R y H'):ab 225 #[v] H R:=by
 have dg: (aP zs).length=zs.length*1:=by rw [aV];omega
 have JE:=hz.1;have SX:= @Dd zs;have hlen: (natL zs).length=zs.length:=eY zs;have hle:=xF hz;generalize natL zs=ls at*;have qH:=EC (ls:=ls) (by omega);refine tw.vc _ _ _ ?_;refine hs.df dg ?_;refine(au.start (H:=H)).qh (by omega) (by omega) (by omega) fun y H1 o=>?_;rw [aiY,←hlen,MS,←JL (f:=fun s=>f_ (cT ls s))] at o;refine⟨fun m i H' => ∃n:Nat,i= .int .i64 ((n+1:Nat):Int)∧n≤15∧m= .int .i64 ((fW ls n:Nat):Int)∧au H H' [.sl y 1 (cD (oD (fun s=>f_ (cT ls s)) [] ls (n+1) 0))],fun _ i _=>match i with| .int _ x=> (1000 - x).toNat|_=>0,⟨0,rfl,by omega,rfl,o⟩,?_⟩;clear o;rintro _ _ _ H3 ⟨n,rfl,hn,rfl,o⟩;rw [gZ];refine av (fun hc=>?_) (fun hc=>?_)
 ·have PF:n+1≤15:=by omega
  have he:=qH n;have um:2 ^ n≤2 ^ 15:=ajk (by decide) hn;have c_:iw ls (n+1)=2*fW ls n:=by unfold iw;rw [akZ]
  generalize 2 ^ n=P at*;rw [gw,show ((fW ls n:Nat):Int)*2= ((iw ls (n+1):Nat):Int) by omega,aJ];refine⟨fun m i H' => ∃k:Nat,i= .int .i64 (k:Int)∧k≤zs.length∧m= .int .i64 ((iw ls (n+1)+dh (ls.take k) (n+1):Nat):Int)∧au H H' [.sl y 1 (cD (oD (fun s=>f_ (cT ls s)) [] ls (n+1) k))],fun _ i _=>match i with| .int _ x=> (1000 - x).toNat|_=>0,⟨0,rfl,by omega,rfl,o⟩,?_⟩;clear o;rintro _ _ _ H4 ⟨k,rfl,hk,rfl,o⟩;refine(hs.ext o.ext).df dg ?_;rw [aO];refine av (fun hc=>?_) (fun hc=>?_)
  ·have e_:k<zs.length:=by omega
   have dM:dh (ls.take k) (n+1)≤288:=ajv akY (by rw [ai2];omega);have ZF:=hz.2 _ (ai9 e_);have R5:ls[k]? =some zs[k].toNat:=by
    have:=SX e_;rw [ai3,ai1 (by omega)] at this;rw [ai1 (by omega),←this];rfl
   have lR:dh (ls.take (k+1)) (n+1)=dh (ls.take k) (n+1)+ (if ls.getD k 0=n+1 then 1 else 0):=by
    rw [ajr,R5,SX e_,fh,Option.toList,kI]
    simp [dh]
   refine⟨fun a H' =>a= .int .i64 ((iw ls (n+1)+dh (ls.take (k+1)) (n+1):Nat):Int)∧au H H' [.sl y 1 (cD (oD (fun s=>f_ (cT ls s)) [] ls (n+1) (k+1)))],?_,?_⟩
   ·rintro _ _ H5 ⟨rfl,o⟩
    rw [ay,ff (n:= (k:Int)+1) (by omega) (by omega)];exact⟨⟨k+1,rfl,by omega,rfl,o⟩,by show (_:Int).toNat< (_:Int).toNat;omega⟩
   refine(hs.ext o.ext).gG dg fun p hp=>?_;refine hp.load (hs.ext o.ext) (w:= .int .i64 zs[k]) (by rw [aiY,ai5,cm e_]) ?_;rw [aZ];refine cN (fun hb=>?_) (fun hb=>?_)
   ·have Ye:zs[k]= ((n+1:Nat):Int):=by
     have:=hb
     simp at this
     rw [this];rfl
    have hg:ls.getD k 0=n+1:=by rw [SX e_,Ye];rfl
    rw [if_pos hg] at lR;generalize S0:iw ls (n+1)+dh (ls.take k) (n+1)=c at*;have XL:c≤10000000*2:=by omega
    have Yf:fj ls k=c:=by
     unfold fj sK;rw [hg];exact S0
    refine⟨fun w a i H' => ∃j:Nat,i= .int .i64 (j:Int)∧j≤n+1∧a= .int .i64 ((c/2 ^ j:Nat):Int)∧w=str (f_ (a_ c j).reverse)∧au H H' [.sl y 1 (cD (oD (fun s=>f_ (cT ls s)) [] ls (n+1) k))],fun _ _ i _=>match i with| .int _ x=> (1000 - x).toNat|_=>0,⟨0,rfl,by omega,by rw [ala,al7],rfl,o⟩,?_⟩;clear o;rintro _ _ _ _ H5 ⟨j,rfl,hj,rfl,rfl,o⟩;rw [aO];refine av (fun hc=>?_) (fun hc=>?_)
    ·have hd:c/2 ^ j≤c:=alw _ _
     have Pw:c/2 ^ (j+1)≤c:=alw _ _;rw [gz];refine⟨by decide,?_⟩;rw [show (((c/2 ^ j:Nat):Int).tmod 2)= ((c/2 ^ j%2:Nat):Int) from rfl,ay,cP];refine MP o (SZ c j) fun H6 o=>?_;rw [z_];refine⟨?_,?_⟩
     ·show 1+ (f_ (a_ c j).reverse).toArray.size≤_
      rw [ajA,eP,List.length_reverse,aX];omega
     rw [iL];refine⟨by decide,?_⟩;rw [show (((c/2 ^ j:Nat):Int).tdiv 2)= ((c/2 ^ (j+1):Nat):Int) by rw [ajI,←alx];rfl];rw [ff (n:= ((c/2 ^ (j+1):Nat):Int)) (Int.le_trans (by decide) (amx _)) (by omega),ay,ff (n:= (j:Int)+1) (by omega) (by omega)];refine⟨⟨j+1,rfl,by omega,rfl,?_,o⟩,by show (_:Int).toNat< (_:Int).toNat;omega⟩;rw [AE,List.reverse_append]
     simp [f_]
    ·have I8 :j=n+1:=by omega
     subst I8;refine(o.cf (v:=y)).at_ (n:=ls.length) (by rw [gA,oG,ai5]) (by decide) (by omega) (by omega) fun p hp=>?_;refine o.store hp (by repeat(first|exact aiX|apply aiW)) (by rw [gA,oG];omega) rfl (by repeat(first|exact cx.here|apply cx.there)) fun H6 o _=>?_;rw [aiY,ai5,←mf,←Yf] at o;have e:f_ (a_ (eE (fj ls k) (n+1)) (n+1))=f_ (cT ls k):=by unfold cT;rw [hg]
     rw [e,MT,PN (f:=fun s=>f_ (cT ls s)) (by omega) hg (by omega)] at o;rw [ay,ff (n:= (c:Int)+1) (by omega) (by omega)];refine⟨?_,o⟩;rw [lR,←S0]
     rfl
   ·have Ye:zs[k]≠((n+1:Nat):Int):=by
     intro e;rw [e] at hb
     simp at hb
    have hg:ls.getD k 0≠n+1:=by rw [SX e_];omega
    rw [if_neg hg,ajq] at lR;rw [MQ hg,lR];exact⟨rfl,o⟩
  ·have IL:k=zs.length:=by omega
   rw [IL,←hlen,MR] at o;rw [IL,←hlen,ajc,←tk _ (by omega)];rw [ay,ff (n:= ((n+1:Nat):Int)+1) (by omega) (by omega)];exact⟨⟨n+1,rfl,by omega,rfl,o⟩,by show (_:Int).toNat< (_:Int).toNat;omega⟩
 ·have:n=15:=by omega
  subst this;rw [PO hle (fun s h0=>by unfold cT;rw [h0];rfl)] at o;exact h _ _ o
end
section
set_option maxRecDepth 100000
variable {H:ag} {R:Value→ag→Prop} {v:Value} {zs:List Int} {ls:List Nat} {B:List Bool}
def hit (ls:List Nat) (B:List Bool) (s:Nat):Prop:=s<ls.length∧1≤ls.getD s 0∧B.take (ls.getD s 0)=cT ls s
def more (ls:List Nat) (B:List Bool):Prop:= ∃s,s<ls.length∧B.length<ls.getD s 0∧(cT ls s).take B.length=B
theorem oH (ls:List Nat) (s:Nat): (cT ls s).length=ls.getD s 0:=aX _ _
theorem pJ {s:Nat} (h:hit ls B s):ls.getD s 0≤B.length:=by
 have:=congrArg List.length h.2.2;rw [oH,ai2] at this;omega
theorem pK {v n m:Nat} (h:n≤m): (a_ v m).take n=a_ v n:=by
 obtain⟨k,rfl⟩: ∃k,m=n+k:= ⟨m - n,by omega⟩;rw [jO,ajZ (by rw [aX];omega),ajf (by rw [aX];omega)]
theorem wJ {a b n:Nat} (h:a_ a n=a_ b n):a%2 ^ n=b%2 ^ n:=by
 have:=congrArg fV h
 rwa [gO,gO] at this
theorem Lx (h:shareL ls 15≤32768) (hle: ∀k∈ls,k≤15) {s t:Nat} (hs:hit ls B s) (ht:hit ls B t):s=t:=by
 by_cases cQ:s=t
 ·exact cQ
 exfalso
 have key: ∀ {s t:Nat},hit ls B s→hit ls B t→s≠t→ls.getD s 0≤ls.getD t 0→False:=by
  intro s t hs ht cQ h2;refine JK h hle hs.1 ht.1 cQ hs.2.1 h2 ?_;have e1: (cT ls t).take (ls.getD s 0)=cT ls s:=by rw [←ht.2.2,akb,ajF h2];exact hs.2.2
  unfold cT at e1;rw [pK h2] at e1;have:=wJ e1;rw [ajg (nr _ _)] at this;exact this.symm
 rcases Nat.le_total (ls.getD s 0) (ls.getD t 0) with g|g
 ·exact key hs ht cQ g
 ·exact key ht hs (akk cQ) g
theorem GN {n:Nat}: ∀ {x r:Nat},x≤ls.length→r<dh (ls.take x) n→∃s,s<x∧ls.getD s 0=n∧dh (ls.take s) n=r∧(lq ls n x)[r]? =some s
 |0,r,_,h=>by simp [dh] at h
 |x+1,r,hx,h=>by
  have GO:x<ls.length:=by omega
  have hg:ls.getD x 0=ls[x]:=by rw [ai3,ai1 GO];rfl
  have hlen:=rY (ls:=ls) (n:=n) x (by omega);have e:dh (ls.take (x+1)) n=dh (ls.take x) n+ (if ls.getD x 0=n then 1 else 0):=by
   rw [oq GO,fh,kI,hg];simp [dh]
  by_cases hr:r<dh (ls.take x) n
  ·obtain⟨s,h1,h2,h3,h4⟩:=GN (x:=x) (by omega) hr
   refine⟨s,by omega,h2,h3,?_⟩
   by_cases hh:ls.getD x 0=n
   ·rw [wG hh,ajL (by omega)];exact h4
   ·rw [Az hh];exact h4
  ·by_cases hh:ls.getD x 0=n
   ·rw [if_pos hh] at e
    refine⟨x,by omega,hh,by omega,?_⟩;rw [wG hh,ajP (by omega),show r - (lq ls n x).length=0 by omega];rfl
   ·rw [if_neg hh] at e;omega
theorem PQ {n r:Nat} (h1:1≤n) (hr:r<dh ls n): ∀m,n<m→∃s,s<ls.length∧ls.getD s 0=n∧sK ls s=r∧(lr ls m)[ou ls n+r]? =some s:=by
 intro m hm
 induction m with
 |zero=>omega
 |succ m ih=>
  rw [lr]
  by_cases he:n=m
  ·subst he
   obtain⟨s,g1,g2,g3,g4⟩:=GN (ls:=ls) (x:=ls.length) (aiZ _) (by rw [ajc];exact hr);refine⟨s,g1,g2,by unfold sK;rw [g2];exact g3,?_⟩;rw [if_neg (by omega),ajP (by rw [ox];omega),ox,show ou ls n+r - ou ls n=r by omega];exact g4
  ·obtain⟨s,g1,g2,g3,g4⟩:=ih (by omega)
   refine⟨s,g1,g2,g3,?_⟩;rw [ajL (ajD.1 g4).1];exact g4
theorem JM {s n x:Nat} (hn:ls.getD s 0=n) (h:fj ls s=eE x n):cT ls s=a_ x n:=by
 unfold cT;rw [hn,h,mf,mf,List.reverse_reverse]
theorem JN (Ly:shareL ls 15≤32768) (hle: ∀k∈ls,k≤15) {s n x:Nat} (hs:s<ls.length) (h1:1≤n) (hn:ls.getD s 0=n) (h:cT ls s=a_ x n):fj ls s=eE x n:=by
 unfold cT at h;rw [hn] at h;have hc:=uZ Ly hle hs (by omega);rw [hn] at hc;rw [mf] at h;have h2:a_ (fj ls s) n=a_ (eE x n) n:=by rw [mf,←h,List.reverse_reverse]
 have:=wJ h2
 rwa [ajg hc,ajg (nr _ _)] at this
theorem Vs {r c:Nat} (hc:c<2) (hr:r<4294967296):bitsOf .or .i64 ((2*r:Nat):Int) (c:Int)= ((2*r+c:Nat):Int):=by
 have e: ((BitVec.ofInt 64 ((2*r:Nat):Int)) ||| (BitVec.ofInt 64 (c:Int))).toNat=2*r+c:=by
  rw [amr,ajT,ajT,ajH,ajH,ajg (by omega),ajg (by omega),alo,ajQ];have:=uA (a:=c) (v:=r) (n:=1) (by simpa using hc);rw [Nat.pow_one] at this;rw [this];omega
 show IntKind.i64.wrap ((((BitVec.ofInt 64 ((2*r:Nat):Int)) ||| (BitVec.ofInt 64 (c:Int))).toNat:Nat):Int)=_;rw [e,aJ]
theorem find_spec {H0:ag} {L:List It} {b:Nat} {lv wv sv:Value} {x n:Nat} (hz:okZ zs) (Ly:shareL (natL zs) 15≤32768) (o:au H0 H L) (m1:It.box b (cn lv wv (cI (natL zs)) sv) 285∈L) (m2:It.sl sv 1 (nt (lr (natL zs) 16))∈L)
  (hx:x<2 ^ n) (hn:n≤15) (h1: ∀s,hit (natL zs) (a_ x n) s→R (.tuple #[.int .i64 (s:Nat),.int .i64 ((natL zs).getD s 0:Nat)]) H) (h2: (∀s,¬hit (natL zs) (a_ x n) s)→R (.tuple #[.int .i64 0,.int .i64 0]) H):
  ab 278 #[.pointer (some ⟨b,0,none⟩),.int .u64 (x:Int),.int .i64 (n:Int)] H R:=by
 have hle:=xF hz;have hlen: (natL zs).length≤288:=by rw [eY];exact hz.1
 generalize natL zs=ls at*;have qH:=EC (ls:=ls) hlen;have wF:=y8 hlen;have hxp:2 ^ n≤2 ^ 15:=ajk (by decide) hn;have JO: ∀k:Nat,k≤15→(cn lv wv (cI ls) sv)[2+k]? =some (.int .i64 (if k=0 then 0 else ((dh ls k:Nat):Int))):=fun k hk=>by
  rw [jy (by rw [dI];omega),gP (by omega)]
 refine yE.vc _ _ _ _ _ ?_;refine⟨fun a w f d i H' => ∃k:Nat,i= .int .i64 ((k+1:Nat):Int)∧k≤n∧a= .int .u64 ((x/2 ^ k:Nat):Int)∧w= .int .i64 ((2*eE x k:Nat):Int)∧f= .int .i64 ((2*fW ls k:Nat):Int)∧d= .int .i64 ((ou ls (k+1):Nat):Int)∧fW ls k≤eE x k∧(∀s,hit ls (a_ x n) s→k<ls.getD s 0)∧H=H',fun _ _ _ _ i _=>match i with| .int _ x=> (1000 - x).toNat|_=>0,⟨0,rfl,by omega,by rw [ala,al7],rfl,rfl,rfl,aiZ _,fun s h=>h.2.1,rfl⟩,?_⟩;rintro _ _ _ _ _ _ _ ⟨k,rfl,hk,rfl,rfl,rfl,rfl,S1,sj,rfl⟩;have hr:=nr x k;have ZA:2 ^ k≤2 ^ 15:=ajk (by decide) (by omega);rw [gZ];refine av (fun hc=>?_) (fun hc=>?_)
 ·have mB:k+1≤n:=by omega
  have hd:x/2 ^ k≤x:=alw _ _;have h2' :x/2 ^ k%2<2:=akn _ (by decide);have he:=qH k;have IK:=qH (k+1);have dM:dh ls (k+1)≤288:=ajv akY hlen;have ja:ou ls (k+1)≤16*288:=ajv (wF (k+1)) (akl _ (by omega));have e2:bitsOf .and .u64 ((x/2 ^ k:Nat):Int) 1= ((x/2 ^ k%2:Nat):Int):=by
   have:=Ei (a:=x/2 ^ k) (b:=1) (by omega) (by omega);rw [Nat.and_one_is_mod] at this;exact this
  have hrs:eE x (k+1)=2*eE x k+x/2 ^ k%2:=rfl;rw [cu,e2,cP,ff (n:= ((x/2 ^ k%2:Nat):Int)) (by omega) (by omega),cu];have e3:bitsOf .or .i64 ((2*eE x k:Nat):Int) ((x/2 ^ k%2:Nat):Int)= ((eE x (k+1):Nat):Int):=by
   rw [hrs];exact Vs h2' (by omega)
  rw [e3,lI];refine⟨by decide,?_⟩;rw [show min (1:Int).toNat IntKind.u64.bits=1 from rfl,ka (j:=1) rfl,alx,show 2 ^ k*2 ^ 1=2 ^ (k+1) from rfl];have PE: ∀ {K:Value→Prop},K (.int .i64 ((dh ls (k+1):Nat):Int))→eJ 16 1 (.pointer (some ⟨b,0+2,none⟩)) (.int .i64 ((k+1:Nat):Int)) fun y=>ao H y K:=fun {K} hK=>by
   rw [iq];refine⟨by omega,by omega,?_⟩;rw [ax,show 0+2+ ((k+1:Nat):Int).toNat*1=2+ (k+1) by omega];refine o.dc m1 (JO (k+1) (by omega)) ?_;rw [if_neg (by omega)];exact hK
  rw [aD,ae,ax];refine PE ?_;rw [bq,aJ,aO];refine av (fun cL=>?_) (fun cL=>?_)
  ·have yj:eE x (k+1) - 2*fW ls k<dh ls (k+1):=by omega
   obtain⟨s,g1,g2,g3,g4⟩:=PQ (ls:=ls) (n:=k+1) (by omega) yj 16 (by omega);have Le:fj ls s=eE x (k+1):=by
    unfold fj;rw [g2,g3];unfold iw;rw [akZ];omega
   have hb:=JM g2 Le;have hh:hit ls (a_ x n) s:= ⟨g1,by omega,by rw [g2,pK mB,hb]⟩;rw [aD,ae,ax];refine o.dc (f:=0+18) m1 rfl ?_;rw [ay,aJ,bq,aJ];have iJ:=ox (ls:=ls) 16;have vZ:= (ajD.1 g4).1;refine(o.sl m2).at_ (n:= (lr ls 16).length) (by rw [Db,ai5]) (by decide) (by omega) (by omega) fun p hp=>?_;refine hp.load (o.sl m2) (w:= .int .i64 (s:Nat)) ?_ ?_
   ·unfold nt
    rw [aji,show ((((ou ls (k+1):Nat):Int)+ ((eE x (k+1):Nat):Int) - ((2*fW ls k:Nat):Int)).toNat*1)=ou ls (k+1)+ (eE x (k+1) - 2*fW ls k) by omega,g4]
    rfl
   ·have:=h1 s hh
    rw [g2] at this;exact this
  ·rw [aD,ae,ax]
   refine PE ?_;rw [ay,aJ];rw [aD,ae,ax];refine PE ?_;have hek:fW ls (k+1)=2*fW ls k+dh ls (k+1):=rfl;have yj:=nr x (k+1);have ae4:2 ^ (k+1)≤2 ^ 15:=ajk (by decide) (by omega);rw [ay,show ((2*fW ls k:Nat):Int)+ ((dh ls (k+1):Nat):Int)= ((fW ls (k+1):Nat):Int) by omega,ff (n:= ((fW ls (k+1):Nat):Int)) (by omega) (by omega),fB];refine⟨by decide,?_⟩;rw [show min (1:Int).toNat IntKind.i64.bits=1 from rfl,show ((fW ls (k+1):Nat):Int)*2 ^ 1= ((2*fW ls (k+1):Nat):Int) by omega,ff (n:= ((2*fW ls (k+1):Nat):Int)) (by omega) (by omega),fB];refine⟨by decide,?_⟩;rw [show min (1:Int).toNat IntKind.i64.bits=1 from rfl,show ((eE x (k+1):Nat):Int)*2 ^ 1= ((2*eE x (k+1):Nat):Int) by omega,ff (n:= ((2*eE x (k+1):Nat):Int)) (by omega) (by omega),ay,ff (n:= ((k+1:Nat):Int)+1) (by omega) (by omega)];refine⟨⟨k+1,rfl,mB,rfl,rfl,rfl,?_,by omega,fun s hh=>?_,rfl⟩,by show (_:Int).toNat< (_:Int).toNat;omega⟩
   ·rw [ou.eq_2 ls (k+1),if_neg (by omega)];rfl
   ·have h3:=sj s hh
    by_cases O8:ls.getD s 0=k+1
    ·exfalso
     have hw:=hh.2.2;rw [O8,pK mB] at hw;have S0:=JN Ly hle hh.1 (by omega) O8 hw.symm;have:=Eo hh.1 hh.2.1;rw [O8] at this;omega
    ·omega
 ·have e_:k=n:=by omega
  subst e_;refine h2 fun s hh=>?_;have h3:=sj s hh;have h4:=pJ hh;rw [aX] at h4;omega
end
section
set_option maxRecDepth 100000
variable {H:ag} {R:Value→ag→Prop} {v:Value} {zs:List Int} {ls:List Nat} {B:List Bool}
theorem xG {K:Value→Prop} {l:List UInt8} {m:Nat} (hm:m≤l.length) (h:K (str (l.take m))):bd (str l) none (some (.int .i64 (m:Int))) K:=
 ba (lo:=0) (hi:=m) (.inr ⟨rfl,rfl⟩) (.inl rfl) (ajj _) hm (by rw [ajt,ajO];exact h)
theorem JP {H0:ag} {L:List It} {hb mb vb:Nat} {th tm tv:TypeId} {x n a m:Nat} (o:au H0 H L) (hn:n≤15) (ha:a<18446744073709551616) (m1:It.box hb [.int .i64 (n:Int)] th∈L) (m2:It.box mb [.int .u64 (IntKind.u64.wrap (IntKind.u64.wrap (1*2 ^ min ((n:Int)).toNat IntKind.u64.bits) - 1))] tm∈L) (m3:It.box vb [.int .u64 (x:Int)] tv∈L)
  (h: ∀H',au H0 H' L→R (.bool (decide (n<m) && decide (a%2 ^ n=x))) H'):
  ab 298 #[.agg #[.int .u64 (a:Int),.int .i64 (m:Int)],.pointer (some ⟨hb,0,none⟩),.pointer (some ⟨mb,0,none⟩),.pointer (some ⟨vb,0,none⟩)] H R:=by
 refine tu.vc _ _ _ _ _ _ ?_;refine o.box fun wb H1 o1 _=>?_
 change au H0 H1 (.box wb [.int .u64 (a:Int),.int .i64 (m:Int)] _::L) at o1
 rw [ae,ax];refine o1.aw (f:=0+1) ?_;refine o1.dc (aiW _ m1) rfl ?_;rw [bc];refine dC (d:=decide (a%2 ^ n=x)) (fun _=>?_) ?_
 ·rw [ae,ax]
  refine o1.aw (f:=0+0) ?_;refine o1.dc (aiW _ m2) rfl ?_;rw [cu,Am ha (by omega)];refine o1.dc (aiW _ m3) rfl ?_;rw [aZ];refine⟨?_,rfl⟩
  congr 1
  rw [ajV,decide_eq_true_eq,decide_eq_true_eq];omega
 intro _;have:=h H1 (o1.pick (aki _ _));rw [show decide ((n:Int)< (m:Int))=decide (n<m) by rw [ajV,decide_eq_true_eq,decide_eq_true_eq];omega];exact this
theorem JQ {s n x:Nat} (h:n≤ls.getD s 0) (hx:x<2 ^ n): (cT ls s).take n=a_ x n↔eE (fj ls s) (ls.getD s 0) %2 ^ n=x:=by
 unfold cT;rw [pK h]
 constructor
 ·intro g
  have:=wJ g
  rwa [ajg hx] at this
 ·intro g
  rw [←mc,g]
open Classical in
theorem MU {H0:ag} {L:List It} {b:Nat} {lv wv sv:Value} {x n:Nat} (hz:okZ zs) (o:au H0 H L) (m1:It.box b (cn lv wv (cI (natL zs)) sv) 285∈L) (m2:It.sl wv 2 (mL (natL zs))∈L)
  (hx:x<2 ^ n) (hn:n≤15) (h: ∀H',au H0 H' L→R (.bool (decide (more (natL zs) (a_ x n)))) H'):
  ab 279 #[.pointer (some ⟨b,0,none⟩),.int .u64 (x:Int),.int .i64 (n:Int)] H R:=by
 have hle:=xF hz;have hlen: (natL zs).length≤288:=by rw [eY];exact hz.1
 generalize natL zs=ls at*;have EE:=AD ls;refine yF.vc _ _ _ _ _ ?_;refine o.box fun vb H1 o1 _=>?_
 change au H0 H1 (.box vb [.int .u64 (x:Int)] _::L) at o1
 refine o1.box fun hb H2 o2 _=>?_
 change au H0 H2 (.box hb [.int .i64 (n:Int)] _:: .box vb [.int .u64 (x:Int)] _::L) at o2
 refine o2.aw ?_;rw [fB];refine⟨by omega,?_⟩;rw [bq];refine o2.box fun mb H3 o3 _=>?_
 change au H0 H3 (.box mb [.int .u64 0] _:: .box hb [.int .i64 (n:Int)] _:: .box vb [.int .u64 (x:Int)] _::L) at o3
 refine o3.eV (by repeat(first|exact aiX|apply aiW)) (by decide) rfl (cx.here) fun H4 o4 _=>?_;rw [ajU] at o4;rw [aD,ae,ax];have mem: ∀ {i:It},i∈L→∀ {a b c:It},i∈a::b::c::L:=fun {i} h {a b c}=>aiW _ (aiW _ (aiW _ h));refine o4.dc (f:=0+1) (mem m1) rfl ?_;refine gF.vc _ _ _ _ ?_;refine iy.vc _ _ _ _ ?_;refine(o4.sl (mem m2)).df EE ?_;have qH: ∀ {H' a b c},au H0 H' (a::b::c::L)→au H0 H' L:=fun o=>o.pick (List.Sublist.cons _ (List.Sublist.cons _ (aki _ _)));refine⟨fun i H' => ∃k:Nat,i= .int .i64 k∧k≤ls.length∧au H0 H' (.box mb [.int .u64 (IntKind.u64.wrap (IntKind.u64.wrap (1*2 ^ min ((n:Int)).toNat IntKind.u64.bits) - 1))] 41:: .box hb [.int .i64 (n:Int)] 3:: .box vb [.int .u64 (x:Int)] 41::L)∧∀s,s<k→¬ (n<ls.getD s 0∧(cT ls s).take n=a_ x n),fun i _=>match i with| .int _ x=> (1000 - x).toNat|_=>0,⟨0,rfl,by omega,o4,by omega⟩,?_⟩;clear o o1 o2 o3 o4;rintro _ _ H5 ⟨k,rfl,hk,o4,sj⟩;rw [aO];refine av (fun hc=>?_) (fun hc=>?_)
 ·have eF:k<ls.length:=by omega
  refine(o4.sl (mem m2)).gG EE fun p hp=>?_;rw [aiY] at hp;refine hp.fZ (o4.sl (mem m2)) (ws:=sO ls k) ?_ rfl ?_
  ·have e0:=r7 (ls:=ls) (s:=k) (j:=0) eF (by decide)
   have e1:=r7 (ls:=ls) (s:=k) (j:=1) eF (by decide);apply aj4;intro i;rw [akw]
   split
   ·rename_i hi
    rw [ajW]
    match i,hi with
    |0,_=>exact e0
    |1,_=>exact e1
   ·rename_i hi
    rw [ajm (by show 2≤i;omega)]
  refine rZ (by kernel_rfl) ?_;have hr:=nr (fj ls k) (ls.getD k 0);have um:2 ^ ls.getD k 0≤2 ^ 15:=ajk (by decide) (l4 hle k);refine JP (a:=eE (fj ls k) (ls.getD k 0)) (m:=ls.getD k 0) o4 hn (by omega) (by repeat(first|exact aiX|apply aiW)) (by repeat(first|exact aiX|apply aiW)) (by repeat(first|exact aiX|apply aiW)) fun H6 o5=>?_;have MV:= @JQ ls k n x;refine cN (fun hb=>?_) (fun hb=>?_)
  ·rw [aja,decide_eq_true_eq,decide_eq_true_eq] at hb
   show jz _ _ _;rw [dH,nR];have hm:more ls (a_ x n):= ⟨k,eF,by rw [aX];exact hb.1,by rw [aX];exact(MV (by omega) hx).2 hb.2⟩;have:=h H6 (qH o5);rw [decide_eq_true hm] at this;exact this
  ·rw [ay,ff (n:= (k:Int)+1) (by omega) (by omega)]
   refine⟨⟨k+1,rfl,by omega,o5,fun s hs=>?_⟩,by show (_:Int).toNat< (_:Int).toNat;omega⟩
   by_cases he:s=k
   ·subst he
    rintro⟨g1,g2⟩;rw [decide_eq_true g1,decide_eq_true ((MV (by omega) hx).1 g2)] at hb
    cases hb
   ·exact sj s (by omega)
 ·have eF:k=ls.length:=by omega
  subst eF;show jz _ _ _;rw [dH,qO];have hm: ¬more ls (a_ x n):=by
   rintro⟨s,g1,g2,g3⟩;rw [aX] at g2 g3;exact sj s g1 ⟨g2,g3⟩
  have:=h H5 (qH o4);rw [decide_eq_false hm] at this;exact this
theorem S2 {a b:Bool} (h:Xa a=Xa b):a=b:=by cases a<;>cases b<;>first|rfl|exact absurd h (by decide)
theorem MW {l m:List Bool} (h:f_ l=f_ m):l=m:=by
 induction l generalizing m with
 |nil=>cases m with
  |nil=>rfl
  |cons b m=>cases h
 |cons a l ih=>cases m with
  |nil=>cases h
  |cons b m=>
   simp only [f_,aj3,akt] at h;rw [S2 h.1,ih h.2]
theorem AG (l:List Bool) (n:Nat): (f_ l).take n=f_ (l.take n):=by unfold f_;rw [al1]
theorem eqT (a b:List Bool):decide (f_ a=f_ b)=decide (a=b):=by
 rw [ajV,decide_eq_true_eq,decide_eq_true_eq];exact⟨MW,fun h=>by rw [h]⟩
theorem nu (ls:List Nat): (eL ls).length=ls.length:=by simp [eL]
open Classical in
theorem JR {w:Value} {Bx:List Bool} (hs:Sl H w 1 (cD (eL ls))) (hl:ls.length≤288) (hle: ∀k∈ls,k≤15) (hB:Bx.length≤15)
  (h1: ∀s,hit ls Bx s→R (.int .i64 (s:Nat)) H) (h2: (∀s,¬hit ls Bx s)→R (.int .i64 (if more ls Bx then -2 else -1)) H):ab 259 #[w,str (f_ Bx)] H R:=by
 have dg: (cD (eL ls)).length=ls.length*1:=by rw [gA,nu,ai5]
 refine uQ.vc _ _ _ _ ?_;refine⟨fun m i H' => ∃k:Nat,i= .int .i64 k∧k≤ls.length∧m= .bool (decide (∃s,s<k∧Bx.length<ls.getD s 0∧(cT ls s).take Bx.length=Bx))∧(∀s,s<k→¬hit ls Bx s)∧H=H',fun _ i _=>match i with| .int _ x=> (1000 - x).toNat|_=>0,⟨0,rfl,by omega,by rw [decide_eq_false (by rintro⟨s,h,_⟩;omega)],by omega,rfl⟩,?_⟩;rintro _ _ _ _ ⟨k,rfl,hk,rfl,sj,rfl⟩;refine hs.df dg ?_;rw [aO];refine av (fun hc=>?_) (fun hc=>?_)
 ·have eF:k<ls.length:=by omega
  have OA:=l4 hle k;have EE:=oH ls k;refine⟨fun m H' =>m= .bool (decide (∃s,s<k+1∧Bx.length<ls.getD s 0∧(cT ls s).take Bx.length=Bx))∧(¬hit ls Bx k)∧H=H',?_,?_⟩
  ·rintro _ _ _ ⟨rfl,hh,rfl⟩
   rw [ay,ff (n:= (k:Int)+1) (by omega) (by omega)];refine⟨⟨k+1,rfl,by omega,rfl,fun s hs=>?_,rfl⟩,by show (_:Int).toNat< (_:Int).toNat;omega⟩
   by_cases he:s=k
   ·subst he;exact hh
   ·exact sj s (by omega)
  have Vd: ∀ {p:Prop},(p↔(Bx.length<ls.getD k 0∧(cT ls k).take Bx.length=Bx))→((∃s,s<k+1∧Bx.length<ls.getD s 0∧(cT ls s).take Bx.length=Bx)↔((∃s,s<k∧Bx.length<ls.getD s 0∧(cT ls s).take Bx.length=Bx)∨p)):=by
   intro p hp
   constructor
   ·rintro⟨s,g1,g2⟩
    by_cases he:s=k
    ·subst he;exact .inr (hp.2 g2)
    ·exact .inl ⟨s,by omega,g2⟩
   ·rintro(⟨s,g1,g2⟩ |g)
    ·exact⟨s,by omega,g2⟩
    ·exact⟨k,by omega,hp.1 g⟩
  refine hs.gG dg fun p hp=>?_;refine hp.load hs (w:=str (f_ (cT ls k))) (by rw [aiY,ai5];unfold cD eL;rw [aji,aji,aka eF];rfl) ?_;refine eO ?_;refine av (fun he=>?_) (fun he=>?_)
  ·have h0:ls.getD k 0=0:=by
    have:=congrArg List.length he;rw [eP,EE] at this;exact this
   refine⟨?_,fun hh=>by have:=hh.2.1;omega,rfl⟩
   congr 1
   rw [ajV,decide_eq_true_eq,decide_eq_true_eq,Vd (p:=False) ⟨False.elim,fun g=>by omega⟩,or_false]
  have Ad:1≤ls.getD k 0:=by
   rcases akV (ls.getD k 0) with g|g
   ·exfalso
    have:cT ls k= []:=alz.1 (by rw [EE];exact g);rw [this] at he;exact he rfl
   ·exact g
  refine aC ?_;refine aC ?_;rw [eP,eP,EE,gZ];refine Jn (fun hf=>?_) (fun ht=>?_)
  ·intro _
   rw [ak];rw [decide_eq_false_iff_not] at hf;have ZG: ¬hit ls Bx k:=fun hh=>by have:=pJ hh;omega
   refine aC ?_;refine aC ?_;rw [eP,eP,EE,bc,nR];refine bs ?_;refine aC ?_;rw [eP];refine xG (by rw [eP,EE];omega) ?_;refine eO ?_;rw [AG,eqT];intro _;refine av (fun hm=>?_) (fun hm=>?_)
   ·refine⟨?_,ZG,rfl⟩
    congr 1
    symm
    rw [decide_eq_true_eq];exact⟨k,by omega,by omega,hm⟩
   ·refine⟨?_,ZG,rfl⟩
    congr 1
    rw [ajV,decide_eq_true_eq,decide_eq_true_eq,Vd (p:=False) ⟨False.elim,fun g=>hm g.2⟩,or_false]
  ·rw [decide_eq_true_eq] at ht
   refine aC ?_;rw [eP,EE];refine xG (by rw [eP];omega) ?_;refine eO ?_;rw [AG,eqT];intro _;refine av (fun hm=>?_) (fun hm=>?_)
   ·exact h1 k ⟨eF,Ad,hm⟩
   ·have ZG: ¬hit ls Bx k:=fun hh=>hm hh.2.2
    refine aC ?_;refine aC ?_;rw [eP,eP,EE,bc,ei,dO];intro _;rw [ak];refine⟨?_,ZG,rfl⟩
    congr 1
    rw [ajV,decide_eq_true_eq,decide_eq_true_eq,Vd (p:=False) ⟨False.elim,fun g=>by omega⟩,or_false]
 ·have eF:k=ls.length:=by omega
  subst eF;have hh:=h2 fun s hs=>sj s hs.1 hs
  by_cases hm:more ls Bx
  ·rw [if_pos hm] at hh
   obtain⟨s,g1,g2,g3⟩:=hm;rw [decide_eq_true ⟨s,g1,g2,g3⟩,aL];exact hh
  ·rw [if_neg hm] at hh
   rw [decide_eq_false (fun g=>hm (by obtain⟨s,g1,g2,g3⟩:=g;exact⟨s,g1,g2,g3⟩)),ak];exact hh
end
section
set_option maxRecDepth 100000
variable {H:ag} {R:Value→ag→Prop}
abbrev at_ (b o:Nat):Value:= .pointer (some ⟨b,o,none⟩)
abbrev u64 (n:Nat):Value:= .int .u64 (n:Int)
abbrev i64 (n:Nat):Value:= .int .i64 (n:Int)
structure Rd (H:ag) (b o:Nat) (B:List Bool):Prop where
 sub: ∃ (rest:List UInt8) (acc n:Nat),lJ H b o [str rest,u64 acc,i64 n]∧B=a_ acc n++toBits rest∧acc<2 ^ n∧n<40
 xH:B.length≤1152921504606846976
theorem Rd.ext {H' :ag} {b o:Nat} {B:List Bool} (h:Rd H b o B) (hx:Ext H H'):Rd H' b o B:=by
 obtain⟨⟨rest,acc,n,h1,h2⟩,h3⟩:=h;exact⟨⟨rest,acc,n,h1.ext hx,h2⟩,h3⟩
theorem Rd.lt {b o:Nat} {B:List Bool} (h:Rd H b o B):b<H.size:=by
 obtain⟨⟨rest,acc,n,h1,h2⟩,h3⟩:=h;exact h1.lt
theorem Rd.new {b o:Nat} (h:lJ H b o [str [],.int .u64 0,.int .i64 0]):Rd H b o []:= ⟨⟨[],0,0,h,rfl,by decide,by decide⟩,by simp⟩
variable {b o:Nat} {B:List Bool}
theorem pM (hr:Rd H b o B) (h:R (i64 B.length) H):ab 177 #[at_ b o] H R:=by
 obtain⟨⟨rest,acc,n,hs,rfl,ha,hn⟩,hb⟩:=hr;rw [aiV,aX,bj] at hb h;refine wo.vc _ _ _ ?_;simp only [aD,ae,ax,ajq,bo (hs.cell0 rfl),ni,bB,gw,bo (hs.cell (k:=2) rfl),ay,fC,ak];rw [ff (n:=8* (rest.length:Int)) (by omega) (by omega),aJ,show (n:Int)+8* (rest.length:Int)= ((n+8*rest.length:Nat):Int) by omega];exact h
theorem JS {s:List UInt8} (hr:Rd H b o B) (eU:B.length+8*s.length≤1152921504606846976) (h: ∀H',Rd H' b o (B++toBits s)→kH b o 3 none_ none_ H H' →R (.tuple #[]) H'):ab 173 #[at_ b o,str s] H R:=by
 obtain⟨⟨rest,acc,n,hs,rfl,ha,hn⟩,hb⟩:=hr;rw [aiV,aX,bj] at hb eU;refine wj.vc _ _ _ _ ?_;simp only [aD,ae,ax,ajq,bo (hs.cell0 rfl),z_,qI,bB,v8,aL];refine⟨by first|omega| (simp [ByteArray.size];omega),?_⟩;refine jM (F:=none_) (n:=3) hs rfl (by simp) rfl fun H1 s1 ja c1=>?_;refine h H1 ⟨⟨rest++s,acc,n,ja,by rw [cG,ai0],ha,hn⟩,?_⟩ c1;rw [aiV,aiV,aX,bj,bj];omega
theorem JT {k:Nat} (hk:k≤32) {rest:List UInt8} {acc n:Nat} (hs:lJ H b o [str rest,u64 acc,i64 n]) (ha:acc<2 ^ n) (hn:n<40) (hl:k≤n+8*rest.length) (eU:rest.length≤1152921504606846976)
  (h: ∀H' lS gj n',lJ H' b o [str lS,u64 gj,i64 n']→a_ gj n' ++toBits lS =a_ acc n++toBits rest→gj <2 ^ n' →n' <40→k≤n' →kH b o 3 none_ none_ H H' →R (.tuple #[]) H'):ab 296 #[at_ b o,i64 k] H R:=by
 refine wu.vc _ _ _ _ ?_;refine⟨fun H' => ∃ (lS :List UInt8) (gj n' :Nat),lJ H' b o [str lS,u64 gj,i64 n']∧a_ gj n' ++toBits lS =a_ acc n++toBits rest∧gj <2 ^ n' ∧n' <40∧lS.length≤rest.length∧kH b o 3 none_ none_ H H',
  fun H' =>match cellAt H' ⟨b,o+2,none⟩ with|some (.int _ q)=> (100 - q).toNat|_=>0,⟨rest,acc,n,hs,rfl,ha,hn,aiZ _,kH.refl⟩,?_⟩
 rintro _ H1 ⟨lS,gj,n',ja,he,nQ,Ct,ED,c1⟩;have hlen:n' +8*lS.length=n+8*rest.length:=by
  have:=congrArg List.length he;rw [aiV,aiV,aX,aX,bj,bj] at this;exact this
 simp only [aD,ae,ax,ajq,bo (ja.cell0 rfl),Ua,bB,ne_eq,bo (ja.cell (k:=2) rfl),aO,fF,j7,cc,Int.reduceLE,cP,fB,true_and,bo (ja.cell (k:=1) rfl),cu];refine fun _=>av (fun hc=>?_) (fun hc=>?_)
 ·obtain⟨x,t,rfl⟩: ∃x t,lS =x::t:=by
   cases lS with
   |nil=>exact absurd rfl hc.2
   |cons x t=>exact⟨x,t,rfl⟩
  have hx:x.toNat<256:=x.toNat_lt;have hpw: (2:Nat) ^ n' ≤2 ^ 31:=ajk (by decide) (by omega);have hm:x.toNat*2 ^ n' ≤255*2 ^ 31:=amz (by omega) hpw;simp only [Int.reduceToNat,List.getD_cons_zero];refine⟨by simp,by omega,?_⟩;rw [cF (n:= (x.toNat:Int)) (by omega) (by omega),Lt (by omega) (by omega),wg (by omega) (by omega),uA nQ];have ae5 :lJ H1 b o [str (x::t),u64 gj,i64 n']:=ja;refine gN (F:=none_) (k:=1) (n:=3) ja rfl (by simp) rfl fun H2 s2 lL c2=>?_;simp only [bo (lL.cell0 rfl),n8,bB,ai6,mF,Int.reduceLE,true_and];refine⟨by omega,?_⟩;simp only [Int.reduceToNat,List.drop_succ_cons,ajt];rw [ajf (by simp)];refine jM (F:=none_) (n:=3) lL rfl (by simp) rfl fun H3 s3 IM c3=>?_;simp only [bo (IM.cell (k:=2) rfl),ay];rw [ff (n:= (n' :Int)+8) (by omega) (by omega)];refine gN (F:=none_) (k:=2) (n:=3) IM rfl (by simp) rfl fun H4 s4 MX c4=>?_;refine⟨⟨t,gj +x.toNat*2 ^ n',n' +8,MX,?_,?_,by omega,by simp at ED;omega,((c1.trans c2).trans c3).trans c4⟩,?_⟩
  ·rw [←he,Al nQ,ln,ai0]
  ·rw [alc]
   have h1:x.toNat*2 ^ n' ≤255*2 ^ n' :=akl _ (by omega);have: (2:Nat) ^ 8=256:=rfl;omega
  ·rw [MX.cell (k:=2) rfl,ja.cell (k:=2) rfl]
   show (100 - ((n' :Int)+8)).toNat< (100 - (n' :Int)).toNat;omega
 ·refine h H1 lS gj n' ja he nQ Ct ?_ c1
  by_cases OB:lS = []
  ·subst OB;simp at hlen;omega
  ·have: ¬ ((n' :Int)< (k:Int)):=fun h' =>hc ⟨h',OB⟩
   omega
theorem tH {k:Nat} {rest:List UInt8} {acc n:Nat} (hs:lJ H b o [str rest,u64 acc,i64 n]) (hk:k≤n) (hn:n<40)
  (h: ∀H',lJ H' b o [str rest,u64 (acc/2 ^ k),i64 (n - k)]→kH b o 3 none_ none_ H H' →R (.tuple #[]) H'):ab 224 #[at_ b o,i64 k] H R:=by
 refine wq.vc _ _ _ _ ?_;simp only [aD,ae,ax,bo (hs.cell (k:=1) rfl),lI];refine⟨by omega,?_⟩;rw [Lu (show k≤64 by omega)];refine gN (F:=none_) (k:=1) (n:=3) hs rfl (by simp) rfl fun H2 s2 lL c2=>?_;simp only [bo (lL.cell (k:=2) rfl),bq];rw [ff (n:= (n:Int) - (k:Int)) (by omega) (by omega),show (n:Int) - (k:Int)= ((n - k:Nat):Int) by omega];refine gN (F:=none_) (k:=2) (n:=3) lL rfl (by simp) rfl fun H3 s3 IM c3=>?_;exact h H3 IM (c2.trans c3)
theorem Df {acc n k:Nat} {rest:List UInt8} (hk:k≤n):a_ (acc/2 ^ k) (n - k)++toBits rest= (a_ acc n++toBits rest).drop k:=by
 rw [ajR (by rw [aX];exact hk)]
 congr 1
 conv=>rhs;rw [show n=k+ (n - k) by omega,jO]
 rw [ajR (by rw [aX];exact aiZ _),aky (by rw [aX];exact aiZ _),aje]
theorem EG {acc n k:Nat} (h:acc<2 ^ n) (hk:k≤n):acc/2 ^ k<2 ^ (n - k):=by
 rw [Nat.div_lt_iff_lt_mul (ak8 k),←alc,show n - k+k=n by omega];exact h
theorem PR {n:Int} (hr:Rd H b o B) (sj: ¬ (0≤n∧n≤32∧n≤(B.length:Int))) (h:R (.tuple #[.int .u64 0,.bool false]) H):ab 277 #[at_ b o,.int .i64 n] H R:=by
 refine oo.vc _ _ _ _ ?_;simp only [aO,bc,fB,bq,aD,ae,ax,fC,gr,alk,kE]
 intros
 refine gu (d:=decide ((B.length:Int)<n)) (fun _=>?_) ?_
 ·refine pM hr ?_
  simp only [and_true,aO]
 refine fun _=>cN (fun _=>h) (fun hc=>?_);simp only [aks,decide_eq_false_iff_not] at hc;omega
theorem AH {k:Nat} (hr:Rd H b o B) (hk:k≤32) (ZH:k≤B.length)
  (h: ∀H' rest acc n,lJ H' b o [str rest,u64 acc,i64 n]→B=a_ acc n++toBits rest→acc<2 ^ n→n<40→k≤n→kH b o 3 none_ none_ H H' →R (.tuple #[u64 (fV (B.take k)),.bool true]) H'):ab 277 #[at_ b o,i64 k] H R:=by
 have SD :=hr;obtain⟨⟨rest,acc,n,hs,he,ha,hn⟩,hb⟩:=hr;have hlen:B.length=n+8*rest.length:=by rw [he,aiV,aX,bj]
 refine oo.vc _ _ _ _ ?_;simp only [aO,bc,fB,bq,aD,ae,ax,fC,gr,alk,kE]
 intros
 refine gu (d:=false) (fun _=>?_) ?_
 ·refine pM SD ?_
  simp only [and_true,aO];rw [ei]
 rw [ei];refine fun _=>?_;simp only [Bool.or_false,ak];refine JT hk hs ha hn (by omega) (by omega) fun H1 lS gj n' ja IK nQ Ct mB c1=>?_;simp only [bo (ja.cell (k:=1) rfl),cu];refine⟨by omega,?_⟩;have hpw: (2:Nat) ^ n' ≤2 ^ 39:=ajk (by decide) (by omega);rw [Am (by omega) hk];have hv:gj %2 ^ k=fV (B.take k):=by
  rw [he,←IK,ajZ (by rw [aX];exact mB)];have: (a_ gj n').take k=a_ gj k:=by
   conv=>lhs;rw [show n' =k+ (n' - k) by omega,jO]
   rw [ajZ (by rw [aX];exact aiZ _),ajf (by rw [aX];exact aiZ _)]
  rw [this,gO]
 rw [hv];exact h H1 lS gj n' ja (by rw [he,IK]) nQ Ct mB c1
theorem JU {k:Nat} (hr:Rd H b o B) (hk:k≤32) (ZH:k≤B.length) (h: ∀H',Rd H' b o B→kH b o 3 none_ none_ H H' →R (.tuple #[u64 (fV (B.take k)),.bool true]) H'):ab 277 #[at_ b o,i64 k] H R:=
 AH hr hk ZH fun H' rest acc n hs he ha hn mB c=>h H' ⟨⟨rest,acc,n,hs,he,ha,hn⟩,hr.xH⟩ c
theorem PT {n:Int} (hr:Rd H b o B) (sj: ¬ (0≤n∧n≤32∧n≤(B.length:Int))) (h:R (.tuple #[.int .u64 0,.bool false]) H):ab 274 #[at_ b o,.int .i64 n] H R:=by
 refine om.vc _ _ _ _ ?_;refine PR hr sj ?_;simp only [jB,aju,ajn,ak];exact⟨fun H' =>H=H',fun _ H' e=>e ▸ h,rfl⟩
theorem AI {k:Nat} (hr:Rd H b o B) (hk:k≤32) (ZH:k≤B.length) (h: ∀H',Rd H' b o (B.drop k)→kH b o 3 none_ none_ H H' →R (.tuple #[u64 (fV (B.take k)),.bool true]) H'):ab 274 #[at_ b o,i64 k] H R:=by
 have hb:=hr.xH;refine om.vc _ _ _ _ ?_;refine AH hr hk ZH fun H1 rest acc n hs he ha hn mB c1=>?_;simp only [jB,aju,ajn,aL];refine⟨fun H' =>Rd H' b o (B.drop k)∧kH b o 3 none_ none_ H H',fun _ H' e=>h H' e.1 e.2,?_⟩;refine tH hs mB hn fun H2 lL c2=> ⟨⟨⟨rest,acc/2 ^ k,n - k,lL,by rw [he,Df mB],EG ha mB,by omega⟩,by rw [ai4];omega⟩,c1.trans c2⟩
theorem xI (hr:Rd H b o B) (h: ∀H' rest acc n,lJ H' b o [str rest,u64 acc,i64 n]→B.drop (B.length%8)=a_ acc n++toBits rest→acc<2 ^ n→n<40→n%8=0→kH b o 3 none_ none_ H H' →R (.tuple #[]) H'):ab 223 #[at_ b o] H R:=by
 obtain⟨⟨rest,acc,n,hs,he,ha,hn⟩,hb⟩:=hr;have hlen:B.length=n+8*rest.length:=by rw [he,aiV,aX,bj]
 refine uF.vc _ _ _ ?_;simp only [aD,ae,ax,bo (hs.cell (k:=2) rfl),gz,ne_eq,Int.reduceEq,not_false_eq_true,true_and,v8,aL];rw [akh (by omega),show (n:Int) %8= ((n%8:Nat):Int) by omega];refine tH hs (by omega) hn fun H2 lL c2=>?_;refine h H2 rest _ _ lL ?_ (EG ha (by omega)) (by omega) (by omega) c2;rw [Df (by omega),←he,show B.length%8=n%8 by omega]
theorem xJ (hr:Rd H b o B) (h: ∀H',Rd H' b o (B.drop (B.length%8))→kH b o 3 none_ none_ H H' →R (.tuple #[]) H'):ab 223 #[at_ b o] H R:=
 xI hr fun H' rest acc n hs he ha hn h8 c=>h H' ⟨⟨rest,acc,n,hs,he,ha,hn⟩,by have:=hr.xH;rw [ai4];omega⟩ c
theorem AJ {n:Int} (Ct:n≤9223372036854775807) (hr:Rd H b o B)
  (h: ∀H' (k:Nat),k=min n.toNat ((B.length - B.length%8) /8)→Rd H' b o ((B.drop (B.length%8)).drop (8*k))→kH b o 3 none_ none_ H H' →R (str (bm ((B.drop (B.length%8)).take (8*k)))) H'):ab 176 #[at_ b o,.int .i64 n] H R:=by
 have hb:=hr.xH;have ZI:=hr.lt;refine wk.vc _ _ _ _ ?_;simp only [aD,ae,ax,ajq,gZ,fC,ak];refine xI hr fun H1 rest acc m hs he ha hm h8 c1=>?_;generalize hC:B.drop (B.length%8)=C at*;have Yg:C.length=B.length - B.length%8:=by rw [←hC,ai4]
 rw [←Yg] at h;have Vt:C.length=m+8*rest.length:=by rw [he,aiV,aX,bj]
 refine av (fun hc=>?_) (fun hc=>?_)
 ·have h:=h H1 0 (by omega) ⟨⟨rest,acc,m,hs,by simpa using he,ha,hm⟩,by simp;omega⟩ c1
  simpa [bm] using h
 refine⟨fun n1 v H' => ∃ (j gj m' :Nat) (D:List UInt8),n1= .int .i64 (n - j)∧(j:Int)≤n∧lJ H' b o [str rest,u64 gj,i64 m']∧gj <2 ^ m' ∧m' <40∧m' %8=0∧D.length=j∧toBits D++ (a_ gj m' ++toBits rest)=C∧jJ H' v 1 (D.map bu)∧(∀k,aY v=some k→H.size≤k)∧kH b o 3 none_ none_ H H',
  fun n1 _ _=>match n1 with| .int _ x=>x.toNat|_=>0,⟨0,acc,m,[],by simp,by omega,hs,ha,hm,h8,rfl,by rw [he];rfl,.inl ⟨rfl,rfl⟩,by simp [aY],c1⟩,?_⟩
 rintro _ _ v H2 ⟨j,gj,m',D,rfl,hj,lL,Oz,JV,h82,Yh,hDC,o2,k2,c2⟩;have acZ:8*j+m' =m:=by
  have:=congrArg List.length hDC;rw [aiV,aiV,aX,bj,bj,Vt,Yh] at this;omega
 simp only [bo (lL.cell (k:=2) rfl),bc,bq,fF,j7,bo (lL.cell (k:=1) rfl),cP,bo (lL.cell0 rfl),n8,bB,ni,kF,mF,eD,ajt];refine fun _=>av (fun gE=>?_) (fun gE=>?_)
 ·rw [uB]
  refine o2.Ef (n:=j) (by decide) rfl rfl rfl (by simp [Yh]) (by omega) fun v2 H3 o3 i3 s3 k3=>?_;have Vu:aY v≠some b:=fun e=>by have:=k2 b e;omega
  have IM:lJ H3 b o [str rest,u64 gj,i64 m']:=lL.same (i3 b lL.lt Vu);have c3:kH b o 3 none_ none_ H H3:= ⟨by have:=c2.size;omega,fun i hi hib _=>by
    rw [i3 i (by have:=c2.size;omega) (fun e=>by have:=k2 i e;omega)];exact c2.ne i hi hib (fun h=>h),fun cs t fr hc=>by
    obtain⟨c',g1,g2⟩:=c2.lk cs t fr hc;exact⟨c',by rw [i3 b lL.lt Vu];exact g1,g2⟩,fun k hk=>hk.elim⟩
  refine tH (k:=8) IM (by omega) JV fun H4 MX c4=>?_;rw [ff (n:=n - (j:Int) - 1) (by omega) (by omega)];refine⟨⟨j+1,gj /2 ^ 8,m' - 8,D++ [UInt8.ofNat (gj %256)],by congr 1;omega,by omega,MX,EG Oz (by omega),by omega,by omega,by simp [Yh],?_,?_,fun k hk=>?_,c3.trans c4⟩,by show (_:Int).toNat< (_:Int).toNat;omega⟩
  ·rw [←hDC,cG,ai0,sJ (n:=m') (by omega),ai0]
  ·rw [ajy]
   have B6:aY v2≠some b:=fun e=>by
    rcases k3 b e with h' |h'
    ·exact Vu h'
    ·have:=lL.lt;omega
   exact c4.own o3 B6 (fun k hk h=>h)
  ·rcases k3 k hk with h' |h'
   ·exact k2 k h'
   ·have:=c2.size;omega
 ·have c_: (o2.sl (by decide)).str (K:=fun z=>True) trivial= (o2.sl (by decide)).str (K:=fun z=>True) trivial:=rfl
  refine Sl.str (o2.sl (by decide)) ?_;simp only [z_,qI,bB];have OB:rest.length≤9223372036854775807:=by omega
  have Yi:0≤min (n - (j:Int)) (rest.length:Int):=by omega
  refine⟨by omega,by omega,by rw [ai2];omega,by omega,by omega,?_⟩;refine jM (F:=none_) (n:=3) lL rfl (by simp) rfl fun H3 s3 IM c3=>?_;generalize hq: (min (n - (j:Int)) (rest.length:Int)).toNat=q at*;have xD:j+q=min n.toNat (C.length/8):=by
   by_cases FF:m' =0
   ·subst FF;omega
   ·have: (j:Int)=n:=by
     rcases Int.lt_or_eq_of_le hj with h' |h'
     ·exact absurd ⟨by omega,by omega⟩ gE
     ·exact h'
    omega
  have aaO:q≠0→m' =0:=fun h0=>by
   rcases akV m' with h' |h'
   ·exact h'
   ·exact absurd ⟨by omega,by omega⟩ gE
  have PU:q≤rest.length:=by omega
  have Jr:C=toBits (D++rest.take q)++ (a_ gj m' ++toBits (rest.drop q)):=by
   rw [←hDC,cG,ai0]
   congr 1
   by_cases h0:q=0
   ·subst h0;simp [toBits]
   ·have FF:=aaO h0
    subst FF;rw [pC,aje,aje,←cG,ajp]
  have h:=h H3 (j+q) xD ⟨⟨rest.drop q,gj,m',?_,?_,Oz,JV⟩,by rw [ai4];omega⟩ (c2.trans c3)
  ·have ac0:rest=rest:=rfl
   have e1:bm (C.take (8* (j+q)))=D++rest.take q:=by
    have hl: (toBits (D++rest.take q)).length=8* (j+q):=by rw [bj,aiV,ai2,Yh];omega
    rw [Jr,←hl,ajZ (aiZ _),ajc,jx]
   rw [e1] at h
   simpa using h
  ·have e2:List.take (rest.length - q) (List.drop q rest)=rest.drop q:=by rw [ajf (by rw [ai4];omega)]
   rw [e2] at IM;exact IM
  ·have hl: (toBits (D++rest.take q)).length=8* (j+q):=by rw [bj,aiV,ai2,Yh];omega
   conv=>lhs;rw [Jr]
   rw [←hl,ajR (aiZ _),aky (aiZ _),aje]
end
section
set_option maxRecDepth 100000
def cU:Nat→List UInt8→Nat→List UInt8
 |0,b,_=>b
 |k+1,b,d=>cU k (b++ [b.getD (b.length - d) 0]) d
theorem r8: ∀ (k:Nat) (b:List UInt8) (d:Nat),cU (k+1) b d=cU k b d++ [(cU k b d).getD ((cU k b d).length - d) 0]
 |0,b,d=>rfl
 |k+1,b,d=>by
  rw [cU,r8 k,←cU]
theorem mg: ∀ (k:Nat) (b:List UInt8) (d:Nat),(cU k b d).length=b.length+k
 |0,b,d=>rfl
 |k+1,b,d=>by rw [cU,mg k];simp;omega
theorem PV (l:List UInt8) (i:Nat) (h:i<l.length): (l.map bu)[i]? =some (bu (l.getD i 0)):=by
 rw [aji,ai1 h,ai3,ai1 h];rfl
theorem Dg: ∀ (k:Nat) (b:List UInt8) (d:Nat),∃t,cU k b d=b++t∧t.length=k
 |0,b,d=> ⟨[],by simp [cU],rfl⟩
 |k+1,b,d=>by
  obtain⟨t,h1,h2⟩:=Dg k (b++ [b.getD (b.length - d) 0]) d;exact⟨b.getD (b.length - d) 0::t,by rw [cU,h1];simp,by simp [h2]⟩
theorem JW (k:Nat) (b:List UInt8) (d:Nat): (cU k b d).take b.length=b:=by
 obtain⟨t,h1,h2⟩:=Dg k b d;rw [h1];simp
end
section
set_option maxRecDepth 100000
variable {H:ag} {R:Value→ag→Prop}
structure Tok where
 (b:UInt8) (n d:Int)
abbrev Tok.cells (t:Tok):List Value:= [bu t.b,.int .i64 t.n,.int .i64 t.d]
abbrev Tok.v (t:Tok):Value:= .agg t.cells.toArray
def Tok.obj (t:Tok):Obj:= .cells t.cells.toArray 145 (0,0)
def dw (l:List Tok):List Value:=l.flatMap Tok.cells
theorem iX: ∀l:List Tok,(dw l).length=l.length*3
 | []=>rfl
 |t::r=>by
  have:=iX r;simp only [dw,akx,aiV,ai6,ai_] at this ⊢;omega
theorem u0: ∀ (l:List Tok) (i:Nat) (t:Tok),l[i]? =some t→((dw l).drop (i*3)).take 3=t.cells
 | [],i,t,h=>by simp at h
 |u::r,0,t,h=>by
  simp only [ajn,ai8] at h;subst h
  simp [dw,Tok.cells]
 |u::r,i+1,t,h=>by
  simp only [aju] at h;have:=u0 r i t h;rw [←this];show ((u.cells++dw r).drop ((i+1)*3)).take 3=_;rw [show (i+1)*3=u.cells.length+i*3 by simp [Tok.cells];omega,amC];simp only [akd (show [bu u.b,Value.int IntKind.i64 u.n,Value.int IntKind.i64 u.d].length≤ [bu u.b,Value.int IntKind.i64 u.n,Value.int IntKind.i64 u.d].length+i*3 by omega),aje];rw [show u.cells.length+i*3 - u.cells.length=i*3 by omega]
def fL (t:Tok):Bool:=if t.n=0 then decide (t.d=0) else decide ((t.b.toNat:Int)=0∧3≤t.n∧t.n≤258∧1≤t.d∧t.d≤32768)
theorem EH {t:Tok} (h: ∀H',Ext H H' →R (.bool (fL t)) H'):ab 159 #[t.v] H R:=by
 refine Cm.vc _ _ _ ?_;refine fI fun H1 s1 e1 b1=>?_;have b1:H1[H.size]? =some t.obj:=b1;have h:=h H1 e1;simp only [ae,ax,ajb,mC b1,aju,ajn,aZ,dH,ajq,fF,j7,gZ];refine av (fun hc=>?_) (fun hc=>?_)
 ·rw [fL,if_pos hc] at h;exact h
 ·rw [fL,if_neg hc] at h
  intros
  refine Ea ?_ h;rw [ajV];simp only [decide_eq_true_eq];omega
def fu:List Tok→List UInt8→Option (List UInt8)
 | [],b=>some b
 |t::r,b=>if fL t=true∧t.d≤(b.length:Int) then fu r (cU t.n.toNat (if t.n=0 then b++ [t.b] else b) t.d.toNat) else none
theorem jQ {t:Tok} (h:fL t=true): (t.n=0∧t.d=0)∨(3≤t.n∧t.n≤258∧1≤t.d∧t.d≤32768):=by
 unfold fL at h
 split at h
 ·left;exact⟨by assumption,by simpa using h⟩
 ·right;simp only [decide_eq_true_eq] at h;omega
end
section
set_option maxRecDepth 100000
variable {H:ag} {R:Value→ag→Prop}
def wK:Nat→Int→Int→Nat→Int→Int × Int
 |0,k,a,e,_=> (a+k*2 ^ e,e)
 |f+1,k,a,e,st=>if st≤k then wK f (k - st) (a+st*2 ^ e) (e+1) st else (a+k*2 ^ e,e)
def fp (k least free st:Int):Int × Int:=if k<free then (least+k,0) else wK 40 (k - free) (least+free) 1 st
theorem AK {k least free st:Int} (hk:0≤k) (CR:k≤31) (hl:0≤least) (Xb:least≤3) (hf:0≤free) (hf2:free≤8) (hs:2≤st) (lL:st≤4)
  (h:R (.tuple #[.int .i64 (fp k least free st).1,.int .i64 (fp k least free st).2]) H):ab 242 #[.int .i64 k,.int .i64 least,.int .i64 free,.int .i64 st] H R:=by
 refine PD.vc _ _ _ _ _ _ ?_;simp only [ay,bq,aO];unfold fp at h;refine av (fun hc=>?_) (fun hc=>?_)
 ·rw [if_pos hc] at h
  rw [aJ];exact h
 rw [if_neg hc] at h;rw [aJ,aJ];refine⟨fun v a e H' => ∃ (k' a' :Int) (e' f:Nat),v= .int .i64 k' ∧a= .int .i64 a' ∧e= .int .i64 e' ∧H=H' ∧0≤k' ∧k' +e' ≤32∧1≤e' ∧e' +f=41∧0≤a' ∧a' ≤300+32*2 ^ e' ∧wK f k' a' e' st=wK 40 (k - free) (least+free) 1 st,
  fun v _ _ _=>match v with| .int _ i=>i.toNat|_=>0,⟨k - free,least+free,1,40,rfl,rfl,rfl,rfl,by omega,by omega,by omega,by omega,by omega,by omega,rfl⟩,?_⟩
 rintro _ _ _ _ _ ⟨k',a',e',f,rfl,rfl,rfl,rfl,h1,h2,h3,h4,h5,h6,h7⟩;have hP: (1:Int)≤2 ^ e' :=by
  have: (0:Int)<2 ^ e' :=alm (by decide);omega
 have hP2: (2:Int) ^ e' ≤2 ^ 32:=by
  have: (2:Nat) ^ e' ≤2 ^ 32:=ajk (by decide) (by omega)
  exact_mod_cast this
 have Yi:min ((e' :Int)).toNat IntKind.i64.bits=e' :=by
  show min ((e' :Int)).toNat 64=e';omega
 have hkP:k' *2 ^ e' ≤32*2 ^ e' :=amS (by omega) (by omega);have ae7:0≤k' *2 ^ e' :=Int.mul_nonneg h1 (by omega);have hsP:st*2 ^ e' ≤4*2 ^ e' :=amS (by omega) (by omega);have ae8:0≤st*2 ^ e' :=Int.mul_nonneg (by omega) (by omega);simp only [true_and,bq,ay,fB,Yi,dH]
 match f,h4,h7 with
 |0,h4,h7=>omega
 |f+1,h4,h7=>
  have h7: (if st≤k' then wK f (k' - st) (a' +st*2 ^ e') (e' +1) st else (a' +k' *2 ^ e',(e' :Int)))=wK 40 (k - free) (least+free) 1 st:=h7;refine av (fun gE=>?_) (fun gE=>?_)
  ·rw [if_pos gE] at h7
   refine⟨by omega,?_⟩;rw [ff (n:=st*2 ^ e') (by omega) (by omega),ff (n:=a' +st*2 ^ e') (by omega) (by omega),ff (n:= (e' :Int)+1) (by omega) (by omega),ff (n:=k' - st) (by omega) (by omega)];refine⟨⟨k' - st,a' +st*2 ^ e',e' +1,f,rfl,rfl,rfl,by omega,by omega,by omega,by omega,by omega,?_,h7⟩,by show (_:Int).toNat< (_:Int).toNat;omega⟩;have hpe: (2:Int) ^ (e' +1)=2 ^ e' *2:=Int.pow_succ _ _;rw [hpe];omega
  ·rw [if_neg gE] at h7
   rw [←h7] at h;refine⟨by omega,?_⟩;rw [ff (n:=k' *2 ^ e') (by omega) (by omega),aJ];exact h
def lenOf (s:Int):Int × Int:=if s=285 then (258,0) else fp (s - 257) 3 8 4
def bn (s:Int):Int × Int:=fp s 1 4 2
theorem nK {s:Int} (h:R (if s<257∨285<s then .tuple #[.int .i64 0,.int .i64 0,.bool false] else .tuple #[.int .i64 (lenOf s).1,.int .i64 (lenOf s).2,.bool true]) H):ab 210 #[.int .i64 s] H R:=by
 refine Gz.vc _ _ _ ?_;simp only [bc,bq,aZ,aO,gr,kE];refine fun _=>av (fun hc=>?_) (fun hc=>?_)
 ·rw [if_pos hc] at h;exact h
 rw [if_neg hc] at h;refine av (fun gE=>?_) (fun gE=>?_)
 ·rw [lenOf,if_pos gE] at h;exact h
 ·rw [lenOf,if_neg gE] at h
  rw [aJ];refine AK (by omega) (by omega) (by decide) (by decide) (by decide) (by decide) (by decide) (by decide) ?_;simp only [jB,aju,ajn];exact h
theorem xK {s:Int} (h:R (if s<0∨29<s then .tuple #[.int .i64 0,.int .i64 0,.bool false] else .tuple #[.int .i64 (bn s).1,.int .i64 (bn s).2,.bool true]) H):ab 211 #[.int .i64 s] H R:=by
 refine MD.vc _ _ _ ?_;simp only [bc,aO,gr,kE];refine fun _=>av (fun hc=>?_) (fun hc=>?_)
 ·rw [if_pos hc] at h;exact h
 rw [if_neg hc] at h;refine AK (by omega) (by omega) (by decide) (by decide) (by decide) (by decide) (by decide) (by decide) ?_;simp only [jB,aju,ajn];exact h
def findF (g:Int→Int × Int) (n:Int):Nat→Int→Int
 |0,s=>s
 |k+1,s=>if (g s).1≤n then s else findF g n k (s - 1)
abbrev S3 (s b v:Int):Value:= .agg #[.int .i64 s,.int .i64 b,.int .u64 v]
theorem AL {g:Int→Int × Int} {fv:Value} {n first last:Int} (FI:first≤last) (h0:0≤first) (h1:last≤1000)
  (hg: ∀ (s:Int) (H:ag) (R:Value→ag→Prop),first≤s→s≤last→R (.tuple #[.int .i64 (g s).1,.int .i64 (g s).2,.bool true]) H→ng Tryz.prog Tryz.C fv [.int .i64 s] H R)
  (h: ∀H',Ext H H' →R (S3 (findF g n (last - first).toNat last) (g (findF g n (last - first).toNat last)).2 (IntKind.u64.wrap (IntKind.i64.wrap (n - (g (findF g n (last - first).toNat last)).1)))) H'):
  ab 209 #[.int .i64 n,.int .i64 first,.int .i64 last,fv] H R:=by
 refine SU.vc _ _ _ _ _ _ ?_;refine fI fun H1 s1 e1 b1=>?_;refine⟨fun v H' => ∃ (s:Int) (k:Nat),v= .int .i64 s∧H1=H' ∧s=first+k∧s≤last∧findF g n k s=findF g n (last - first).toNat last,fun v _=>match v with| .int _ i=> (i - first).toNat|_=>0,⟨last,(last - first).toNat,rfl,rfl,by omega,by omega,rfl⟩,?_⟩;rintro _ _ _ ⟨s,k,rfl,rfl,hs,iJ,OC⟩;simp only [da,dZ,ajA,ai6,ai_,ajb,Nat.reduceAdd,Nat.reduceLeDiff,List.bY,b7,ajU,cR,br,true_and,bq,bc];refine av (fun hc=>?_) (fun hc=>?_)
 ·refine hg s _ _ (by omega) iJ ?_
  simp only [true_and,jB,aju,ajn,dZ,ajA,ai6,ai_,ajb,List.bY,b7,ajS,ajU,Nat.reduceAdd,cR,jl,bq,cP,gZ]
  match k,hs,OC with
  |0,hs,OC=>omega
  |k+1,hs,OC=>
   rw [findF] at OC;refine av (fun gE=>?_) (fun gE=>?_)
   ·rw [if_pos gE] at OC
    refine dt b1 (by rfl) (by rfl) (by rfl) fun H2 _ u2=>?_;rw [dm u2.at_ (by rfl)];have h:=h H2 (u2.ext e1 (aiZ _));rw [←OC] at h;exact h
   ·rw [if_neg gE] at OC
    rw [aJ];exact⟨⟨s - 1,k,rfl,by omega,by omega,OC⟩,by show (_:Int).toNat< (_:Int).toNat;omega⟩
 ·refine hg first _ _ (by omega) FI ?_
  simp only [jB,aju,ajn,dZ,ajA,ai6,ai_,ajb,List.bY,b7,ajS,ajU,Nat.reduceAdd,cR,jl,true_and,bq,cP];have hk:k=0:=by omega
  subst hk;have hsf:s=first:=by omega
  subst hsf;refine dt b1 (by rfl) (by rfl) (by rfl) fun H2 _ u2=>?_;rw [dm u2.at_ (by rfl)];have h:=h H2 (u2.ext e1 (aiZ _));rw [←OC] at h;exact h
def jn (n:Int):Int:=findF lenOf n 28 285
def jD (n:Int):Int:=findF bn n 29 29
def MY (n:Int):Value:=if n<3∨258<n then S3 0 0 0 else S3 (jn n) (lenOf (jn n)).2 (IntKind.u64.wrap (IntKind.i64.wrap (n - (lenOf (jn n)).1)))
def Dh (n:Int):Value:=if n<1∨32768<n then S3 0 0 0 else S3 (jD n) (bn (jD n)).2 (IntKind.u64.wrap (IntKind.i64.wrap (n - (bn (jD n)).1)))
theorem xL {n:Int} (h: ∀H',Ext H H' →R (MY n) H'):ab 164 #[.int .i64 n] H R:=by
 refine MC.vc _ _ _ ?_;refine fI fun H1 s1 e1 b1=>?_;simp only [bc,br,aO,gr,kE];refine fun _=>av (fun hc=>?_) (fun hc=>?_)
 ·refine dt b1 (by rfl) (by rfl) (by rfl) fun H2 _ u2=>?_
  rw [dm u2.at_ (by rfl)];have h:=h H2 (u2.ext e1 (aiZ _));rw [MY,if_pos hc] at h;exact h
 ·refine AL (g:=lenOf) (by decide) (by decide) (by decide) (fun s H R ja lL hR=>?_) fun H2 e2=>?_
  ·refine nK ?_
   rw [if_neg (by omega)];exact hR
  ·refine dt (e2.lk b1) (by rfl) (by rfl) (by rfl) fun H3 _ u3=>?_
   rw [dm u3.at_ (by rfl)];have h:=h H3 (u3.ext (e1.trans e2) (aiZ _));rw [MY,if_neg hc] at h;exact h
theorem Di {n:Int} (h: ∀H',Ext H H' →R (Dh n) H'):ab 165 #[.int .i64 n] H R:=by
 refine SS.vc _ _ _ ?_;refine fI fun H1 s1 e1 b1=>?_;simp only [bc,br,aO,gr,kE];refine fun _=>av (fun hc=>?_) (fun hc=>?_)
 ·refine dt b1 (by rfl) (by rfl) (by rfl) fun H2 _ u2=>?_
  rw [dm u2.at_ (by rfl)];have h:=h H2 (u2.ext e1 (aiZ _));rw [Dh,if_pos hc] at h;exact h
 ·refine AL (g:=bn) (by decide) (by decide) (by decide) (fun s H R ja lL hR=>?_) fun H2 e2=>?_
  ·refine xK ?_
   rw [if_neg (by omega)];exact hR
  ·refine dt (e2.lk b1) (by rfl) (by rfl) (by rfl) fun H3 _ u3=>?_
   rw [dm u3.at_ (by rfl)];have h:=h H3 (u3.ext (e1.trans e2) (aiZ _));rw [Dh,if_neg hc] at h;exact h
theorem tI (g:Int→Int × Int) (n:Int): ∀ (k:Nat) (s first:Int),s=first+k→(g first).1≤n→(∀s',s<s' →s' ≤s+1→True)→
  first≤findF g n k s∧findF g n k s≤s∧(g (findF g n k s)).1≤n∧(findF g n k s=s∨n< (g (findF g n k s+1)).1)
 |0,s,first,hs,hf,_=>by
  have:s=first:=by omega
  subst this;exact⟨alp _,alp _,hf,.inl rfl⟩
 |k+1,s,first,hs,hf,_=>by
  rw [findF]
  by_cases hc: (g s).1≤n
  ·rw [if_pos hc];exact⟨by omega,alp _,hc,.inl rfl⟩
  ·rw [if_neg hc]
   obtain⟨h1,h2,h3,h4⟩:=tI g n k (s - 1) first (by omega) hf (fun _ _ _=>trivial);refine⟨h1,by omega,h3,.inr ?_⟩;rcases h4 with h4|h4
   ·rw [h4,show s - 1+1=s by omega];omega
   ·exact h4
theorem MZ: ∀k:Fin 28,(lenOf (257+ ((k.val:Nat):Int)+1)).1≤(lenOf (257+ ((k.val:Nat):Int))).1+2 ^ (lenOf (257+ ((k.val:Nat):Int))).2.toNat∧0≤(lenOf (257+ ((k.val:Nat):Int))).2∧(lenOf (257+ ((k.val:Nat):Int))).2≤5:=by decide+kernel
theorem JX: ∀k:Fin 30,(k.val<29→(bn (((k.val:Nat):Int)+1)).1≤(bn ((k.val:Nat):Int)).1+2 ^ (bn ((k.val:Nat):Int)).2.toNat)∧0≤(bn ((k.val:Nat):Int)).2∧(bn ((k.val:Nat):Int)).2≤13:=by decide+kernel
theorem pN {n:Int} (h0:3≤n) (h1:n≤258):257≤jn n∧jn n≤285∧(lenOf (jn n)).1≤n∧n< (lenOf (jn n)).1+2 ^ (lenOf (jn n)).2.toNat∧0≤(lenOf (jn n)).2∧(lenOf (jn n)).2≤5:=by
 obtain⟨f1,f2,f3,f4⟩:=tI lenOf n 28 285 257 (by decide) (by rw [show (lenOf 257).1=3 by decide+kernel];omega) (fun _ _ _=>trivial);refine⟨f1,f2,f3,?_⟩
 change 257≤jn n at f1
 change jn n≤285 at f2
 change (lenOf (jn n)).1≤n at f3
 change jn n=285∨n< (lenOf (jn n+1)).1 at f4
 generalize jn n=s at*
 by_cases hs:s=285
 ·subst hs
  have e1: (lenOf 285).1=258:=by decide+kernel
  have e2: (lenOf 285).2=0:=by decide+kernel
  rw [e1,e2];exact⟨by simp;omega,by decide,by decide⟩
 ·have hk:=MZ ⟨(s - 257).toNat,by omega⟩
  dsimp only at hk
  rw [show (257:Int)+ (((s - 257).toNat:Nat):Int)=s by omega] at hk;refine⟨?_,hk.2⟩;rcases f4 with f4|f4<;>omega
theorem pO {n:Int} (h0:1≤n) (h1:n≤32768):0≤jD n∧jD n≤29∧(bn (jD n)).1≤n∧n< (bn (jD n)).1+2 ^ (bn (jD n)).2.toNat∧0≤(bn (jD n)).2∧(bn (jD n)).2≤13:=by
 obtain⟨f1,f2,f3,f4⟩:=tI bn n 29 29 0 (by decide) (by rw [show (bn 0).1=1 by decide+kernel];omega) (fun _ _ _=>trivial);refine⟨f1,f2,f3,?_⟩
 change 0≤jD n at f1
 change jD n≤29 at f2
 change (bn (jD n)).1≤n at f3
 change jD n=29∨n< (bn (jD n+1)).1 at f4
 generalize jD n=s at*;have hk:=JX ⟨s.toNat,by omega⟩
 dsimp only at hk
 rw [show ((s.toNat:Nat):Int)=s by omega] at hk;refine⟨?_,hk.2⟩
 by_cases hs:s=29
 ·subst hs
  have e1: (bn 29).1=24577:=by decide+kernel
  have e2: (bn 29).2=13:=by decide+kernel
  rw [e1,e2];show n<24577+8192;omega
 ·have:=hk.1 (by omega)
  rcases f4 with f4|f4<;>omega
end
section
set_option maxRecDepth 100000
inductive Rs (α:Type) where
 |ok (a:α) (B:List Bool)
 |er (e:Int)
def Rs.bind {α β:Type}:Rs α→(α→List Bool→Rs β)→Rs β
 | .ok a B,f=>f a B
 | .er e,_=> .er e
def dQ (n:Nat) (B:List Bool):Rs Nat:=if n≤B.length then .ok (fV (B.take n)) (B.drop n) else .er 2
open Classical in
noncomputable def eM (zs:List Int) (B:List Bool):Rs Nat:=
 if h: ∃s,hit (natL zs) B s then .ok h.choose (B.drop ((natL zs).getD h.choose 0)) else .er (if more (natL zs) (B.take 15) then 2 else 4)
def oI (s:Nat) (ah:List Int) (B:List Bool):Rs (Nat × Int):=
 if s=16 then (if ah= [] then .er 3 else (dQ 2 B).bind fun n B=> .ok (3+n,ah.getD (ah.length - 1) 0) B)
 else if s=17 then (dQ 3 B).bind fun n B=> .ok (3+n,0) B
 else if s=18 then (dQ 7 B).bind fun n B=> .ok (11+n,0) B
 else .ok (1,(s:Int)) B
noncomputable def kc:Nat→List Int→Nat→List Int→List Bool→Rs (List Int)
 |0,_,_,_,_=> .er 1
 |k+1,zs,n,out,B=>if n≤out.length then .ok out B else
  (eM zs B).bind fun s B1=> (oI s out B1).bind fun r B2=>
  if n<out.length+r.1 then .er 20 else kc k zs n (out++List.replicate r.1 r.2) B2
def bF:List Nat:= [16,17,18,0,8,7,9,6,10,5,11,4,12,3,13,2,14,1,15]
def kz:List Nat→List Int→List Bool→Rs (List Int)
 | [],l,B=> .ok l B
 |s::r,l,B=> (dQ 3 B).bind fun v B=>kz r (l.set s (v:Int)) B
noncomputable def qu (B:List Bool):Rs (List Int × List Int):=
 (dQ 14 B).bind fun v B=>
 if 286<v%32+257∨30<v/32%32+1 then .er 20 else
 (kz (bF.take (v/1024+4)) (List.replicate 19 0) B).bind fun t B=>
 if ia t false≠0 then .er (ia t false) else
 (kc (v%32+257+ (v/32%32+1)+1) t (v%32+257+ (v/32%32+1)) [] B).bind fun l B=>
 if l.getD 256 0=0 then .er 12 else
 if ia (l.take (v%32+257)) false≠0 then .er (ia (l.take (v%32+257)) false) else
 if ia (l.drop (v%32+257)) true≠0 then .er (ia (l.drop (v%32+257)) true) else
 .ok (l.take (v%32+257),l.drop (v%32+257)) B
def gm:List Int:=List.replicate 144 8++List.replicate 112 9++List.replicate 24 7++List.replicate 8 8
def nc:List Int:=List.replicate 32 5
inductive St where
 |hd
 |cp (left:Nat) (last:Bool)
 |tl (sy di:List Int) (last:Bool)
 |dn
structure DM where
 (st:St) (B:List Bool) (W:List UInt8)
def dJ (B:List Bool):List Bool:=B.drop (B.length%8)
def ib (last:Bool) (B:List Bool) (W:List UInt8):DM:=if last then ⟨.dn,dJ B,W⟩ else ⟨.hd,B,W⟩
noncomputable def fM (B:List Bool):Rs St:= (dQ 3 B).bind fun v B=>
 if v/2=0 then (dQ 32 (dJ B)).bind fun x B=>if (x%65536) ^^^ (x/65536)≠65535 then .er 8 else .ok (.cp (x%65536) (decide (v%2=1))) B
 else if v/2=1 then .ok (.tl gm nc (decide (v%2=1))) B
 else if v/2=2 then (qu B).bind fun p B=> .ok (.tl p.1 p.2 (decide (v%2=1))) B
 else .er 3
noncomputable def fD (di:List Int) (s:Nat) (B:List Bool):Rs (Nat × Nat):=
 if 285<s then .er 4 else
 (dQ (lenOf s).2.toNat B).bind fun x B=> (eM di B).bind fun k B=>
 if 29<k then .er 4 else (dQ (bn k).2.toNat B).bind fun y B=> .ok ((lenOf s).1.toNat+x,(bn k).1.toNat+y) B
inductive SR where
 |go (D:DM) (o:List UInt8)
 |wait (D:DM) (o:List UInt8)
 |bad (e:Int)
def SR.of (D:DM) (e:Int):SR:=if e=2 then .wait D [] else .bad e
noncomputable def bV (D:DM):SR:=match D.st with
 | .hd=>match fM D.B with
  | .ok st B=> .go ⟨st,B,D.W⟩ []
  | .er e=>SR.of D e
 | .cp left last=>
  if min left ((dJ D.B).length/8)<left then .wait ⟨.cp (left - min left ((dJ D.B).length/8)) last,(dJ D.B).drop (8*min left ((dJ D.B).length/8)),D.W++bm ((dJ D.B).take (8*min left ((dJ D.B).length/8)))⟩ (bm ((dJ D.B).take (8*min left ((dJ D.B).length/8))))
  else .go (ib last ((dJ D.B).drop (8*left)) (D.W++bm ((dJ D.B).take (8*left)))) (bm ((dJ D.B).take (8*left)))
 | .tl sy di last=>match eM sy D.B with
  | .er e=>SR.of D e
  | .ok s B=>if s=256 then .go (ib last B D.W) [] else
   if s<256 then .go ⟨.tl sy di last,B,D.W++ [UInt8.ofNat s]⟩ [UInt8.ofNat s] else
   match fD di s B with
   | .er e=>SR.of D e
   | .ok p B=>if 1≤p.2∧p.2≤min D.W.length 32768 then .go ⟨.tl sy di last,B,cU p.1 D.W p.2⟩ ((cU p.1 D.W p.2).drop D.W.length) else .bad 6
 | .dn=> .wait D []
def St.iG:St→Bool
 | .dn=>true
 |_=>false
noncomputable def runM:Nat→DM→List UInt8 × DM × Int
 |0,D=> ([],D,0)
 |k+1,D=>if D.st.iG then ([],D,0) else match bV D with
  | .go D' o=> (o++ (runM k D').1,(runM k D').2)
  | .wait D' o=> (o,D',0)
  | .bad e=> ([],D,e)
def mM (D:DM):Nat:=2*D.B.length+ (match D.st with| .cp _ _=>1|_=>0)
noncomputable def run (D:DM):List UInt8 × DM × Int:=runM (mM D+1) D
theorem u9 {n:Nat} {B:List Bool} {x:Nat} {C:List Bool} (h:dQ n B= .ok x C):n≤B.length∧x=fV (B.take n)∧C=B.drop n:=by
 unfold dQ at h
 split at h
 ·cases h;exact⟨by assumption,rfl,rfl⟩
 ·cases h
structure Rs.less {α:Type} (r:Rs α) (n:Nat):Prop where
 h:match r with
  | .ok _ C=>C.length≤n
  | .er e=>e≠0
theorem Rs.less.mono {α:Type} {r:Rs α} {n m:Nat} (h:r.less n) (hm:n≤m):r.less m:=by
 cases r with
 |ok a B=>exact⟨ajv h.h hm⟩
 |er e=>exact⟨h.h⟩
theorem Rs.less.seq {α β:Type} {r:Rs α} {f:α→List Bool→Rs β} {n m:Nat} (h:r.less n) (hf: ∀a C,C.length≤n→(f a C).less m): (r.bind f).less m:=by
 cases r with
 |ok a B=>exact hf a B h.h
 |er e=>exact⟨h.h⟩
theorem iC {α:Type} {e:Int} {n:Nat} (h:e≠0): (Rs.er e:Rs α).less n:= ⟨h⟩
theorem iY {α:Type} {x:α} {B:List Bool} {n:Nat} (h:B.length≤n): (Rs.ok x B).less n:= ⟨h⟩
theorem gQ {k n:Nat} {B:List Bool} (h:B.length - k≤n): (dQ k B).less n:=by
 unfold dQ
 split
 ·exact iY (by rw [ai4];exact h)
 ·exact iC (by decide)
theorem tJ {zs:List Int} {B:List Bool}: (eM zs B).less (B.length - 1):=by
 unfold eM
 split
 ·rename_i hh
  have:=hh.choose_spec;have h1:=this.2.1;exact iY (by rw [ai4];omega)
 ·exact iC (by split<;>decide)
theorem M0 {s:Nat} {ah:List Int} {B:List Bool}: (oI s ah B).less B.length:=by
 unfold oI
 split
 ·split
  ·exact iC (by decide)
  ·exact(gQ (n:=B.length) (by omega)).seq fun a C h=>iY h
 split
 ·exact(gQ (n:=B.length) (by omega)).seq fun a C h=>iY h
 split
 ·exact(gQ (n:=B.length) (by omega)).seq fun a C h=>iY h
 ·exact iY (aiZ _)
theorem AM: ∀ (k:Nat) (zs:List Int) (n:Nat) (out:List Int) (B:List Bool),(kc k zs n out B).less B.length
 |0,_,_,_,_=>iC (by decide)
 |k+1,zs,n,out,B=>by
  unfold kc
  split
  ·exact iY (aiZ _)
  ·refine tJ.seq fun s C h=>M0.seq fun r E h2=>?_
   split
   ·exact iC (by decide)
   ·exact(AM k _ _ _ _).mono (by omega)
theorem AN: ∀ (r:List Nat) (l:List Int) (B:List Bool),(kz r l B).less B.length
 | [],_,_=>iY (aiZ _)
 |s::r,l,B=> (gQ (n:=B.length) (by omega)).seq fun v C h=> (AN r _ _).mono h
theorem M4 {B:List Bool}: (qu B).less B.length:=by
 unfold qu;refine(gQ (n:=B.length) (by omega)).seq fun v C h=>?_
 split
 ·exact iC (by decide)
 refine((AN _ _ C).mono h).seq fun t E h2=>?_
 split
 ·exact iC (by assumption)
 refine((AM _ _ _ _ E).mono h2).seq fun l F h3=>?_
 split
 ·exact iC (by decide)
 split
 ·exact iC (by assumption)
 split
 ·exact iC (by assumption)
 ·exact iY h3
theorem pQ (B:List Bool): (dJ B).length≤B.length∧(dJ B).length=B.length - B.length%8:=by unfold dJ;rw [ai4];omega
theorem JY {B:List Bool}: (fM B).less (B.length - 3):=by
 unfold fM;refine(gQ (n:=B.length - 3) (by omega)).seq fun v C h=>?_;have:=pQ C
 split
 ·refine(gQ (n:=B.length - 3) (by omega)).seq fun x E h2=>?_
  split
  ·exact iC (by decide)
  ·exact iY h2
 split
 ·exact iY h
 split
 ·exact(M4.mono h).seq fun p E h2=>iY h2
 ·exact iC (by decide)
theorem xM {B:List Bool} {st:St} {C:List Bool} (h:fM B= .ok st C):C.length+3≤B.length:=by
 have h1:=JY (B:=B);rw [h] at h1;unfold fM dQ at h
 split at h
 ·have h1:C.length≤B.length - 3:=h1.h
  omega
 ·cases h
theorem wL {zs:List Int} {B:List Bool} {s:Nat} {C:List Bool} (h:eM zs B= .ok s C):C.length+1≤B.length:=by
 have h1:=tJ (zs:=zs) (B:=B);rw [h] at h1;have h1:C.length≤B.length - 1:=h1.h;unfold eM at h
 split at h
 ·rename_i hh
  have g:=hh.choose_spec;have:=pJ g;have:=g.2.1;omega
 ·cases h
theorem xN {di:List Int} {s:Nat} {B:List Bool}: (fD di s B).less B.length:=by
 unfold fD
 split
 ·exact iC (by decide)
 refine(gQ (n:=B.length) (by omega)).seq fun x C h=>?_;refine(tJ.mono (show C.length - 1≤B.length by omega)).seq fun k E h2=>?_
 split
 ·exact iC (by decide)
 ·exact(gQ (n:=B.length) (by omega)).seq fun y F h3=>iY h3
theorem Dj (last:Bool) (B:List Bool) (W:List UInt8):mM (ib last B W)≤2*B.length:=by
 unfold ib mM;have:=pQ B
 split<;>simp<;>omega
theorem mh {D D' :DM} {o:List UInt8} (h:bV D= .go D' o):mM D' <mM D:=by
 obtain⟨st,B,W⟩:=D;unfold bV at h
 cases st with
 |hd=>
  dsimp only at h
  split at h
  ·rename_i st C hh
   cases h
   have:=xM hh;unfold mM
   dsimp only
   split<;>omega
  ·unfold SR.of at h;split at h<;>cases h
 |cp left last=>
  dsimp only at h
  split at h
  ·cases h
  ·cases h
   have:=Dj last ((dJ B).drop (8*left)) (W++bm ((dJ B).take (8*left)));have h2:=pQ B;rw [ai4] at this;unfold mM at this ⊢
   dsimp only at this ⊢
   omega
 |tl sy di last=>
  dsimp only at h
  split at h
  ·unfold SR.of at h;split at h<;>cases h
  ·rename_i s C hh
   have h1:=wL hh
   split at h
   ·cases h
    have:=Dj last C W;unfold mM at this ⊢
    dsimp only at this ⊢
    omega
   split at h
   ·cases h
    unfold mM
    dsimp only
    omega
   ·split at h
    ·unfold SR.of at h;split at h<;>cases h
    ·rename_i p E hm
     have h2:=xN (di:=di) (s:=s) (B:=C);rw [hm] at h2;have h2:E.length≤C.length:=h2.h
     split at h
     ·cases h
      unfold mM
      dsimp only
      omega
     ·cases h
 |dn=>cases h
theorem GP: ∀ (k:Nat) (D:DM),mM D<k→runM k D=run D:=by
 have key: ∀ (k j:Nat) (D:DM),mM D<k→mM D<j→runM k D=runM j D:=by
  intro k
  induction k with
  |zero=>intro j D h;omega
  |succ k ih=>
   intro j D h hj
   cases j with
   |zero=>omega
   |succ j=>
    unfold runM
    split
    ·rfl
    ·split
     ·rename_i D' o hs
      have:=mh hs;rw [ih j D' (by omega) (by omega)]
     ·rfl
     ·rfl
 exact fun k D h=>key k _ D h (by omega)
theorem pR {D D' :DM} {o:List UInt8} (h:bV D= .go D' o):run D= (o++ (run D').1,(run D').2):=by
 have hn:D.st.iG=false:=by
  obtain⟨st,B,W⟩:=D
  cases st<;>first|rfl|cases h
 have:=mh h
 conv=>lhs;unfold run runM
 rw [hn,h];simp only [akg,if_false];rw [GP _ _ this]
theorem lu {D D' :DM} {o:List UInt8} (hn:D.st.iG=false) (h:bV D= .wait D' o):run D= (o,D',0):=by
 conv=>lhs;unfold run runM
 rw [hn,h];rfl
theorem r9 {D:DM} {e:Int} (hn:D.st.iG=false) (h:bV D= .bad e):run D= ([],D,e):=by
 conv=>lhs;unfold run runM
 rw [hn,h];rfl
theorem ra {D:DM} (hn:D.st.iG=true):run D= ([],D,0):=by
 conv=>lhs;unfold run runM
 rw [hn];rfl
end
end Go.Proofs.YtpcgccdmmoggmaaGreatDoor
